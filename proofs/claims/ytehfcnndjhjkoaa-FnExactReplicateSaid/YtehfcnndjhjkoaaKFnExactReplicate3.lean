import Derived.Test.YtehfcnndjhjkoaaKFnExactReplicate2
import Derived.Shelf.RegionOpen
import Derived.Sort.BigQuietIn
import Derived.OwnWalkIn
import Derived.Stop.RegionWithIn
import Derived.Lib.AppendZerosOnto
import Derived.Lib.SliceRun
import Derived.LoopN
import Derived.Deep.RegionHeld3
import Derived.BigQuiet
import Derived.IntWalk
import Derived.Deep.CutRange

-- By a program (prt.py, over the print of the kit), for this claim. Not trusted: Lean checks it.
namespace Go.Proofs.Ytehfcnndjhjkoaa.PA
open Go.RowKit Go.Proofs.YtehfcnndjhjkoaaW.PrintWords Go.Proofs.YtehfcnndjhjkoaaW.PrintLast Go.Proofs.YtehfcnndjhjkoaaW.PrintMore
attribute [local go_sem] max2_int min2_int max_two min_two max_three min_three max_four min_four   -- for this text's walks alone
set_option linter.unusedVariables false
set_option linter.unusedSimpArgs false

/-! ### impl_valid: function 58 -/
def impl_valid.l0 : Nat → List (S28) → Int → Int → Option (Int)
  | 0, _, _, _ => none
  | k + 1, x5, x6, x7 => if x7 < x6 then (if 0 ≤ x7 then (if x7 < (x5.length : Int) then ((impl_ArrayOk.f k ((rd_T28 x5 x7).f0) ((rd_T28 x5 x7).f1) ((rd_T28 x5 x7).f2)).bind fun t103 => (if t103 = true then (impl_valid.l0 k x5 x6 (wrap64 (x7 + 1))) else (some 3))) else (none)) else (none)) else (some 0)
def impl_valid.f (k : Nat) (l0 : List (S28)) : Option (Int) := impl_valid.l0 k l0 (l0.length : Int) 0
theorem impl_valid.mono_l : ∀ k, (∀ y0 y1 y2, LeO (impl_valid.l0 k y0 y1 y2) (impl_valid.l0 (k + 1) y0 y1 y2))
  | 0 => fun _ _ _ r h => by simp [impl_valid.l0] at h
  | k + 1 => by
    have ih0 := impl_valid.mono_l k
    · intro y0 y1 y2
      unfold impl_valid.l0
      repeat' first
      | (with_reducible exact ih0 _ _ _)
      | (with_reducible exact impl_ArrayOk.mono _ _ _ _)
      | (with_reducible exact LeO.refl _)
      | (with_reducible exact LeO.none _)
      | (with_reducible refine LeO.ite ?_ ?_)
      | (with_reducible refine LeO.bind ?_ (fun _ => ?_))
      | exact ih0 _ _ _
      | exact impl_ArrayOk.mono _ _ _ _
      | exact LeO.none _
      | refine LeO.ite ?_ ?_
      | refine LeO.bind ?_ (fun _ => ?_)
theorem impl_valid.mono : ∀ a0 k, LeO (impl_valid.f k a0) (impl_valid.f (k + 1) a0) := by
  intro a0 k
  have ih0 := impl_valid.mono_l k
  unfold impl_valid.f
  repeat' first
      | (with_reducible exact ih0 _ _ _)
      | (with_reducible exact impl_ArrayOk.mono _ _ _ _)
      | (with_reducible exact LeO.refl _)
      | (with_reducible exact LeO.none _)
      | (with_reducible refine LeO.ite ?_ ?_)
      | (with_reducible refine LeO.bind ?_ (fun _ => ?_))
      | exact ih0 _ _ _
      | exact impl_ArrayOk.mono _ _ _ _
      | exact LeO.none _
      | refine LeO.ite ?_ ?_
      | refine LeO.bind ?_ (fun _ => ?_)
set_option maxHeartbeats 8000000 in
set_option maxRecDepth 100000 in
theorem impl_valid.calls (k : Nat) (A0 : Option Addr) (c0 : Nat) (l0 : List (S28)) (r : Int) (w : World) (hr0 : Kd.C k28 w A0 l0.length l0) (hc0 : l0.length ≤ c0) (h : impl_valid.f k l0 = some r) :
    Calls Try.prog 58 #[.slice A0 l0.length c0] w fun e w' => e = .returned (.int .i64 r) ∧ Below w.heap.size w w' := by
  have hu28 := Try.underlying28
  have HR0 := Aside0.mk hr0
  have HC0 := Aside0.mk hc0
  clear hr0 hc0
  have HB := Aside0.mk (Below.refl w.heap.size w)
  have H : (impl_valid.l0 k l0 (l0.length : Int) 0) = some r := h
  clear h
  have H' := Aside0.mk H
  clear H
  go_enter Try.func58, Try.ntmps58
  go_wp2
  go_loopg [7] k (fun kq v7 w' => ∃ (x7_1 : Int), v7 = .int .i64 x7_1 ∧ Aside0 (impl_valid.l0 kq l0 (l0.length : Int) x7_1 = some r) ∧ Aside0 (kq ≤ k) ∧ Aside0 (Below w.heap.size w w'))
  case atStart => exact ⟨(0), (by first | rfl | (simp; done) | (simp [*]; done)), H', ⟨Nat.le_refl _⟩, ⟨by repeat (first | (with_reducible first | exact HB.out | apply below_alloc | apply pw_below_drewN | apply below_drew1) | exact HB.out)⟩⟩
  case round =>
    clear H'
    obtain ⟨x7_1, rfl, HA, HK1, HB⟩ := hrel
    cases gk with
    | zero => exact absurd HA.out (by simp [impl_valid.l0])
    | succ k1 =>
      have H := HA.out
      clear HA
      simp only [impl_valid.l0] at H
      by_cases c2 : x7_1 < (l0.length : Int)
      · rw [if_pos c2] at H
        have c2b0 : decide (x7_1 < (l0.length : Int)) = true := decide_eq_true c2
        clear c2
        by_cases c3 : 0 ≤ x7_1
        · rw [if_pos c3] at H
          have c3b0 : decide (0 ≤ x7_1) = true := decide_eq_true c3
          clear c3
          by_cases c4 : x7_1 < (l0.length : Int)
          · rw [if_pos c4] at H
            have c4b0 : decide (x7_1 < (l0.length : Int)) = true := decide_eq_true c4
            clear c4
            replace H := Option.bind_eq_some_iff.mp H
            obtain ⟨t103, A50, H⟩ := H
            replace H : (if t103 = true then (impl_valid.l0 k1 l0 (l0.length : Int) (wrap64 (x7_1 + 1))) else (some 3)) = some r := H
            have A5 := Aside0.mk A50
            clear A50
            by_cases c6 : t103 = true
            · subst c6
              have H1 : (impl_valid.l0 k1 l0 (l0.length : Int) (wrap64 (x7_1 + 1))) = some r := by rw [if_pos rfl] at H; exact H
              clear H
              have H := H1
              clear H1
              have H' := Aside0.mk H
              clear H
              have p101 : 0 ≤ (x7_1 : Int) := of_decide_eq_true (by first | (with_reducible assumption) | assumption)
              have q101 : x7_1 < (l0.length : Int) := of_decide_eq_true (by first | (with_reducible assumption) | assumption)
              obtain ⟨ad101, A101_1, c101_1, A101_2, c101_2, e101, hx101_0, hx101_1, hx101_2, hl101_1, hi101_1, hl101_2, hi101_2⟩ := at_T28 HR0.out x7_1 p101 q101
              cases e101
              replace hx101_0 := (HB.out.cell (World.block_lt_of_cell? w _ hx101_0)).trans hx101_0
              replace hx101_1 := (HB.out.cell (World.block_lt_of_cell? w _ hx101_1)).trans hx101_1
              replace hx101_2 := (HB.out.cell (World.block_lt_of_cell? w _ hx101_2)).trans hx101_2
              have HR101_1 := Aside0.mk hi101_1
              have HC101_1 := Aside0.mk hl101_1
              clear hi101_1 hl101_1
              have HR101_2 := Aside0.mk hi101_2
              have HC101_2 := Aside0.mk hl101_2
              clear hi101_2 hl101_2
              replace p101 := eq_true p101
              replace q101 := eq_true q101
              go_wp2_with (first | ((with_reducible refine gate_dst (N := 4) rfl ?_); refine box_event ?hg (N := 4) ?hd (cs := #[.bool false, .slice none 0 0, .slice none 0 0]) (t := 28) ?hr ?_; (case hd => rfl); (case hg => rfl); (case hr => first | (go_simp; done) | (go_simp; rfl)); intro gb102 hg w7 hbox hb; have n0_ := Aside0.mk (below_step (by repeat (first | (with_reducible first | exact HB.out | apply below_alloc | apply pw_below_drewN | apply below_drew1) | exact HB.out)) hb); have n1_ := Aside0.mk (hbox); have n2_ := Aside0.mk ((by rw [hg]; exact (below_size (by repeat (first | (with_reducible first | exact HB.out | apply below_alloc | apply pw_below_drewN | apply below_drew1) | exact HB.out))) : w.heap.size ≤ gb102)); have n3_ := Aside0.mk ((by rw [hg]; exact (below_size (by repeat (first | (with_reducible first | exact HB.out | apply below_alloc | apply pw_below_drewN | apply below_drew1) | exact HB.out))) : w.heap.size ≤ gb102)); clear HB; have HB := n0_; have BK102 := n1_; have GW102 := n2_; have GE102 := n3_; clear n0_ n1_ n2_ n3_; clear hb hbox hg; have hcz8_0 : w7.cell? ⟨gb102, 0, none⟩ = some (.bool false) := (blk_cell BK102.out 0).trans rfl; have hcz8_1 : w7.cell? ⟨gb102, 1, none⟩ = some (.slice none 0 0) := (blk_cell BK102.out 1).trans rfl; have hcz8_2 : w7.cell? ⟨gb102, 2, none⟩ = some (.slice none 0 0) := (blk_cell BK102.out 2).trans rfl; have hfz8_0 := blk_frozen BK102.out 0; have hfz8_1 := blk_frozen BK102.out 1; have hfz8_2 := blk_frozen BK102.out 2) | ((with_reducible refine gate_callee (f := 116) rfl ?_); refine goesL_ (some 12) rfl rfl Try.func116 (by kernel_rfl) rfl #[.agg #[.bool ((rd_T28 l0 x7_1).f0), .slice A101_1 ((rd_T28 l0 x7_1).f1).length c101_1, .slice A101_2 ((rd_T28 l0 x7_1).f2).length c101_2]] rfl (by (try simp only [List.map_toArray, List.map_cons, List.map_nil]); first | done | rfl | (simp only [List.length_drop, List.length_take]; rfl)) ?_; (with_reducible refine (impl_ArrayOk.calls k1 ((rd_T28 l0 x7_1).f0) _ _ ((rd_T28 l0 x7_1).f1) _ _ ((rd_T28 l0 x7_1).f2) true _ ?side1 ?side2 ?side3 ?side4 A5.out).mono ?_); (case side1 => exact Kd.C_below HR101_1.out (by repeat (first | (with_reducible first | exact HB.out | apply below_alloc | apply pw_below_drewN | apply below_drew1 | refine below_set ?_ GE102.out) | exact HB.out))); (case side2 => exact HC101_1.out); (case side3 => exact Kd.C_below HR101_2.out (by repeat (first | (with_reducible first | exact HB.out | apply below_alloc | apply pw_below_drewN | apply below_drew1 | refine below_set ?_ GE102.out) | exact HB.out))); (case side4 => exact HC101_2.out); rintro e w9 ⟨rfl, hb⟩; refine ⟨_, rfl, ?_⟩; have n0_ := Aside0.mk (blk_below (g := gb102) (o := .cells #[.bool ((rd_T28 l0 x7_1).f0), .slice A101_1 ((rd_T28 l0 x7_1).f1).length c101_1, .slice A101_2 ((rd_T28 l0 x7_1).f2).length c101_2] 28 (0, 0)) (by (with_reducible repeat (first | refine blk_drewN ?_ _ | refine blk_drew ?_ | refine blk_alloc ?_ _)); refine blk_put (cs := #[.bool ((rd_T28 l0 x7_1).f0), .slice A101_1 ((rd_T28 l0 x7_1).f1).length c101_1, .slice none 0 0]) ?_ 2 _ rfl; (with_reducible repeat (first | refine blk_drewN ?_ _ | refine blk_drew ?_ | refine blk_alloc ?_ _)); refine blk_put (cs := #[.bool ((rd_T28 l0 x7_1).f0), .slice none 0 0, .slice none 0 0]) ?_ 1 _ rfl; (with_reducible repeat (first | refine blk_drewN ?_ _ | refine blk_drew ?_ | refine blk_alloc ?_ _)); refine blk_put (cs := #[.bool false, .slice none 0 0, .slice none 0 0]) ?_ 0 _ rfl; (with_reducible repeat (first | refine blk_drewN ?_ _ | refine blk_drew ?_ | refine blk_alloc ?_ _)); exact BK102.out) hb); have n1_ := Aside0.mk (below_step (by repeat (first | (with_reducible first | exact HB.out | apply below_alloc | apply pw_below_drewN | apply below_drew1 | refine below_set ?_ GE102.out) | exact HB.out)) hb); clear BK102; clear HB; have BK102 := n0_; have HB := n1_; clear n0_ n1_; (try clear hb); (try clear hb2); (try clear hk); (try clear hi)))
              go_roundg k1
              case measure => have := HK1.out; omega
              case rel => exact ⟨(wrap64 (x7_1 + 1)), (by first | rfl | (simp; done) | (simp [*]; done)), H', ⟨by have := HK1.out; omega⟩, ⟨by repeat (first | (with_reducible first | exact HB.out | apply below_alloc | apply pw_below_drewN | apply below_drew1 | refine below_set ?_ GE102.out) | exact HB.out)⟩⟩
            · replace c6 := Bool.eq_false_iff.mpr c6
              subst c6
              have H1 : (some 3) = some r := by rw [if_neg (show ¬ (false = true) by decide)] at H; exact H
              clear H
              have H := H1
              clear H1
              obtain rfl := Option.some.inj H
              have p101 : 0 ≤ (x7_1 : Int) := of_decide_eq_true (by first | (with_reducible assumption) | assumption)
              have q101 : x7_1 < (l0.length : Int) := of_decide_eq_true (by first | (with_reducible assumption) | assumption)
              obtain ⟨ad101, A101_1, c101_1, A101_2, c101_2, e101, hx101_0, hx101_1, hx101_2, hl101_1, hi101_1, hl101_2, hi101_2⟩ := at_T28 HR0.out x7_1 p101 q101
              cases e101
              replace hx101_0 := (HB.out.cell (World.block_lt_of_cell? w _ hx101_0)).trans hx101_0
              replace hx101_1 := (HB.out.cell (World.block_lt_of_cell? w _ hx101_1)).trans hx101_1
              replace hx101_2 := (HB.out.cell (World.block_lt_of_cell? w _ hx101_2)).trans hx101_2
              have HR101_1 := Aside0.mk hi101_1
              have HC101_1 := Aside0.mk hl101_1
              clear hi101_1 hl101_1
              have HR101_2 := Aside0.mk hi101_2
              have HC101_2 := Aside0.mk hl101_2
              clear hi101_2 hl101_2
              replace p101 := eq_true p101
              replace q101 := eq_true q101
              go_wp2_with (first | ((with_reducible refine gate_dst (N := 4) rfl ?_); refine box_event ?hg (N := 4) ?hd (cs := #[.bool false, .slice none 0 0, .slice none 0 0]) (t := 28) ?hr ?_; (case hd => rfl); (case hg => rfl); (case hr => first | (go_simp; done) | (go_simp; rfl)); intro gb102 hg w10 hbox hb; have n0_ := Aside0.mk (below_step (by repeat (first | (with_reducible first | exact HB.out | apply below_alloc | apply pw_below_drewN | apply below_drew1) | exact HB.out)) hb); have n1_ := Aside0.mk (hbox); have n2_ := Aside0.mk ((by rw [hg]; exact (below_size (by repeat (first | (with_reducible first | exact HB.out | apply below_alloc | apply pw_below_drewN | apply below_drew1) | exact HB.out))) : w.heap.size ≤ gb102)); have n3_ := Aside0.mk ((by rw [hg]; exact (below_size (by repeat (first | (with_reducible first | exact HB.out | apply below_alloc | apply pw_below_drewN | apply below_drew1) | exact HB.out))) : w.heap.size ≤ gb102)); clear HB; have HB := n0_; have BK102 := n1_; have GW102 := n2_; have GE102 := n3_; clear n0_ n1_ n2_ n3_; clear hb hbox hg; have hcz11_0 : w10.cell? ⟨gb102, 0, none⟩ = some (.bool false) := (blk_cell BK102.out 0).trans rfl; have hcz11_1 : w10.cell? ⟨gb102, 1, none⟩ = some (.slice none 0 0) := (blk_cell BK102.out 1).trans rfl; have hcz11_2 : w10.cell? ⟨gb102, 2, none⟩ = some (.slice none 0 0) := (blk_cell BK102.out 2).trans rfl; have hfz11_0 := blk_frozen BK102.out 0; have hfz11_1 := blk_frozen BK102.out 1; have hfz11_2 := blk_frozen BK102.out 2) | ((with_reducible refine gate_callee (f := 116) rfl ?_); refine goesL_ (some 12) rfl rfl Try.func116 (by kernel_rfl) rfl #[.agg #[.bool ((rd_T28 l0 x7_1).f0), .slice A101_1 ((rd_T28 l0 x7_1).f1).length c101_1, .slice A101_2 ((rd_T28 l0 x7_1).f2).length c101_2]] rfl (by (try simp only [List.map_toArray, List.map_cons, List.map_nil]); first | done | rfl | (simp only [List.length_drop, List.length_take]; rfl)) ?_; (with_reducible refine (impl_ArrayOk.calls k1 ((rd_T28 l0 x7_1).f0) _ _ ((rd_T28 l0 x7_1).f1) _ _ ((rd_T28 l0 x7_1).f2) false _ ?side1 ?side2 ?side3 ?side4 A5.out).mono ?_); (case side1 => exact Kd.C_below HR101_1.out (by repeat (first | (with_reducible first | exact HB.out | apply below_alloc | apply pw_below_drewN | apply below_drew1 | refine below_set ?_ GE102.out) | exact HB.out))); (case side2 => exact HC101_1.out); (case side3 => exact Kd.C_below HR101_2.out (by repeat (first | (with_reducible first | exact HB.out | apply below_alloc | apply pw_below_drewN | apply below_drew1 | refine below_set ?_ GE102.out) | exact HB.out))); (case side4 => exact HC101_2.out); rintro e w12 ⟨rfl, hb⟩; refine ⟨_, rfl, ?_⟩; have n0_ := Aside0.mk (blk_below (g := gb102) (o := .cells #[.bool ((rd_T28 l0 x7_1).f0), .slice A101_1 ((rd_T28 l0 x7_1).f1).length c101_1, .slice A101_2 ((rd_T28 l0 x7_1).f2).length c101_2] 28 (0, 0)) (by (with_reducible repeat (first | refine blk_drewN ?_ _ | refine blk_drew ?_ | refine blk_alloc ?_ _)); refine blk_put (cs := #[.bool ((rd_T28 l0 x7_1).f0), .slice A101_1 ((rd_T28 l0 x7_1).f1).length c101_1, .slice none 0 0]) ?_ 2 _ rfl; (with_reducible repeat (first | refine blk_drewN ?_ _ | refine blk_drew ?_ | refine blk_alloc ?_ _)); refine blk_put (cs := #[.bool ((rd_T28 l0 x7_1).f0), .slice none 0 0, .slice none 0 0]) ?_ 1 _ rfl; (with_reducible repeat (first | refine blk_drewN ?_ _ | refine blk_drew ?_ | refine blk_alloc ?_ _)); refine blk_put (cs := #[.bool false, .slice none 0 0, .slice none 0 0]) ?_ 0 _ rfl; (with_reducible repeat (first | refine blk_drewN ?_ _ | refine blk_drew ?_ | refine blk_alloc ?_ _)); exact BK102.out) hb); have n1_ := Aside0.mk (below_step (by repeat (first | (with_reducible first | exact HB.out | apply below_alloc | apply pw_below_drewN | apply below_drew1 | refine below_set ?_ GE102.out) | exact HB.out)) hb); clear BK102; clear HB; have BK102 := n0_; have HB := n1_; clear n0_ n1_; (try clear hb); (try clear hb2); (try clear hk); (try clear hi)))
              go_ret
              exact ⟨by first | rfl | (simp [errW_none, errW_some] <;> rfl) | (simp [*, errW_none, errW_some] <;> rfl), by repeat (first | (with_reducible first | exact HB.out | apply below_alloc | apply pw_below_drewN | apply below_drew1 | refine below_set ?_ GE102.out) | exact HB.out)⟩
          · rw [if_neg c4] at H
            exact absurd H (by simp)
        · rw [if_neg c3] at H
          exact absurd H (by simp)
      · rw [if_neg c2] at H
        have c2b0 : decide (x7_1 < (l0.length : Int)) = false := decide_eq_false c2
        clear c2
        obtain rfl := Option.some.inj H
        go_wp2
        go_ret
        exact ⟨by first | rfl | (simp [errW_none, errW_some] <;> rfl) | (simp [*, errW_none, errW_some] <;> rfl), by repeat (first | (with_reducible first | exact HB.out | apply below_alloc | apply pw_below_drewN | apply below_drew1) | exact HB.out)⟩

end Go.Proofs.Ytehfcnndjhjkoaa.PA

namespace Go.Proofs.Ytehfcnndjhjkoaa.PA
open Go.RowKit Go.Proofs.YtehfcnndjhjkoaaW.PrintWords Go.Proofs.YtehfcnndjhjkoaaW.PrintLast Go.Proofs.YtehfcnndjhjkoaaW.PrintMore
set_option linter.unusedVariables false
set_option linter.unusedSimpArgs false
theorem l3Ints_eq (l : List Int) (h : l.length < 17592186044416) : spec_l3Ints.f l = some l := by
  simp [spec_l3Ints.f, h]
theorem clone_eq (l : List Int) (h : l.length < 17592186044416) : slices_Clone_int_int.f l = some l := by
  simp [slices_Clone_int_int.f, h]
theorem l3ShapeOk_ev (l : List Int) (h : l.length ≤ 35184372088832) : Ev (fun k => spec_l3ShapeOk.f k l) (shOk l) := by
  simp only [spec_l3ShapeOk.f, shOk]
  by_cases h5 : (l.length : Int) ≤ 5
  · simp only [h5, if_true]
    refine Ev.bind (l3Count_ev l h) ?_
    refine evVal (Ev.now _) ?_
    unfold cnt
    by_cases hs : shGo 1 l = true
    · have := shGo_bound hs
      simp [hs, show l.length ≤ 5 by omega]; omega
    · simp [hs]
  · simp only [h5, if_false]; exact evVal (Ev.now _) (by simp [show ¬ l.length ≤ 5 by omega])

/-- The numbers from a on, n of them. -/
def upFrom : Int → Nat → List Int
  | _, 0 => []
  | a, n + 1 => a :: upFrom (a + 1) n
theorem upFrom_len : ∀ (n : Nat) (a : Int), (upFrom a n).length = n
  | 0, _ => rfl
  | n + 1, a => by simp [upFrom, upFrom_len n]
theorem markIntS_loop : ∀ (t p : List Int) (a : Int), (p ++ t).length < 35184372088833 → 0 ≤ a → a + t.length ≤ 9000000000000000000 →
    Ev (fun k => laws_markIntS.l0 k (p ++ t) a (p.length : Int)) (a + t.length, p ++ upFrom a t.length)
  | [], p, a, _, _, _ => by
    refine evVal (evRound (Ev.now _) fun k => ?_) (by simp [upFrom] : (a, p ++ []) = _)
    simp only [laws_markIntS.l0]; rw [if_neg len_nlt]
  | b :: t, p, a, hl, h0, h1 => by
    have ih := markIntS_loop t (p ++ [a]) (a + 1) (by simpa using hl) (by omega) (by simp only [List.length_cons] at h1; omega)
    refine evVal (evRound ih fun k => ?_) (by simp [upFrom]; omega)
    simp only [laws_markIntS.l0]
    rw [if_pos len_lt, if_pos (by omega), next_mid p t b hl, Int.toNat_natCast, set_mid, w64 (by omega) (by simp only [List.length_cons] at h1; omega)]
    simp
theorem markIntS_ev (l : List Int) (a : Int) (hl : l.length ≤ 35184372088832) (h0 : 0 ≤ a) (h1 : a ≤ 1000000000000000000) : Ev (fun k => laws_markIntS.f k l a) (a + l.length, upFrom a l.length) := by
  have := markIntS_loop l [] a (by simp; omega) h0 (by omega)
  simpa [laws_markIntS.f] using this
theorem heldIntS_loop : ∀ (n : Nat) (p : List Int) (a : Int), p.length + n < 35184372088833 → 0 ≤ a → a + n ≤ 9000000000000000000 →
    Ev (fun k => laws_heldIntS.l0 k (p ++ upFrom a n) a (p.length : Int)) (a + n)
  | 0, p, a, _, _, _ => by
    rw [show upFrom a 0 = [] from rfl]
    refine evVal (evRound (Ev.now a) fun k => ?_) (by simp)
    simp only [laws_heldIntS.l0]; rw [if_neg len_nlt]
  | n + 1, p, a, hl, h0, h1 => by
    have ih := heldIntS_loop n (p ++ [a]) (a + 1) (by simp; omega) (by omega) (by omega)
    rw [← app_mid] at ih
    rw [show upFrom a (n + 1) = a :: upFrom (a + 1) n from rfl]
    refine evVal (evRound ih fun k => ?_) (by omega)
    simp only [laws_heldIntS.l0]
    rw [if_pos len_lt, if_pos (by omega), rd_mid, if_pos rfl, next_mid p (upFrom (a + 1) n) a (by simp [upFrom_len]; omega), w64 (by omega) (by omega)]
theorem heldIntS_ev (n : Nat) (a : Int) (hl : n ≤ 35184372088832) (h0 : 0 ≤ a) (h1 : a ≤ 1000000000000000000) : Ev (fun k => laws_heldIntS.f k (upFrom a n) a) (a + n) := by
  have := heldIntS_loop n [] a (by simp; omega) h0 (by omega)
  simpa [laws_heldIntS.f] using this
theorem shOk_len {l : List Int} (h : shOk l = true) : l.length ≤ 5 := by
  simp only [shOk, Bool.and_eq_true, decide_eq_true_eq] at h; exact h.1
theorem shOk_range {l : List Int} (h : shOk l = true) : ∀ a ∈ l, 0 ≤ a ∧ a ≤ 10000 := by
  simp only [shOk, Bool.and_eq_true, decide_eq_true_eq] at h; exact shGo_range h.2
theorem shOk_prod {l : List Int} (h : shOk l = true) : 0 ≤ prod l ∧ prod l ≤ 10000 := by
  simp only [shOk, Bool.and_eq_true, decide_eq_true_eq] at h; exact shGo_bound h.2

theorem markArray_ev (b : Bool) (l1 l2 : List Int) (a : Int) (h1 : l1.length ≤ 35184372088832) (h2 : l2.length ≤ 35184372088832) (h0 : 0 ≤ a) (ha : a ≤ 100000000000000000) :
    Ev (fun k => laws_markArray.f k b l1 l2 a) (a + l1.length + l2.length, upFrom a l1.length, upFrom (a + l1.length) l2.length) := by
  simp only [laws_markArray.f]
  exact Ev.bind (markIntS_ev l1 a h1 h0 (by omega)) (Ev.bind (markIntS_ev l2 (a + l1.length) h2 (by omega) (by omega)) (Ev.now _))
theorem heldArray_ev (b : Bool) (n m : Nat) (a : Int) (h1 : n ≤ 35184372088832) (h2 : m ≤ 35184372088832) (h0 : 0 ≤ a) (ha : a ≤ 100000000000000000) :
    Ev (fun k => laws_heldArray.f k b (upFrom a n) (upFrom (a + n) m) a) (a + n + m) := by
  simp only [laws_heldArray.f]
  refine Ev.bind (heldIntS_ev n a h1 h0 (by omega)) ?_
  simp only [show ¬ a + (n : Int) < 0 by omega, if_false]
  refine Ev.bind (heldIntS_ev m (a + n) h2 (by omega) (by omega)) ?_
  simp only [show ¬ a + (n : Int) + (m : Int) < 0 by omega, if_false]
  exact Ev.now _
theorem arrOk_sh {b : Bool} {l1 l2 : List Int} (h : arrOk b l1 l2 = true) : shOk l1 = true := by
  unfold arrOk at h; simp only [Bool.and_eq_true] at h; exact h.1.1
theorem arrOk_prod {b : Bool} {l1 l2 : List Int} (h : arrOk b l1 l2 = true) : prod l1 = l2.length := by
  unfold arrOk at h; simp only [Bool.and_eq_true, decide_eq_true_eq] at h; exact h.1.2
theorem arrOk_len {b : Bool} {l1 l2 : List Int} (h : arrOk b l1 l2 = true) : l1.length ≤ 5 ∧ l2.length ≤ 10000 := by
  have h1 := shOk_len (arrOk_sh h); have h2 := shOk_prod (arrOk_sh h); have h3 := arrOk_prod h; omega
theorem arrOk_cells {b : Bool} {l1 l2 : List Int} (h : arrOk b l1 l2 = true) : ∀ x ∈ l2, -1000000000000000 ≤ x ∧ x ≤ 1000000000000000 := fun x hx => by
  unfold arrOk at h; simp only [Bool.and_eq_true, List.all_eq_true] at h
  have := h.2 x hx
  unfold cellOk at this
  cases b
  · simp only [Bool.false_eq_true, if_false, decide_eq_true_eq] at this; exact this
  · simp only [if_true, decide_eq_true_eq] at this; omega
/-! ### valid -/
theorem valid_one (k : Nat) (t p : List S28) (a : S28) : impl_valid.l0 (k + 1) (p ++ a :: t) ((p ++ a :: t).length : Int) (p.length : Int) = (impl_ArrayOk.f k a.f0 a.f1 a.f2).bind fun r => if r = true then impl_valid.l0 k (p ++ a :: t) ((p ++ a :: t).length : Int) (wrap64 ((p.length : Int) + 1)) else some 3 := by
  simp only [impl_valid.l0]
  rw [if_pos (by simp; omega), if_pos (by omega), if_pos (by simp; omega)]
  simp [rd_T28, List.getD_eq_getElem?_getD]
theorem valid_ev2 (b : Bool) (l1 l2 : List Int) (c : Bool) (m1 m2 : List Int) (h2 : l2.length ≤ 35184372088832) (h3 : m2.length ≤ 35184372088832) : Ev (fun k => impl_valid.f k [⟨b, l1, l2⟩, ⟨c, m1, m2⟩]) (if arrOk b l1 l2 && arrOk c m1 m2 then 0 else 3) := by
  simp only [impl_valid.f]
  refine evRound (f := fun k => (impl_ArrayOk.f k b l1 l2).bind fun r => if r = true then impl_valid.l0 k [⟨b, l1, l2⟩, ⟨c, m1, m2⟩] 2 1 else some 3) ?_ (fun k => ?_)
  · refine Ev.bind (implArrayOk_ev b l1 l2 h2) ?_
    by_cases h : arrOk b l1 l2 = true
    · simp only [h, if_true, Bool.true_and]
      refine evRound (f := fun k => (impl_ArrayOk.f k c m1 m2).bind fun r => if r = true then impl_valid.l0 k [⟨b, l1, l2⟩, ⟨c, m1, m2⟩] 2 2 else some 3) ?_ (fun k => ?_)
      · refine Ev.bind (implArrayOk_ev c m1 m2 h3) ?_
        by_cases h' : arrOk c m1 m2 = true
        · simp only [h', if_true]; exact evRound (Ev.now _) fun k => by simp [impl_valid.l0]
        · simp only [h', if_false]; exact Ev.now _
      · have := valid_one k [] [⟨b, l1, l2⟩] ⟨c, m1, m2⟩
        simp only [List.cons_append, List.nil_append, List.length_nil, List.length_cons] at this
        exact this.trans (by rw [w64 (by omega) (by omega)]; rfl)
    · simp only [h, if_false, Bool.false_and, Bool.false_eq_true]; exact Ev.now _
  · have := valid_one k [⟨c, m1, m2⟩] [] ⟨b, l1, l2⟩
    simp only [List.nil_append, List.length_nil, List.length_cons] at this
    exact this.trans (by rw [w64 (by omega) (by omega)]; rfl)
/-! ### of -/
def fillV (c : Bool) : Int := if c then 32 else 0
def ofV (c : Bool) (l : List Int) (i : Int) : Int := if i ≥ 0 then rd l i else fillV c
/-- The elements of which a move makes an array. -/
def ofL (c : Bool) (l fr : List Int) : List Int := fr.map (ofV c l)
theorem ofL_len (c : Bool) (l fr : List Int) : (ofL c l fr).length = fr.length := by simp [ofL]
theorem fill_eq (c : Bool) (l1 l2 : List Int) : impl_Array_fill.f c l1 l2 = some (fillV c) := by unfold impl_Array_fill.f fillV; cases c <;> rfl
theorem set_twice (p z : List Int) (a b x : Int) (n : Nat) (h : p.length = n) : ((p ++ x :: z).set n a).set n b = p ++ b :: z := by subst h; simp
theorem set_once (p z : List Int) (a x : Int) (n : Nat) (h : p.length = n) : (p ++ x :: z).set n a = p ++ a :: z := by subst h; simp
theorem moveOf_loop (c : Bool) (l1 l2 sh : List Int) : ∀ (t p : List Int), (p ++ t).length < 35184372088833 → (∀ x ∈ t, x < l2.length) →
    Ev (fun k => impl_move_of.l0 k (p ++ t) ((p ++ t).length : Int) (p.length : Int) c l1 l2 c sh (ofL c l2 p ++ List.replicate t.length 0)) (c, sh, ofL c l2 (p ++ t))
  | [], p, hl, _ => by
    refine evVal (evRound (Ev.now (c, sh, ofL c l2 p)) fun k => ?_) (by simp)
    simp only [impl_move_of.l0]; rw [if_neg len_nlt]; simp
  | x :: t, p, hl, hx => by
    have hx0 := hx x (by simp)
    have ih := moveOf_loop c l1 l2 sh t (p ++ [x]) (by simpa using hl) (fun y hy => hx y (by simp [hy]))
    rw [← app_mid] at ih
    refine evRound ih fun k => ?_
    have hof : ofL c l2 (p ++ [x]) = ofL c l2 p ++ [ofV c l2 x] := by simp [ofL]
    have hpl : (ofL c l2 p).length = p.length := ofL_len _ _ _
    simp only [impl_move_of.l0]
    rw [if_pos len_lt, if_pos (by omega), if_pos len_lt, fill_eq, rd_mid, hof]
    simp only [Option.bind_some, List.length_cons, List.replicate_succ, Int.toNat_natCast]
    rw [if_pos (by simp [hpl]; omega), next_mid p t x hl]
    by_cases h0 : x ≥ 0
    · rw [if_pos h0, if_pos (by omega), if_pos hx0, set_twice _ _ _ _ _ _ hpl]
      simp [ofV, h0]
    · rw [if_neg h0, set_once _ _ _ _ _ hpl]
      simp [ofV, h0]
theorem moveOf_ev (c : Bool) (l1 l2 sh fr : List Int) (hs : sh.length < 17592186044416) (hf : fr.length ≤ 35184372088832) (hx : ∀ x ∈ fr, x < l2.length) : Ev (fun k => impl_move_of.f k sh fr c l1 l2) (c, sh, ofL c l2 fr) := by
  have h := moveOf_loop c l1 l2 sh fr [] (by simpa using (by omega : fr.length < 35184372088833)) hx
  refine Ev.congr (fun k => ?_) h
  simp only [impl_move_of.f, clone_eq sh hs, Option.bind_some]
  rw [if_pos (by omega), if_pos (by omega)]
  simp [ofL]
end Go.Proofs.Ytehfcnndjhjkoaa.PA

namespace Go.Proofs.Ytehfcnndjhjkoaa.PA
open Go.RowKit Go.Shelf
set_option linter.unusedVariables false
theorem opIn_round {F : Fence} {n : Nat} {P : Program} {ops : Array Oper} {Q : Exit → Act → World → Prop} (l : Nat) (hd : ∀ (i : Nat) (o : Oper), ops[i]? = some o → ∀ c, o.op ≠ .defer c) {i : Nat} {K K' : Act → World → Prop} {a : Act} {w : World}
    (hK : ∀ a w, K a w → K' a w) (h : wpOpIn F n P ops Q i K a w) : wpOpIn (F.inRound l) n P ops Q i K' a w := by
  unfold wpOpIn at *
  cases ho : ops[i]? with
  | none => simp only [ho] at h ⊢; exact hK _ _ h
  | some o =>
    simp only [ho] at h ⊢
    split at h
    · rename_i hw
      rw [if_pos hw]
      have h' : o.wpIn F n P a w K' Q := Oper.wpIn_mono hK h
      unfold Oper.wpIn at *
      refine ⟨h'.1, ?_⟩
      have e := h'.2
      rw [Oper.semAt_eq _ _ _ (hd i o ho)] at e ⊢
      exact e
    · rename_i hw
      rw [if_neg hw]
      exact ⟨h.1, hK _ _ h.2⟩
theorem anyIn_round {F : Fence} {n : Nat} {P : Program} {md : Region.Mode} {ops : Array Oper} {Q : Exit → Act → World → Prop} (l : Nat) (hd : ∀ (i : Nat) (o : Oper), ops[i]? = some o → ∀ c, o.op ≠ .defer c) :
    ∀ (fuel : Nat) (listed : Array Bool) (a : Act) (w : World), wpAnyIn F n P md ops Q fuel listed a w → wpAnyIn (F.inRound l) n P md ops Q fuel listed a w
  | 0, _, _, _, h => h
  | fuel + 1, listed, a, w, h => ⟨h.1, fun i hi => opIn_round l hd (fun a' w' hh => anyIn_round l hd fuel _ a' w' hh) (h.2 i hi)⟩
/-- No operation of the list defers. -/
def noDefer (ops : Array Oper) : Bool := ops.toList.all fun o => match o.op with | .defer _ => false | _ => true
theorem noDefer_spec {ops : Array Oper} (h : noDefer ops = true) (i : Nat) (o : Oper) (ho : ops[i]? = some o) : ∀ c, o.op ≠ .defer c := by
  intro c hc
  have hm : o ∈ ops.toList := by
    rw [← Array.getElem?_toList] at ho
    exact List.mem_of_getElem? ho
  have := List.all_eq_true.1 h o hm
  rw [hc] at this
  cases this
/-- The region's any order, walked outside the round. -/
theorem region_round {id n l : Nat} {P : Program} {F : Fence} {ops : Array Oper} {Q : Exit → Act → World → Prop} {a : Act} {w : World} (hm : P.follows .mixedOrders = true) (hd : noDefer ops = true)
    (h : wpAnyIn F n P .any ops Q ops.size (Array.replicate ops.size false) a w.drew) : (Code.region id ops true).wpIn (F.inRound l) n P Q a w :=
  wpIn_region_any hm (anyIn_round l (noDefer_spec hd) _ _ _ _ h)
/-- A quiet region, walked in its lexical order outside the round. -/
theorem quiet_round {id n lo : Nat} {P : Program} {F : Fence} {Q : Exit → Act → World → Prop} {a : Act} {w : World} {l : List Oper} (hro : F.round = none) (hm : P.follows .mixedOrders = true) (hd : noDefer l.toArray = true) (hB : Region.lexB .any l.toArray = true)
    (h : wpQuietIn F n P l.toArray (fun w' => ∃ n, w' = w.drewN n) (fun a' => ∀ w', (∃ n, w' = w.drewN n) → Q .normal a' w') l a) : (Code.region id l.toArray true).wpIn (F.inRound lo) n P Q a w := by
  simp only [Region.lexB, Bool.and_eq_true] at hB
  refine region_round hm hd (wpAnyIn_of_quiet (Q := fun a' => ∀ w', (∃ n, w' = w.drewN n) → Q .normal a' w') hro (fun _ w' hw' h => h w' hw') _ _ _ _ ⟨1, rfl⟩ ?_)
  have := wpAnyQIn_lex (F := F) (n := n) (C := fun w' => ∃ n, w' = w.drewN n) (md := .any) hB.1 l 0 (Array.replicate l.toArray.size false) a (by simp) (by simpa using hB.2) h
  simpa using this
end Go.Proofs.Ytehfcnndjhjkoaa.PA

namespace Go.Proofs.Ytehfcnndjhjkoaa.PA
open Go.RowKit Go.Proofs.YtehfcnndjhjkoaaW.PrintWords Go.Proofs.YtehfcnndjhjkoaaW.PrintLast Go.Proofs.YtehfcnndjhjkoaaW.PrintMore
set_option linter.unusedVariables false
set_option linter.unusedSimpArgs false
/-- The number of an element, from an axis and a number on, over the numbers that are left (as the program reckons it). -/
def numGo (sh : List Int) : Nat → Int → List Int → Int
  | _, n, [] => n
  | k, n, i :: t => numGo sh (k + 1) (wrap64 (wrap64 (n * rd sh (k : Int)) + i)) t
/-- The same without bounds. -/
def hor : Int → List Int → List Int → Int
  | n, a :: sh, d :: ds => hor (n * a + d) sh ds
  | n, _, _ => n
theorem hor_app : ∀ (s1 d1 : List Int) (n : Int) (s2 d2 : List Int), s1.length = d1.length → hor n (s1 ++ s2) (d1 ++ d2) = hor (hor n s1 d1) s2 d2
  | [], [], n, s2, d2, _ => by simp [hor]
  | a :: s1, d :: d1, n, s2, d2, h => by simp only [List.cons_append, hor]; exact hor_app s1 d1 _ s2 d2 (by simpa using h)
  | [], d :: d1, n, s2, d2, h => by simp at h
  | a :: s1, [], n, s2, d2, h => by simp at h
theorem hor_one (n a d : Int) : hor n [a] [d] = n * a + d := by simp [hor]
theorem prod_snoc (p : List Int) (a : Int) : prod (p ++ [a]) = prod p * a := by rw [prod_app]; simp [prod]
theorem prod_pos : ∀ {p : List Int}, (∀ a ∈ p, 1 ≤ a) → 1 ≤ prod p
  | [], _ => by simp [prod]
  | a :: p, h => by
    have h1 := h a (by simp)
    have h2 := prod_pos (p := p) (fun x hx => h x (by simp [hx]))
    have := Int.mul_le_mul h1 h2 (by omega) (by omega)
    simpa [prod] using this
theorem div_lt {c a b : Int} (ha : 1 ≤ a) (h : c < b * a) : c / a < b := by
  rcases Int.lt_or_le (c / a) b with h1 | h1
  · exact h1
  · have := Int.mul_le_mul_of_nonneg_right h1 (show 0 ≤ a by omega)
    have h2 := Int.ediv_mul_le c (show a ≠ 0 by omega)
    omega
theorem hor_digs : ∀ (n : Nat) (s : List Int) (c : Int), s.length = n → (∀ a ∈ s, 1 ≤ a) → 0 ≤ c → c < prod s → hor 0 s (digs s c) = c
  | 0, s, c, hn, _, h0, h1 => by
    obtain rfl := List.eq_nil_of_length_eq_zero hn
    simp [prod] at h1
    simp [digs_nil, hor]; omega
  | n + 1, s, c, hn, hs, h0, h1 => by
    obtain ⟨p, a, rfl, hp⟩ := snocI hn
    have ha := hs a (by simp)
    rw [prod_snoc] at h1
    rw [digs_snoc, hor_app _ _ _ _ _ (digs_len _ _).symm, hor_digs n p (c / a) hp (fun x hx => hs x (by simp [hx])) (Int.ediv_nonneg h0 (by omega)) (div_lt ha h1), hor_one]
    have := Int.emod_add_mul_ediv c a
    rw [Int.mul_comm]; omega
theorem digs_range : ∀ (n : Nat) (s : List Int) (c : Int), s.length = n → (∀ a ∈ s, 1 ≤ a) → 0 ≤ c → ∀ k : Nat, k < n → 0 ≤ rd (digs s c) (k : Int) ∧ rd (digs s c) (k : Int) < rd s (k : Int)
  | 0, s, c, hn, _, _, k, hk => by omega
  | n + 1, s, c, hn, hs, h0, k, hk => by
    obtain ⟨p, a, rfl, hp⟩ := snocI hn
    have ha := hs a (by simp)
    rw [digs_snoc]
    by_cases e : k = n
    · subst e
      rw [rd_last _ [] _ k (by rw [digs_len, hp]), rd_last p [] a k hp]
      exact ⟨Int.emod_nonneg _ (by omega), Int.emod_lt_of_pos _ (by omega)⟩
    · have ih := digs_range n p (c / a) hp (fun x hx => hs x (by simp [hx])) (Int.ediv_nonneg h0 (by omega)) k (by omega)
      have e1 : rd (digs p (c / a) ++ [c % a]) (k : Int) = rd (digs p (c / a)) (k : Int) := by
        simp only [rd, Int.toNat_natCast, List.getD_eq_getElem?_getD]; rw [List.getElem?_append_left (by rw [digs_len]; omega)]
      have e2 : rd (p ++ [a]) (k : Int) = rd p (k : Int) := by
        simp only [rd, Int.toNat_natCast, List.getD_eq_getElem?_getD]; rw [List.getElem?_append_left (by omega)]
      rw [e1, e2]; exact ih
theorem ediv_ediv_pos {x y z : Int} (hy : 0 ≤ y) : x / y / z = x / (y * z) := by
  rw [Int.ediv_ediv, if_neg (by omega)]; omega
theorem digs_app : ∀ (n : Nat) (P Q : List Int) (c : Int), Q.length = n → (∀ a ∈ Q, 1 ≤ a) → digs (P ++ Q) c = digs P (c / prod Q) ++ digs Q c
  | 0, P, Q, c, hn, _ => by
    obtain rfl := List.eq_nil_of_length_eq_zero hn
    simp [digs_nil, prod]
  | n + 1, P, Q, c, hn, hs => by
    obtain ⟨q, a, rfl, hq⟩ := snocI hn
    have ha := hs a (by simp)
    rw [← List.append_assoc, digs_snoc, digs_app n P q (c / a) hq (fun x hx => hs x (by simp [hx])), digs_snoc, prod_snoc, ediv_ediv_pos (by omega), List.append_assoc, Int.mul_comm]
theorem digs_mod : ∀ (n : Nat) (Q : List Int) (p r : Int), Q.length = n → (∀ a ∈ Q, 1 ≤ a) → digs Q (p * prod Q + r) = digs Q r
  | 0, Q, p, r, hn, _ => by
    obtain rfl := List.eq_nil_of_length_eq_zero hn
    simp [digs_nil]
  | n + 1, Q, p, r, hn, hs => by
    obtain ⟨q, a, rfl, hq⟩ := snocI hn
    have ha := hs a (by simp)
    have e : p * prod (q ++ [a]) + r = r + (p * prod q) * a := by rw [prod_snoc, ← Int.mul_assoc, Int.add_comm]
    rw [digs_snoc, digs_snoc, e, Int.add_mul_ediv_right _ _ (by omega), Int.add_mul_emod_self_right, Int.add_comm (r / a), digs_mod n q p (r / a) hq (fun x hx => hs x (by simp [hx]))]
/-- The program's number is the plain one where each digit is in range. -/
theorem numGo_hor (sh : List Int) (hs : ∀ a ∈ sh, 1 ≤ a) (hp : prod sh ≤ 1000000000) : ∀ (t : List Int) (p q : List Int) (n : Int), p ++ q = sh → q.length = t.length → 0 ≤ n → n < prod p → (∀ k : Nat, k < t.length → 0 ≤ rd t (k : Int) ∧ rd t (k : Int) < rd q (k : Int)) →
    numGo sh p.length n t = hor n q t
  | [], p, q, n, e, hl, h0, h1, hr => by
    obtain rfl := List.eq_nil_of_length_eq_zero hl
    simp [numGo, hor]
  | d :: t, p, [], n, e, hl, h0, h1, hr => by simp at hl
  | d :: t, p, a :: q, n, e, hl, h0, h1, hr => by
    have ha : 1 ≤ a := hs a (by rw [← e]; simp)
    have hd := hr 0 (by simp)
    simp only [rd, Int.ofNat_zero, Int.toNat_zero, List.getD_cons_zero] at hd
    have hd : 0 ≤ d ∧ d < a := hd
    have hq1 : 1 ≤ prod q := prod_pos (fun x hx => hs x (by rw [← e]; simp [hx]))
    have hp1 : 1 ≤ prod p := prod_pos (fun x hx => hs x (by rw [← e]; simp [hx]))
    have hpp : prod p * a * prod q ≤ 1000000000 := by
      have h := hp
      rw [← e, prod_app] at h; simp only [prod] at h; rw [Int.mul_assoc]; exact h
    have hpa : prod p * a ≤ 1000000000 := by
      have h1 := Int.mul_le_mul_of_nonneg_left hq1 (show 0 ≤ prod p * a from Int.mul_nonneg (by omega) (by omega))
      omega
    have hna : n * a + d < prod p * a := by
      have h := Int.mul_le_mul_of_nonneg_right (show n + 1 ≤ prod p by omega) (show 0 ≤ a by omega)
      rw [Int.add_mul] at h; omega
    have hn0 : 0 ≤ n * a := Int.mul_nonneg h0 (by omega)
    have hrd : rd sh (p.length : Int) = a := by rw [← e]; exact rd_last p q a _ rfl
    rw [numGo, hrd, w64 (x := n * a) (by omega) (by omega), w64 (by omega) (by omega), hor]
    have := numGo_hor sh hs hp t (p ++ [a]) q (n * a + d) (by rw [← e]; simp) (by simpa using hl) (by omega) (by rw [prod_snoc]; exact hna) (fun k hk => by
      have h := hr (k + 1) (by simp; omega)
      simp only [rd, Int.toNat_natCast, List.getD_cons_succ] at h ⊢
      exact h)
    simpa using this
end Go.Proofs.Ytehfcnndjhjkoaa.PA

-- By a program (prt.py, over the print of the kit), for this claim. Not trusted: Lean checks it.
namespace Go.Proofs.Ytehfcnndjhjkoaa.PA
open Go.RowKit Go.Proofs.YtehfcnndjhjkoaaW.PrintWords Go.Proofs.YtehfcnndjhjkoaaW.PrintLast Go.Proofs.YtehfcnndjhjkoaaW.PrintMore
attribute [local go_sem] max2_int min2_int max_two min_two max_three min_three max_four min_four   -- for this text's walks alone
set_option linter.unusedVariables false
set_option linter.unusedSimpArgs false

/-! ### impl_number: function 120 -/
def impl_number.l0 : Nat → List Int → Int → List Int → Int → Int → Option (Int)
  | 0, _, _, _, _, _ => none
  | k + 1, x0, x5, x8, x9, x10 => if x10 < x9 then (if 0 ≤ x10 then (if x10 < (x8.length : Int) then (if x10 < (x0.length : Int) then (impl_number.l0 k x0 (wrap64 ((wrap64 (x5 * (rd x0 x10))) + (rd x8 x10))) x8 x9 (wrap64 (x10 + 1))) else (none)) else (none)) else (none)) else (some x5)
def impl_number.f (k : Nat) (l0 : List Int) (l1 : List Int) : Option (Int) := impl_number.l0 k l0 0 l1 (l1.length : Int) 0
theorem impl_number.mono_l : ∀ k, (∀ y0 y1 y2 y3 y4, LeO (impl_number.l0 k y0 y1 y2 y3 y4) (impl_number.l0 (k + 1) y0 y1 y2 y3 y4))
  | 0 => fun _ _ _ _ _ r h => by simp [impl_number.l0] at h
  | k + 1 => by
    have ih0 := impl_number.mono_l k
    · intro y0 y1 y2 y3 y4
      unfold impl_number.l0
      repeat' first
      | (with_reducible exact ih0 _ _ _ _ _)
      | (with_reducible exact LeO.refl _)
      | (with_reducible exact LeO.none _)
      | (with_reducible refine LeO.ite ?_ ?_)
      | (with_reducible refine LeO.bind ?_ (fun _ => ?_))
      | exact ih0 _ _ _ _ _
      | exact LeO.none _
      | refine LeO.ite ?_ ?_
      | refine LeO.bind ?_ (fun _ => ?_)
theorem impl_number.mono : ∀ a0 a1 k, LeO (impl_number.f k a0 a1) (impl_number.f (k + 1) a0 a1) := by
  intro a0 a1 k
  have ih0 := impl_number.mono_l k
  unfold impl_number.f
  repeat' first
      | (with_reducible exact ih0 _ _ _ _ _)
      | (with_reducible exact LeO.refl _)
      | (with_reducible exact LeO.none _)
      | (with_reducible refine LeO.ite ?_ ?_)
      | (with_reducible refine LeO.bind ?_ (fun _ => ?_))
      | exact ih0 _ _ _ _ _
      | exact LeO.none _
      | refine LeO.ite ?_ ?_
      | refine LeO.bind ?_ (fun _ => ?_)
set_option maxHeartbeats 8000000 in
set_option maxRecDepth 100000 in
theorem impl_number.calls (k : Nat) (A0 : Option Addr) (c0 : Nat) (l0 : List Int) (A1 : Option Addr) (c1 : Nat) (l1 : List Int) (r : Int) (w : World) (hr0 : Kd.C (Kd.int .i64) w A0 l0.length l0) (hc0 : l0.length ≤ c0) (hr1 : Kd.C (Kd.int .i64) w A1 l1.length l1) (hc1 : l1.length ≤ c1) (h : impl_number.f k l0 l1 = some r) :
    Calls Try.prog 120 #[.slice A0 l0.length c0, .slice A1 l1.length c1] w fun e w' => e = .returned (.int .i64 r) ∧ Drawn0 w w' := by
  have HR0 := Aside0.mk hr0
  have HC0 := Aside0.mk hc0
  clear hr0 hc0
  have HR1 := Aside0.mk hr1
  have HC1 := Aside0.mk hc1
  clear hr1 hc1
  have H : (impl_number.l0 k l0 0 l1 (l1.length : Int) 0) = some r := h
  clear h
  have H' := Aside0.mk H
  clear H
  go_enter Try.func120, Try.ntmps120
  go_wp2
  go_loopg [5, 10] k (fun kq v5 v10 w' => ∃ (x5_1 : Int) (x10_1 : Int), v5 = .int .i64 x5_1 ∧ v10 = .int .i64 x10_1 ∧ Aside0 (impl_number.l0 kq l0 x5_1 l1 (l1.length : Int) x10_1 = some r) ∧ Aside0 (kq ≤ k) ∧ Drawn0 w w')
  case atStart => exact ⟨(0), (0), (by first | rfl | (simp; done) | (simp [*]; done)), (by first | rfl | (simp; done) | (simp [*]; done)), H', ⟨Nat.le_refl _⟩, by repeat (first | exact Drawn0.refl _ | apply Drawn0.step)⟩
  case round =>
    clear H'
    try clear c1
    try clear p2
    obtain ⟨x5_1, x10_1, rfl, rfl, HA, HK1, ⟨m1, rfl⟩⟩ := hrel
    cases gk with
    | zero => exact absurd HA.out (by simp [impl_number.l0])
    | succ k1 =>
      have H := HA.out
      clear HA
      simp only [impl_number.l0] at H
      by_cases c3 : x10_1 < (l1.length : Int)
      · rw [if_pos c3] at H
        have c3b0 : decide (x10_1 < (l1.length : Int)) = true := decide_eq_true c3
        clear c3
        by_cases c4 : 0 ≤ x10_1
        · rw [if_pos c4] at H
          have c4b0 : decide (0 ≤ x10_1) = true := decide_eq_true c4
          clear c4
          by_cases c5 : x10_1 < (l1.length : Int)
          · rw [if_pos c5] at H
            have c5b0 : decide (x10_1 < (l1.length : Int)) = true := decide_eq_true c5
            clear c5
            by_cases c6 : x10_1 < (l0.length : Int)
            · rw [if_pos c6] at H
              have c6b0 : decide (x10_1 < (l0.length : Int)) = true := decide_eq_true c6
              clear c6
              have H' := Aside0.mk H
              clear H
              have p101 : 0 ≤ (x10_1 : Int) := of_decide_eq_true (by first | (with_reducible assumption) | assumption)
              have q101 : x10_1 < (l1.length : Int) := of_decide_eq_true (by first | (with_reducible assumption) | assumption)
              obtain ⟨ad101, e101, hx101_0⟩ := Kd.at_int HR1.out x10_1 p101 q101
              cases e101
              replace p101 := eq_true p101
              replace q101 := eq_true q101
              have p102 : 0 ≤ (x10_1 : Int) := of_decide_eq_true (by first | (with_reducible assumption) | assumption)
              have q102 : x10_1 < (l0.length : Int) := of_decide_eq_true (by first | (with_reducible assumption) | assumption)
              obtain ⟨ad102, e102, hx102_0⟩ := Kd.at_int HR0.out x10_1 p102 q102
              cases e102
              replace p102 := eq_true p102
              replace q102 := eq_true q102
              go_wp2
              go_roundg k1
              case measure => have := HK1.out; omega
              case rel => exact ⟨(wrap64 ((wrap64 (x5_1 * (rd l0 x10_1))) + (rd l1 x10_1))), (wrap64 (x10_1 + 1)), (by first | rfl | (simp; done) | (simp [*]; done)), (by first | rfl | (simp; done) | (simp [*]; done)), H', ⟨by have := HK1.out; omega⟩, by repeat (first | exact Drawn0.refl _ | apply Drawn0.step)⟩
            · rw [if_neg c6] at H
              exact absurd H (by simp)
          · rw [if_neg c5] at H
            exact absurd H (by simp)
        · rw [if_neg c4] at H
          exact absurd H (by simp)
      · rw [if_neg c3] at H
        have c3b0 : decide (x10_1 < (l1.length : Int)) = false := decide_eq_false c3
        clear c3
        obtain rfl := Option.some.inj H
        go_wp2
        go_ret
        exact ⟨by first | rfl | (simp; done) | (simp [*]; done), by repeat (first | exact Drawn0.refl _ | apply Drawn0.step)⟩

end Go.Proofs.Ytehfcnndjhjkoaa.PA

namespace Go.Proofs.Ytehfcnndjhjkoaa.PA
open Go.RowKit Go.Proofs.YtehfcnndjhjkoaaW.PrintWords Go.Proofs.YtehfcnndjhjkoaaW.PrintLast Go.Proofs.YtehfcnndjhjkoaaW.PrintMore
set_option linter.unusedVariables false
theorem number_go (sh src : List Int) (h : src.length ≤ sh.length) (hb : src.length ≤ 1000000) : ∀ (m j : Nat) (n : Int), j + m = src.length →
    impl_number.l0 (m + 1) sh n src (src.length : Int) (j : Int) = some (numGo sh j n (src.drop j))
  | 0, j, n, hj => by
    rw [impl_number.l0, if_neg (by omega), List.drop_eq_nil_of_le (by omega), numGo]
  | m + 1, j, n, hj => by
    have hlt : j < src.length := by omega
    rw [impl_number.l0, if_pos (by omega), if_pos (by omega), if_pos (by omega), if_pos (by omega), show wrap64 ((j : Int) + 1) = ((j + 1 : Nat) : Int) from by rw [w64 (by omega) (by omega)]; push_cast; rfl]
    rw [number_go sh src h hb m (j + 1) _ (by omega), List.drop_eq_getElem_cons hlt, numGo]
    simp [rd, List.getD_eq_getElem?_getD, hlt]
theorem number_ev (sh src : List Int) (h : src.length ≤ sh.length) (hb : src.length ≤ 1000000) : impl_number.f (src.length + 1) sh src = some (numGo sh 0 0 src) :=
  number_go sh src h hb src.length 0 0 (by omega)
end Go.Proofs.Ytehfcnndjhjkoaa.PA

namespace Go.Proofs.Ytehfcnndjhjkoaa.PA
open Go.RowKit
set_option linter.unusedVariables false
section
variable {F : Fence} {n : Nat} {P : Program} {ops : Array Oper} {rest : List Oper} {o : Oper} {a : Act} {Q : Exit → Act → World → Prop}
theorem wpListIn_run {w w1 : World} {v : Value} (hgd : o.guard = none) (hnd : ∀ c, o.op ≠ .defer c) (hab : o.about P w a.eval = none) (hrun : (execOp a.eval o).run P w = .ok (.value v) w1)
    (h : wpListIn F n P ops Q rest (a.put o.dst v) w1) : wpListIn F n P ops Q (o :: rest) a w := by
  refine wpListIn_plain hgd fun K hK => ?_
  unfold Oper.wpIn
  refine ⟨by simp [hab], ?_⟩
  rw [Oper.semAt_plain F _ _ hnd, hrun]
  exact hK _ _ h
theorem wpListIn_load_row {w : World} (hgd : o.guard = none) (ty : TypeId) (x : Operand) (ho : o.op = .load ty x)
    (g : Nat) (hx : a.eval x = .pointer (some ⟨g, 0, none⟩)) (t : TypeId) (cs : Array Value) (fr : Nat × Nat) (d : TypeDesc) (hg : w.heap[g]? = some (.cells cs t fr))
    (hu : P.underlying ty = some d) (hd : (match d with | .struct _ | .array _ _ => true | _ => false) = true) (hi : (P.info? ty).map (·.size) = some cs.size)
    (h : wpListIn F n P ops Q rest (a.put o.dst (.agg cs)) w) : wpListIn F n P ops Q (o :: rest) a w := by
  refine wpListIn_run (v := .agg cs) hgd (by rw [ho]; intro c e; cases e) (by simp [Oper.about, ho]) ?_ h
  unfold execOp
  simp only [ho, hx, Instr.loadAt, Instr.sureAddr, Sem.run_bind, Sem.run_pure, Result.andThen_ok, run_loadVar_row w g t ty cs fr d hg hu hd hi]
theorem wpListIn_store_named {W : World} (hgd : o.guard = none) (ty : TypeId) (x y : Operand) (ho : o.op = .store ty x y)
    (g : Nat) (cells : Array Value) (hx : a.eval x = .pointer (some ⟨g, 0, none⟩)) (hy : a.eval y = .agg cells)
    (t : TypeId) (old : Array Value) (hg : W.heap[g]? = some (.cells old t (0, 0))) (hi : (P.info? ty).map (·.size) = some cells.size)
    (hold : old.size = cells.size) (h1 : cells.all (·.oneCell') = true)
    (h : ∀ w1, w1.heap[g]? = some (.cells cells t (0, 0)) → But1 g W w1 → wpListIn F n P ops Q rest (a.put o.dst undef) w1) : wpListIn F n P ops Q (o :: rest) a W := by
  refine wpListIn_plain hgd fun K hK => ?_
  unfold Oper.wpIn
  refine ⟨by simp [Oper.about, ho], ?_⟩
  rw [Oper.semAt_plain F _ _ (by rw [ho]; intro c hc'; cases hc')]
  unfold execOp
  simp only [ho, hx, hy, Instr.storeAt, Instr.sureAddr, Sem.run_bind, Sem.run_pure, Result.andThen_ok, run_storeVar_row W g t ty old cells hg hi hold h1]
  exact hK _ _ (h _ (setRow_heap _ g _ _ _ _ hg) ⟨fun k hk => setRow_other _ g k _ hk, fun B hB => below_setRow (Below.refl B W) hB _⟩)
end
end Go.Proofs.Ytehfcnndjhjkoaa.PA

namespace Go.Proofs.Ytehfcnndjhjkoaa.PA
open Go.RowKit Go.Proofs.YtehfcnndjhjkoaaW.PrintWords Go.Proofs.YtehfcnndjhjkoaaW.PrintLast Go.Proofs.YtehfcnndjhjkoaaW.PrintMore
set_option linter.unusedVariables false
theorem pair_appended {W w1 : World} {n₁ B : Nat} {t e : TypeId} {size : Nat} {a v v' : Value} {k m : Nat} {xs ys : List Value} {tmp : Obj}
    (hv : W.heap[B]? = some (.cells #[a, v] t (0, 0))) (hte : t ≠ e) (hrow : W.ownsRow n₁ e size v k xs) (hown' : w1.ownsRow n₁ e size v' m ys) (hgrow : (W.alloc tmp).grownBy w1 v.ownBlock) :
    w1.heap[B]? = some (.cells #[a, v] t (0, 0)) ∧ (w1.setCell ⟨B, 1, none⟩ v').heap[B]? = some (.cells #[a, v'] t (0, 0)) ∧ (w1.setCell ⟨B, 1, none⟩ v').ownsRow n₁ e size v' m ys ∧ KeepsOthers W (w1.setCell ⟨B, 1, none⟩ v') ∧ ButS (fun k => k = B ∨ n₁ ≤ k) W (w1.setCell ⟨B, 1, none⟩ v') := by
  have hne : v.ownBlock ≠ some B := fun h => by
    obtain ⟨cs, hc⟩ := own_typed hrow B h
    rw [hv] at hc; cases hc; exact hte rfl
  have hl : B < W.heap.size := blk_lt hv
  have hv1 : w1.heap[B]? = some (.cells #[a, v] t (0, 0)) := (hgrow.block B (by simp; omega) (Ne.symm hne)).trans (blk_alloc hv tmp)
  have hne' : v'.ownBlock ≠ some B := fun h => by
    obtain ⟨cs, hc⟩ := own_typed hown' B h
    rw [hv1] at hc; cases hc; exact hte rfl
  refine ⟨hv1, blk_set hv1 1 v', hown'.kept (w' := w1.setCell ⟨B, 1, none⟩ v') (row := some B) ⟨rfl, rfl, rfl, (KeepsOthers.setCell w1 _ v').size, fun k _ hk => Below.heap_setCell _ _ _ k (fun e => hk (by rw [e]))⟩ (.inr hne'), ?_, ?_⟩
  · refine ((KeepsOthers.alloc W tmp).trans (KeepsOthers.of_grownBy hgrow fun j o ej hj => ?_)).trans (KeepsOthers.setCell _ _ _)
    obtain ⟨cs, hc⟩ := own_typed (hrow.alloc tmp) j ej
    rw [hc] at hj; cases hj; rfl
  refine ⟨?_, fun j hj hn => ?_, hgrow.os, hgrow.tape, hgrow.output⟩
  · have := hgrow.size; have := (KeepsOthers.setCell w1 ⟨B, 1, none⟩ v').size; simp at *; omega
  · refine (Below.heap_setCell _ _ _ j (fun e => hn (.inl e))).trans ((hgrow.block j (by simp; omega) fun e => ?_).trans (Below.heap_alloc W tmp j hj))
    exact hn (.inr (own_base hrow j e.symm))
end Go.Proofs.Ytehfcnndjhjkoaa.PA

namespace Go.Proofs.Ytehfcnndjhjkoaa.PA
open Go.RowKit Go.Shelf Go.Proofs.YtehfcnndjhjkoaaW.PrintWords Go.Proofs.YtehfcnndjhjkoaaW.PrintLast Go.Proofs.YtehfcnndjhjkoaaW.PrintMore
attribute [local go_sem] Oper.semAt_some
set_option linter.unusedVariables false
set_option linter.unusedSimpArgs false
def srcGo (f : Nat → Int → Int) : Nat → List Int → List Int
  | _, [] => []
  | k, i :: t => f k i :: srcGo f (k + 1) t
def thrGo (sh : List Int) (f : Nat → Int → Int) : Nat → Bool → List Int → Bool
  | _, b, [] => b
  | k, b, i :: t => thrGo sh f (k + 1) (b && decide (0 ≤ f k i ∧ f k i ≤ wrap64 (rd sh (k : Int) - 1))) t
def fromOne (sh : List Int) (f : Nat → Int → Int) (cur : List Int) : Int := if thrGo sh f 0 true cur then numGo sh 0 0 (srcGo f 0 cur) else -1
def fromL (sh s : List Int) (f : Nat → Int → Int) : Nat → List Int
  | 0 => []
  | t + 1 => fromL sh s f t ++ [fromOne sh f (idxL s t)]
theorem fromL_len (sh s : List Int) (f : Nat → Int → Int) : ∀ t, (fromL sh s f t).length = t
  | 0 => rfl
  | t + 1 => by simp [fromL, fromL_len sh s f t]
/-- What is asked of the function: it answers f at each index of the shape, and only draws. -/
def Gives2 (g : Nat) (lb : Array Value) (f : Nat → Int → Int) (s : List Int) (w : World) : Prop := ∀ (W : World) (k : Nat) (i : Int), Below w.heap.size w W → k < s.length → 0 ≤ i → i < rd s (k : Int) →
  Calls Try.prog g (#[.int .i64 (k : Int), .int .i64 i] ++ lb) W fun e w' => e = .returned (.int .i64 (f k i)) ∧ ∃ q, w' = W.drewN q
theorem rowI_C {w : World} {g : Nat} {t : TypeId} {l : List Int} (h : w.heap[g]? = some (.cells (rowI l) t (0, 0))) (hm : l.length ≤ 9223372036854775807) : Kd.C (Kd.int .i64) w (some ⟨g, 0, none⟩) l.length l := by
  refine Kd.C_of_reads (d := (0 : Int)) (h1 := fun _ => rfl) ⟨rfl, by omega, fun _ => ⟨_, rfl, fun j hj => ?_⟩⟩
  have ha : (⟨g, 0, none⟩ : Addr).add j = ⟨g, j, none⟩ := by unfold Addr.add; split <;> simp_all
  rw [ha, rowI_cell h j hj]
  simp only [rd, Int.toNat_natCast]
theorem src_step (f : Nat → Int → Int) (sr cur : List Int) (j : Nat) (h1 : j < sr.length) (h2 : j < cur.length) :
    (sr.set j (f j (rd cur (j : Int)))).take (j + 1) ++ srcGo f (j + 1) (cur.drop (j + 1)) = sr.take j ++ srcGo f j (cur.drop j) := by
  rw [List.drop_eq_getElem_cons h2, srcGo, List.take_succ_eq_append_getElem (by simpa using h1), List.take_set_of_le (Nat.le_refl j)]
  simp [rd, List.getD_eq_getElem?_getD, h2]
theorem thr_step (sh : List Int) (f : Nat → Int → Int) (cur : List Int) (j : Nat) (q : Bool) (h2 : j < cur.length) :
    thrGo sh f j q (cur.drop j) = thrGo sh f (j + 1) (q && decide (0 ≤ f j (rd cur (j : Int)) ∧ f j (rd cur (j : Int)) ≤ wrap64 (rd sh (j : Int) - 1))) (cur.drop (j + 1)) := by
  rw [List.drop_eq_getElem_cons h2, thrGo]
  simp [rd, List.getD_eq_getElem?_getD, h2]
theorem rd_set (l : List Int) (i : Nat) (x : Int) (h : i < l.length) : rd (l.set i x) (i : Int) = x := by simp [rd, List.getD_eq_getElem?_getD, List.getElem?_set, h]
theorem within_ev (a c : Int) : impl_within.f a 0 c = some (decide (0 ≤ a ∧ a ≤ c)) := by
  unfold impl_within.f
  by_cases h : a ≥ 0
  · rw [if_pos h]; congr 1; by_cases h2 : a ≤ c <;> simp [h2]; omega
  · rw [if_neg h]; congr 1; simp; omega
theorem blk_of {W : World} {G t : Nat} {s : List Int} (h : AtI s G t W) : W.heap[G]? = some (.cells (rowI (idxL s t)) 3 (0, 0)) := h
theorem new_at (W : World) (o : Obj) (n : Nat) (h : n = W.heap.size) : (W.alloc o).heap[n]? = some o := h ▸ blk_new W o
theorem alloc7 (w : World) (o0 o1 o2 o3 o4 o5 o6 : Obj) :
    (((((((w.alloc o0).alloc o1).alloc o2).alloc o3).alloc o4).alloc o5).alloc o6).heap[w.heap.size]? = some o0 ∧
    (((((((w.alloc o0).alloc o1).alloc o2).alloc o3).alloc o4).alloc o5).alloc o6).heap[w.heap.size + 1]? = some o1 ∧
    (((((((w.alloc o0).alloc o1).alloc o2).alloc o3).alloc o4).alloc o5).alloc o6).heap[w.heap.size + 1 + 1]? = some o2 ∧
    (((((((w.alloc o0).alloc o1).alloc o2).alloc o3).alloc o4).alloc o5).alloc o6).heap[w.heap.size + 1 + 1 + 1]? = some o3 ∧
    (((((((w.alloc o0).alloc o1).alloc o2).alloc o3).alloc o4).alloc o5).alloc o6).heap[w.heap.size + 1 + 1 + 1 + 1]? = some o4 ∧
    (((((((w.alloc o0).alloc o1).alloc o2).alloc o3).alloc o4).alloc o5).alloc o6).heap[w.heap.size + 1 + 1 + 1 + 1 + 1]? = some o5 ∧
    (((((((w.alloc o0).alloc o1).alloc o2).alloc o3).alloc o4).alloc o5).alloc o6).heap[w.heap.size + 1 + 1 + 1 + 1 + 1 + 1]? = some o6 ∧
    (((((((w.alloc o0).alloc o1).alloc o2).alloc o3).alloc o4).alloc o5).alloc o6).heap.size = w.heap.size + 7 ∧
    Below w.heap.size w (((((((w.alloc o0).alloc o1).alloc o2).alloc o3).alloc o4).alloc o5).alloc o6) := by
  refine ⟨?_, ?_, ?_, ?_, ?_, ?_, ?_, ?_, ?_⟩
  · exact blk_alloc (blk_alloc (blk_alloc (blk_alloc (blk_alloc (blk_alloc (new_at _ _ _ rfl) _) _) _) _) _) _
  · exact blk_alloc (blk_alloc (blk_alloc (blk_alloc (blk_alloc (new_at _ _ _ (by simp)) _) _) _) _) _
  · exact blk_alloc (blk_alloc (blk_alloc (blk_alloc (new_at _ _ _ (by simp)) _) _) _) _
  · exact blk_alloc (blk_alloc (blk_alloc (new_at _ _ _ (by simp)) _) _) _
  · exact blk_alloc (blk_alloc (new_at _ _ _ (by simp)) _) _
  · exact blk_alloc (new_at _ _ _ (by simp)) _
  · exact new_at _ _ _ (by simp)
  · simp
  · exact below_alloc (below_alloc (below_alloc (below_alloc (below_alloc (below_alloc (below_alloc (Below.refl _ _) _) _) _) _) _) _) _
theorem keeps_butS {S : Nat → Prop} {A B : World} (h : ButS S A B) (hS : ∀ k, S k → ∀ o, A.heap[k]? = some o → o.isCells = true) : KeepsOthers A B :=
  ⟨h.size, fun k o hk ho => (h.same k (blk_lt hk) (fun hs => by rw [hS k hs o hk] at ho; cases ho)).trans hk⟩
theorem C_block {w : World} {A : Option Addr} {l : List Int} (h : Kd.C (Kd.int .i64) w A l.length l) {k : Nat} (h0 : 0 < l.length) (hk : some k = A.map (·.block)) : k < w.heap.size := by
  obtain ⟨ad, rfl, hx⟩ := Kd.at_int h 0 (by omega) (by omega)
  cases Option.some.inj hk
  have := World.block_lt_of_cell? w _ hx
  rwa [show (ad.add (0 : Int).toNat).block = ad.block by unfold Addr.add; split <;> rfl] at this
end Go.Proofs.Ytehfcnndjhjkoaa.PA

-- By a program (prt.py, over the print of the kit), for this claim. Not trusted: Lean checks it.
namespace Go.Proofs.Ytehfcnndjhjkoaa.PA
open Go.RowKit Go.Proofs.YtehfcnndjhjkoaaW.PrintWords Go.Proofs.YtehfcnndjhjkoaaW.PrintLast Go.Proofs.YtehfcnndjhjkoaaW.PrintMore
attribute [local go_sem] max2_int min2_int max_two min_two max_three min_three max_four min_four   -- for this text's walks alone
set_option linter.unusedVariables false
set_option linter.unusedSimpArgs false

/-! ### impl_Array_rank: function 90 -/
def impl_Array_rank.f (a0_0 : Bool) (l0_1 : List Int) (l0_2 : List Int) : Option (Int) := some (l0_1.length : Int)
set_option maxHeartbeats 8000000 in
set_option maxRecDepth 100000 in
theorem impl_Array_rank.calls (a0_0 : Bool) (A0_1 : Option Addr) (c0_1 : Nat) (l0_1 : List Int) (A0_2 : Option Addr) (c0_2 : Nat) (l0_2 : List Int) (r : Int) (w : World) (hr0_1 : Kd.C (Kd.int .i64) w A0_1 l0_1.length l0_1) (hc0_1 : l0_1.length ≤ c0_1) (hr0_2 : Kd.C (Kd.int .i64) w A0_2 l0_2.length l0_2) (hc0_2 : l0_2.length ≤ c0_2) (h : impl_Array_rank.f a0_0 l0_1 l0_2 = some r) :
    Calls Try.prog 90 #[.agg #[.bool a0_0, .slice A0_1 l0_1.length c0_1, .slice A0_2 l0_2.length c0_2]] w fun e w' => e = .returned (.int .i64 r) ∧ Below w.heap.size w w' := by
  have hu28 := Try.underlying28
  have HR0_1 := Aside0.mk hr0_1
  have HC0_1 := Aside0.mk hc0_1
  clear hr0_1 hc0_1
  have HR0_2 := Aside0.mk hr0_2
  have HC0_2 := Aside0.mk hc0_2
  clear hr0_2 hc0_2
  have HB := Aside0.mk (Below.refl w.heap.size w)
  have H : (some (l0_1.length : Int)) = some r := h
  clear h
  obtain rfl := Option.some.inj H
  go_enter Try.func90, Try.ntmps90
  go_wp2_with (first | ((with_reducible refine gate_dst (N := 1) rfl ?_); refine box_event ?hg (N := 1) ?hd (cs := #[.bool a0_0, .slice A0_1 l0_1.length c0_1, .slice A0_2 l0_2.length c0_2]) (t := 28) ?hr ?_; (case hd => rfl); (case hg => rfl); (case hr => first | (go_simp; done) | (go_simp; rfl)); intro gb101 hg w2 hbox hb; have n0_ := Aside0.mk (below_step (by repeat (first | (with_reducible first | exact HB.out | apply below_alloc | apply pw_below_drewN | apply below_drew1) | exact HB.out)) hb); have n1_ := Aside0.mk (hbox); have n2_ := Aside0.mk ((by rw [hg]; exact (below_size (by repeat (first | (with_reducible first | exact HB.out | apply below_alloc | apply pw_below_drewN | apply below_drew1) | exact HB.out))) : w.heap.size ≤ gb101)); have n3_ := Aside0.mk ((by rw [hg]; exact (below_size (by repeat (first | (with_reducible first | exact HB.out | apply below_alloc | apply pw_below_drewN | apply below_drew1) | exact HB.out))) : w.heap.size ≤ gb101)); clear HB; have HB := n0_; have BK101 := n1_; have GW101 := n2_; have GE101 := n3_; clear n0_ n1_ n2_ n3_; clear hb hbox hg; have hcz3_0 : w2.cell? ⟨gb101, 0, none⟩ = some (.bool a0_0) := (blk_cell BK101.out 0).trans rfl; have hcz3_1 : w2.cell? ⟨gb101, 1, none⟩ = some (.slice A0_1 l0_1.length c0_1) := (blk_cell BK101.out 1).trans rfl; have hcz3_2 : w2.cell? ⟨gb101, 2, none⟩ = some (.slice A0_2 l0_2.length c0_2) := (blk_cell BK101.out 2).trans rfl; have hfz3_0 := blk_frozen BK101.out 0; have hfz3_1 := blk_frozen BK101.out 1; have hfz3_2 := blk_frozen BK101.out 2))
  go_ret
  exact ⟨by first | rfl | (simp [errW_none, errW_some] <;> rfl) | (simp [*, errW_none, errW_some] <;> rfl), by repeat (first | (with_reducible first | exact HB.out | apply below_alloc | apply pw_below_drewN | apply below_drew1 | refine below_set ?_ GE101.out) | exact HB.out)⟩

end Go.Proofs.Ytehfcnndjhjkoaa.PA

-- By a program (prt.py, over the print of the kit), for this claim. Not trusted: Lean checks it.
namespace Go.Proofs.Ytehfcnndjhjkoaa.PA
open Go.RowKit Go.Proofs.YtehfcnndjhjkoaaW.PrintWords Go.Proofs.YtehfcnndjhjkoaaW.PrintLast Go.Proofs.YtehfcnndjhjkoaaW.PrintMore
attribute [local go_sem] max2_int min2_int max_two min_two max_three min_three max_four min_four   -- for this text's walks alone
set_option linter.unusedVariables false
set_option linter.unusedSimpArgs false

/-! ### impl_listOk: function 99 -/
def impl_listOk.f (a0_0 : Bool) (l0_1 : List Int) (l0_2 : List Int) : Option (Int) := (impl_Array_rank.f a0_0 l0_1 l0_2).bind fun t102 => (if t102 > 1 then (some 4) else (if a0_0 = true then (some 3) else (some 0)))
set_option maxHeartbeats 8000000 in
set_option maxRecDepth 100000 in
theorem impl_listOk.calls (a0_0 : Bool) (A0_1 : Option Addr) (c0_1 : Nat) (l0_1 : List Int) (A0_2 : Option Addr) (c0_2 : Nat) (l0_2 : List Int) (r : Int) (w : World) (hr0_1 : Kd.C (Kd.int .i64) w A0_1 l0_1.length l0_1) (hc0_1 : l0_1.length ≤ c0_1) (hr0_2 : Kd.C (Kd.int .i64) w A0_2 l0_2.length l0_2) (hc0_2 : l0_2.length ≤ c0_2) (h : impl_listOk.f a0_0 l0_1 l0_2 = some r) :
    Calls Try.prog 99 #[.agg #[.bool a0_0, .slice A0_1 l0_1.length c0_1, .slice A0_2 l0_2.length c0_2]] w fun e w' => e = .returned (.int .i64 r) ∧ Below w.heap.size w w' := by
  have hu28 := Try.underlying28
  have HR0_1 := Aside0.mk hr0_1
  have HC0_1 := Aside0.mk hc0_1
  clear hr0_1 hc0_1
  have HR0_2 := Aside0.mk hr0_2
  have HC0_2 := Aside0.mk hc0_2
  clear hr0_2 hc0_2
  have HB := Aside0.mk (Below.refl w.heap.size w)
  have H : ((impl_Array_rank.f a0_0 l0_1 l0_2).bind fun t102 => (if t102 > 1 then (some 4) else (if a0_0 = true then (some 3) else (some 0)))) = some r := h
  clear h
  replace H := Option.bind_eq_some_iff.mp H
  obtain ⟨t102, A20, H⟩ := H
  replace H : (if t102 > 1 then (some 4) else (if a0_0 = true then (some 3) else (some 0))) = some r := H
  have A2 := Aside0.mk A20
  clear A20
  by_cases c3 : t102 > 1
  · rw [if_pos c3] at H
    have c3b0 : decide (1 < t102) = true := decide_eq_true c3
    clear c3
    obtain rfl := Option.some.inj H
    go_enter Try.func99, Try.ntmps99
    go_wp2_with (first | ((with_reducible refine gate_dst (N := 1) rfl ?_); refine box_event ?hg (N := 1) ?hd (cs := #[.bool a0_0, .slice A0_1 l0_1.length c0_1, .slice A0_2 l0_2.length c0_2]) (t := 28) ?hr ?_; (case hd => rfl); (case hg => rfl); (case hr => first | (go_simp; done) | (go_simp; rfl)); intro gb101 hg w4 hbox hb; have n0_ := Aside0.mk (below_step (by repeat (first | (with_reducible first | exact HB.out | apply below_alloc | apply pw_below_drewN | apply below_drew1) | exact HB.out)) hb); have n1_ := Aside0.mk (hbox); have n2_ := Aside0.mk ((by rw [hg]; exact (below_size (by repeat (first | (with_reducible first | exact HB.out | apply below_alloc | apply pw_below_drewN | apply below_drew1) | exact HB.out))) : w.heap.size ≤ gb101)); have n3_ := Aside0.mk ((by rw [hg]; exact (below_size (by repeat (first | (with_reducible first | exact HB.out | apply below_alloc | apply pw_below_drewN | apply below_drew1) | exact HB.out))) : w.heap.size ≤ gb101)); clear HB; have HB := n0_; have BK101 := n1_; have GW101 := n2_; have GE101 := n3_; clear n0_ n1_ n2_ n3_; clear hb hbox hg; have hcz5_0 : w4.cell? ⟨gb101, 0, none⟩ = some (.bool a0_0) := (blk_cell BK101.out 0).trans rfl; have hcz5_1 : w4.cell? ⟨gb101, 1, none⟩ = some (.slice A0_1 l0_1.length c0_1) := (blk_cell BK101.out 1).trans rfl; have hcz5_2 : w4.cell? ⟨gb101, 2, none⟩ = some (.slice A0_2 l0_2.length c0_2) := (blk_cell BK101.out 2).trans rfl; have hfz5_0 := blk_frozen BK101.out 0; have hfz5_1 := blk_frozen BK101.out 1; have hfz5_2 := blk_frozen BK101.out 2) | ((with_reducible refine gate_callee (f := 90) rfl ?_); refine goesL_ (some 4) rfl rfl Try.func90 (by kernel_rfl) rfl #[.agg #[.bool a0_0, .slice A0_1 l0_1.length c0_1, .slice A0_2 l0_2.length c0_2]] rfl (by (try simp only [List.map_toArray, List.map_cons, List.map_nil]); first | done | rfl | (simp only [List.length_drop, List.length_take]; rfl)) ?_; (with_reducible refine (impl_Array_rank.calls a0_0 _ _ l0_1 _ _ l0_2 t102 _ ?side1 ?side2 ?side3 ?side4 A2.out).mono ?_); (case side1 => repeat (first | exact (Kd.C_below HR0_1.out HB.out) | (with_reducible refine Kd.C_alloc ?_ _) | (with_reducible refine Kd.C_drewN ?_ _) | (with_reducible refine Kd.C_drew ?_))); (case side2 => exact HC0_1.out); (case side3 => repeat (first | exact (Kd.C_below HR0_2.out HB.out) | (with_reducible refine Kd.C_alloc ?_ _) | (with_reducible refine Kd.C_drewN ?_ _) | (with_reducible refine Kd.C_drew ?_))); (case side4 => exact HC0_2.out); rintro e w6 ⟨rfl, hb⟩; refine ⟨_, rfl, ?_⟩; have n0_ := Aside0.mk (blk_below (g := gb101) (o := .cells #[.bool a0_0, .slice A0_1 l0_1.length c0_1, .slice A0_2 l0_2.length c0_2] 28 (0, 0)) (by (with_reducible repeat (first | refine blk_drewN ?_ _ | refine blk_drew ?_ | refine blk_alloc ?_ _)); exact BK101.out) hb); have n1_ := Aside0.mk (below_step (by repeat (first | (with_reducible first | exact HB.out | apply below_alloc | apply pw_below_drewN | apply below_drew1 | refine below_set ?_ GE101.out) | exact HB.out)) hb); clear BK101; clear HB; have BK101 := n0_; have HB := n1_; clear n0_ n1_; (try clear hb); (try clear hb2); (try clear hk); (try clear hi)))
    go_ret
    exact ⟨by first | rfl | (simp [errW_none, errW_some] <;> rfl) | (simp [*, errW_none, errW_some] <;> rfl), by repeat (first | (with_reducible first | exact HB.out | apply below_alloc | apply pw_below_drewN | apply below_drew1 | refine below_set ?_ GE101.out) | exact HB.out)⟩
  · rw [if_neg c3] at H
    have c3b0 : decide (1 < t102) = false := decide_eq_false c3
    clear c3
    by_cases c7 : a0_0 = true
    · subst c7
      have H1 : (some 3) = some r := by rw [if_pos rfl] at H; exact H
      clear H
      have H := H1
      clear H1
      obtain rfl := Option.some.inj H
      go_enter Try.func99, Try.ntmps99
      go_wp2_with (first | ((with_reducible refine gate_dst (N := 1) rfl ?_); refine box_event ?hg (N := 1) ?hd (cs := #[.bool true, .slice A0_1 l0_1.length c0_1, .slice A0_2 l0_2.length c0_2]) (t := 28) ?hr ?_; (case hd => rfl); (case hg => rfl); (case hr => first | (go_simp; done) | (go_simp; rfl)); intro gb101 hg w8 hbox hb; have n0_ := Aside0.mk (below_step (by repeat (first | (with_reducible first | exact HB.out | apply below_alloc | apply pw_below_drewN | apply below_drew1) | exact HB.out)) hb); have n1_ := Aside0.mk (hbox); have n2_ := Aside0.mk ((by rw [hg]; exact (below_size (by repeat (first | (with_reducible first | exact HB.out | apply below_alloc | apply pw_below_drewN | apply below_drew1) | exact HB.out))) : w.heap.size ≤ gb101)); have n3_ := Aside0.mk ((by rw [hg]; exact (below_size (by repeat (first | (with_reducible first | exact HB.out | apply below_alloc | apply pw_below_drewN | apply below_drew1) | exact HB.out))) : w.heap.size ≤ gb101)); clear HB; have HB := n0_; have BK101 := n1_; have GW101 := n2_; have GE101 := n3_; clear n0_ n1_ n2_ n3_; clear hb hbox hg; have hcz9_0 : w8.cell? ⟨gb101, 0, none⟩ = some (.bool true) := (blk_cell BK101.out 0).trans rfl; have hcz9_1 : w8.cell? ⟨gb101, 1, none⟩ = some (.slice A0_1 l0_1.length c0_1) := (blk_cell BK101.out 1).trans rfl; have hcz9_2 : w8.cell? ⟨gb101, 2, none⟩ = some (.slice A0_2 l0_2.length c0_2) := (blk_cell BK101.out 2).trans rfl; have hfz9_0 := blk_frozen BK101.out 0; have hfz9_1 := blk_frozen BK101.out 1; have hfz9_2 := blk_frozen BK101.out 2) | ((with_reducible refine gate_callee (f := 90) rfl ?_); refine goesL_ (some 4) rfl rfl Try.func90 (by kernel_rfl) rfl #[.agg #[.bool true, .slice A0_1 l0_1.length c0_1, .slice A0_2 l0_2.length c0_2]] rfl (by (try simp only [List.map_toArray, List.map_cons, List.map_nil]); first | done | rfl | (simp only [List.length_drop, List.length_take]; rfl)) ?_; (with_reducible refine (impl_Array_rank.calls true _ _ l0_1 _ _ l0_2 t102 _ ?side1 ?side2 ?side3 ?side4 A2.out).mono ?_); (case side1 => repeat (first | exact (Kd.C_below HR0_1.out HB.out) | (with_reducible refine Kd.C_alloc ?_ _) | (with_reducible refine Kd.C_drewN ?_ _) | (with_reducible refine Kd.C_drew ?_))); (case side2 => exact HC0_1.out); (case side3 => repeat (first | exact (Kd.C_below HR0_2.out HB.out) | (with_reducible refine Kd.C_alloc ?_ _) | (with_reducible refine Kd.C_drewN ?_ _) | (with_reducible refine Kd.C_drew ?_))); (case side4 => exact HC0_2.out); rintro e w10 ⟨rfl, hb⟩; refine ⟨_, rfl, ?_⟩; have n0_ := Aside0.mk (blk_below (g := gb101) (o := .cells #[.bool true, .slice A0_1 l0_1.length c0_1, .slice A0_2 l0_2.length c0_2] 28 (0, 0)) (by (with_reducible repeat (first | refine blk_drewN ?_ _ | refine blk_drew ?_ | refine blk_alloc ?_ _)); exact BK101.out) hb); have n1_ := Aside0.mk (below_step (by repeat (first | (with_reducible first | exact HB.out | apply below_alloc | apply pw_below_drewN | apply below_drew1 | refine below_set ?_ GE101.out) | exact HB.out)) hb); clear BK101; clear HB; have BK101 := n0_; have HB := n1_; clear n0_ n1_; (try clear hb); (try clear hb2); (try clear hk); (try clear hi); have hcz11_0 : w10.cell? ⟨gb101, 0, none⟩ = some (.bool true) := (blk_cell BK101.out 0).trans rfl; have hcz11_1 : w10.cell? ⟨gb101, 1, none⟩ = some (.slice A0_1 l0_1.length c0_1) := (blk_cell BK101.out 1).trans rfl; have hcz11_2 : w10.cell? ⟨gb101, 2, none⟩ = some (.slice A0_2 l0_2.length c0_2) := (blk_cell BK101.out 2).trans rfl; have hfz11_0 := blk_frozen BK101.out 0; have hfz11_1 := blk_frozen BK101.out 1; have hfz11_2 := blk_frozen BK101.out 2))
      go_ret
      exact ⟨by first | rfl | (simp [errW_none, errW_some] <;> rfl) | (simp [*, errW_none, errW_some] <;> rfl), by repeat (first | (with_reducible first | exact HB.out | apply below_alloc | apply pw_below_drewN | apply below_drew1 | refine below_set ?_ GE101.out) | exact HB.out)⟩
    · replace c7 := Bool.eq_false_iff.mpr c7
      subst c7
      have H1 : (some 0) = some r := by rw [if_neg (show ¬ (false = true) by decide)] at H; exact H
      clear H
      have H := H1
      clear H1
      obtain rfl := Option.some.inj H
      go_enter Try.func99, Try.ntmps99
      go_wp2_with (first | ((with_reducible refine gate_dst (N := 1) rfl ?_); refine box_event ?hg (N := 1) ?hd (cs := #[.bool false, .slice A0_1 l0_1.length c0_1, .slice A0_2 l0_2.length c0_2]) (t := 28) ?hr ?_; (case hd => rfl); (case hg => rfl); (case hr => first | (go_simp; done) | (go_simp; rfl)); intro gb101 hg w12 hbox hb; have n0_ := Aside0.mk (below_step (by repeat (first | (with_reducible first | exact HB.out | apply below_alloc | apply pw_below_drewN | apply below_drew1) | exact HB.out)) hb); have n1_ := Aside0.mk (hbox); have n2_ := Aside0.mk ((by rw [hg]; exact (below_size (by repeat (first | (with_reducible first | exact HB.out | apply below_alloc | apply pw_below_drewN | apply below_drew1) | exact HB.out))) : w.heap.size ≤ gb101)); have n3_ := Aside0.mk ((by rw [hg]; exact (below_size (by repeat (first | (with_reducible first | exact HB.out | apply below_alloc | apply pw_below_drewN | apply below_drew1) | exact HB.out))) : w.heap.size ≤ gb101)); clear HB; have HB := n0_; have BK101 := n1_; have GW101 := n2_; have GE101 := n3_; clear n0_ n1_ n2_ n3_; clear hb hbox hg; have hcz13_0 : w12.cell? ⟨gb101, 0, none⟩ = some (.bool false) := (blk_cell BK101.out 0).trans rfl; have hcz13_1 : w12.cell? ⟨gb101, 1, none⟩ = some (.slice A0_1 l0_1.length c0_1) := (blk_cell BK101.out 1).trans rfl; have hcz13_2 : w12.cell? ⟨gb101, 2, none⟩ = some (.slice A0_2 l0_2.length c0_2) := (blk_cell BK101.out 2).trans rfl; have hfz13_0 := blk_frozen BK101.out 0; have hfz13_1 := blk_frozen BK101.out 1; have hfz13_2 := blk_frozen BK101.out 2) | ((with_reducible refine gate_callee (f := 90) rfl ?_); refine goesL_ (some 4) rfl rfl Try.func90 (by kernel_rfl) rfl #[.agg #[.bool false, .slice A0_1 l0_1.length c0_1, .slice A0_2 l0_2.length c0_2]] rfl (by (try simp only [List.map_toArray, List.map_cons, List.map_nil]); first | done | rfl | (simp only [List.length_drop, List.length_take]; rfl)) ?_; (with_reducible refine (impl_Array_rank.calls false _ _ l0_1 _ _ l0_2 t102 _ ?side1 ?side2 ?side3 ?side4 A2.out).mono ?_); (case side1 => repeat (first | exact (Kd.C_below HR0_1.out HB.out) | (with_reducible refine Kd.C_alloc ?_ _) | (with_reducible refine Kd.C_drewN ?_ _) | (with_reducible refine Kd.C_drew ?_))); (case side2 => exact HC0_1.out); (case side3 => repeat (first | exact (Kd.C_below HR0_2.out HB.out) | (with_reducible refine Kd.C_alloc ?_ _) | (with_reducible refine Kd.C_drewN ?_ _) | (with_reducible refine Kd.C_drew ?_))); (case side4 => exact HC0_2.out); rintro e w14 ⟨rfl, hb⟩; refine ⟨_, rfl, ?_⟩; have n0_ := Aside0.mk (blk_below (g := gb101) (o := .cells #[.bool false, .slice A0_1 l0_1.length c0_1, .slice A0_2 l0_2.length c0_2] 28 (0, 0)) (by (with_reducible repeat (first | refine blk_drewN ?_ _ | refine blk_drew ?_ | refine blk_alloc ?_ _)); exact BK101.out) hb); have n1_ := Aside0.mk (below_step (by repeat (first | (with_reducible first | exact HB.out | apply below_alloc | apply pw_below_drewN | apply below_drew1 | refine below_set ?_ GE101.out) | exact HB.out)) hb); clear BK101; clear HB; have BK101 := n0_; have HB := n1_; clear n0_ n1_; (try clear hb); (try clear hb2); (try clear hk); (try clear hi); have hcz15_0 : w14.cell? ⟨gb101, 0, none⟩ = some (.bool false) := (blk_cell BK101.out 0).trans rfl; have hcz15_1 : w14.cell? ⟨gb101, 1, none⟩ = some (.slice A0_1 l0_1.length c0_1) := (blk_cell BK101.out 1).trans rfl; have hcz15_2 : w14.cell? ⟨gb101, 2, none⟩ = some (.slice A0_2 l0_2.length c0_2) := (blk_cell BK101.out 2).trans rfl; have hfz15_0 := blk_frozen BK101.out 0; have hfz15_1 := blk_frozen BK101.out 1; have hfz15_2 := blk_frozen BK101.out 2))
      go_ret
      exact ⟨by first | rfl | (simp [errW_none, errW_some] <;> rfl) | (simp [*, errW_none, errW_some] <;> rfl), by repeat (first | (with_reducible first | exact HB.out | apply below_alloc | apply pw_below_drewN | apply below_drew1 | refine below_set ?_ GE101.out) | exact HB.out)⟩

end Go.Proofs.Ytehfcnndjhjkoaa.PA

namespace Go.Proofs.Ytehfcnndjhjkoaa.PA
open Go.RowKit Go.Proofs.YtehfcnndjhjkoaaW.PrintWords Go.Proofs.YtehfcnndjhjkoaaW.PrintLast Go.Proofs.YtehfcnndjhjkoaaW.PrintMore
set_option linter.unusedVariables false
set_option linter.unusedSimpArgs false
set_option maxHeartbeats 2000000 in
set_option maxRecDepth 100000 in
theorem vec_any (A : Option Addr) (n c : Nat) (w : World) :
    Calls Try.prog 100 #[.slice A n c] w fun e w' => ∃ g, e = .returned (.agg #[.bool false, .slice (some ⟨g, 0, none⟩) 1 1, .slice A n c]) ∧ w'.heap[g]? = some (.cells #[.int .i64 (n : Int)] 3 (0, 0)) ∧ w.heap.size ≤ g ∧ Below w.heap.size w w' := by
  have HS := Aside0.mk (Sx.start w)
  go_enter Try.func100, Try.ntmps100
  go_wp2_with (first | ((with_reducible refine gate_dst (N := 2) rfl ?_); refine box_event ?hg (N := 2) ?hd (cs := #[.bool false, .slice none 0 0, .slice none 0 0]) (t := 28) ?hr ?_; (case hd => rfl); (case hg => rfl); (case hr => first | (go_simp; done) | (go_simp; rfl)); intro gR hg1 w1 hx1 hb1; have nS : Aside0 (Sx w w1 [(.blk gR #[.bool false, .slice none 0 0, .slice none 0 0] 28)]) := Aside0.mk (HS.out.box hg1 hx1 hb1); clear HS; have HS := nS; clear nS hg1 hx1 hb1) | ((with_reducible refine gate_dst (N := 5) rfl ?_); refine lit_event ?hg (N := 5) ?hd (cs := #[.int .i64 (n : Int)]) (t := 3) (n := 1) ?hr ?_; (case hd => rfl); (case hg => rfl); (case hr => first | (go_simp; done) | (go_simp; rfl)); intro gO hg2 w2 hx2 hb2; have nS : Aside0 (Sx w w2 [(.blk gO #[.int .i64 (n : Int)] 3), (.blk gR #[.bool false, .slice none 0 0, .slice none 0 0] 28)]) := Aside0.mk (HS.out.box hg2 hx2 hb2); clear HS; have HS := nS; clear nS hg2 hx2 hb2) | ((with_reducible refine gate_store rfl ?_); refine store_named rfl 28 (.tmp 2) (.tmp 7) rfl gR #[.bool false, .slice (some ⟨gO, 0, none⟩) 1 1, .slice A n c] rfl rfl 28 #[.bool false, .slice none 0 0, .slice none 0 0] (HS.out.blk 1 rfl) (by kernel_rfl) rfl (by simp [Value.oneCell']) ?_; intro w3 hx3 hb3; have nS : Aside0 (Sx w w3 [(.blk gO #[.int .i64 (n : Int)] 3), (.blk gR #[.bool false, .slice (some ⟨gO, 0, none⟩) 1 1, .slice A n c] 28)]) := Aside0.mk (HS.out.put 1 rfl hx3 hb3); clear HS; have HS := nS; clear nS hx3 hb3))
  refine bodyPost_ret (results_cell_row rfl _ _ gR 28 #[.bool false, .slice (some ⟨gO, 0, none⟩) 1 1, .slice A n c] (0, 0) _ rfl (HS.out.blk 1 rfl) Try.underlying28 rfl (by kernel_rfl)) rfl ?_
  exact ⟨gO, rfl, HS.out.blk 0 rfl, (HS.out.get 0 rfl).2, HS.out.below⟩
theorem Sx.vecAdd {w W W' : World} {Ts : List Th} {g : Nat} {cs : Array Value} {t : TypeId} (h : Sx w W Ts) (hB : W'.heap[g]? = some (.cells cs t (0, 0))) (hg : W.heap.size ≤ g) (hb : Below W.heap.size W W') : Sx w W' (.blk g cs t :: Ts) := h.add hb ⟨hB, hg⟩
end Go.Proofs.Ytehfcnndjhjkoaa.PA

namespace Go.Proofs.Ytehfcnndjhjkoaa.PA
open Go.RowKit Go.Proofs.YtehfcnndjhjkoaaW.PrintWords Go.Proofs.YtehfcnndjhjkoaaW.PrintLast Go.Proofs.YtehfcnndjhjkoaaW.PrintMore
set_option linter.unusedVariables false
set_option linter.unusedSimpArgs false
set_option maxHeartbeats 2000000 in
set_option maxRecDepth 100000 in
theorem as_any (a c : Bool) (A1 : Option Addr) (n1 c1 : Nat) (A2 : Option Addr) (n2 c2 : Nat) (w : World) :
    Calls Try.prog 101 #[.agg #[.bool a, .slice A1 n1 c1, .slice A2 n2 c2], .bool c] w fun e w' => e = .returned (.agg #[.bool c, .slice A1 n1 c1, .slice A2 n2 c2]) ∧ Below w.heap.size w w' := by
  have HS := Aside0.mk (Sx.start w)
  go_enter Try.func101, Try.ntmps101
  go_wp2_with (first | ((with_reducible refine gate_dst (N := 2) rfl ?_); refine box_event ?hg (N := 2) ?hd (cs := #[.bool a, .slice A1 n1 c1, .slice A2 n2 c2]) (t := 28) ?hr ?_; (case hd => rfl); (case hg => rfl); (case hr => first | (go_simp; done) | (go_simp; rfl)); intro gA hg1 w1 hx1 hb1; have nS : Aside0 (Sx w w1 [(.blk gA #[.bool a, .slice A1 n1 c1, .slice A2 n2 c2] 28)]) := Aside0.mk (HS.out.box hg1 hx1 hb1); clear HS; have HS := nS; clear nS hg1 hx1 hb1) | ((with_reducible refine gate_dst (N := 4) rfl ?_); refine box_event ?hg (N := 4) ?hd (cs := #[.bool false, .slice none 0 0, .slice none 0 0]) (t := 28) ?hr ?_; (case hd => rfl); (case hg => rfl); (case hr => first | (go_simp; done) | (go_simp; rfl)); intro gR hg2 w2 hx2 hb2; have nS : Aside0 (Sx w w2 [(.blk gR #[.bool false, .slice none 0 0, .slice none 0 0] 28), (.blk gA #[.bool a, .slice A1 n1 c1, .slice A2 n2 c2] 28)]) := Aside0.mk (HS.out.box hg2 hx2 hb2); clear HS; have HS := nS; clear nS hg2 hx2 hb2) | ((with_reducible refine gate_store rfl ?_); refine ev_store rfl 4 (.tmp 6) (.tmp 5) rfl gA 0 rfl (.bool c) rfl #[.bool a, .slice A1 n1 c1, .slice A2 n2 c2] 28 (HS.out.blk 1 rfl) (show 0 < 3 from by decide) rfl (by kernel_rfl) ?_; intro w3 hx3 hb3; have nS : Aside0 (Sx w w3 [(.blk gR #[.bool false, .slice none 0 0, .slice none 0 0] 28), (.blk gA #[.bool c, .slice A1 n1 c1, .slice A2 n2 c2] 28)]) := Aside0.mk (HS.out.put 1 rfl hx3 hb3); clear HS; have HS := nS; clear nS hx3 hb3) | ((with_reducible refine gate_dst (N := 7) rfl ?_); refine wpList_load_row rfl 28 (.tmp 2) rfl gA rfl 28 #[.bool c, .slice A1 n1 c1, .slice A2 n2 c2] (0, 0) _ (HS.out.blk 1 rfl) Try.underlying28 rfl (by kernel_rfl) ?_) | ((with_reducible refine gate_store rfl ?_); refine store_named rfl 28 (.tmp 4) (.tmp 7) rfl gR #[.bool c, .slice A1 n1 c1, .slice A2 n2 c2] rfl rfl 28 #[.bool false, .slice none 0 0, .slice none 0 0] (HS.out.blk 0 rfl) (by kernel_rfl) rfl (by simp [Value.oneCell']) ?_; intro w4 hx4 hb4; have nS : Aside0 (Sx w w4 [(.blk gR #[.bool c, .slice A1 n1 c1, .slice A2 n2 c2] 28), (.blk gA #[.bool c, .slice A1 n1 c1, .slice A2 n2 c2] 28)]) := Aside0.mk (HS.out.put 0 rfl hx4 hb4); clear HS; have HS := nS; clear nS hx4 hb4))
  refine bodyPost_ret (results_cell_row rfl _ _ gR 28 #[.bool c, .slice A1 n1 c1, .slice A2 n2 c2] (0, 0) _ rfl (HS.out.blk 0 rfl) Try.underlying28 rfl (by kernel_rfl)) rfl ?_
  exact ⟨rfl, HS.out.below⟩
end Go.Proofs.Ytehfcnndjhjkoaa.PA

namespace Go.Proofs.Ytehfcnndjhjkoaa.PA
open Go.RowKit Go.Proofs.YtehfcnndjhjkoaaW.PrintWords Go.Proofs.YtehfcnndjhjkoaaW.PrintLast Go.Proofs.YtehfcnndjhjkoaaW.PrintMore
set_option linter.unusedVariables false
set_option linter.unusedSimpArgs false
section
variable {P : Program} {ops : Array Oper} {rest : List Oper} {o : Oper} {a : Act} {Q : Exit → Act → World → Prop}
theorem Sx.append {w W : World} {Ts : List Th} (h : Sx w W Ts) (i : Nat) {v : Value} {xs : List Int} (hi : Ts[i]? = some (.row v xs)) (hgd : o.guard = none) (s y : Operand)
    (ho : o.op = .call { callee := .builtin .append, args := #[s, y], argTypes := #[22, 22] }) (ht : P.underlying 22 = some (.slice 3)) (hinfo : (P.info? 3).map (fun i => (i.zero, i.size, i.bytes)) = some (some (.int .i64 0), 1, 8))
    (x : Int) (hs : a.eval s = v) (hy : a.eval y = .slice (some ⟨W.heap.size, 0, none⟩) 1 1) (hl : xs.length ≤ 1000000)
    (hK : ∀ A c w1, Sx w w1 (Ts.set i (.row (.slice A (xs.length + 1) c) (xs ++ [x]))) → wpList P ops Q rest (a.put o.dst (.slice A (xs.length + 1) c)) w1) : wpList P ops Q (o :: rest) a (W.alloc (.cells #[.int .i64 x] 3)) := by
  refine Kd.R_append (Kd.int .i64) (w0 := W) w.heap.size hgd s y 22 3 (.int .i64 0) 8 ho ht hinfo rfl (by decide) (by decide) v xs x [.int .i64 x] (fun _ => True) (fun _ => False) hs hy (by rfl) (fun _ h => h.elim) (fun _ _ => trivial) (h.row i hi) ((Below.refl W.heap.size W).mono h.below.size) h.below.size (by omega) ?_
  intro v1 w1 hr hb hg hat
  obtain ⟨A, c, rfl⟩ := Kd.R_slice hr
  have := hK A c w1 (by
    have := h.grow i hi hr hg hat
    rw [List.length_append, List.length_singleton] at this; exact this)
  rw [List.length_append, List.length_singleton]; exact this
end
/-- An element of a row of the list. -/
theorem Sx.at {w W : World} {Ts : List Th} (h : Sx w W Ts) (i : Nat) {A : Option Addr} {n c : Nat} {xs : List Int} (hi : Ts[i]? = some (.row (.slice A n c) xs)) (j : Nat) (hj : j < xs.length) : ∃ g, A = some ⟨g, 0, none⟩ ∧ W.cell? ⟨g, j, none⟩ = some (.int .i64 (rd xs (j : Int))) ∧ W.frozen? ⟨g, j, none⟩ = false := by
  have hr := h.row i hi
  obtain ⟨g, cap, e, _, _, _⟩ := Kd.R_form hr (by omega)
  injection e with e1 e2 e3
  subst e1 e2 e3
  have := Kd.R_cell (0 : Int) (enc := Value.int .i64) hr (j : Int) (by omega) (by omega)
  rw [Int.toNat_natCast] at this
  exact ⟨g, rfl, this.1, this.2⟩
end Go.Proofs.Ytehfcnndjhjkoaa.PA

namespace Go.Proofs.Ytehfcnndjhjkoaa.PA
open Go.RowKit Go.Proofs.YtehfcnndjhjkoaaW.PrintWords Go.Proofs.YtehfcnndjhjkoaaW.PrintLast Go.Proofs.YtehfcnndjhjkoaaW.PrintMore
set_option linter.unusedVariables false
set_option linter.unusedSimpArgs false
section
variable {P : Program} {ops : Array Oper} {rest : List Oper} {o : Oper} {a : Act} {Q : Exit → Act → World → Prop}
theorem Sx.appendRows {w W : World} {Ts : List Th} (h : Sx w W Ts) (i : Nat) {v : Value} {xs : List Int} (hi : Ts[i]? = some (.row v xs)) (n N : Nat) (hn : xs.length = n) (hgd : o.guard = none) (s y : Operand)
    (ho : o.op = .call { callee := .builtin .append, args := #[s, y], argTypes := #[22, 22] }) (ht : P.underlying 22 = some (.slice 3)) (hinfo : (P.info? 3).map (fun i => (i.zero, i.size, i.bytes)) = some (some (.int .i64 0), 1, 8))
    (A : Option Addr) (m c : Nat) (ys zs : List Int) (hs : a.eval s = v) (hy : a.eval y = .slice A m c) (hm : ys.length = m) (hC : Kd.C (Kd.int .i64) W A ys.length ys) (hN : n + m = N) (hz : xs ++ ys = zs) (hl : N ≤ 1000000)
    (hK : ∀ B d w1, Sx w w1 (Ts.set i (.row (.slice B N d) zs)) → wpList P ops Q rest (a.put o.dst (.slice B N d)) w1) : wpList P ops Q (o :: rest) a W := by
  subst hn hm hN hz
  refine Kd.R_append_rows (Kd.int .i64) (w0 := W) w.heap.size hgd s y 22 3 (.int .i64 0) 8 ho ht hinfo rfl (by decide) (by decide) v xs ys A ys.length c (fun _ => True) (fun _ => False) hs hy (h.row i hi) hC (fun _ _ h => h) (fun _ h => h.elim) (fun _ _ => trivial) ((Below.refl W.heap.size W).mono h.below.size) h.below.size (by omega) ?_
  intro v1 w1 hr hb hg hat
  obtain ⟨B, d, rfl⟩ := Kd.R_slice hr
  have := hK B d w1 (by
    have := h.grow i hi hr hg hat
    rw [List.length_append] at this; exact this)
  rw [List.length_append]; exact this
end
end Go.Proofs.Ytehfcnndjhjkoaa.PA

namespace Go.Proofs.Ytehfcnndjhjkoaa.PA
open Go.RowKit Go.Proofs.YtehfcnndjhjkoaaW.PrintWords Go.Proofs.YtehfcnndjhjkoaaW.PrintLast Go.Proofs.YtehfcnndjhjkoaaW.PrintMore
set_option linter.unusedVariables false
set_option linter.unusedSimpArgs false
theorem Sx.cellOf {w W : World} {Ts : List Th} (h : Sx w W Ts) (i : Nat) {A : Option Addr} {n c : Nat} {xs : List Int} (hi : Ts[i]? = some (.row (.slice A n c) xs)) (j : Nat) (hj : j < xs.length) : ∃ g, A = some ⟨g, 0, none⟩ ∧ W.cell? ⟨g, j, none⟩ = some (.int .i64 (rd xs (j : Int))) ∧ W.frozen? ⟨g, j, none⟩ = false := by
  have hr := h.row i hi
  obtain ⟨g, cap, e, _, _, _⟩ := Kd.R_form hr (by omega)
  injection e with e1 e2 e3
  subst e1 e2 e3
  have := Kd.R_cell (0 : Int) (enc := Value.int .i64) hr (j : Int) (by omega) (by omega)
  rw [Int.toNat_natCast] at this
  exact ⟨g, rfl, this.1, this.2⟩
section
variable {P : Program} {ops : Array Oper} {rest : List Oper} {o : Oper} {a : Act} {Q : Exit → Act → World → Prop}
theorem run_store_at {W : World} {ty : TypeId} {g j : Nat} {u v : Value} (hcell : W.cell? ⟨g, j, none⟩ = some u) (hfr : W.frozen? ⟨g, j, none⟩ = false) (h1 : v.oneCell' = true) (hi : (P.info? ty).map (·.size) = some 1) :
    (storeVar ty ⟨g, j, none⟩ v).run P W = .ok () (W.setCell ⟨g, j, none⟩ v) := by
  have hcs : v.cells = #[v] := by cases v <;> first | rfl | cases h1
  cases hq : P.info? ty with
  | none => simp [hq] at hi
  | some i =>
    have hs : i.size = 1 := by simpa [hq] using hi
    have hadd : ∀ m, (⟨g, j, none⟩ : Addr).add m = ⟨g, j + m, none⟩ := fun m => by unfold Addr.add; split <;> simp_all
    simp [storeVar, sizeOf, typeInfo, hq, hcs, hs, storeCells, hadd, run_store P W _ v _ h1, hcell, hfr]
/-- A store into an element of a row of the list. -/
theorem Sx.storeAt {w W : World} {Ts : List Th} (h : Sx w W Ts) (i : Nat) {g n c : Nat} {xs : List Int} (hi : Ts[i]? = some (.row (.slice (some ⟨g, 0, none⟩) n c) xs)) (hgd : o.guard = none) (ty : TypeId) (x y : Operand) (ho : o.op = .store ty x y) (j : Nat) (hj : j < xs.length)
    (hx : a.eval x = .pointer (some ⟨g, j, none⟩)) (z : Int) (hy : a.eval y = .int .i64 z) (hsz : (P.info? ty).map (·.size) = some 1)
    (hK : ∀ w1, Sx w w1 (Ts.set i (.row (.slice (some ⟨g, 0, none⟩) n c) (xs.set j z))) → But1 g W w1 → wpList P ops Q rest (a.put o.dst undef) w1) : wpList P ops Q (o :: rest) a W := by
  obtain ⟨g', e, hc, hf⟩ := h.cellOf i hi j hj
  cases e
  refine wpList_plain hgd fun K hK' => ?_
  unfold Oper.wp execOp
  simp only [ho, hx, hy, Instr.storeAt, Instr.sureAddr, Sem.run_bind, Sem.run_pure, Result.andThen_ok, run_store_at hc hf (show (Value.int .i64 z).oneCell' = true from rfl) hsz]
  refine hK' _ _ (hK _ ?_ (But1.set1 g j W _))
  have hr := h.row i hi
  obtain ⟨rfl, _, _⟩ := Kd.R_reads' hr
  have := Kd.R_put (enc := Value.int .i64) hr (j : Int) z
  rw [Int.toNat_natCast] at this
  exact h.grow i hi this.1 this.2 (.inl rfl)
end
end Go.Proofs.Ytehfcnndjhjkoaa.PA

namespace Go.Proofs.Ytehfcnndjhjkoaa.PA
open Go.RowKit Go.Proofs.YtehfcnndjhjkoaaW.PrintWords Go.Proofs.YtehfcnndjhjkoaaW.PrintLast Go.Proofs.YtehfcnndjhjkoaaW.PrintMore
set_option linter.unusedVariables false
set_option linter.unusedSimpArgs false
theorem shapeOk_len (k n : Nat) (A : Option Addr) (c : Nat) (l : List Int) (r : Int × Bool) (w : World) (h : Kd.C (Kd.int .i64) w A l.length l) (hc : l.length ≤ c) (hn : l.length = n) (hf : impl_shapeOk.f k l = some r) :
    Calls Try.prog 94 #[.slice A n c] w fun e w' => e = .returned (.tuple #[.int .i64 r.1, .bool r.2]) ∧ Below w.heap.size w w' := by
  subst hn
  exact (impl_shapeOk.calls k A c l r.1 r.2 w h hc hf).mono fun _ _ h => ⟨h.1, h.2.below⟩
end Go.Proofs.Ytehfcnndjhjkoaa.PA

namespace Go.Proofs.Ytehfcnndjhjkoaa.PA
open Go.RowKit Go.Proofs.YtehfcnndjhjkoaaW.PrintWords Go.Proofs.YtehfcnndjhjkoaaW.PrintLast Go.Proofs.YtehfcnndjhjkoaaW.PrintMore
set_option linter.unusedVariables false
set_option linter.unusedSimpArgs false
theorem wpList_guardedB {P : Program} {ops : Array Oper} {Q : Exit → Act → World → Prop} {a : Act} {w : World} {rest : List Oper} {dst : Option Tmp} {op : Op} {type : TypeId} {pos : String} {after : Array Edge} {g : Nat × Bool}
    (hw : Region.wanted ⟨dst, op, type, pos, after, some g⟩ (yielded ops a.tmps) = true) (h : wpList P ops Q (⟨dst, op, type, pos, after, none⟩ :: rest) a w) : wpList P ops Q (⟨dst, op, type, pos, after, some g⟩ :: rest) a w := by
  simp only [wpList] at h ⊢
  rw [if_pos hw]
  rw [if_pos (by rfl)] at h
  exact h
theorem lit_step {P : Program} {ops : Array Oper} {o : Oper} {a : Act} {Q : Exit → Act → World → Prop} {K : Act → World → Prop} {W : World} {N : Option Tmp} (hw : Region.wanted o (yielded ops a.tmps) = true) (hN : o.dst = N) (cs : Array Value) (t : TypeId) (n : Nat)
    (hrun : (execOp a.eval o).run P W = .ok (.value (.slice (some ⟨W.heap.size, 0, none⟩) n n)) (W.alloc (.cells cs t (0, 0))))
    (h : ∀ g w1, W.heap.size = g → w1.heap[g]? = some (.cells cs t (0, 0)) → Below W.heap.size W w1 → K (a.put N (.slice (some ⟨g, 0, none⟩) n n)) w1) : if Region.wanted o (yielded ops a.tmps) = true then Oper.wp P o a W K Q else K (a.put N undef) W :=
  value_ hw hN hrun (h _ _ rfl (blk_new W _) (below_alloc (Below.refl _ _) _))
theorem Sx.appendRows_step {P : Program} {ops : Array Oper} {o : Oper} {a : Act} {Q : Exit → Act → World → Prop} {Kc : Act → World → Prop} {w W : World} {Ts : List Th} (h : Sx w W Ts) (i : Nat) {v : Value} {xs : List Int} (hi : Ts[i]? = some (.row v xs)) (n N : Nat) (hn : xs.length = n) (hw : Region.wanted o (yielded ops a.tmps) = true) (s y : Operand)
    (ho : o.op = .call { callee := .builtin .append, args := #[s, y], argTypes := #[22, 22] }) (ht : P.underlying 22 = some (.slice 3)) (hinfo : (P.info? 3).map (fun i => (i.zero, i.size, i.bytes)) = some (some (.int .i64 0), 1, 8))
    (A : Option Addr) (m c : Nat) (ys zs : List Int) (hs : a.eval s = v) (hy : a.eval y = .slice A m c) (hm : ys.length = m) (hC : Kd.C (Kd.int .i64) W A ys.length ys) (hN : n + m = N) (hz : xs ++ ys = zs) (hl : N ≤ 1000000)
    (hK : ∀ B d w1, Sx w w1 (Ts.set i (.row (.slice B N d) zs)) → Kc (a.put o.dst (.slice B N d)) w1) : if Region.wanted o (yielded ops a.tmps) = true then Oper.wp P o a W Kc Q else Kc (a.put o.dst undef) W := by
  subst hn hm hN hz
  refine Kd.R_append_rows_step (Kd.int .i64) (w0 := W) w.heap.size hw s y 22 3 (.int .i64 0) 8 ho ht hinfo rfl (by decide) (by decide) v xs ys A ys.length c (fun _ => True) (fun _ => False) hs hy (h.row i hi) hC (fun _ _ h => h) (fun _ h => h.elim) (fun _ _ => trivial) ((Below.refl W.heap.size W).mono h.below.size) h.below.size (by omega) ?_
  intro v1 w1 hr hb hg hat
  obtain ⟨B, d, rfl⟩ := Kd.R_slice hr
  have := hK B d w1 (by
    have := h.grow i hi hr hg hat
    rw [List.length_append] at this; exact this)
  rw [List.length_append]; exact this
theorem repeat_len (A : Option Addr) (c n : Nat) (l : List Int) (w : World) (hC : Kd.C (Kd.int .i64) w A l.length l) (h1 : l.length = 1) (hn : n ≤ 20000) :
    Calls Try.prog 127 #[.slice A l.length c, .int .i64 (n : Int)] w fun e w' => ∃ v, e = .returned v ∧ Kd.R (Kd.int .i64) 3 w' w.heap.size (fun _ => True) v (List.replicate n (rd l 0)) ∧ Below w.heap.size w w' := by
  obtain ⟨x, rfl⟩ := List.length_eq_one_iff.1 h1
  exact repeat_any x A c n w hC hn
theorem store_named_step {P : Program} {ops : Array Oper} {o : Oper} {a : Act} {Q : Exit → Act → World → Prop} {Kc : Act → World → Prop} {W : World} (hw : Region.wanted o (yielded ops a.tmps) = true) (ty : TypeId) (x y : Operand) (ho : o.op = .store ty x y)
    (g : Nat) (cells : Array Value) (hx : a.eval x = .pointer (some ⟨g, 0, none⟩)) (hy : a.eval y = .agg cells)
    (t : TypeId) (old : Array Value) (hg : W.heap[g]? = some (.cells old t (0, 0))) (hi : (P.info? ty).map (·.size) = some cells.size)
    (hold : old.size = cells.size) (h1 : cells.all (·.oneCell') = true)
    (h : ∀ w1, w1.heap[g]? = some (.cells cells t (0, 0)) → But1 g W w1 → Kc (a.put o.dst undef) w1) : if Region.wanted o (yielded ops a.tmps) = true then Oper.wp P o a W Kc Q else Kc (a.put o.dst undef) W := by
  rw [if_pos hw]
  exact wp_store_row ty x y ho g cells hx hy t old hg hi hold h1 (h _ (setRow_heap _ g _ _ _ _ hg) ⟨fun k hk => setRow_other _ g k _ hk, fun B hB => below_setRow (Below.refl B W) hB _⟩)
end Go.Proofs.Ytehfcnndjhjkoaa.PA

namespace Go.Proofs.Ytehfcnndjhjkoaa.PA
open Go.RowKit Go.Proofs.YtehfcnndjhjkoaaW.PrintWords Go.Proofs.YtehfcnndjhjkoaaW.PrintLast Go.Proofs.YtehfcnndjhjkoaaW.PrintMore
set_option linter.unusedVariables false
set_option linter.unusedSimpArgs false
theorem srcGo_app (f : Nat → Int → Int) : ∀ (a b : List Int) (k : Nat), srcGo f k (a ++ b) = srcGo f k a ++ srcGo f (k + a.length) b
  | [], b, k => by simp [srcGo]
  | x :: a, b, k => by simp [srcGo, srcGo_app f a b, Nat.add_assoc, Nat.add_comm 1]
theorem srcGo_id (f : Nat → Int → Int) : ∀ (a : List Int) (k : Nat), (∀ j, k ≤ j → j < k + a.length → ∀ i, f j i = i) → srcGo f k a = a
  | [], _, _ => rfl
  | x :: a, k, h => by
    simp only [srcGo]
    rw [h k (Nat.le_refl _) (by simp), srcGo_id f a (k + 1) (fun j h1 h2 => h j (by omega) (by simp; omega))]
theorem srcGo_rd (f : Nat → Int → Int) : ∀ (c : List Int) (k j : Nat), j < c.length → rd (srcGo f k c) (j : Int) = f (k + j) (rd c (j : Int))
  | a :: c, k, 0, _ => by simp [srcGo, rd]
  | a :: c, k, j + 1, h => by
    have := srcGo_rd f c (k + 1) j (by simpa using h)
    simp only [rd, Int.toNat_natCast, srcGo, List.getD_cons_succ] at this ⊢
    rw [this, Nat.add_assoc, Nat.add_comm 1]
theorem thrGo_all (sh : List Int) (f : Nat → Int → Int) : ∀ (c : List Int) (k : Nat), (∀ j : Nat, j < c.length → 0 ≤ f (k + j) (rd c (j : Int)) ∧ f (k + j) (rd c (j : Int)) ≤ wrap64 (rd sh ((k + j : Nat) : Int) - 1)) → thrGo sh f k true c = true
  | [], _, _ => rfl
  | a :: c, k, h => by
    have h0 := h 0 (by simp)
    have e : rd (a :: c) ((0 : Nat) : Int) = a := by simp [rd]
    rw [e, Nat.add_zero] at h0
    simp only [thrGo, h0, and_self, decide_true, Bool.and_true]
    refine thrGo_all sh f c (k + 1) fun j hj => ?_
    have := h (j + 1) (by simpa using hj)
    rw [show k + (j + 1) = k + 1 + j by omega, show rd (a :: c) ((j + 1 : Nat) : Int) = rd c (j : Int) by simp only [rd, Int.toNat_natCast, List.getD_cons_succ]] at this
    exact this
theorem hor_digs_n : ∀ (l : Nat) (s : List Int) (c n : Int), s.length = l → (∀ a ∈ s, 1 ≤ a) → 0 ≤ c → c < prod s → hor n s (digs s c) = n * prod s + c
  | 0, s, c, n, hn, _, h0, h1 => by
    obtain rfl := List.eq_nil_of_length_eq_zero hn
    simp [prod] at h1
    simp [digs_nil, hor, prod]; omega
  | l + 1, s, c, n, hn, hs, h0, h1 => by
    obtain ⟨p, a, rfl, hp⟩ := snocI hn
    have ha := hs a (by simp)
    rw [prod_snoc] at h1
    rw [digs_snoc, hor_app _ _ _ _ _ (digs_len _ _).symm, hor_digs_n l p (c / a) n hp (fun x hx => hs x (by simp [hx])) (Int.ediv_nonneg h0 (by omega)) (div_lt ha h1), hor_one, prod_snoc]
    have := Int.emod_add_mul_ediv c a
    rw [Int.add_mul, Int.mul_assoc]
    rw [Int.mul_comm] at this
    omega
/-- The product of the numbers that are not 0. -/
def pz : List Int → Int
  | [] => 1
  | a :: t => if a = 0 then pz t else a * pz t
theorem pz_pos : ∀ {l : List Int}, (∀ a ∈ l, 0 ≤ a) → 1 ≤ pz l
  | [], _ => by simp [pz]
  | a :: t, h => by
    have h1 := pz_pos (l := t) (fun x hx => h x (by simp [hx]))
    have h2 := h a (by simp)
    simp only [pz]
    split
    · exact h1
    · have := Int.mul_le_mul (show 1 ≤ a by omega) h1 (by omega) (by omega); simpa using this
theorem pz_app : ∀ (a b : List Int), pz (a ++ b) = pz a * pz b
  | [], b => by simp [pz]
  | x :: a, b => by simp only [List.cons_append, pz, pz_app a b]; split <;> simp [Int.mul_assoc]
theorem prod_le_pz : ∀ {l : List Int}, (∀ a ∈ l, 0 ≤ a) → prod l ≤ pz l
  | [], _ => by simp [prod, pz]
  | a :: t, h => by
    have h1 := prod_le_pz (l := t) (fun x hx => h x (by simp [hx]))
    have h2 := h a (by simp)
    have h3 := pz_pos (l := t) (fun x hx => h x (by simp [hx]))
    simp only [prod, pz]
    split
    · rename_i e; simp [e]; omega
    · exact Int.mul_le_mul_of_nonneg_left h1 h2
theorem shGo_pz : ∀ (l : List Int) (f : Int), 1 ≤ f → shGo f l = true → f * pz l ≤ 10000 ∨ l.all (· == 0) = true
  | [], f, hf, h => .inr rfl
  | a :: t, f, hf, h => by
    have hr := shGo_range h a (by simp)
    simp only [shGo, Bool.and_eq_true, decide_eq_true_eq] at h
    by_cases ha : a = 0
    · subst ha
      simp only [if_true] at h
      rcases shGo_pz t f hf h.2 with h1 | h1
      · left; simpa [pz] using h1
      · right; simpa using h1
    · rw [if_neg ha] at h; simp only [Bool.and_eq_true, decide_eq_true_eq] at h
      have hf1 : 1 ≤ f * a := by have := Int.mul_le_mul hf (show 1 ≤ a by omega) (by omega) (by omega); simpa using this
      left
      simp only [pz, if_neg ha]
      rcases shGo_pz t (f * a) hf1 h.2.2 with h1 | h1
      · rw [← Int.mul_assoc]; exact h1
      · have e : pz t = 1 := by
          clear h hr
          induction t with
          | nil => rfl
          | cons x t ih => simp only [List.all_cons, Bool.and_eq_true, beq_iff_eq] at h1; simp only [pz, h1.1, if_true]; exact ih h1.2
        rw [e, Int.mul_one]; exact h.2.1
theorem shOk_pz {l : List Int} (h : shOk l = true) : pz l ≤ 10000 := by
  simp only [shOk, Bool.and_eq_true, decide_eq_true_eq] at h
  rcases shGo_pz l 1 (by omega) h.2 with h1 | h1
  · simpa using h1
  · have e : pz l = 1 := by
      clear h
      induction l with
      | nil => rfl
      | cons x t ih => simp only [List.all_cons, Bool.and_eq_true, beq_iff_eq] at h1; simp only [pz, h1.1, if_true]; exact ih h1.2
    omega
/-- A part of a shape. -/
theorem shOk_part {P Q : List Int} (h : shOk (P ++ Q) = true) : (0 ≤ prod P ∧ prod P ≤ 10000) ∧ (0 ≤ prod Q ∧ prod Q ≤ 10000) := by
  have hr : ∀ a ∈ P ++ Q, 0 ≤ a := fun a ha => by
    simp only [shOk, Bool.and_eq_true, decide_eq_true_eq] at h; exact (shGo_range h.2 a ha).1
  have hz := shOk_pz h
  rw [pz_app] at hz
  have hP := pz_pos (l := P) (fun x hx => hr x (by simp [hx]))
  have hQ := pz_pos (l := Q) (fun x hx => hr x (by simp [hx]))
  have p1 := prod_le_pz (l := P) (fun x hx => hr x (by simp [hx]))
  have q1 := prod_le_pz (l := Q) (fun x hx => hr x (by simp [hx]))
  have a1 := Int.mul_le_mul_of_nonneg_left hQ (show 0 ≤ pz P by omega)
  have a2 := Int.mul_le_mul_of_nonneg_right hP (show 0 ≤ pz Q by omega)
  exact ⟨⟨prod_nonneg (fun x hx => hr x (by simp [hx])), by omega⟩, ⟨prod_nonneg (fun x hx => hr x (by simp [hx])), by omega⟩⟩
theorem digs_three (P Q : List Int) (m c : Int) (hQ : ∀ a ∈ Q, 1 ≤ a) : digs (P ++ [m] ++ Q) c = digs P (c / prod Q / m) ++ [c / prod Q % m] ++ digs Q (c % prod Q) := by
  rw [digs_app Q.length (P ++ [m]) Q c rfl hQ, digs_snoc]
  congr 1
  have e : c = (c / prod Q) * prod Q + c % prod Q := by have := Int.emod_add_mul_ediv c (prod Q); rw [Int.mul_comm] at this; omega
  exact (congrArg (digs Q) e).trans (digs_mod Q.length Q (c / prod Q) (c % prod Q) rfl hQ)
theorem rd_app_l (p q : List Int) (k : Nat) (h : k < p.length) : rd (p ++ q) (k : Int) = rd p (k : Int) := by
  simp only [rd, Int.toNat_natCast, List.getD_eq_getElem?_getD]; rw [List.getElem?_append_left h]
theorem rd_app_r (p q : List Int) (k : Nat) (h : p.length ≤ k) : rd (p ++ q) (k : Int) = rd q ((k - p.length : Nat) : Int) := by
  simp only [rd, Int.toNat_natCast, List.getD_eq_getElem?_getD]; rw [List.getElem?_append_right h]
/-- One axis changed: the number of the element that is taken. -/
theorem from_one (P Q : List Int) (m n : Int) (f : Nat → Int → Int) (F : Int → Int) (hs : ∀ a ∈ P ++ [m] ++ Q, 0 ≤ a ∧ a ≤ 10000) (hsn : prod (P ++ [n] ++ Q) ≤ 10000)
    (hn : n ≤ 10000) (hF : ∀ i, 0 ≤ i → i < m → 0 ≤ F i ∧ F i < n) (hf : ∀ k i, f k i = if k = P.length then F i else i) (t : Nat) (ht : (t : Int) < prod (P ++ [m] ++ Q)) :
    fromOne (P ++ [n] ++ Q) f (idxL (P ++ [m] ++ Q) t) = ((t : Int) / prod Q / m * n + F ((t : Int) / prod Q % m)) * prod Q + (t : Int) % prod Q := by
  have hpos := pos_of_prod (fun x hx => (hs x hx).1) (show 0 < prod (P ++ [m] ++ Q) by omega)
  have hP : ∀ a ∈ P, 1 ≤ a := fun a ha => hpos a (by simp [ha])
  have hQ : ∀ a ∈ Q, 1 ≤ a := fun a ha => hpos a (by simp [ha])
  have hm : 1 ≤ m := hpos m (by simp)
  have hF0 := hF 0 (by omega) (by omega)
  have hn1 : 1 ≤ n := by omega
  have hq := prod_pos hQ
  have hp := prod_pos hP
  rw [idxL_of hs ht, digs_three P Q m t hQ]
  have i0 := Int.emod_nonneg ((t : Int) / prod Q) (show m ≠ 0 by omega)
  have i1 := Int.emod_lt_of_pos ((t : Int) / prod Q) (show 0 < m by omega)
  have q0 := Int.emod_nonneg (t : Int) (show prod Q ≠ 0 by omega)
  have q1 := Int.emod_lt_of_pos (t : Int) (show 0 < prod Q by omega)
  have p0 : 0 ≤ (t : Int) / prod Q / m := Int.ediv_nonneg (Int.ediv_nonneg (by omega) (by omega)) (by omega)
  have p1 : (t : Int) / prod Q / m < prod P := by
    rw [prod_app, prod_snoc] at ht
    exact div_lt hm (div_lt hq ht)
  generalize hi : (t : Int) / prod Q % m = i at *
  generalize hpp : (t : Int) / prod Q / m = p at *
  generalize hqq : (t : Int) % prod Q = q at *
  have hFi := hF i i0 i1
  have hsrc : srcGo f 0 (digs P p ++ [i] ++ digs Q q) = digs P p ++ [F i] ++ digs Q q := by
    rw [srcGo_app, srcGo_app, srcGo_id f (digs P p) 0 (fun j _ h2 x => by rw [digs_len] at h2; rw [hf, if_neg (by omega)])]
    rw [srcGo_id f (digs Q q) _ (fun j h1 _ x => by simp [digs_len] at h1; rw [hf, if_neg (by omega)])]
    simp [srcGo, digs_len, hf]
  have hlen : (digs P p ++ [F i] ++ digs Q q).length = (P ++ [n] ++ Q).length := by simp [digs_len]
  have hsh : ∀ a ∈ P ++ [n] ++ Q, 1 ≤ a := fun a ha => by
    simp only [List.append_assoc, List.mem_append, List.mem_singleton] at ha
    rcases ha with h | h | h
    · exact hP a h
    · omega
    · exact hQ a h
  have hrange : ∀ k : Nat, k < (digs P p ++ [F i] ++ digs Q q).length → 0 ≤ rd (digs P p ++ [F i] ++ digs Q q) (k : Int) ∧ rd (digs P p ++ [F i] ++ digs Q q) (k : Int) < rd (P ++ [n] ++ Q) (k : Int) := fun k hk => by
    rw [List.append_assoc, List.append_assoc]
    rcases Nat.lt_or_ge k P.length with h1 | h1
    · rw [rd_app_l _ _ _ (by rw [digs_len]; exact h1), rd_app_l _ _ _ h1]
      exact digs_range P.length P p rfl hP p0 k h1
    · rw [rd_app_r _ _ _ (by rw [digs_len]; exact h1), rd_app_r _ _ _ h1, digs_len]
      rcases Nat.eq_or_lt_of_le h1 with h2 | h2
      · rw [← h2, Nat.sub_self]; simp only [rd]; simpa using hFi
      · rw [rd_app_r _ _ _ (by simp; omega), rd_app_r _ _ _ (by simp; omega)]
        refine digs_range Q.length Q q rfl hQ q0 _ ?_
        simp [digs_len] at hk ⊢; omega
  have hwr : ∀ k : Nat, wrap64 (rd (P ++ [n] ++ Q) (k : Int) - 1) = rd (P ++ [n] ++ Q) (k : Int) - 1 := fun k => by
    have hb : -9 ≤ rd (P ++ [n] ++ Q) (k : Int) ∧ rd (P ++ [n] ++ Q) (k : Int) ≤ 10000 := by
      by_cases hk : k < (P ++ [n] ++ Q).length
      · have hmem : rd (P ++ [n] ++ Q) (k : Int) ∈ P ++ [n] ++ Q := by
          simp only [rd, Int.toNat_natCast, List.getD_eq_getElem?_getD, List.getElem?_eq_getElem hk, Option.getD_some]; exact List.getElem_mem hk
        have h1 := hsh _ hmem
        generalize rd (P ++ [n] ++ Q) (k : Int) = z at hmem h1 ⊢
        simp only [List.append_assoc, List.mem_append, List.mem_singleton] at hmem
        rcases hmem with h | h | h
        · have := (hs z (by simp [h])).2; omega
        · omega
        · have := (hs z (by simp [h])).2; omega
      · rw [show rd (P ++ [n] ++ Q) (k : Int) = 0 by simp only [rd, Int.toNat_natCast, List.getD_eq_getElem?_getD]; rw [List.getElem?_eq_none (by omega)]; rfl]; omega
    exact w64 (by omega) (by omega)
  have hthr : thrGo (P ++ [n] ++ Q) f 0 true (digs P p ++ [i] ++ digs Q q) = true := by
    refine thrGo_all _ f _ 0 fun j hj => ?_
    have hj' : j < (digs P p ++ [F i] ++ digs Q q).length := by simpa using hj
    have h1 := hrange j hj'
    rw [← hsrc, srcGo_rd f _ 0 j hj] at h1
    rw [show ((0 + j : Nat) : Int) = (j : Int) by simp, hwr]
    exact ⟨h1.1, by omega⟩
  have hnum : numGo (P ++ [n] ++ Q) 0 0 (digs P p ++ [F i] ++ digs Q q) = (p * n + F i) * prod Q + q := by
    have := numGo_hor (P ++ [n] ++ Q) hsh (by omega) (digs P p ++ [F i] ++ digs Q q) [] (P ++ [n] ++ Q) 0 rfl hlen.symm (by omega) (by simp [prod]) hrange
    simp only [List.length_nil] at this
    rw [this, hor_app _ _ _ _ _ (by simp [digs_len]), hor_app _ _ _ _ _ (digs_len _ _).symm, hor_digs P.length P p rfl hP p0 p1, hor_one, hor_digs_n Q.length Q q _ rfl hQ q0 q1]
  unfold fromOne
  rw [if_pos hthr, hsrc, hnum]
end Go.Proofs.Ytehfcnndjhjkoaa.PA

-- By a program (prt.py, over the print of the kit), for this claim. Not trusted: Lean checks it.
namespace Go.Proofs.Ytehfcnndjhjkoaa.PA
open Go.RowKit Go.Proofs.YtehfcnndjhjkoaaW.PrintWords Go.Proofs.YtehfcnndjhjkoaaW.PrintLast Go.Proofs.YtehfcnndjhjkoaaW.PrintMore
attribute [local go_sem] max2_int min2_int max_two min_two max_three min_three max_four min_four   -- for this text's walks alone
set_option linter.unusedVariables false
set_option linter.unusedSimpArgs false

/-! ### spec_l5List: function 71 -/
def spec_l5List.f (a0_0 : Bool) (l0_1 : List Int) (l0_2 : List Int) : Option (Int) := if (l0_1.length : Int) > 1 then (some 4) else (if a0_0 = true then (some 3) else (some 0))
set_option maxHeartbeats 8000000 in
set_option maxRecDepth 100000 in
theorem spec_l5List.calls (a0_0 : Bool) (A0_1 : Option Addr) (c0_1 : Nat) (l0_1 : List Int) (A0_2 : Option Addr) (c0_2 : Nat) (l0_2 : List Int) (r : Int) (w : World) (hr0_1 : Kd.C (Kd.int .i64) w A0_1 l0_1.length l0_1) (hc0_1 : l0_1.length ≤ c0_1) (hr0_2 : Kd.C (Kd.int .i64) w A0_2 l0_2.length l0_2) (hc0_2 : l0_2.length ≤ c0_2) (h : spec_l5List.f a0_0 l0_1 l0_2 = some r) :
    Calls Try.prog 71 #[.agg #[.bool a0_0, .slice A0_1 l0_1.length c0_1, .slice A0_2 l0_2.length c0_2]] w fun e w' => e = .returned (.int .i64 r) ∧ Below w.heap.size w w' := by
  have hu28 := Try.underlying28
  have HR0_1 := Aside0.mk hr0_1
  have HC0_1 := Aside0.mk hc0_1
  clear hr0_1 hc0_1
  have HR0_2 := Aside0.mk hr0_2
  have HC0_2 := Aside0.mk hc0_2
  clear hr0_2 hc0_2
  have HB := Aside0.mk (Below.refl w.heap.size w)
  have H : (if (l0_1.length : Int) > 1 then (some 4) else (if a0_0 = true then (some 3) else (some 0))) = some r := h
  clear h
  by_cases c2 : (l0_1.length : Int) > 1
  · rw [if_pos c2] at H
    have c2b0 : decide (1 < (l0_1.length : Int)) = true := decide_eq_true c2
    have c2b1 : decide (1 < l0_1.length) = true := decide_eq_true (by omega)
    clear c2
    obtain rfl := Option.some.inj H
    go_enter Try.func71, Try.ntmps71
    go_wp2_with (first | ((with_reducible refine gate_dst (N := 1) rfl ?_); refine box_event ?hg (N := 1) ?hd (cs := #[.bool a0_0, .slice A0_1 l0_1.length c0_1, .slice A0_2 l0_2.length c0_2]) (t := 28) ?hr ?_; (case hd => rfl); (case hg => rfl); (case hr => first | (go_simp; done) | (go_simp; rfl)); intro gb101 hg w3 hbox hb; have n0_ := Aside0.mk (below_step (by repeat (first | (with_reducible first | exact HB.out | apply below_alloc | apply pw_below_drewN | apply below_drew1) | exact HB.out)) hb); have n1_ := Aside0.mk (hbox); have n2_ := Aside0.mk ((by rw [hg]; exact (below_size (by repeat (first | (with_reducible first | exact HB.out | apply below_alloc | apply pw_below_drewN | apply below_drew1) | exact HB.out))) : w.heap.size ≤ gb101)); have n3_ := Aside0.mk ((by rw [hg]; exact (below_size (by repeat (first | (with_reducible first | exact HB.out | apply below_alloc | apply pw_below_drewN | apply below_drew1) | exact HB.out))) : w.heap.size ≤ gb101)); clear HB; have HB := n0_; have BK101 := n1_; have GW101 := n2_; have GE101 := n3_; clear n0_ n1_ n2_ n3_; clear hb hbox hg; have hcz4_0 : w3.cell? ⟨gb101, 0, none⟩ = some (.bool a0_0) := (blk_cell BK101.out 0).trans rfl; have hcz4_1 : w3.cell? ⟨gb101, 1, none⟩ = some (.slice A0_1 l0_1.length c0_1) := (blk_cell BK101.out 1).trans rfl; have hcz4_2 : w3.cell? ⟨gb101, 2, none⟩ = some (.slice A0_2 l0_2.length c0_2) := (blk_cell BK101.out 2).trans rfl; have hfz4_0 := blk_frozen BK101.out 0; have hfz4_1 := blk_frozen BK101.out 1; have hfz4_2 := blk_frozen BK101.out 2))
    go_ret
    exact ⟨by first | rfl | (simp [errW_none, errW_some] <;> rfl) | (simp [*, errW_none, errW_some] <;> rfl), by repeat (first | (with_reducible first | exact HB.out | apply below_alloc | apply pw_below_drewN | apply below_drew1 | refine below_set ?_ GE101.out) | exact HB.out)⟩
  · rw [if_neg c2] at H
    have c2b0 : decide (1 < (l0_1.length : Int)) = false := decide_eq_false c2
    have c2b1 : decide (1 < l0_1.length) = false := decide_eq_false (by omega)
    clear c2
    by_cases c5 : a0_0 = true
    · subst c5
      have H1 : (some 3) = some r := by rw [if_pos rfl] at H; exact H
      clear H
      have H := H1
      clear H1
      obtain rfl := Option.some.inj H
      go_enter Try.func71, Try.ntmps71
      go_wp2_with (first | ((with_reducible refine gate_dst (N := 1) rfl ?_); refine box_event ?hg (N := 1) ?hd (cs := #[.bool true, .slice A0_1 l0_1.length c0_1, .slice A0_2 l0_2.length c0_2]) (t := 28) ?hr ?_; (case hd => rfl); (case hg => rfl); (case hr => first | (go_simp; done) | (go_simp; rfl)); intro gb101 hg w6 hbox hb; have n0_ := Aside0.mk (below_step (by repeat (first | (with_reducible first | exact HB.out | apply below_alloc | apply pw_below_drewN | apply below_drew1) | exact HB.out)) hb); have n1_ := Aside0.mk (hbox); have n2_ := Aside0.mk ((by rw [hg]; exact (below_size (by repeat (first | (with_reducible first | exact HB.out | apply below_alloc | apply pw_below_drewN | apply below_drew1) | exact HB.out))) : w.heap.size ≤ gb101)); have n3_ := Aside0.mk ((by rw [hg]; exact (below_size (by repeat (first | (with_reducible first | exact HB.out | apply below_alloc | apply pw_below_drewN | apply below_drew1) | exact HB.out))) : w.heap.size ≤ gb101)); clear HB; have HB := n0_; have BK101 := n1_; have GW101 := n2_; have GE101 := n3_; clear n0_ n1_ n2_ n3_; clear hb hbox hg; have hcz7_0 : w6.cell? ⟨gb101, 0, none⟩ = some (.bool true) := (blk_cell BK101.out 0).trans rfl; have hcz7_1 : w6.cell? ⟨gb101, 1, none⟩ = some (.slice A0_1 l0_1.length c0_1) := (blk_cell BK101.out 1).trans rfl; have hcz7_2 : w6.cell? ⟨gb101, 2, none⟩ = some (.slice A0_2 l0_2.length c0_2) := (blk_cell BK101.out 2).trans rfl; have hfz7_0 := blk_frozen BK101.out 0; have hfz7_1 := blk_frozen BK101.out 1; have hfz7_2 := blk_frozen BK101.out 2))
      go_ret
      exact ⟨by first | rfl | (simp [errW_none, errW_some] <;> rfl) | (simp [*, errW_none, errW_some] <;> rfl), by repeat (first | (with_reducible first | exact HB.out | apply below_alloc | apply pw_below_drewN | apply below_drew1 | refine below_set ?_ GE101.out) | exact HB.out)⟩
    · replace c5 := Bool.eq_false_iff.mpr c5
      subst c5
      have H1 : (some 0) = some r := by rw [if_neg (show ¬ (false = true) by decide)] at H; exact H
      clear H
      have H := H1
      clear H1
      obtain rfl := Option.some.inj H
      go_enter Try.func71, Try.ntmps71
      go_wp2_with (first | ((with_reducible refine gate_dst (N := 1) rfl ?_); refine box_event ?hg (N := 1) ?hd (cs := #[.bool false, .slice A0_1 l0_1.length c0_1, .slice A0_2 l0_2.length c0_2]) (t := 28) ?hr ?_; (case hd => rfl); (case hg => rfl); (case hr => first | (go_simp; done) | (go_simp; rfl)); intro gb101 hg w8 hbox hb; have n0_ := Aside0.mk (below_step (by repeat (first | (with_reducible first | exact HB.out | apply below_alloc | apply pw_below_drewN | apply below_drew1) | exact HB.out)) hb); have n1_ := Aside0.mk (hbox); have n2_ := Aside0.mk ((by rw [hg]; exact (below_size (by repeat (first | (with_reducible first | exact HB.out | apply below_alloc | apply pw_below_drewN | apply below_drew1) | exact HB.out))) : w.heap.size ≤ gb101)); have n3_ := Aside0.mk ((by rw [hg]; exact (below_size (by repeat (first | (with_reducible first | exact HB.out | apply below_alloc | apply pw_below_drewN | apply below_drew1) | exact HB.out))) : w.heap.size ≤ gb101)); clear HB; have HB := n0_; have BK101 := n1_; have GW101 := n2_; have GE101 := n3_; clear n0_ n1_ n2_ n3_; clear hb hbox hg; have hcz9_0 : w8.cell? ⟨gb101, 0, none⟩ = some (.bool false) := (blk_cell BK101.out 0).trans rfl; have hcz9_1 : w8.cell? ⟨gb101, 1, none⟩ = some (.slice A0_1 l0_1.length c0_1) := (blk_cell BK101.out 1).trans rfl; have hcz9_2 : w8.cell? ⟨gb101, 2, none⟩ = some (.slice A0_2 l0_2.length c0_2) := (blk_cell BK101.out 2).trans rfl; have hfz9_0 := blk_frozen BK101.out 0; have hfz9_1 := blk_frozen BK101.out 1; have hfz9_2 := blk_frozen BK101.out 2))
      go_ret
      exact ⟨by first | rfl | (simp [errW_none, errW_some] <;> rfl) | (simp [*, errW_none, errW_some] <;> rfl), by repeat (first | (with_reducible first | exact HB.out | apply below_alloc | apply pw_below_drewN | apply below_drew1 | refine below_set ?_ GE101.out) | exact HB.out)⟩

end Go.Proofs.Ytehfcnndjhjkoaa.PA

namespace Go.Proofs.Ytehfcnndjhjkoaa.PA
open Go.RowKit Go.Proofs.YtehfcnndjhjkoaaW.PrintWords Go.Proofs.YtehfcnndjhjkoaaW.PrintLast Go.Proofs.YtehfcnndjhjkoaaW.PrintMore
set_option linter.unusedVariables false
set_option linter.unusedSimpArgs false
abbrev ArrAns := Bool × List Int × List Int × Int
def noArr (code : Int) : ArrAns := (false, [], [], code)
/-- The code of an array that should be a list of numbers. -/
def listC (b : Bool) (l1 : List Int) : Int := if (l1.length : Int) > 1 then 4 else if b = true then 3 else 0
theorem listOk_eq (b : Bool) (l1 l2 : List Int) : impl_listOk.f b l1 l2 = some (listC b l1) := by
  unfold impl_listOk.f impl_Array_rank.f listC
  simp only [Option.bind_some]
  split <;> first | rfl | (split <;> rfl)
theorem l5List_eq (b : Bool) (l1 l2 : List Int) : spec_l5List.f b l1 l2 = some (listC b l1) := by
  unfold spec_l5List.f listC
  split <;> first | rfl | (split <;> rfl)
/-- Lists short enough for the checks. -/
def okLens (l1 l2 m1 m2 : List Int) : Bool := decide (l1.length ≤ 35184372088832) && decide (l2.length ≤ 35184372088832) && decide (m1.length ≤ 35184372088832) && decide (m2.length ≤ 35184372088832)
theorem okLens_of {l1 l2 m1 m2 : List Int} (h1 : l1.length ≤ 35184372088832) (h2 : l2.length ≤ 35184372088832) (h3 : m1.length ≤ 35184372088832) (h4 : m2.length ≤ 35184372088832) : okLens l1 l2 m1 m2 = true := by
  simp [okLens, h1, h2, h3, h4]
end Go.Proofs.Ytehfcnndjhjkoaa.PA

-- By a program (prt.py, over the print of the kit), for this claim. Not trusted: Lean checks it.
namespace Go.Proofs.Ytehfcnndjhjkoaa.PA
open Go.RowKit Go.Proofs.YtehfcnndjhjkoaaW.PrintWords Go.Proofs.YtehfcnndjhjkoaaW.PrintLast Go.Proofs.YtehfcnndjhjkoaaW.PrintMore
attribute [local go_sem] max2_int min2_int max_two min_two max_three min_three max_four min_four   -- for this text's walks alone
set_option linter.unusedVariables false
set_option linter.unusedSimpArgs false

/-! ### spec_l4Axis: function 82 -/
mutual
def spec_l4Axis.j0 : Nat → List Int → Int → Option (Int × Int × Int)
  | 0, _, _ => none
  | k + 1, x0, x7 => spec_l4Axis.l0 k x0 x7 1 1 0
def spec_l4Axis.l0 : Nat → List Int → Int → Int → Int → Int → Option (Int × Int × Int)
  | 0, _, _, _, _, _ => none
  | k + 1, x0, x7, x8, x9, x10 => if x10 < (x0.length : Int) then (if x10 < x7 then (if 0 ≤ x10 then (if x10 > x7 then (spec_l4Axis.l0 k x0 x7 (wrap64 (x8 * (rd x0 x10))) (wrap64 (x9 * (rd x0 x10))) (wrap64 (x10 + 1))) else (spec_l4Axis.l0 k x0 x7 (wrap64 (x8 * (rd x0 x10))) x9 (wrap64 (x10 + 1)))) else (none)) else (if x10 > x7 then (if 0 ≤ x10 then (spec_l4Axis.l0 k x0 x7 x8 (wrap64 (x9 * (rd x0 x10))) (wrap64 (x10 + 1))) else (none)) else (spec_l4Axis.l0 k x0 x7 x8 x9 (wrap64 (x10 + 1))))) else (if 0 ≤ x7 then (if x7 < (x0.length : Int) then (some (x8, rd x0 x7, x9)) else (none)) else (none))
end
def spec_l4Axis.f (k : Nat) (l0 : List Int) (a1 : Bool) : Option (Int × Int × Int) := if a1 = true then (spec_l4Axis.j0 k l0 0) else (spec_l4Axis.j0 k l0 (wrap64 ((l0.length : Int) - 1)))
theorem spec_l4Axis.mono_l : ∀ k, (∀ y0 y1, LeO (spec_l4Axis.j0 k y0 y1) (spec_l4Axis.j0 (k + 1) y0 y1)) ∧ (∀ y0 y1 y2 y3 y4, LeO (spec_l4Axis.l0 k y0 y1 y2 y3 y4) (spec_l4Axis.l0 (k + 1) y0 y1 y2 y3 y4))
  | 0 => ⟨fun _ _ r h => by simp [spec_l4Axis.j0] at h, fun _ _ _ _ _ r h => by simp [spec_l4Axis.l0] at h⟩
  | k + 1 => by
    obtain ⟨ih0, ih1⟩ := spec_l4Axis.mono_l k
    refine ⟨?_, ?_⟩
    · intro y0 y1
      unfold spec_l4Axis.j0
      repeat' first
      | (with_reducible exact ih0 _ _)
      | (with_reducible exact ih1 _ _ _ _ _)
      | (with_reducible exact LeO.refl _)
      | (with_reducible exact LeO.none _)
      | (with_reducible refine LeO.ite ?_ ?_)
      | (with_reducible refine LeO.bind ?_ (fun _ => ?_))
      | exact ih0 _ _
      | exact ih1 _ _ _ _ _
      | exact LeO.none _
      | refine LeO.ite ?_ ?_
      | refine LeO.bind ?_ (fun _ => ?_)
    · intro y0 y1 y2 y3 y4
      unfold spec_l4Axis.l0
      repeat' first
      | (with_reducible exact ih0 _ _)
      | (with_reducible exact ih1 _ _ _ _ _)
      | (with_reducible exact LeO.refl _)
      | (with_reducible exact LeO.none _)
      | (with_reducible refine LeO.ite ?_ ?_)
      | (with_reducible refine LeO.bind ?_ (fun _ => ?_))
      | exact ih0 _ _
      | exact ih1 _ _ _ _ _
      | exact LeO.none _
      | refine LeO.ite ?_ ?_
      | refine LeO.bind ?_ (fun _ => ?_)
theorem spec_l4Axis.mono : ∀ a0 a1 k, LeO (spec_l4Axis.f k a0 a1) (spec_l4Axis.f (k + 1) a0 a1) := by
  intro a0 a1 k
  obtain ⟨ih0, ih1⟩ := spec_l4Axis.mono_l k
  unfold spec_l4Axis.f
  repeat' first
      | (with_reducible exact ih0 _ _)
      | (with_reducible exact ih1 _ _ _ _ _)
      | (with_reducible exact LeO.refl _)
      | (with_reducible exact LeO.none _)
      | (with_reducible refine LeO.ite ?_ ?_)
      | (with_reducible refine LeO.bind ?_ (fun _ => ?_))
      | exact ih0 _ _
      | exact ih1 _ _ _ _ _
      | exact LeO.none _
      | refine LeO.ite ?_ ?_
      | refine LeO.bind ?_ (fun _ => ?_)
set_option maxHeartbeats 8000000 in
set_option maxRecDepth 100000 in
theorem spec_l4Axis.calls (k : Nat) (A0 : Option Addr) (c0 : Nat) (l0 : List Int) (a1 : Bool) (r1 : Int) (r2 : Int) (r3 : Int) (w : World) (hr0 : Kd.C (Kd.int .i64) w A0 l0.length l0) (hc0 : l0.length ≤ c0) (h : spec_l4Axis.f k l0 a1 = some (r1, r2, r3)) :
    Calls Try.prog 82 #[.slice A0 l0.length c0, .bool a1] w fun e w' => e = .returned (.tuple #[.int .i64 r1, .int .i64 r2, .int .i64 r3]) ∧ Drawn0 w w' := by
  have HR0 := Aside0.mk hr0
  have HC0 := Aside0.mk hc0
  clear hr0 hc0
  have H : (if a1 = true then (spec_l4Axis.j0 k l0 0) else (spec_l4Axis.j0 k l0 (wrap64 ((l0.length : Int) - 1)))) = some (r1, r2, r3) := h
  clear h
  have HC3 := Aside0.mk H
  clear H
  go_enter Try.func82, Try.ntmps82
  go_upto_if 14 with (fail)
  repeat (go_quiet (fail); go_upto_if 14 with (fail))
  go_cut [7] (fun v7 wc => ∃ (kq : Nat) (x7_2 : Int), v7 = .int .i64 x7_2 ∧ Aside0 (spec_l4Axis.j0 kq l0 x7_2 = some (r1, r2, r3)) ∧ Aside0 (kq ≤ k) ∧ Drawn0 w wc)
  case first =>
    have H := HC3.out
    clear HC3
    by_cases c4 : a1 = true
    · subst c4
      have H1 : (spec_l4Axis.j0 k l0 0) = some (r1, r2, r3) := by rw [if_pos rfl] at H; exact H
      clear H
      have H := H1
      clear H1
      have H' := Aside0.mk H
      clear H
      go_wp2
      repeat (go_quiet (fail); try go_wp2)
      go_meet
      case rel => exact ⟨_, (0), (by first | rfl | (simp; done) | (simp [*]; done)), H', ⟨by first | omega | exact Nat.le_refl _⟩, by repeat (first | exact Drawn0.refl _ | apply Drawn0.step)⟩
    · replace c4 := Bool.eq_false_iff.mpr c4
      subst c4
      have H1 : (spec_l4Axis.j0 k l0 (wrap64 ((l0.length : Int) - 1))) = some (r1, r2, r3) := by rw [if_neg (show ¬ (false = true) by decide)] at H; exact H
      clear H
      have H := H1
      clear H1
      have H' := Aside0.mk H
      clear H
      go_wp2
      repeat (go_quiet (fail); try go_wp2)
      go_meet
      case rel => exact ⟨_, (wrap64 ((l0.length : Int) - 1)), (by first | rfl | (simp; done) | (simp [*]; done)), H', ⟨by first | omega | exact Nat.le_refl _⟩, by repeat (first | exact Drawn0.refl _ | apply Drawn0.step)⟩
  case rest =>
    clear HC3
    try clear p2
    try clear c4
    obtain ⟨kq, x7_2, rfl, HA, HJ2, ⟨mc2, rfl⟩⟩ := hcut
    cases kq with
    | zero => exact absurd HA.out (by simp [spec_l4Axis.j0])
    | succ kj2 =>
      have H := HA.out
      clear HA
      simp only [spec_l4Axis.j0] at H
      have H' := Aside0.mk H
      clear H
      go_wp2
      repeat (go_quiet (fail); try go_wp2)
      go_loopg [8, 9, 10] kj2 (fun kq v8 v9 v10 w' => ∃ (x8_2 : Int) (x9_2 : Int) (x10_2 : Int), v8 = .int .i64 x8_2 ∧ v9 = .int .i64 x9_2 ∧ v10 = .int .i64 x10_2 ∧ Aside0 (spec_l4Axis.l0 kq l0 x7_2 x8_2 x9_2 x10_2 = some (r1, r2, r3)) ∧ Aside0 (kq ≤ kj2) ∧ Drawn0 w w')
      case atStart => exact ⟨(1), (1), (0), (by first | rfl | (simp; done) | (simp [*]; done)), (by first | rfl | (simp; done) | (simp [*]; done)), (by first | rfl | (simp; done) | (simp [*]; done)), H', ⟨Nat.le_refl _⟩, by repeat (first | exact Drawn0.refl _ | apply Drawn0.step)⟩
      case round =>
        clear H'
        try clear c2
        try clear p2
        try clear c4
        try clear p2
        obtain ⟨x8_2, x9_2, x10_2, rfl, rfl, rfl, HA, HK2, ⟨m2, rfl⟩⟩ := hrel
        cases gk with
        | zero => exact absurd HA.out (by simp [spec_l4Axis.l0])
        | succ k2 =>
          have H := HA.out
          clear HA
          simp only [spec_l4Axis.l0] at H
          by_cases c5 : x10_2 < (l0.length : Int)
          · rw [if_pos c5] at H
            have c5b0 : decide (x10_2 < (l0.length : Int)) = true := decide_eq_true c5
            clear c5
            by_cases c6 : x10_2 < x7_2
            · rw [if_pos c6] at H
              have c6b0 : decide (x10_2 < x7_2) = true := decide_eq_true c6
              clear c6
              by_cases c7 : 0 ≤ x10_2
              · rw [if_pos c7] at H
                have c7b0 : decide (0 ≤ x10_2) = true := decide_eq_true c7
                clear c7
                by_cases c8 : x10_2 > x7_2
                · rw [if_pos c8] at H
                  have c8b0 : decide (x7_2 < x10_2) = true := decide_eq_true c8
                  clear c8
                  have H' := Aside0.mk H
                  clear H
                  have p102 : 0 ≤ (x10_2 : Int) := of_decide_eq_true (by first | (with_reducible assumption) | assumption)
                  have q102 : x10_2 < (l0.length : Int) := of_decide_eq_true (by first | (with_reducible assumption) | assumption)
                  obtain ⟨ad102, e102, hx102_0⟩ := Kd.at_int HR0.out x10_2 p102 q102
                  cases e102
                  replace p102 := eq_true p102
                  replace q102 := eq_true q102
                  have p103 : 0 ≤ (x10_2 : Int) := of_decide_eq_true (by first | (with_reducible assumption) | assumption)
                  have q103 : x10_2 < (l0.length : Int) := of_decide_eq_true (by first | (with_reducible assumption) | assumption)
                  obtain ⟨ad103, e103, hx103_0⟩ := Kd.at_int HR0.out x10_2 p103 q103
                  obtain rfl : ad102 = ad103 := (by injection e103)
                  replace p103 := eq_true p103
                  replace q103 := eq_true q103
                  go_wp2
                  repeat (go_quiet (fail); try go_wp2)
                  go_roundg k2
                  case measure => have := HJ2.out; have := HK2.out; omega
                  case rel => exact ⟨(wrap64 (x8_2 * (rd l0 x10_2))), (wrap64 (x9_2 * (rd l0 x10_2))), (wrap64 (x10_2 + 1)), (by first | rfl | (simp; done) | (simp [*]; done)), (by first | rfl | (simp; done) | (simp [*]; done)), (by first | rfl | (simp; done) | (simp [*]; done)), H', ⟨by have := HJ2.out; have := HK2.out; omega⟩, by repeat (first | exact Drawn0.refl _ | apply Drawn0.step)⟩
                · rw [if_neg c8] at H
                  have c8b0 : decide (x7_2 < x10_2) = false := decide_eq_false c8
                  clear c8
                  have H' := Aside0.mk H
                  clear H
                  have p102 : 0 ≤ (x10_2 : Int) := of_decide_eq_true (by first | (with_reducible assumption) | assumption)
                  have q102 : x10_2 < (l0.length : Int) := of_decide_eq_true (by first | (with_reducible assumption) | assumption)
                  obtain ⟨ad102, e102, hx102_0⟩ := Kd.at_int HR0.out x10_2 p102 q102
                  cases e102
                  replace p102 := eq_true p102
                  replace q102 := eq_true q102
                  go_wp2
                  repeat (go_quiet (fail); try go_wp2)
                  go_roundg k2
                  case measure => have := HJ2.out; have := HK2.out; omega
                  case rel => exact ⟨(wrap64 (x8_2 * (rd l0 x10_2))), (x9_2), (wrap64 (x10_2 + 1)), (by first | rfl | (simp; done) | (simp [*]; done)), (by first | rfl | (simp; done) | (simp [*]; done)), (by first | rfl | (simp; done) | (simp [*]; done)), H', ⟨by have := HJ2.out; have := HK2.out; omega⟩, by repeat (first | exact Drawn0.refl _ | apply Drawn0.step)⟩
              · rw [if_neg c7] at H
                exact absurd H (by simp)
            · rw [if_neg c6] at H
              have c6b0 : decide (x10_2 < x7_2) = false := decide_eq_false c6
              clear c6
              by_cases c9 : x10_2 > x7_2
              · rw [if_pos c9] at H
                have c9b0 : decide (x7_2 < x10_2) = true := decide_eq_true c9
                clear c9
                by_cases c10 : 0 ≤ x10_2
                · rw [if_pos c10] at H
                  have c10b0 : decide (0 ≤ x10_2) = true := decide_eq_true c10
                  clear c10
                  have H' := Aside0.mk H
                  clear H
                  have p104 : 0 ≤ (x10_2 : Int) := of_decide_eq_true (by first | (with_reducible assumption) | assumption)
                  have q104 : x10_2 < (l0.length : Int) := of_decide_eq_true (by first | (with_reducible assumption) | assumption)
                  obtain ⟨ad104, e104, hx104_0⟩ := Kd.at_int HR0.out x10_2 p104 q104
                  cases e104
                  replace p104 := eq_true p104
                  replace q104 := eq_true q104
                  go_wp2
                  repeat (go_quiet (fail); try go_wp2)
                  go_roundg k2
                  case measure => have := HJ2.out; have := HK2.out; omega
                  case rel => exact ⟨(x8_2), (wrap64 (x9_2 * (rd l0 x10_2))), (wrap64 (x10_2 + 1)), (by first | rfl | (simp; done) | (simp [*]; done)), (by first | rfl | (simp; done) | (simp [*]; done)), (by first | rfl | (simp; done) | (simp [*]; done)), H', ⟨by have := HJ2.out; have := HK2.out; omega⟩, by repeat (first | exact Drawn0.refl _ | apply Drawn0.step)⟩
                · rw [if_neg c10] at H
                  exact absurd H (by simp)
              · rw [if_neg c9] at H
                have c9b0 : decide (x7_2 < x10_2) = false := decide_eq_false c9
                clear c9
                have H' := Aside0.mk H
                clear H
                go_wp2
                repeat (go_quiet (fail); try go_wp2)
                go_roundg k2
                case measure => have := HJ2.out; have := HK2.out; omega
                case rel => exact ⟨(x8_2), (x9_2), (wrap64 (x10_2 + 1)), (by first | rfl | (simp; done) | (simp [*]; done)), (by first | rfl | (simp; done) | (simp [*]; done)), (by first | rfl | (simp; done) | (simp [*]; done)), H', ⟨by have := HJ2.out; have := HK2.out; omega⟩, by repeat (first | exact Drawn0.refl _ | apply Drawn0.step)⟩
          · rw [if_neg c5] at H
            have c5b0 : decide (x10_2 < (l0.length : Int)) = false := decide_eq_false c5
            clear c5
            by_cases c11 : 0 ≤ x7_2
            · rw [if_pos c11] at H
              have c11b0 : decide (0 ≤ x7_2) = true := decide_eq_true c11
              clear c11
              by_cases c12 : x7_2 < (l0.length : Int)
              · rw [if_pos c12] at H
                have c12b0 : decide (x7_2 < (l0.length : Int)) = true := decide_eq_true c12
                clear c12
                simp only [Option.some.injEq, Prod.mk.injEq] at H
                obtain ⟨rfl, rfl, rfl⟩ := H
                have p101 : 0 ≤ (x7_2 : Int) := of_decide_eq_true (by first | (with_reducible assumption) | assumption)
                have q101 : x7_2 < (l0.length : Int) := of_decide_eq_true (by first | (with_reducible assumption) | assumption)
                obtain ⟨ad101, e101, hx101_0⟩ := Kd.at_int HR0.out x7_2 p101 q101
                cases e101
                replace p101 := eq_true p101
                replace q101 := eq_true q101
                go_wp2
                repeat (go_quiet (fail); try go_wp2)
                go_ret3
                exact ⟨by first | rfl | (simp; done) | (simp [*]; done), by repeat (first | exact Drawn0.refl _ | apply Drawn0.step)⟩
              · rw [if_neg c12] at H
                exact absurd H (by simp)
            · rw [if_neg c11] at H
              exact absurd H (by simp)

end Go.Proofs.Ytehfcnndjhjkoaa.PA

-- By a program (prt.py, over the print of the kit), for this claim. Not trusted: Lean checks it.
namespace Go.Proofs.Ytehfcnndjhjkoaa.PA
open Go.RowKit Go.Proofs.YtehfcnndjhjkoaaW.PrintWords Go.Proofs.YtehfcnndjhjkoaaW.PrintLast Go.Proofs.YtehfcnndjhjkoaaW.PrintMore
attribute [local go_sem] max2_int min2_int max_two min_two max_three min_three max_four min_four   -- for this text's walks alone
set_option linter.unusedVariables false
set_option linter.unusedSimpArgs false

/-! ### spec_l4Mod: function 83 -/
def spec_l4Mod.f (a0 : Int) (a1 : Int) : Option (Int) := if a0 = 0 then (some a1) else (if (Int.tmod a1 a0) = 0 then (some (Int.tmod a1 a0)) else (if ((decide ((Int.tmod a1 a0) < 0)) != (decide (a0 < 0))) = true then (some (wrap64 ((Int.tmod a1 a0) + a0))) else (some (Int.tmod a1 a0))))

end Go.Proofs.Ytehfcnndjhjkoaa.PA

-- By a program (prt.py, over the print of the kit), for this claim. Not trusted: Lean checks it.
namespace Go.Proofs.Ytehfcnndjhjkoaa.PA
open Go.RowKit Go.Proofs.YtehfcnndjhjkoaaW.PrintWords Go.Proofs.YtehfcnndjhjkoaaW.PrintLast Go.Proofs.YtehfcnndjhjkoaaW.PrintMore
attribute [local go_sem] max2_int min2_int max_two min_two max_three min_three max_four min_four   -- for this text's walks alone
set_option linter.unusedVariables false
set_option linter.unusedSimpArgs false

/-! ### spec_l3Copy: function 81 -/
def spec_l3Copy.f (a0_0 : Bool) (l0_1 : List Int) (l0_2 : List Int) : Option (Bool × List Int × List Int) := (spec_l3Ints.f l0_1).bind fun t103 => ((spec_l3Ints.f l0_2).bind fun t106 => (some (a0_0, t103, t106)))
def spec_l3Copy.B1 : List Nat := [0, 1, 0, 4, 12, 0, 32, 124, 255, 511]

end Go.Proofs.Ytehfcnndjhjkoaa.PA

-- By a program (prt.py, over the print of the kit), for this claim. Not trusted: Lean checks it.
namespace Go.Proofs.Ytehfcnndjhjkoaa.PA
open Go.RowKit Go.Proofs.YtehfcnndjhjkoaaW.PrintWords Go.Proofs.YtehfcnndjhjkoaaW.PrintLast Go.Proofs.YtehfcnndjhjkoaaW.PrintMore
attribute [local go_sem] max2_int min2_int max_two min_two max_three min_three max_four min_four   -- for this text's walks alone
set_option linter.unusedVariables false
set_option linter.unusedSimpArgs false

/-! ### spec_l5Single: function 80 -/
def spec_l5Single.f (a0_0 : Bool) (l0_1 : List Int) (l0_2 : List Int) : Option (Int) := if (l0_2.length : Int) = 1 then (if a0_0 = true then (some 3) else (some 0)) else (some 5)

end Go.Proofs.Ytehfcnndjhjkoaa.PA

namespace Go.Proofs.Ytehfcnndjhjkoaa.PA
open Go.RowKit Go.Proofs.YtehfcnndjhjkoaaW.PrintWords Go.Proofs.YtehfcnndjhjkoaaW.PrintLast Go.Proofs.YtehfcnndjhjkoaaW.PrintMore
set_option linter.unusedVariables false
set_option linter.unusedSimpArgs false
theorem shOk_mid {P M R : List Int} (h : shOk (P ++ M ++ R) = true) : 0 ≤ prod M ∧ prod M ≤ 10000 := by
  have hr : ∀ a ∈ P ++ M ++ R, 0 ≤ a := fun a ha => (shOk_range h a ha).1
  have hz := shOk_pz h
  rw [pz_app, pz_app] at hz
  have hP := pz_pos (l := P) (fun x hx => hr x (by simp [hx]))
  have hM := pz_pos (l := M) (fun x hx => hr x (by simp [hx]))
  have hR := pz_pos (l := R) (fun x hx => hr x (by simp [hx]))
  have m1 := prod_le_pz (l := M) (fun x hx => hr x (by simp [hx]))
  have a1 := Int.mul_le_mul_of_nonneg_right hP (show 0 ≤ pz M by omega)
  have a0 : 0 ≤ pz P * pz M := Int.mul_nonneg (by omega) (by omega)
  have a2 := Int.mul_le_mul_of_nonneg_left hR a0
  exact ⟨prod_nonneg (fun x hx => hr x (by simp [hx])), by omega⟩
theorem l4Axis_after (P Q : List Int) (n : Int) (h : shOk (P ++ [n] ++ Q) = true) : ∀ (q2 q1 : List Int), q1 ++ q2 = Q →
    Ev (fun k => spec_l4Axis.l0 k (P ++ [n] ++ Q) (P.length : Int) (prod P) (prod q1) ((P.length + 1 + q1.length : Nat) : Int)) (prod P, n, prod Q)
  | [], q1, e => by
    obtain rfl : q1 = Q := by simpa using e
    refine evRound (Ev.now _) fun k => ?_
    simp only [spec_l4Axis.l0]
    rw [if_neg (by simp; omega), if_pos (by omega), if_pos (by simp; omega), show P ++ [n] ++ q1 = P ++ n :: q1 by simp, rd_last P q1 n _ rfl]
  | a :: q2, q1, e => by
    subst e
    have ih := l4Axis_after P (q1 ++ a :: q2) n h q2 (q1 ++ [a]) (by simp)
    have hl := shOk_len h
    have hm := shOk_mid (P := P ++ [n]) (M := q1 ++ [a]) (R := q2) (by simpa using h)
    have hrd : rd (P ++ [n] ++ (q1 ++ a :: q2)) ((P.length + 1 + q1.length : Nat) : Int) = a := by
      rw [show P ++ [n] ++ (q1 ++ a :: q2) = (P ++ [n] ++ q1) ++ a :: q2 by simp]; exact rd_last _ _ _ _ (by simp; omega)
    refine evRound ih fun k => ?_
    simp only [spec_l4Axis.l0]
    rw [if_pos (by simp; omega), if_neg (by omega), if_pos (by omega), if_pos (by omega), hrd, prod_snoc] at *
    rw [w64 (x := prod q1 * a) (by omega) (by omega), w64 (by omega) (by simp at hl; omega)]
    congr 1
    simp; omega
theorem l4Axis_before (P Q : List Int) (n : Int) (h : shOk (P ++ [n] ++ Q) = true) : ∀ (p2 p1 : List Int), p1 ++ p2 = P →
    Ev (fun k => spec_l4Axis.l0 k (P ++ [n] ++ Q) (P.length : Int) (prod p1) 1 (p1.length : Int)) (prod P, n, prod Q)
  | [], p1, e => by
    obtain rfl : p1 = P := by simpa using e
    have ih := l4Axis_after p1 Q n h Q [] rfl
    have hl := shOk_len h
    refine evRound ih fun k => ?_
    simp only [spec_l4Axis.l0]
    rw [if_pos (by simp; omega), if_neg (by omega), if_neg (by omega), w64 (by omega) (by simp at hl; omega)]
    simp [prod]
  | a :: p2, p1, e => by
    subst e
    have ih := l4Axis_before (p1 ++ a :: p2) Q n h p2 (p1 ++ [a]) (by simp)
    have hl := shOk_len h
    have hm := shOk_mid (P := []) (M := p1 ++ [a]) (R := p2 ++ [n] ++ Q) (by simpa using h)
    have hrd : rd (p1 ++ a :: p2 ++ [n] ++ Q) (p1.length : Int) = a := by
      rw [show p1 ++ a :: p2 ++ [n] ++ Q = p1 ++ a :: (p2 ++ [n] ++ Q) by simp]; exact rd_last _ _ _ _ rfl
    refine evRound ih fun k => ?_
    simp only [spec_l4Axis.l0]
    rw [if_pos (by simp; omega), if_pos (by simp; omega), if_pos (by omega), if_neg (by simp; omega), hrd, prod_snoc] at *
    rw [w64 (x := prod p1 * a) (by omega) (by omega), w64 (by omega) (by simp at hl; omega)]
    congr 1
    simp
theorem l4Axis_first (n : Int) (Q : List Int) (h : shOk (n :: Q) = true) : Ev (fun k => spec_l4Axis.f k (n :: Q) true) (1, n, prod Q) := by
  simp only [spec_l4Axis.f, if_true]
  have := l4Axis_before [] Q n (by simpa using h) [] [] rfl
  refine evRound this fun k => ?_
  simp [spec_l4Axis.j0, prod]
theorem l4Axis_last (P : List Int) (n : Int) (h : shOk (P ++ [n]) = true) : Ev (fun k => spec_l4Axis.f k (P ++ [n]) false) (prod P, n, 1) := by
  simp only [spec_l4Axis.f, Bool.false_eq_true, if_false]
  have hl := shOk_len h
  have := l4Axis_before P [] n (by simpa using h) P [] rfl
  simp only [List.append_nil] at this
  refine evRound this fun k => ?_
  simp only [spec_l4Axis.j0]
  rw [show wrap64 (((P ++ [n]).length : Int) - 1) = (P.length : Int) by simp only [List.length_append, List.length_singleton] at hl ⊢; rw [w64 (by omega) (by omega)]; omega]
  rfl
theorem lin_lt {b n a p i q : Nat} (hp : p < b) (hi : i < n) (hq : q < a) : (p * n + i) * a + q < b * n * a := by
  have h1 : p * n + i + 1 ≤ b * n := by
    have := Nat.mul_le_mul_right n (show p + 1 ≤ b from hp)
    rw [Nat.add_mul] at this; omega
  have h2 := Nat.mul_le_mul_right a h1
  rw [Nat.add_mul] at h2; omega
end Go.Proofs.Ytehfcnndjhjkoaa.PA

-- By a program (prt.py, over the print of the kit), for this claim. Not trusted: Lean checks it.
namespace Go.Proofs.Ytehfcnndjhjkoaa.PA
open Go.RowKit Go.Proofs.YtehfcnndjhjkoaaW.PrintWords Go.Proofs.YtehfcnndjhjkoaaW.PrintLast Go.Proofs.YtehfcnndjhjkoaaW.PrintMore
attribute [local go_sem] max2_int min2_int max_two min_two max_three min_three max_four min_four   -- for this text's walks alone
set_option linter.unusedVariables false
set_option linter.unusedSimpArgs false

/-! ### spec_l5Abs: function 96 -/
def spec_l5Abs.f (a0 : Int) : Option (Int) := if a0 < 0 then (some (wrap64 (-a0))) else (some a0)

end Go.Proofs.Ytehfcnndjhjkoaa.PA

namespace Go.Proofs.Ytehfcnndjhjkoaa.PA
open Go.RowKit Go.Proofs.YtehfcnndjhjkoaaW.PrintWords Go.Proofs.YtehfcnndjhjkoaaW.PrintLast Go.Proofs.YtehfcnndjhjkoaaW.PrintMore
set_option linter.unusedVariables false
set_option linter.unusedSimpArgs false
theorem C_at {W : World} {ad : Addr} {n : Nat} {l : List Int} (h : Kd.C (Kd.int .i64) W (some ad) n l) (j : Nat) (hj : j < n) : W.cell? (ad.add j) = some (.int .i64 (rd l (j : Int))) := by
  obtain ⟨ad', e, hx⟩ := Kd.at_int h (j : Int) (by omega) (by omega)
  cases e
  rwa [Int.toNat_natCast] at hx
end Go.Proofs.Ytehfcnndjhjkoaa.PA

namespace Go.Proofs.Ytehfcnndjhjkoaa.PA
open Go.RowKit Go.Proofs.YtehfcnndjhjkoaaW.PrintWords Go.Proofs.YtehfcnndjhjkoaaW.PrintLast Go.Proofs.YtehfcnndjhjkoaaW.PrintMore
set_option linter.unusedVariables false
set_option linter.unusedSimpArgs false
set_option maxHeartbeats 2000000 in
set_option maxRecDepth 100000 in
theorem times_bad (a : Bool) (Aa1 : Option Addr) (ca1 : Nat) (la1 : List Int) (Aa2 : Option Addr) (ca2 : Nat) (la2 : List Int) (n : Nat) (w : World) (ha1 : Kd.C (Kd.int .i64) w Aa1 la1.length la1) (ka1 : la1.length ≤ ca1) (ha2 : Kd.C (Kd.int .i64) w Aa2 la2.length la2) (ka2 : la2.length ≤ ca2) (h1 : la2.length ≠ 1) (h2 : n ≠ 1) (h3 : la2.length ≠ n) :
    Calls Try.prog 103 #[.agg #[.bool a, .slice Aa1 la1.length ca1, .slice Aa2 la2.length ca2], .int .i64 (n : Int)] w fun e w' => ∃ A c, e = .returned (.tuple #[.slice A ([] : List Int).length c, .int .i64 5]) ∧ Kd.C (Kd.int .i64) w' A ([] : List Int).length [] ∧ ([] : List Int).length ≤ c ∧ Below w.heap.size w w' := by
  have Ha1 := Aside0.mk ha1
  have Ka1 := Aside0.mk ka1
  clear ha1 ka1
  have Ha2 := Aside0.mk ha2
  have Ka2 := Aside0.mk ka2
  clear ha2 ka2
  have c0 : ((la2.length : Int) == 1) = false := beq_eq_false_iff_ne.mpr (by omega)
  have c1 : (la2.length == 1) = false := beq_eq_false_iff_ne.mpr h1
  have c1d : decide (la2.length = 1) = false := decide_eq_false h1
  have c1p : ¬ la2.length = 1 := h1
  have d0 : ((n : Int) == 1) = false := beq_eq_false_iff_ne.mpr (by omega)
  have d1 : ((n : Int) != 1) = true := bne_iff_ne.mpr (by omega)
  have d2 : ¬ n = 1 := h2
  have d3 : ((la2.length : Int) == (n : Int)) = false := beq_eq_false_iff_ne.mpr (by omega)
  have d4 : ((la2.length : Int) != (n : Int)) = true := bne_iff_ne.mpr (by omega)
  have d5 : ¬ la2.length = n := h3
  clear h1 h2 h3
  have HS := Aside0.mk (Sx.start w)
  go_enter Try.func103, Try.ntmps103
  go_wp2_with (first | ((with_reducible refine gate_dst (N := 2) rfl ?_); refine box_event ?hg (N := 2) ?hd (cs := #[.bool a, .slice Aa1 la1.length ca1, .slice Aa2 la2.length ca2]) (t := 28) ?hr ?_; (case hd => rfl); (case hg => rfl); (case hr => first | (go_simp; done) | (go_simp; rfl)); intro gK hg1 w1 hx1 hb1; have nS : Aside0 (Sx w w1 [(.blk gK #[.bool a, .slice Aa1 la1.length ca1, .slice Aa2 la2.length ca2] 28)]) := Aside0.mk (HS.out.box hg1 hx1 hb1); clear HS; have HS := nS; clear nS hg1 hx1 hb1) | ((with_reducible refine gate_dst (N := 10) rfl ?_); refine ev_load rfl 22 (.tmp 9) rfl ⟨gK, 2, none⟩ rfl (.slice Aa2 la2.length ca2) ((blk_cell (HS.out.blk 0 rfl) 2).trans rfl) (by kernel_rfl) ?_) | ((with_reducible refine gate_dst (N := 12) rfl ?_); refine ev_load rfl 22 (.tmp 11) rfl ⟨gK, 2, none⟩ rfl (.slice Aa2 la2.length ca2) ((blk_cell (HS.out.blk 0 rfl) 2).trans rfl) (by kernel_rfl) ?_) | ((with_reducible refine wpList_guardedB ?hw ?_); (case hw => first | rfl | (go_simp; done))) | ((with_reducible refine gate_dst (N := 23) rfl ?_); refine ev_load rfl 22 (.tmp 22) rfl ⟨gK, 2, none⟩ rfl (.slice Aa2 la2.length ca2) ((blk_cell (HS.out.blk 0 rfl) 2).trans rfl) (by kernel_rfl) ?_))
  refine bodyPost_ret (results_tmp2 rfl _ _ _) rfl ?_
  exact ⟨none, 0, rfl, Kd.C_nil _ _, Nat.le_refl _, HS.out.below⟩
set_option maxHeartbeats 2000000 in
set_option maxRecDepth 100000 in
theorem times_one (a : Bool) (Aa1 : Option Addr) (ca1 : Nat) (la1 : List Int) (Aa2 : Option Addr) (ca2 : Nat) (la2 : List Int) (n : Nat) (w : World) (ha1 : Kd.C (Kd.int .i64) w Aa1 la1.length la1) (ka1 : la1.length ≤ ca1) (ha2 : Kd.C (Kd.int .i64) w Aa2 la2.length la2) (ka2 : la2.length ≤ ca2) (h1 : la2.length = 1) (hn : n ≤ 10000) (hlen : la2.length ≤ 10000) (O_ : List Int) (cd_ : Int) (hng : ∀ j : Nat, j < la2.length → rd la2 (j : Int) < 0 → O_ = [] ∧ cd_ = 3) (hok : (∀ i : Nat, i < la2.length → 0 ≤ rd la2 (i : Int)) → O_ = List.replicate n (rd la2 0) ∧ cd_ = 0) :
    Calls Try.prog 103 #[.agg #[.bool a, .slice Aa1 la1.length ca1, .slice Aa2 la2.length ca2], .int .i64 (n : Int)] w fun e w' => ∃ A c, e = .returned (.tuple #[.slice A (O_ : List Int).length c, .int .i64 cd_]) ∧ Kd.C (Kd.int .i64) w' A (O_ : List Int).length O_ ∧ (O_ : List Int).length ≤ c ∧ Below w.heap.size w w' := by
  have Ha1 := Aside0.mk ha1
  have Ka1 := Aside0.mk ka1
  clear ha1 ka1
  have Ha2 := Aside0.mk ha2
  have Ka2 := Aside0.mk ka2
  clear ha2 ka2
  have c0 : ((la2.length : Int) == 1) = true := beq_iff_eq.mpr (by omega)
  have c1 : (la2.length == 1) = true := beq_iff_eq.mpr h1
  have c1d : decide (la2.length = 1) = true := decide_eq_true h1
  have H1 := Aside0.mk h1
  have HNN := Aside0.mk hn
  clear h1 hn
  have HLEN := Aside0.mk hlen
  have HNG := Aside0.mk hng
  have HOK := Aside0.mk hok
  clear hlen hng hok
  have HS := Aside0.mk (Sx.start w)
  go_enter Try.func103, Try.ntmps103
  go_wp2_with (first | ((with_reducible refine gate_dst (N := 2) rfl ?_); refine box_event ?hg (N := 2) ?hd (cs := #[.bool a, .slice Aa1 la1.length ca1, .slice Aa2 la2.length ca2]) (t := 28) ?hr ?_; (case hd => rfl); (case hg => rfl); (case hr => first | (go_simp; done) | (go_simp; rfl)); intro gK hg1 w1 hx1 hb1; have nS : Aside0 (Sx w w1 [(.blk gK #[.bool a, .slice Aa1 la1.length ca1, .slice Aa2 la2.length ca2] 28)]) := Aside0.mk (HS.out.box hg1 hx1 hb1); clear HS; have HS := nS; clear nS hg1 hx1 hb1) | ((with_reducible refine gate_dst (N := 10) rfl ?_); refine ev_load rfl 22 (.tmp 9) rfl ⟨gK, 2, none⟩ rfl (.slice Aa2 la2.length ca2) ((blk_cell (HS.out.blk 0 rfl) 2).trans rfl) (by kernel_rfl) ?_) | ((with_reducible refine gate_dst (N := 12) rfl ?_); refine ev_load rfl 22 (.tmp 11) rfl ⟨gK, 2, none⟩ rfl (.slice Aa2 la2.length ca2) ((blk_cell (HS.out.blk 0 rfl) 2).trans rfl) (by kernel_rfl) ?_) | ((with_reducible refine gate_dst (N := 16) rfl ?_); refine ev_load rfl 22 (.tmp 15) rfl ⟨gK, 2, none⟩ rfl (.slice Aa2 la2.length ca2) ((blk_cell (HS.out.blk 0 rfl) 2).trans rfl) (by kernel_rfl) ?_) | (go_at_call 127; refine (repeat_len Aa2 ca2 n la2 _ (Kd.C_below Ha2.out HS.out.below) H1.out (by have := HNN.out; omega)).mono ?_; rintro e w2 ⟨v9, rfl, hr2, hb2⟩; obtain ⟨Av, cv, hv_⟩ := Kd.R_slice hr2; rw [List.length_replicate] at hv_; subst hv_; have nS : Aside0 (Sx w w2 [(.row (.slice Av n cv) (List.replicate n (rd la2 0))), (.blk gK #[.bool a, .slice Aa1 la1.length ca1, .slice Aa2 la2.length ca2] 28)]) := Aside0.mk (HS.out.addRow hb2 hr2); clear HS; have HS := nS; clear nS hb2) | ((with_reducible refine gate_dst (N := 29) rfl ?_); refine ev_load rfl 22 (.tmp 28) rfl ⟨gK, 2, none⟩ rfl (.slice Aa2 la2.length ca2) ((blk_cell (HS.out.blk 1 rfl) 2).trans rfl) (by kernel_rfl) ?_))
  go_loopw [8, 31] (fun _ z wr => ∃ j : Nat, z = .int .i64 (j : Int) ∧ Aside0 (j ≤ la2.length) ∧ Aside0 (∀ i : Nat, i < j → 0 ≤ rd la2 (i : Int)) ∧ Aside0 (Sx w wr [(.row (.slice Av n cv) (List.replicate n (rd la2 0))), (.blk gK #[.bool a, .slice Aa1 la1.length ca1, .slice Aa2 la2.length ca2] 28)])) (fun _ z _ => la2.length - (intOf z).toNat)
  case atStart => exact ⟨0, rfl, ⟨Nat.zero_le _⟩, ⟨fun i h => absurd h (by omega)⟩, HS⟩
  case round =>
    clear HS
    obtain ⟨j, rfl, hj, HA, HS⟩ := hrel
    by_cases hlt : j < la2.length
    · have h5_ := HLEN.out
      obtain ⟨ad, rfl, y1⟩ := Kd.at_int Ha2.out (j : Int) (by omega) (by omega)
      have y2 := Aside0.mk y1
      rw [Int.toNat_natCast] at y1
      clear y1
      obtain ⟨x_, hX⟩ : ∃ x, rd la2 (j : Int) = x := ⟨_, rfl⟩
      have HX := Aside0.mk hX
      have p1 : (j : Int) < (la2.length : Int) := by omega
      have p0 : 0 ≤ (j : Int) := by omega
      have yy : wr.cell? (ad.add j) = some (.int .i64 x_) := (C_at (Kd.C_below Ha2.out HS.out.below) j hlt).trans (by rw [HX.out])
      have w1 : IntKind.i64.wrap ((j : Int) + 1) = ((j + 1 : Nat) : Int) := by rw [IntWalk.i64_in _ (by omega)]; omega
      clear h5_ hX
      by_cases hneg : x_ < 0
      · have n1 : decide (x_ < 0) = true := decide_eq_true hneg
        clear w1
        have HG := Aside0.mk hneg
        clear hneg
        go_wp2
        refine bodyPost_ret (results_tmp2 rfl _ _ _) rfl ?_
        obtain ⟨e1_, e2_⟩ := HNG.out j hlt (by rw [HX.out]; exact HG.out)
        subst O_ cd_
        exact ⟨none, 0, rfl, Kd.C_nil _ _, Nat.le_refl _, HS.out.below⟩
      · have n1 : decide (x_ < 0) = false := decide_eq_false hneg
        go_wp2
        go_roundw
        case rel => exact ⟨j + 1, by first | rfl | (push_cast; rfl), ⟨by omega⟩, ⟨fun i hi => by
            by_cases e : i = j
            · subst e; rw [HX.out]; omega
            · exact HA.out i (by omega)⟩, HS⟩
        case measure => simp [intOf]; omega
    · have p1 : ¬ (j : Int) < (la2.length : Int) := by omega
      have hok := HOK.out (fun i hi => HA.out i (by omega))
      have HK_ := Aside0.mk hok
      clear hok
      go_wp2
      refine bodyPost_ret (results_tmp2 rfl _ _ _) rfl ?_
      obtain ⟨e1_, e2_⟩ := HK_.out
      subst O_ cd_
      exact ⟨Av, cv, by simp, by have h_ := HS.out.C 0 rfl; simpa using h_, by have h_ := HS.out.cap 0 rfl; simpa using h_, HS.out.below⟩
set_option maxHeartbeats 2000000 in
set_option maxRecDepth 100000 in
theorem times_n1 (a : Bool) (Aa1 : Option Addr) (ca1 : Nat) (la1 : List Int) (Aa2 : Option Addr) (ca2 : Nat) (la2 : List Int) (n : Nat) (w : World) (ha1 : Kd.C (Kd.int .i64) w Aa1 la1.length la1) (ka1 : la1.length ≤ ca1) (ha2 : Kd.C (Kd.int .i64) w Aa2 la2.length la2) (ka2 : la2.length ≤ ca2) (h1 : la2.length ≠ 1) (h2 : n = 1) (hlen : la2.length ≤ 10000) (O_ : List Int) (cd_ : Int) (hng : ∀ j : Nat, j < la2.length → rd la2 (j : Int) < 0 → O_ = [] ∧ cd_ = 3) (hok : (∀ i : Nat, i < la2.length → 0 ≤ rd la2 (i : Int)) → O_ = la2 ∧ cd_ = 0) :
    Calls Try.prog 103 #[.agg #[.bool a, .slice Aa1 la1.length ca1, .slice Aa2 la2.length ca2], .int .i64 (n : Int)] w fun e w' => ∃ A c, e = .returned (.tuple #[.slice A (O_ : List Int).length c, .int .i64 cd_]) ∧ Kd.C (Kd.int .i64) w' A (O_ : List Int).length O_ ∧ (O_ : List Int).length ≤ c ∧ Below w.heap.size w w' := by
  have Ha1 := Aside0.mk ha1
  have Ka1 := Aside0.mk ka1
  clear ha1 ka1
  have Ha2 := Aside0.mk ha2
  have Ka2 := Aside0.mk ka2
  clear ha2 ka2
  have c0 : ((la2.length : Int) == 1) = false := beq_eq_false_iff_ne.mpr (by omega)
  have c1 : (la2.length == 1) = false := beq_eq_false_iff_ne.mpr h1
  have c1d : decide (la2.length = 1) = false := decide_eq_false h1
  have c1p : ¬ la2.length = 1 := h1
  have d0 : ((n : Int) == 1) = true := beq_iff_eq.mpr (by omega)
  have d1 : ((n : Int) != 1) = false := by rw [bne, d0]; rfl
  clear h1 h2
  have HLEN := Aside0.mk hlen
  have HNG := Aside0.mk hng
  have HOK := Aside0.mk hok
  clear hlen hng hok
  have HS := Aside0.mk (Sx.start w)
  go_enter Try.func103, Try.ntmps103
  go_wp2_with (first | ((with_reducible refine gate_dst (N := 2) rfl ?_); refine box_event ?hg (N := 2) ?hd (cs := #[.bool a, .slice Aa1 la1.length ca1, .slice Aa2 la2.length ca2]) (t := 28) ?hr ?_; (case hd => rfl); (case hg => rfl); (case hr => first | (go_simp; done) | (go_simp; rfl)); intro gK hg1 w1 hx1 hb1; have nS : Aside0 (Sx w w1 [(.blk gK #[.bool a, .slice Aa1 la1.length ca1, .slice Aa2 la2.length ca2] 28)]) := Aside0.mk (HS.out.box hg1 hx1 hb1); clear HS; have HS := nS; clear nS hg1 hx1 hb1) | ((with_reducible refine gate_dst (N := 10) rfl ?_); refine ev_load rfl 22 (.tmp 9) rfl ⟨gK, 2, none⟩ rfl (.slice Aa2 la2.length ca2) ((blk_cell (HS.out.blk 0 rfl) 2).trans rfl) (by kernel_rfl) ?_) | ((with_reducible refine gate_dst (N := 12) rfl ?_); refine ev_load rfl 22 (.tmp 11) rfl ⟨gK, 2, none⟩ rfl (.slice Aa2 la2.length ca2) ((blk_cell (HS.out.blk 0 rfl) 2).trans rfl) (by kernel_rfl) ?_) | ((with_reducible refine wpList_guardedB ?hw ?_); (case hw => first | rfl | (go_simp; done))) | ((with_reducible refine gate_dst (N := 23) rfl ?_); refine ev_load rfl 22 (.tmp 22) rfl ⟨gK, 2, none⟩ rfl (.slice Aa2 la2.length ca2) ((blk_cell (HS.out.blk 0 rfl) 2).trans rfl) (by kernel_rfl) ?_) | ((with_reducible refine gate_dst (N := 29) rfl ?_); refine ev_load rfl 22 (.tmp 28) rfl ⟨gK, 2, none⟩ rfl (.slice Aa2 la2.length ca2) ((blk_cell (HS.out.blk 0 rfl) 2).trans rfl) (by kernel_rfl) ?_))
  go_loopw [8, 31] (fun _ z wr => ∃ j : Nat, z = .int .i64 (j : Int) ∧ Aside0 (j ≤ la2.length) ∧ Aside0 (∀ i : Nat, i < j → 0 ≤ rd la2 (i : Int)) ∧ Aside0 (Sx w wr [(.blk gK #[.bool a, .slice Aa1 la1.length ca1, .slice Aa2 la2.length ca2] 28)])) (fun _ z _ => la2.length - (intOf z).toNat)
  case atStart => exact ⟨0, rfl, ⟨Nat.zero_le _⟩, ⟨fun i h => absurd h (by omega)⟩, HS⟩
  case round =>
    clear HS
    obtain ⟨j, rfl, hj, HA, HS⟩ := hrel
    by_cases hlt : j < la2.length
    · have h5_ := HLEN.out
      obtain ⟨ad, rfl, y1⟩ := Kd.at_int Ha2.out (j : Int) (by omega) (by omega)
      have y2 := Aside0.mk y1
      rw [Int.toNat_natCast] at y1
      clear y1
      obtain ⟨x_, hX⟩ : ∃ x, rd la2 (j : Int) = x := ⟨_, rfl⟩
      have HX := Aside0.mk hX
      have p1 : (j : Int) < (la2.length : Int) := by omega
      have p0 : 0 ≤ (j : Int) := by omega
      have yy : wr.cell? (ad.add j) = some (.int .i64 x_) := (C_at (Kd.C_below Ha2.out HS.out.below) j hlt).trans (by rw [HX.out])
      have w1 : IntKind.i64.wrap ((j : Int) + 1) = ((j + 1 : Nat) : Int) := by rw [IntWalk.i64_in _ (by omega)]; omega
      clear h5_ hX
      by_cases hneg : x_ < 0
      · have n1 : decide (x_ < 0) = true := decide_eq_true hneg
        clear w1
        have HG := Aside0.mk hneg
        clear hneg
        go_wp2
        refine bodyPost_ret (results_tmp2 rfl _ _ _) rfl ?_
        obtain ⟨e1_, e2_⟩ := HNG.out j hlt (by rw [HX.out]; exact HG.out)
        subst O_ cd_
        exact ⟨none, 0, rfl, Kd.C_nil _ _, Nat.le_refl _, HS.out.below⟩
      · have n1 : decide (x_ < 0) = false := decide_eq_false hneg
        go_wp2
        go_roundw
        case rel => exact ⟨j + 1, by first | rfl | (push_cast; rfl), ⟨by omega⟩, ⟨fun i hi => by
            by_cases e : i = j
            · subst e; rw [HX.out]; omega
            · exact HA.out i (by omega)⟩, HS⟩
        case measure => simp [intOf]; omega
    · have p1 : ¬ (j : Int) < (la2.length : Int) := by omega
      have hok := HOK.out (fun i hi => HA.out i (by omega))
      have HK_ := Aside0.mk hok
      clear hok
      go_wp2
      refine bodyPost_ret (results_tmp2 rfl _ _ _) rfl ?_
      obtain ⟨e1_, e2_⟩ := HK_.out
      subst O_ cd_
      exact ⟨_, ca2, rfl, (Kd.C_below Ha2.out HS.out.below), Ka2.out, HS.out.below⟩
set_option maxHeartbeats 2000000 in
set_option maxRecDepth 100000 in
theorem times_eq (a : Bool) (Aa1 : Option Addr) (ca1 : Nat) (la1 : List Int) (Aa2 : Option Addr) (ca2 : Nat) (la2 : List Int) (n : Nat) (w : World) (ha1 : Kd.C (Kd.int .i64) w Aa1 la1.length la1) (ka1 : la1.length ≤ ca1) (ha2 : Kd.C (Kd.int .i64) w Aa2 la2.length la2) (ka2 : la2.length ≤ ca2) (h1 : la2.length ≠ 1) (h2 : n ≠ 1) (h3 : la2.length = n) (hlen : la2.length ≤ 10000) (O_ : List Int) (cd_ : Int) (hng : ∀ j : Nat, j < la2.length → rd la2 (j : Int) < 0 → O_ = [] ∧ cd_ = 3) (hok : (∀ i : Nat, i < la2.length → 0 ≤ rd la2 (i : Int)) → O_ = la2 ∧ cd_ = 0) :
    Calls Try.prog 103 #[.agg #[.bool a, .slice Aa1 la1.length ca1, .slice Aa2 la2.length ca2], .int .i64 (n : Int)] w fun e w' => ∃ A c, e = .returned (.tuple #[.slice A (O_ : List Int).length c, .int .i64 cd_]) ∧ Kd.C (Kd.int .i64) w' A (O_ : List Int).length O_ ∧ (O_ : List Int).length ≤ c ∧ Below w.heap.size w w' := by
  have Ha1 := Aside0.mk ha1
  have Ka1 := Aside0.mk ka1
  clear ha1 ka1
  have Ha2 := Aside0.mk ha2
  have Ka2 := Aside0.mk ka2
  clear ha2 ka2
  have c0 : ((la2.length : Int) == 1) = false := beq_eq_false_iff_ne.mpr (by omega)
  have c1 : (la2.length == 1) = false := beq_eq_false_iff_ne.mpr h1
  have c1d : decide (la2.length = 1) = false := decide_eq_false h1
  have c1p : ¬ la2.length = 1 := h1
  have d0 : ((n : Int) == 1) = false := beq_eq_false_iff_ne.mpr (by omega)
  have d1 : ((n : Int) != 1) = true := bne_iff_ne.mpr (by omega)
  have d2 : ¬ n = 1 := h2
  have d3 : ((la2.length : Int) == (n : Int)) = true := beq_iff_eq.mpr (by omega)
  have d4 : ((la2.length : Int) != (n : Int)) = false := by rw [bne, d3]; rfl
  clear h3
  clear h1 h2
  have HLEN := Aside0.mk hlen
  have HNG := Aside0.mk hng
  have HOK := Aside0.mk hok
  clear hlen hng hok
  have HS := Aside0.mk (Sx.start w)
  go_enter Try.func103, Try.ntmps103
  go_wp2_with (first | ((with_reducible refine gate_dst (N := 2) rfl ?_); refine box_event ?hg (N := 2) ?hd (cs := #[.bool a, .slice Aa1 la1.length ca1, .slice Aa2 la2.length ca2]) (t := 28) ?hr ?_; (case hd => rfl); (case hg => rfl); (case hr => first | (go_simp; done) | (go_simp; rfl)); intro gK hg1 w1 hx1 hb1; have nS : Aside0 (Sx w w1 [(.blk gK #[.bool a, .slice Aa1 la1.length ca1, .slice Aa2 la2.length ca2] 28)]) := Aside0.mk (HS.out.box hg1 hx1 hb1); clear HS; have HS := nS; clear nS hg1 hx1 hb1) | ((with_reducible refine gate_dst (N := 10) rfl ?_); refine ev_load rfl 22 (.tmp 9) rfl ⟨gK, 2, none⟩ rfl (.slice Aa2 la2.length ca2) ((blk_cell (HS.out.blk 0 rfl) 2).trans rfl) (by kernel_rfl) ?_) | ((with_reducible refine gate_dst (N := 12) rfl ?_); refine ev_load rfl 22 (.tmp 11) rfl ⟨gK, 2, none⟩ rfl (.slice Aa2 la2.length ca2) ((blk_cell (HS.out.blk 0 rfl) 2).trans rfl) (by kernel_rfl) ?_) | ((with_reducible refine wpList_guardedB ?hw ?_); (case hw => first | rfl | (go_simp; done))) | ((with_reducible refine gate_dst (N := 23) rfl ?_); refine ev_load rfl 22 (.tmp 22) rfl ⟨gK, 2, none⟩ rfl (.slice Aa2 la2.length ca2) ((blk_cell (HS.out.blk 0 rfl) 2).trans rfl) (by kernel_rfl) ?_) | ((with_reducible refine gate_dst (N := 29) rfl ?_); refine ev_load rfl 22 (.tmp 28) rfl ⟨gK, 2, none⟩ rfl (.slice Aa2 la2.length ca2) ((blk_cell (HS.out.blk 0 rfl) 2).trans rfl) (by kernel_rfl) ?_))
  go_loopw [8, 31] (fun _ z wr => ∃ j : Nat, z = .int .i64 (j : Int) ∧ Aside0 (j ≤ la2.length) ∧ Aside0 (∀ i : Nat, i < j → 0 ≤ rd la2 (i : Int)) ∧ Aside0 (Sx w wr [(.blk gK #[.bool a, .slice Aa1 la1.length ca1, .slice Aa2 la2.length ca2] 28)])) (fun _ z _ => la2.length - (intOf z).toNat)
  case atStart => exact ⟨0, rfl, ⟨Nat.zero_le _⟩, ⟨fun i h => absurd h (by omega)⟩, HS⟩
  case round =>
    clear HS
    obtain ⟨j, rfl, hj, HA, HS⟩ := hrel
    by_cases hlt : j < la2.length
    · have h5_ := HLEN.out
      obtain ⟨ad, rfl, y1⟩ := Kd.at_int Ha2.out (j : Int) (by omega) (by omega)
      have y2 := Aside0.mk y1
      rw [Int.toNat_natCast] at y1
      clear y1
      obtain ⟨x_, hX⟩ : ∃ x, rd la2 (j : Int) = x := ⟨_, rfl⟩
      have HX := Aside0.mk hX
      have p1 : (j : Int) < (la2.length : Int) := by omega
      have p0 : 0 ≤ (j : Int) := by omega
      have yy : wr.cell? (ad.add j) = some (.int .i64 x_) := (C_at (Kd.C_below Ha2.out HS.out.below) j hlt).trans (by rw [HX.out])
      have w1 : IntKind.i64.wrap ((j : Int) + 1) = ((j + 1 : Nat) : Int) := by rw [IntWalk.i64_in _ (by omega)]; omega
      clear h5_ hX
      by_cases hneg : x_ < 0
      · have n1 : decide (x_ < 0) = true := decide_eq_true hneg
        clear w1
        have HG := Aside0.mk hneg
        clear hneg
        go_wp2
        refine bodyPost_ret (results_tmp2 rfl _ _ _) rfl ?_
        obtain ⟨e1_, e2_⟩ := HNG.out j hlt (by rw [HX.out]; exact HG.out)
        subst O_ cd_
        exact ⟨none, 0, rfl, Kd.C_nil _ _, Nat.le_refl _, HS.out.below⟩
      · have n1 : decide (x_ < 0) = false := decide_eq_false hneg
        go_wp2
        go_roundw
        case rel => exact ⟨j + 1, by first | rfl | (push_cast; rfl), ⟨by omega⟩, ⟨fun i hi => by
            by_cases e : i = j
            · subst e; rw [HX.out]; omega
            · exact HA.out i (by omega)⟩, HS⟩
        case measure => simp [intOf]; omega
    · have p1 : ¬ (j : Int) < (la2.length : Int) := by omega
      have hok := HOK.out (fun i hi => HA.out i (by omega))
      have HK_ := Aside0.mk hok
      clear hok
      go_wp2
      refine bodyPost_ret (results_tmp2 rfl _ _ _) rfl ?_
      obtain ⟨e1_, e2_⟩ := HK_.out
      subst O_ cd_
      exact ⟨_, ca2, rfl, (Kd.C_below Ha2.out HS.out.below), Ka2.out, HS.out.below⟩
end Go.Proofs.Ytehfcnndjhjkoaa.PA

-- By a program (prt.py, over the print of the kit), for this claim. Not trusted: Lean checks it.
namespace Go.Proofs.Ytehfcnndjhjkoaa.PA
open Go.RowKit Go.Proofs.YtehfcnndjhjkoaaW.PrintWords Go.Proofs.YtehfcnndjhjkoaaW.PrintLast Go.Proofs.YtehfcnndjhjkoaaW.PrintMore
attribute [local go_sem] max2_int min2_int max_two min_two max_three min_three max_four min_four   -- for this text's walks alone
set_option linter.unusedVariables false
set_option linter.unusedSimpArgs false

/-! ### impl_Array_without: function 92 -/
def impl_Array_without.f (a0_0 : Bool) (l0_1 : List Int) (l0_2 : List Int) (a1 : Bool) : Option (List Int) := if a1 = true then (if 1 ≤ (l0_1.length : Int) then ((slices_Clone_int_int.f (l0_1.drop 1)).bind fun t103 => (some t103)) else (none)) else ((impl_Array_rank.f a0_0 l0_1 l0_2).bind fun t106 => (if 0 ≤ (wrap64 (t106 - 1)) then (if (wrap64 (t106 - 1)) ≤ (l0_1.length : Int) then ((slices_Clone_int_int.f (l0_1.take ((wrap64 (t106 - 1)) : Int).toNat)).bind fun t108 => (some t108)) else (none)) else (none)))

end Go.Proofs.Ytehfcnndjhjkoaa.PA

-- By a program (prt.py, over the print of the kit), for this claim. Not trusted: Lean checks it.
namespace Go.Proofs.Ytehfcnndjhjkoaa.PA
open Go.RowKit Go.Proofs.YtehfcnndjhjkoaaW.PrintWords Go.Proofs.YtehfcnndjhjkoaaW.PrintLast Go.Proofs.YtehfcnndjhjkoaaW.PrintMore
attribute [local go_sem] max2_int min2_int max_two min_two max_three min_three max_four min_four   -- for this text's walks alone
set_option linter.unusedVariables false
set_option linter.unusedSimpArgs false

/-! ### slices_Equal_int_int: function 91 -/
def slices_Equal_int_int.l0 : Nat → List Int → List Int → Int → Int → Option (Bool)
  | 0, _, _, _, _ => none
  | k + 1, x0, x1, x12, x13 => if x13 < x12 then (if 0 ≤ x13 then (if x13 < (x0.length : Int) then (if x13 < (x1.length : Int) then (if (rd x0 x13) = (rd x1 x13) then (slices_Equal_int_int.l0 k x0 x1 x12 (wrap64 (x13 + 1))) else (some false)) else (none)) else (none)) else (none)) else (some true)
def slices_Equal_int_int.f (k : Nat) (l0 : List Int) (l1 : List Int) : Option (Bool) := if (l0.length : Int) = (l1.length : Int) then (slices_Equal_int_int.l0 k l0 l1 (l0.length : Int) 0) else (some false)
theorem slices_Equal_int_int.mono_l : ∀ k, (∀ y0 y1 y2 y3, LeO (slices_Equal_int_int.l0 k y0 y1 y2 y3) (slices_Equal_int_int.l0 (k + 1) y0 y1 y2 y3))
  | 0 => fun _ _ _ _ r h => by simp [slices_Equal_int_int.l0] at h
  | k + 1 => by
    have ih0 := slices_Equal_int_int.mono_l k
    · intro y0 y1 y2 y3
      unfold slices_Equal_int_int.l0
      repeat' first
      | (with_reducible exact ih0 _ _ _ _)
      | (with_reducible exact LeO.refl _)
      | (with_reducible exact LeO.none _)
      | (with_reducible refine LeO.ite ?_ ?_)
      | (with_reducible refine LeO.bind ?_ (fun _ => ?_))
      | exact ih0 _ _ _ _
      | exact LeO.none _
      | refine LeO.ite ?_ ?_
      | refine LeO.bind ?_ (fun _ => ?_)
theorem slices_Equal_int_int.mono : ∀ a0 a1 k, LeO (slices_Equal_int_int.f k a0 a1) (slices_Equal_int_int.f (k + 1) a0 a1) := by
  intro a0 a1 k
  have ih0 := slices_Equal_int_int.mono_l k
  unfold slices_Equal_int_int.f
  repeat' first
      | (with_reducible exact ih0 _ _ _ _)
      | (with_reducible exact LeO.refl _)
      | (with_reducible exact LeO.none _)
      | (with_reducible refine LeO.ite ?_ ?_)
      | (with_reducible refine LeO.bind ?_ (fun _ => ?_))
      | exact ih0 _ _ _ _
      | exact LeO.none _
      | refine LeO.ite ?_ ?_
      | refine LeO.bind ?_ (fun _ => ?_)

end Go.Proofs.Ytehfcnndjhjkoaa.PA

namespace Go.Proofs.Ytehfcnndjhjkoaa.PA
open Go.RowKit Go.Proofs.YtehfcnndjhjkoaaW.PrintWords Go.Proofs.YtehfcnndjhjkoaaW.PrintLast Go.Proofs.YtehfcnndjhjkoaaW.PrintMore
set_option linter.unusedVariables false
set_option linter.unusedSimpArgs false
theorem noInt_A (b : Bool) (A1 : Option Addr) (n1 c1 : Nat) (A2 : Option Addr) (n2 c2 : Nat) : noInt #[.bool b, .slice A1 n1 c1, .slice A2 n2 c2] := by
  intro j k z
  match j with
  | 0 => simp
  | 1 => simp
  | 2 => simp
  | j + 3 => simp
end Go.Proofs.Ytehfcnndjhjkoaa.PA

namespace Go.Proofs.Ytehfcnndjhjkoaa.PA
open Go.RowKit Go.Proofs.YtehfcnndjhjkoaaW.PrintWords Go.Proofs.YtehfcnndjhjkoaaW.PrintLast Go.Proofs.YtehfcnndjhjkoaaW.PrintMore
set_option linter.unusedVariables false
set_option linter.unusedSimpArgs false
theorem prod_app1 : ∀ (p : List Int) (y : Int), prod (p ++ [y]) = prod p * y
  | [], y => by simp [prod]
  | x :: p, y => by simp only [List.cons_append, prod]; rw [prod_app1 p y, Int.mul_assoc]
end Go.Proofs.Ytehfcnndjhjkoaa.PA

-- By a program (prt.py, over the print of the kit), for this claim. Not trusted: Lean checks it.
namespace Go.Proofs.Ytehfcnndjhjkoaa.PA
open Go.RowKit Go.Proofs.YtehfcnndjhjkoaaW.PrintWords Go.Proofs.YtehfcnndjhjkoaaW.PrintLast Go.Proofs.YtehfcnndjhjkoaaW.PrintMore
attribute [local go_sem] max2_int min2_int max_two min_two max_three min_three max_four min_four   -- for this text's walks alone
set_option linter.unusedVariables false
set_option linter.unusedSimpArgs false

/-! ### spec_l3Same: function 87 -/
def spec_l3Same.l0 : Nat → List Int → List Int → Int → Option (Bool)
  | 0, _, _, _ => none
  | k + 1, x0, x1, x5 => if x5 < (x0.length : Int) then (if 0 ≤ x5 then (if x5 < (x1.length : Int) then (if (rd x0 x5) = (rd x1 x5) then (spec_l3Same.l0 k x0 x1 (wrap64 (x5 + 1))) else (some false)) else (none)) else (none)) else (some true)
def spec_l3Same.f (k : Nat) (l0 : List Int) (l1 : List Int) : Option (Bool) := if (l0.length : Int) = (l1.length : Int) then (spec_l3Same.l0 k l0 l1 0) else (some false)
theorem spec_l3Same.mono_l : ∀ k, (∀ y0 y1 y2, LeO (spec_l3Same.l0 k y0 y1 y2) (spec_l3Same.l0 (k + 1) y0 y1 y2))
  | 0 => fun _ _ _ r h => by simp [spec_l3Same.l0] at h
  | k + 1 => by
    have ih0 := spec_l3Same.mono_l k
    · intro y0 y1 y2
      unfold spec_l3Same.l0
      repeat' first
      | (with_reducible exact ih0 _ _ _)
      | (with_reducible exact LeO.refl _)
      | (with_reducible exact LeO.none _)
      | (with_reducible refine LeO.ite ?_ ?_)
      | (with_reducible refine LeO.bind ?_ (fun _ => ?_))
      | exact ih0 _ _ _
      | exact LeO.none _
      | refine LeO.ite ?_ ?_
      | refine LeO.bind ?_ (fun _ => ?_)
theorem spec_l3Same.mono : ∀ a0 a1 k, LeO (spec_l3Same.f k a0 a1) (spec_l3Same.f (k + 1) a0 a1) := by
  intro a0 a1 k
  have ih0 := spec_l3Same.mono_l k
  unfold spec_l3Same.f
  repeat' first
      | (with_reducible exact ih0 _ _ _)
      | (with_reducible exact LeO.refl _)
      | (with_reducible exact LeO.none _)
      | (with_reducible refine LeO.ite ?_ ?_)
      | (with_reducible refine LeO.bind ?_ (fun _ => ?_))
      | exact ih0 _ _ _
      | exact LeO.none _
      | refine LeO.ite ?_ ?_
      | refine LeO.bind ?_ (fun _ => ?_)

end Go.Proofs.Ytehfcnndjhjkoaa.PA

namespace Go.Proofs.Ytehfcnndjhjkoaa.PA
open Go.RowKit Go.Proofs.YtehfcnndjhjkoaaW.PrintWords Go.Proofs.YtehfcnndjhjkoaaW.PrintLast Go.Proofs.YtehfcnndjhjkoaaW.PrintMore
set_option linter.unusedVariables false
set_option linter.unusedSimpArgs false
def lastOf (l : List Int) : Int := rd l ((l.length : Int) - 1)
end Go.Proofs.Ytehfcnndjhjkoaa.PA

namespace Go.Proofs.Ytehfcnndjhjkoaa.PA
open Go.RowKit Go.Proofs.YtehfcnndjhjkoaaW.PrintWords Go.Proofs.YtehfcnndjhjkoaaW.PrintLast Go.Proofs.YtehfcnndjhjkoaaW.PrintMore
set_option linter.unusedVariables false
set_option linter.unusedSimpArgs false
theorem Sx.perm {w W : World} {Ts Us : List Th} (h : Sx w W Ts) (p : Ts.Perm Us) : Sx w W Us :=
  ⟨h.below, fun T hT => h.ok T (p.mem_iff.2 hT), (p.pairwise_iff (fun h k hb ha => h k ha hb)).1 h.nod⟩

theorem store_cell_step {P : Program} {ops : Array Oper} {o : Oper} {a : Act} {Q : Exit → Act → World → Prop} {Kc : Act → World → Prop} {W : World} (hw : Region.wanted o (yielded ops a.tmps) = true) (ty : TypeId) (x y : Operand) (ho : o.op = .store ty x y) (g j : Nat) (hx : a.eval x = .pointer (some ⟨g, j, none⟩)) (v : Value) (hy : a.eval y = v)
    (cs : Array Value) (t : TypeId) (hg : W.heap[g]? = some (.cells cs t (0, 0))) (hj : j < cs.size) (h1 : v.oneCell' = true) (hi : (P.info? ty).map (·.size) = some 1)
    (h : ∀ w1, w1.heap[g]? = some (.cells (cs.setIfInBounds j v) t (0, 0)) → But1 g W w1 → Kc (a.put o.dst undef) w1) : if Region.wanted o (yielded ops a.tmps) = true then Oper.wp P o a W Kc Q else Kc (a.put o.dst undef) W := by
  rw [if_pos hw]
  unfold Oper.wp execOp
  simp only [ho, hx, hy, Instr.storeAt, Instr.sureAddr, Sem.run_bind, Sem.run_pure, Result.andThen_ok, run_store_cell hg hj h1 hi]
  exact h _ (blk_set hg j v) ⟨fun k hk => Below.heap_setCell W _ v k hk, fun B hB => (Below.refl B W).setCell (p := ⟨g, j, none⟩) hB v⟩
/-- Two rows stand behind a store into a block of before. -/
theorem Sx.two_but {w W W' : World} {Ts : List Th} (h : Sx w W Ts) (i j : Nat) (hne : i ≠ j) {v1 v2 : Value} {l1 l2 : List Int} (hi : Ts[i]? = some (.row v1 l1)) (hj : Ts[j]? = some (.row v2 l2)) {g : Nat} (hb : But1 g W W') (hg : g < w.heap.size) (B : Nat) (hB : B ≤ w.heap.size) :
    Kd.R (Kd.int .i64) 3 W' B (fun k => some k ≠ v2.ownBlock) v1 l1 ∧ Kd.R (Kd.int .i64) 3 W' B (fun k => some k ≠ v1.ownBlock) v2 l2 := by
  have hi' : Th.ok w.heap.size W' (.row v1 l1) := Th.keep (h.get i hi) fun k hk _ => hb.same k (by have := (Th.lt (h.get i hi) k hk).1; omega)
  have hj' : Th.ok w.heap.size W' (.row v2 l2) := Th.keep (h.get j hj) fun k hk _ => hb.same k (by have := (Th.lt (h.get j hj) k hk).1; omega)
  obtain ⟨hil, hie⟩ := List.getElem?_eq_some_iff.1 hi
  obtain ⟨hjl, hje⟩ := List.getElem?_eq_some_iff.1 hj
  have hnod := List.pairwise_iff_getElem.1 h.nod
  have hd : ∀ k, v1.ownBlock = some k → ¬ v2.ownBlock = some k := fun k h1 h2 => by
    rcases Nat.lt_or_gt_of_ne hne with hl | hl
    · have := hnod i j hil hjl hl; rw [hie, hje] at this; exact this k h1 h2
    · have := hnod j i hjl hil hl; rw [hie, hje] at this; exact this k h2 h1
  exact ⟨Kd.R_lower (Kd.R_reok rfl hi' fun k hk e => hd k hk e.symm) hB, Kd.R_lower (Kd.R_reok rfl hj' fun k hk e => hd k e.symm hk) hB⟩

end Go.Proofs.Ytehfcnndjhjkoaa.PA

namespace Go.Proofs.Ytehfcnndjhjkoaa.PA
open Go.RowKit Go.Shelf Go.Proofs.YtehfcnndjhjkoaaW.PrintWords Go.Proofs.YtehfcnndjhjkoaaW.PrintLast Go.Proofs.YtehfcnndjhjkoaaW.PrintMore
attribute [local go_sem] Oper.semAt_some
set_option linter.unusedVariables false
set_option linter.unusedSimpArgs false
set_option maxRecDepth 100000 in
set_option maxHeartbeats 4000000 in
theorem axis_in (b : Bool) (A1 : Option Addr) (c1 : Nat) (l1 : List Int) (A2 : Option Addr) (c2 : Nat) (l2 : List Int) (As : Option Addr) (cs : Nat) (s : List Int) (g : Nat) (lb : Array Value) (f : Nat → Int → Int) (eg : ∀ args w, (callFunc g args).run Try.prog w = .ok (.enter g args) w) (w : World)
    (h1 : Kd.C (Kd.int .i64) w A1 l1.length l1) (k1 : l1.length ≤ c1) (hs : Kd.C (Kd.int .i64) w As s.length s) (ks : s.length ≤ cs) (hl : l1.length = s.length) (h5 : s.length ≤ 5) (hp : 0 ≤ prod s ∧ prod s ≤ 10000) (k : Nat) (hk : impl_shapeOk.f k s = some (prod s, true)) (hf : Gives2 g lb f s w) (hrg : ∀ (t : Nat), t < (prod s).toNat → ∀ k : Nat, k < s.length → 0 ≤ rd (idxL s t) (k : Int) ∧ rd (idxL s t) (k : Int) < rd s (k : Int)) :
    CallsIn Fence.wide 9 Try.prog 105 #[.agg #[.bool b, .slice A1 l1.length c1, .slice A2 l2.length c2], .slice As s.length cs, .func (.func g) #[] lb] w fun e w' => ∃ v, e = .returned (.agg #[.slice As s.length cs, v]) ∧ Kd.R (Kd.int .i64) 3 w' w.heap.size (fun _ => True) v (fromL l1 s f (prod s).toNat) ∧ Below w.heap.size w w' := by
  have H1 := Aside0.mk h1
  have HS := Aside0.mk hs
  have HL := Aside0.mk hl
  have HF := Aside0.mk hf
  have HK := Aside0.mk hk
  have HRG := Aside0.mk hrg
  clear hrg
  clear h1 hs hl hf hk
  have hmk := make_row s.length (by omega)
  refine callsIn_of_wp_marks Try.func105 rfl trivial ?_ rfl
  simp only [Try.ntmps105, List.size_toArray, List.length_cons, List.length_nil, Nat.reduceAdd, Nat.reduceSub, Array.replicate_succ, Array.replicate_zero, List.push_toArray, List.append_toArray, List.nil_append, List.cons_append]
  gi_wp2_with (first | (refine ⟨trivial, ?_⟩; gi_at_call 119; refine (indexes_in _ _ _ _ _).mono ?_; rintro e w' ⟨rfl, rfl⟩))
  obtain ⟨W0, hW0⟩ : ∃ W0, ((((((w.alloc (.cells #[.bool b, .slice A1 l1.length c1, .slice A2 l2.length c2] 28)).alloc (.cells #[.func (.func g) #[] lb] 93)).alloc (.cells #[.slice none 0 0, .slice none 0 0] 70)).alloc (.cells #[.slice As s.length cs, .slice none 0 0] 70)).alloc (.cells (rowI (List.replicate s.length 0)) 3)).alloc (.cells #[.slice (some ⟨w.heap.size + 1 + 1 + 1 + 1, 0, none⟩) s.length s.length] 22)).alloc (.cells #[.slice As s.length cs] 22) = W0 := ⟨_, rfl⟩
  obtain ⟨FA, FP, FR, FM, FS, FB, FX, hsz, hB0⟩ : (_ ∧ _ ∧ _ ∧ _ ∧ _ ∧ _ ∧ _ ∧ _ ∧ Below w.heap.size w W0) := hW0 ▸ alloc7 w _ _ _ _ _ _ _
  rw [hW0]
  have HSZ := Aside0.mk hsz
  clear hW0 hsz
  obtain ⟨gX, hgX⟩ : ∃ gX, gX = w.heap.size + 1 + 1 + 1 + 1 + 1 + 1 := ⟨_, rfl⟩
  rw [← hgX] at FX ⊢
  obtain ⟨gB, hgB⟩ : ∃ gB, gB = w.heap.size + 1 + 1 + 1 + 1 + 1 := ⟨_, rfl⟩
  rw [← hgB] at FB ⊢
  obtain ⟨gS, hgS⟩ : ∃ gS, gS = w.heap.size + 1 + 1 + 1 + 1 := ⟨_, rfl⟩
  rw [← hgS] at FS FB ⊢
  obtain ⟨gM, hgM⟩ : ∃ gM, gM = w.heap.size + 1 + 1 + 1 := ⟨_, rfl⟩
  rw [← hgM] at FM ⊢
  obtain ⟨gR, hgR⟩ : ∃ gR, gR = w.heap.size + 1 + 1 := ⟨_, rfl⟩
  rw [← hgR] at FR ⊢
  obtain ⟨gP, hgP⟩ : ∃ gP, gP = w.heap.size + 1 := ⟨_, rfl⟩
  rw [← hgP] at FP ⊢
  have HGX := Aside0.mk hgX
  have HGB := Aside0.mk hgB
  have HGS := Aside0.mk hgS
  have HGM := Aside0.mk hgM
  have HGR := Aside0.mk hgR
  have HGP := Aside0.mk hgP
  clear hgX hgB hgS hgM hgR hgP
  have gs : gX = w.heap.size + 6 ∧ gB = w.heap.size + 5 ∧ gS = w.heap.size + 4 ∧ gM = w.heap.size + 3 ∧ gR = w.heap.size + 2 ∧ gP = w.heap.size + 1 := by
    have := HGX.out; have := HGB.out; have := HGS.out; have := HGM.out; have := HGR.out; have := HGP.out; omega
  have GS := Aside0.mk gs
  clear gs HGX HGB HGS HGM HGR HGP
  obtain ⟨i0, hi, hz0, hz1, hz2⟩ := info_parts info3
  refine wpIn_rounds rfl (by omega) (gf := 137) (lb := #[.pointer (some ⟨gX, 0, none⟩)]) rfl trivial (enters_of Try.func137 (by kernel_rfl) rfl)
    (idx_rounds 8 (by omega) gX As cs s h5 hp.2 k HK.out W0 ((blk_cell FX 0).trans rfl) (Kd.C_below HS.out hB0) ks (fun ad e e0 => ?addr))
    (Below.refl _ _) ?mlt (fun G t A B h e => by unfold AtI at *; rw [e]; exact h) rfl
    (fun t W => W.heap[w.heap.size]? = some (.cells #[.bool b, .slice A1 l1.length c1, .slice A2 l2.length c2] 28 (0, 0)) ∧ W.heap[gP]? = some (.cells #[.func (.func g) #[] lb] 93 (0, 0)) ∧ W.heap[gR]? = some (.cells #[.slice none 0 0, .slice none 0 0] 70 (0, 0)) ∧
      W.heap[gB]? = some (.cells #[.slice (some ⟨gS, 0, none⟩) s.length s.length] 22 (0, 0)) ∧ (∃ src : List Int, src.length = s.length ∧ W.heap[gS]? = some (.cells (rowI src) 3 (0, 0))) ∧
      (∃ v, W.heap[gM]? = some (.cells #[.slice As s.length cs, v] 70 (0, 0)) ∧ W.ownsRow (w.heap.size + 10) 3 1 v t ((fromL l1 s f t).map (Value.int .i64))) ∧ Below w.heap.size w W)
    (fun _ _ _ => False)
    (fun t A B hI hS => ?inv)
    (fun _ _ _ _ h _ => h)
    ⟨FA, FP, FR, FB, ⟨_, by simp, FS⟩, ⟨_, FM, World.ownsRow_nil _ _ _ _⟩, hB0⟩
    ?a1 ?assign ?body ?done ?stop
  case addr =>
    obtain ⟨ad', e', hx⟩ := Kd.at_int (Kd.C_below HS.out hB0) 0 (by omega) (by omega)
    rw [e] at e'; cases e'
    have := World.block_lt_of_cell? W0 _ hx
    rwa [show (ad.add (0 : Int).toNat).block = ad.block by unfold Addr.add; split <;> rfl] at this
  case mlt =>
    intro k hk
    rcases hk with rfl | ⟨e0, hk⟩
    · exact blk_lt FX
    · obtain ⟨ad, hx, -⟩ := Kd.at_int (Kd.C_below HS.out hB0) 0 (by omega) (by omega)
      obtain ⟨ad', e', hx⟩ := Kd.at_int (Kd.C_below HS.out hB0) 0 (by omega) (by omega)
      rw [e'] at hk
      cases Option.some.inj hk
      have := World.block_lt_of_cell? W0 _ hx
      rwa [show (ad'.add (0 : Int).toNat).block = ad'.block by unfold Addr.add; split <;> rfl] at this
  case inv =>
    obtain ⟨q1, q2, q3, q4, ⟨src, q5, q6⟩, ⟨v, q7, q8⟩, q9⟩ := hI
    have := HSZ.out
    have := GS.out
    exact ⟨hS.blk q1 (by omega), hS.blk q2 (by omega), hS.blk q3 (by omega), hS.blk q4 (by omega), ⟨src, q5, hS.blk q6 (by omega)⟩, ⟨v, hS.blk q7 (by omega), hS.own q8 (fun k hk => by omega)⟩, q9.trans (hS.below (fun k hk => by omega) q9.size)⟩
  case assign =>
    intro lo W K hK
    gi_wp2
    exact hK
  case body =>
    rintro lo t W ⟨q1, q2, q3, q4, ⟨src, q5, q6⟩, ⟨v, q7, q8⟩, q9⟩ hlt hat hge
    have hlt' := Aside0.mk hlt
    have HAT := Aside0.mk hat
    have HGE := Aside0.mk hge
    have Q1 := Aside0.mk q1
    have Q2 := Aside0.mk q2
    have Q3 := Aside0.mk q3
    have Q4 := Aside0.mk q4
    have Q5 := Aside0.mk q5
    have Q6 := Aside0.mk q6
    have Q7 := Aside0.mk q7
    have HCI := Aside0.mk (idxL_len s t)
    have hrng : ∀ (t : Nat), t < (prod s).toNat → ∀ k : Nat, k < s.length → 0 ≤ rd (idxL s t) (k : Int) ∧ rd (idxL s t) (k : Int) < rd s (k : Int) := HRG.out
    clear hlt hat hge q1 q2 q3 q4 q5 q6 q7
    gi_wp2
    gi_loopw [10, 24] (fun th kk wr => ∃ (j : Nat) (q : Bool) (sr : List Int), kk = .int .i64 (j : Int) ∧ th = .bool q ∧ Aside0 (j ≤ s.length) ∧ Aside0 (sr.length = s.length) ∧ Aside0 (wr.heap[gS]? = some (.cells (rowI sr) 3 (0, 0))) ∧
        Aside0 (sr.take j ++ srcGo f j ((idxL s t).drop j) = srcGo f 0 (idxL s t)) ∧ Aside0 (thrGo l1 f j q ((idxL s t).drop j) = thrGo l1 f 0 true (idxL s t)) ∧ Aside0 (ButS (fun k => k = gS) W wr))
      (fun _ kk _ => s.length - (intOf kk).toNat)
    case atStart => exact ⟨0, true, src, rfl, rfl, ⟨Nat.zero_le _⟩, Q5, Q6, ⟨rfl⟩, ⟨rfl⟩, ⟨⟨Nat.le_refl _, fun _ _ _ => rfl, rfl, rfl, rfl⟩⟩⟩
    case round =>
      obtain ⟨j, q, sr, rfl, rfl, hj, hsl, hsr, htk, hth, hbs⟩ := hrel
      by_cases hjl : j < s.length
      · have p0 : 0 ≤ (j : Int) := by omega
        have p1 : (j : Int) < (s.length : Int) := by omega
        have hgs := GS.out
        have hx := rowI_cell (blk_of (hbs.out.blk HAT.out (by have := HSZ.out; omega))) j (by have := HCI.out; omega)
        have hB5 := blk_cell (hbs.out.blk Q4.out (by omega)) 0
        have hP5 := blk_cell (hbs.out.blk Q2.out (by omega)) 0
        have hbel := hbs.out.below (n := w.heap.size) (by rintro k rfl; omega) (by have := HSZ.out; have := HGE.out; omega)
        have HBE := Aside0.mk (q9.trans hbel)
        clear hgs hbel
        have hcg := rowI_cell hsr.out j (by have := hsl.out; omega)
        have hfz := blk_frozen hsr.out j
        have HR := Aside0.mk (hrng t hlt'.out j hjl)
        obtain ⟨x, hxe⟩ : ∃ x, x = rd (idxL s t) (j : Int) := ⟨_, rfl⟩
        rw [← hxe] at hx HR
        have HXE := Aside0.mk hxe
        clear hxe
        have hcall : ∀ (n : Nat) (W' : World), Below w.heap.size w W' → CallsIn Fence.wide n Try.prog g (#[.int .i64 (j : Int), .int .i64 x] ++ lb) W' fun e w' => e = .returned (.int .i64 (f j x)) ∧ ∃ q, w' = W'.drewN q := fun n W' hb => callsIn_wide.2 (HF.out W' j x hb hjl HR.out.1 HR.out.2)
        gi_wp2
        refine region_round (by kernel_rfl) (by kernel_rfl) ?_
        refine wpAnyIn_take (i := 1) (v := ?_) rfl rfl (by kernel_rfl) (by kernel_rfl) (by kernel_rfl) (fun _ _ _ h => h) ⟨Or.inl ⟨by rfl, ?_⟩, fun _ => rfl⟩ ?_
        rotate_left
        · intro w'; go_simp; try with_reducible rfl
        refine wpAnyIn_take (i := 3) (v := ?_) rfl rfl (by kernel_rfl) (by kernel_rfl) (by kernel_rfl) (fun _ _ _ h => h) ⟨Or.inl ⟨by rfl, ?_⟩, fun _ => rfl⟩ ?_
        rotate_left
        · intro w'; go_simp; try with_reducible rfl
        refine wpAnyIn_take (i := 4) (v := ?_) rfl rfl (by kernel_rfl) (by kernel_rfl) (by kernel_rfl) (fun _ _ _ h => h) ⟨Or.inl ⟨by rfl, ?_⟩, fun _ => rfl⟩ ?_
        rotate_left
        · intro w'; go_simp; try with_reducible rfl
        refine wpAnyIn_ready (rs := [0, 2]) (by kernel_rfl) (by simp) ?_
        refine AllReadyIn.cons rfl (fun K hK => ?_) ?_
        · go_simp
          refine hK _ _ ?_
          clear hK K
          refine wpAnyIn_ready (rs := [2]) (by kernel_rfl) (by simp) ?_
          refine AllReadyIn.cons rfl (fun K hK => ?_) ?_
          · go_simp
            refine hK _ _ ?_
            clear hK K
            refine wpAnyIn_ready (rs := [5]) (by kernel_rfl) (by simp) ?_
            refine AllReadyIn.cons rfl (fun K hK => ?_) ?_
            · go_simp
              refine ⟨trivial, (hcall _ _ (pw_below_drewN HBE.out 1)).mono ?_⟩
              rintro e w' ⟨rfl, q', rfl⟩
              refine hK _ _ ?_
              clear hK K
              refine wpAnyIn_take (i := 6) (v := ?_) rfl rfl (by kernel_rfl) (by kernel_rfl) (by kernel_rfl) (fun _ _ _ h => h) ⟨Or.inl ⟨by rfl, ?_⟩, fun _ => rfl⟩ ?_
              rotate_left
              · intro w'; go_simp; try with_reducible rfl
              refine wpAnyIn_ready (rs := [7]) (by kernel_rfl) (by simp) ?_
              refine AllReadyIn.cons rfl (fun K hK => ?_) ?_
              · go_simp
                refine hK _ _ ?_
                clear hK K
                refine wpAnyIn_done (by kernel_rfl) ?_ _
                gi_wp2
                obtain ⟨W2, hW2⟩ : ∃ W2, (World.drewN wr (1 + q')).setCell ⟨gS, j, none⟩ (.int .i64 (f j x)) = W2 := ⟨_, rfl⟩
                rw [hW2]
                have hS2 : ButS (fun k => k = gS) W W2 := hW2 ▸ butS_set (show ButS (fun k => k = gS) W (World.drewN wr (1 + q')) from ⟨hbs.out.size, hbs.out.same, hbs.out.os, hbs.out.tape, hbs.out.output⟩) rfl j _
                have hsr2 : W2.heap[gS]? = some (.cells (rowI (sr.set j (f j x))) 3 (0, 0)) := hW2 ▸ rowI_put (show (World.drewN wr (1 + q')).heap[gS]? = _ from hsr.out) j _
                have HS2 := Aside0.mk hS2
                have HSR2 := Aside0.mk hsr2
                have hgs := GS.out
                have hu1 := blk_cell (hS2.blk Q4.out (by omega)) 0
                have hu2 := blk_cell (hS2.blk Q1.out (by omega)) 1
                have hu3 := rowI_cell hsr2 j (by have := hsl.out; rw [List.length_set]; omega)
                rw [show rd (sr.set j (f j x)) (j : Int) = f j x from rd_set _ _ _ (by have := hsl.out; omega)] at hu3
                have hb2 : Below w.heap.size w W2 := q9.trans (hS2.below (by rintro k rfl; omega) (by have := HSZ.out; have := HGE.out; omega))
                obtain ⟨ad, rfl, hu4⟩ := Kd.at_int (Kd.C_below H1.out hb2) (j : Int) p0 (by have := HL.out; omega)
                rw [Int.toNat_natCast] at hu4
                have p2 : (j : Int) < (l1.length : Int) := by have := HL.out; omega
                clear hgs hS2 hsr2 hb2 hW2
                cases q with
                | true =>
                  have hwith : ∀ (n : Nat) (W' : World), CallsIn Fence.wide n Try.prog 118 #[.int .i64 (f j x), .int .i64 0, .int .i64 (wrap64 (rd l1 (j : Int) - 1))] W' fun e w' => e = .returned (.bool (decide (0 ≤ f j x ∧ f j x ≤ wrap64 (rd l1 (j : Int) - 1)))) ∧ ∃ m, w' = W'.drewN m := fun n W' => callsIn_wide.2 ((impl_within.calls (f j x) 0 (wrap64 (rd l1 (j : Int) - 1)) (decide (0 ≤ f j x ∧ f j x ≤ wrap64 (rd l1 (j : Int) - 1))) W' (within_ev _ _)).mono (fun _ _ h => ⟨h.1, h.2.out⟩))
                  refine quiet_round rfl (by kernel_rfl) (by kernel_rfl) (by kernel_rfl) ?_
                  repeat (gi_big_quiet_step (fail))
                  refine BigFrame.wpQuietIn_want (fun _ _ _ _ => trivial) rfl (fun K hK => ?_)
                  gi_big_quiet_op
                  apply Exists.intro
                  refine ⟨fun _ => ?_, ?_⟩
                  · refine CallsIn.quiet_of (hwith _ _)
                  refine hK _ ?_
                  clear hK K
                  repeat (gi_big_quiet_step (fail))
                  refine wpQuietIn_nil ?_
                  intro _ hw'
                  obtain ⟨nq, hw''⟩ := hw'
                  subst hw''
                  gi_wp2
                  refine ⟨⟨j + 1, _, sr.set j (f j x), by push_cast; rfl, rfl, ⟨hjl⟩, ⟨by rw [List.length_set]; exact hsl.out⟩, ⟨HSR2.out⟩, ⟨?_⟩, ⟨?_⟩, ⟨HS2.out.size, HS2.out.same, HS2.out.os, HS2.out.tape, HS2.out.output⟩⟩, by simp [intOf]; omega⟩
                  · rw [← htk.out, HXE.out]; exact src_step f sr _ j (by have := hsl.out; omega) (by have := HCI.out; omega)
                  · rw [← hth.out, thr_step l1 f _ j _ (by have := HCI.out; omega), ← HXE.out]; congr 1; simp [Bool.decide_and]
                | false =>
                  refine quiet_round rfl (by kernel_rfl) (by kernel_rfl) (by kernel_rfl) ?_
                  repeat (gi_big_quiet_step (fail))
                  refine BigFrame.wpQuietIn_skip (fun _ _ _ _ => trivial) rfl ?_
                  go_simp
                  repeat (gi_big_quiet_step (fail))
                  refine wpQuietIn_nil ?_
                  intro nq
                  gi_wp2
                  refine ⟨⟨j + 1, false, sr.set j (f j x), by push_cast; rfl, rfl, ⟨hjl⟩, ⟨by rw [List.length_set]; exact hsl.out⟩, ⟨HSR2.out⟩, ⟨?_⟩, ⟨?_⟩, ⟨HS2.out.size, HS2.out.same, HS2.out.os, HS2.out.tape, HS2.out.output⟩⟩, by simp [intOf]; omega⟩
                  · rw [← htk.out, HXE.out]; exact src_step f sr _ j (by have := hsl.out; omega) (by have := HCI.out; omega)
                  · rw [← hth.out, thr_step l1 f _ j _ (by have := HCI.out; omega), ← HXE.out]; congr 1
              exact AllReadyIn.nil
            exact AllReadyIn.nil
          exact AllReadyIn.nil
        refine AllReadyIn.cons rfl (fun K hK => ?_) ?_
        · go_simp
          refine hK _ _ ?_
          clear hK K
          refine wpAnyIn_ready (rs := [0, 5]) (by kernel_rfl) (by simp) ?_
          refine AllReadyIn.cons rfl (fun K hK => ?_) ?_
          · go_simp
            refine hK _ _ ?_
            clear hK K
            refine wpAnyIn_ready (rs := [5]) (by kernel_rfl) (by simp) ?_
            refine AllReadyIn.cons rfl (fun K hK => ?_) ?_
            · go_simp
              refine ⟨trivial, (hcall _ _ (pw_below_drewN HBE.out 1)).mono ?_⟩
              rintro e w' ⟨rfl, q', rfl⟩
              refine hK _ _ ?_
              clear hK K
              refine wpAnyIn_take (i := 6) (v := ?_) rfl rfl (by kernel_rfl) (by kernel_rfl) (by kernel_rfl) (fun _ _ _ h => h) ⟨Or.inl ⟨by rfl, ?_⟩, fun _ => rfl⟩ ?_
              rotate_left
              · intro w'; go_simp; try with_reducible rfl
              refine wpAnyIn_ready (rs := [7]) (by kernel_rfl) (by simp) ?_
              refine AllReadyIn.cons rfl (fun K hK => ?_) ?_
              · go_simp
                refine hK _ _ ?_
                clear hK K
                refine wpAnyIn_done (by kernel_rfl) ?_ _
                gi_wp2
                obtain ⟨W2, hW2⟩ : ∃ W2, (World.drewN wr (1 + q')).setCell ⟨gS, j, none⟩ (.int .i64 (f j x)) = W2 := ⟨_, rfl⟩
                rw [hW2]
                have hS2 : ButS (fun k => k = gS) W W2 := hW2 ▸ butS_set (show ButS (fun k => k = gS) W (World.drewN wr (1 + q')) from ⟨hbs.out.size, hbs.out.same, hbs.out.os, hbs.out.tape, hbs.out.output⟩) rfl j _
                have hsr2 : W2.heap[gS]? = some (.cells (rowI (sr.set j (f j x))) 3 (0, 0)) := hW2 ▸ rowI_put (show (World.drewN wr (1 + q')).heap[gS]? = _ from hsr.out) j _
                have HS2 := Aside0.mk hS2
                have HSR2 := Aside0.mk hsr2
                have hgs := GS.out
                have hu1 := blk_cell (hS2.blk Q4.out (by omega)) 0
                have hu2 := blk_cell (hS2.blk Q1.out (by omega)) 1
                have hu3 := rowI_cell hsr2 j (by have := hsl.out; rw [List.length_set]; omega)
                rw [show rd (sr.set j (f j x)) (j : Int) = f j x from rd_set _ _ _ (by have := hsl.out; omega)] at hu3
                have hb2 : Below w.heap.size w W2 := q9.trans (hS2.below (by rintro k rfl; omega) (by have := HSZ.out; have := HGE.out; omega))
                obtain ⟨ad, rfl, hu4⟩ := Kd.at_int (Kd.C_below H1.out hb2) (j : Int) p0 (by have := HL.out; omega)
                rw [Int.toNat_natCast] at hu4
                have p2 : (j : Int) < (l1.length : Int) := by have := HL.out; omega
                clear hgs hS2 hsr2 hb2 hW2
                cases q with
                | true =>
                  have hwith : ∀ (n : Nat) (W' : World), CallsIn Fence.wide n Try.prog 118 #[.int .i64 (f j x), .int .i64 0, .int .i64 (wrap64 (rd l1 (j : Int) - 1))] W' fun e w' => e = .returned (.bool (decide (0 ≤ f j x ∧ f j x ≤ wrap64 (rd l1 (j : Int) - 1)))) ∧ ∃ m, w' = W'.drewN m := fun n W' => callsIn_wide.2 ((impl_within.calls (f j x) 0 (wrap64 (rd l1 (j : Int) - 1)) (decide (0 ≤ f j x ∧ f j x ≤ wrap64 (rd l1 (j : Int) - 1))) W' (within_ev _ _)).mono (fun _ _ h => ⟨h.1, h.2.out⟩))
                  refine quiet_round rfl (by kernel_rfl) (by kernel_rfl) (by kernel_rfl) ?_
                  repeat (gi_big_quiet_step (fail))
                  refine BigFrame.wpQuietIn_want (fun _ _ _ _ => trivial) rfl (fun K hK => ?_)
                  gi_big_quiet_op
                  apply Exists.intro
                  refine ⟨fun _ => ?_, ?_⟩
                  · refine CallsIn.quiet_of (hwith _ _)
                  refine hK _ ?_
                  clear hK K
                  repeat (gi_big_quiet_step (fail))
                  refine wpQuietIn_nil ?_
                  intro _ hw'
                  obtain ⟨nq, hw''⟩ := hw'
                  subst hw''
                  gi_wp2
                  refine ⟨⟨j + 1, _, sr.set j (f j x), by push_cast; rfl, rfl, ⟨hjl⟩, ⟨by rw [List.length_set]; exact hsl.out⟩, ⟨HSR2.out⟩, ⟨?_⟩, ⟨?_⟩, ⟨HS2.out.size, HS2.out.same, HS2.out.os, HS2.out.tape, HS2.out.output⟩⟩, by simp [intOf]; omega⟩
                  · rw [← htk.out, HXE.out]; exact src_step f sr _ j (by have := hsl.out; omega) (by have := HCI.out; omega)
                  · rw [← hth.out, thr_step l1 f _ j _ (by have := HCI.out; omega), ← HXE.out]; congr 1; simp [Bool.decide_and]
                | false =>
                  refine quiet_round rfl (by kernel_rfl) (by kernel_rfl) (by kernel_rfl) ?_
                  repeat (gi_big_quiet_step (fail))
                  refine BigFrame.wpQuietIn_skip (fun _ _ _ _ => trivial) rfl ?_
                  go_simp
                  repeat (gi_big_quiet_step (fail))
                  refine wpQuietIn_nil ?_
                  intro nq
                  gi_wp2
                  refine ⟨⟨j + 1, false, sr.set j (f j x), by push_cast; rfl, rfl, ⟨hjl⟩, ⟨by rw [List.length_set]; exact hsl.out⟩, ⟨HSR2.out⟩, ⟨?_⟩, ⟨?_⟩, ⟨HS2.out.size, HS2.out.same, HS2.out.os, HS2.out.tape, HS2.out.output⟩⟩, by simp [intOf]; omega⟩
                  · rw [← htk.out, HXE.out]; exact src_step f sr _ j (by have := hsl.out; omega) (by have := HCI.out; omega)
                  · rw [← hth.out, thr_step l1 f _ j _ (by have := HCI.out; omega), ← HXE.out]; congr 1
              exact AllReadyIn.nil
            exact AllReadyIn.nil
          refine AllReadyIn.cons rfl (fun K hK => ?_) ?_
          · go_simp
            refine ⟨trivial, (hcall _ _ (pw_below_drewN HBE.out 1)).mono ?_⟩
            rintro e w' ⟨rfl, q', rfl⟩
            refine hK _ _ ?_
            clear hK K
            refine wpAnyIn_ready (rs := [0]) (by kernel_rfl) (by simp) ?_
            refine AllReadyIn.cons rfl (fun K hK => ?_) ?_
            · go_simp
              refine hK _ _ ?_
              clear hK K
              refine wpAnyIn_take (i := 6) (v := ?_) rfl rfl (by kernel_rfl) (by kernel_rfl) (by kernel_rfl) (fun _ _ _ h => h) ⟨Or.inl ⟨by rfl, ?_⟩, fun _ => rfl⟩ ?_
              rotate_left
              · intro w'; go_simp; try with_reducible rfl
              refine wpAnyIn_ready (rs := [7]) (by kernel_rfl) (by simp) ?_
              refine AllReadyIn.cons rfl (fun K hK => ?_) ?_
              · go_simp
                refine hK _ _ ?_
                clear hK K
                refine wpAnyIn_done (by kernel_rfl) ?_ _
                gi_wp2
                obtain ⟨W2, hW2⟩ : ∃ W2, (World.drewN wr (1 + q')).setCell ⟨gS, j, none⟩ (.int .i64 (f j x)) = W2 := ⟨_, rfl⟩
                rw [hW2]
                have hS2 : ButS (fun k => k = gS) W W2 := hW2 ▸ butS_set (show ButS (fun k => k = gS) W (World.drewN wr (1 + q')) from ⟨hbs.out.size, hbs.out.same, hbs.out.os, hbs.out.tape, hbs.out.output⟩) rfl j _
                have hsr2 : W2.heap[gS]? = some (.cells (rowI (sr.set j (f j x))) 3 (0, 0)) := hW2 ▸ rowI_put (show (World.drewN wr (1 + q')).heap[gS]? = _ from hsr.out) j _
                have HS2 := Aside0.mk hS2
                have HSR2 := Aside0.mk hsr2
                have hgs := GS.out
                have hu1 := blk_cell (hS2.blk Q4.out (by omega)) 0
                have hu2 := blk_cell (hS2.blk Q1.out (by omega)) 1
                have hu3 := rowI_cell hsr2 j (by have := hsl.out; rw [List.length_set]; omega)
                rw [show rd (sr.set j (f j x)) (j : Int) = f j x from rd_set _ _ _ (by have := hsl.out; omega)] at hu3
                have hb2 : Below w.heap.size w W2 := q9.trans (hS2.below (by rintro k rfl; omega) (by have := HSZ.out; have := HGE.out; omega))
                obtain ⟨ad, rfl, hu4⟩ := Kd.at_int (Kd.C_below H1.out hb2) (j : Int) p0 (by have := HL.out; omega)
                rw [Int.toNat_natCast] at hu4
                have p2 : (j : Int) < (l1.length : Int) := by have := HL.out; omega
                clear hgs hS2 hsr2 hb2 hW2
                cases q with
                | true =>
                  have hwith : ∀ (n : Nat) (W' : World), CallsIn Fence.wide n Try.prog 118 #[.int .i64 (f j x), .int .i64 0, .int .i64 (wrap64 (rd l1 (j : Int) - 1))] W' fun e w' => e = .returned (.bool (decide (0 ≤ f j x ∧ f j x ≤ wrap64 (rd l1 (j : Int) - 1)))) ∧ ∃ m, w' = W'.drewN m := fun n W' => callsIn_wide.2 ((impl_within.calls (f j x) 0 (wrap64 (rd l1 (j : Int) - 1)) (decide (0 ≤ f j x ∧ f j x ≤ wrap64 (rd l1 (j : Int) - 1))) W' (within_ev _ _)).mono (fun _ _ h => ⟨h.1, h.2.out⟩))
                  refine quiet_round rfl (by kernel_rfl) (by kernel_rfl) (by kernel_rfl) ?_
                  repeat (gi_big_quiet_step (fail))
                  refine BigFrame.wpQuietIn_want (fun _ _ _ _ => trivial) rfl (fun K hK => ?_)
                  gi_big_quiet_op
                  apply Exists.intro
                  refine ⟨fun _ => ?_, ?_⟩
                  · refine CallsIn.quiet_of (hwith _ _)
                  refine hK _ ?_
                  clear hK K
                  repeat (gi_big_quiet_step (fail))
                  refine wpQuietIn_nil ?_
                  intro _ hw'
                  obtain ⟨nq, hw''⟩ := hw'
                  subst hw''
                  gi_wp2
                  refine ⟨⟨j + 1, _, sr.set j (f j x), by push_cast; rfl, rfl, ⟨hjl⟩, ⟨by rw [List.length_set]; exact hsl.out⟩, ⟨HSR2.out⟩, ⟨?_⟩, ⟨?_⟩, ⟨HS2.out.size, HS2.out.same, HS2.out.os, HS2.out.tape, HS2.out.output⟩⟩, by simp [intOf]; omega⟩
                  · rw [← htk.out, HXE.out]; exact src_step f sr _ j (by have := hsl.out; omega) (by have := HCI.out; omega)
                  · rw [← hth.out, thr_step l1 f _ j _ (by have := HCI.out; omega), ← HXE.out]; congr 1; simp [Bool.decide_and]
                | false =>
                  refine quiet_round rfl (by kernel_rfl) (by kernel_rfl) (by kernel_rfl) ?_
                  repeat (gi_big_quiet_step (fail))
                  refine BigFrame.wpQuietIn_skip (fun _ _ _ _ => trivial) rfl ?_
                  go_simp
                  repeat (gi_big_quiet_step (fail))
                  refine wpQuietIn_nil ?_
                  intro nq
                  gi_wp2
                  refine ⟨⟨j + 1, false, sr.set j (f j x), by push_cast; rfl, rfl, ⟨hjl⟩, ⟨by rw [List.length_set]; exact hsl.out⟩, ⟨HSR2.out⟩, ⟨?_⟩, ⟨?_⟩, ⟨HS2.out.size, HS2.out.same, HS2.out.os, HS2.out.tape, HS2.out.output⟩⟩, by simp [intOf]; omega⟩
                  · rw [← htk.out, HXE.out]; exact src_step f sr _ j (by have := hsl.out; omega) (by have := HCI.out; omega)
                  · rw [← hth.out, thr_step l1 f _ j _ (by have := HCI.out; omega), ← HXE.out]; congr 1
              exact AllReadyIn.nil
            exact AllReadyIn.nil
          exact AllReadyIn.nil
        exact AllReadyIn.nil
      · have hje : j = s.length := by have := hj.out; omega
        have hte : sr = srcGo f 0 (idxL s t) := by
          have h := htk.out
          rw [List.drop_eq_nil_of_le (by have := HCI.out; omega), srcGo, List.append_nil, List.take_of_length_le (by have := hsl.out; omega)] at h
          exact h
        have hqe : q = thrGo l1 f 0 true (idxL s t) := by
          have h := hth.out
          rw [List.drop_eq_nil_of_le (by have := HCI.out; omega), thrGo] at h
          exact h
        have HTE := Aside0.mk hte
        have HQE := Aside0.mk hqe
        have HJE := Aside0.mk hje
        clear hte hqe hje
        have hgs := GS.out
        have hB5 := blk_cell (hbs.out.blk Q4.out (by omega)) 0
        have hA1 := blk_cell (hbs.out.blk Q1.out (by omega)) 1
        have hM0 := blk_cell (hbs.out.blk Q7.out (by omega)) 0
        have hM1 := blk_cell (hbs.out.blk Q7.out (by omega)) 1
        have hM2 := blk_frozen (hbs.out.blk Q7.out (by omega)) 1
        clear hgs
        cases q with
        | true =>
          have hgs := GS.out
          have hbw : Below w.heap.size w wr := q9.trans (hbs.out.below (by rintro k rfl; omega) (by have := HSZ.out; have := HGE.out; omega))
          have hCS : Kd.C (Kd.int .i64) wr (some ⟨gS, 0, none⟩) sr.length sr := rowI_C hsr.out (by have := hsl.out; omega)
          have hnum : CallsIn (Fence.wide.inRound lo) 6 Try.prog 120 #[.slice A1 l1.length c1, .slice (some ⟨gS, 0, none⟩) s.length s.length] wr fun e w' => e = .returned (.int .i64 (numGo l1 0 0 sr)) ∧ ∃ m, w' = wr.drewN m := by
            have h := impl_number.calls (sr.length + 1) A1 c1 l1 (some ⟨gS, 0, none⟩) sr.length sr _ wr (Kd.C_below H1.out hbw) k1 hCS (Nat.le_refl _) (number_ev l1 sr (by have := hsl.out; have := HL.out; omega) (by have := hsl.out; omega))
            rw [hsl.out] at h
            exact CallsIn.inRound lo (callsIn_wide.2 (h.mono fun _ _ h => ⟨h.1, h.2.out⟩))
          have HN := Aside0.mk hnum
          clear hnum hCS hgs hbw
          have bd1 : t + 1 ≤ maxLen := by have := hlt'.out; unfold maxLen; omega
          have bd2 : (t + 1) * 8 ≤ 140737488355328 := by have := hlt'.out; omega
          have hgs := GS.out
          have hm7 := hbs.out.blk Q7.out (by omega)
          have hrow := hbs.out.own q8 (fun k hk => by omega)
          have HM7 := Aside0.mk hm7
          clear hgs hm7
          gi_wp2_with (first | (refine ⟨trivial, HN.out.mono ?_⟩; rintro e w' ⟨rfl, m, rfl⟩) | (gi_at_builtin; refine wpListIn_append_own _ rfl _ _ 22 rfl (w.heap.size + 10) 3 i0 (.int .i64 0) 1 8 Try.underlying22 hi hz0 hz1 hz2 rfl (by decide) _ _ _ rfl ((show (wr.drewN m).ownsRow _ _ _ _ _ _ from hrow).alloc _) ⟨wr.heap.size, 0, none⟩ 1 1 [.int .i64 (numGo l1 0 0 sr)] rfl rfl (cell_one_new _ _ _) (by simp [Value.oneCell']) bd1 bd2 (by have := HGE.out; have := HSZ.out; have := hbs.out.size; simp; omega) ?_; intro v' w1 hown' hgrow _; obtain ⟨g', cap', rfl⟩ := ownsRow_succ hown'; obtain ⟨pp1, pp2, pp3, ppk, pp4⟩ := pair_appended (W := wr.drewN m) HM7.out (by decide) hrow hown' hgrow; have hc1 := blk_cell pp1 1; have hf1 := blk_frozen pp1 1))
          have hgs := GS.out
          have hb1 : ButS (fun k => k = gS) W (wr.drewN m) := ⟨hbs.out.size, hbs.out.same, hbs.out.os, hbs.out.tape, hbs.out.output⟩
          have hba := (hb1.mono (T := fun k => k = gS ∨ k = gM ∨ w.heap.size + 10 ≤ k) (fun k h => .inl h)).trans (pp4.mono (fun k h => .inr h))
          have hz := HSZ.out
          have hge := HGE.out
          refine ⟨(keeps_butS hb1 (fun k e o ho => by cases e; rw [Q6.out] at ho; cases ho; rfl)).trans ppk, fun k hk => hba.same k ?_ ?_, ?_, hba.blk Q1.out (by omega), hba.blk Q2.out (by omega), hba.blk Q3.out (by omega), hba.blk Q4.out (by omega), ⟨sr, hsl.out, pp4.blk (show (wr.drewN m).heap[gS]? = _ from hsr.out) (by omega)⟩, ⟨_, pp2, ?_⟩, q9.trans (hba.below (fun k hk => by omega) q9.size)⟩
          · rcases hk with rfl | ⟨e0, hk⟩
            · omega
            · have := C_block HS.out e0 hk; omega
          · rcases hk with rfl | ⟨e0, hk⟩
            · omega
            · have := C_block HS.out e0 hk; omega
          · exact hba.blk (show W.heap[W0.heap.size + 2]? = _ from HAT.out) (by omega)
          · rw [show fromL l1 s f (t + 1) = fromL l1 s f t ++ [numGo l1 0 0 sr] from by rw [fromL, fromOne, ← HQE.out]; simp [HTE.out]]
            simpa using pp3
        | false =>
          have bd1 : t + 1 ≤ maxLen := by have := hlt'.out; unfold maxLen; omega
          have bd2 : (t + 1) * 8 ≤ 140737488355328 := by have := hlt'.out; omega
          have hgs := GS.out
          have hm7 := hbs.out.blk Q7.out (by omega)
          have hrow := hbs.out.own q8 (fun k hk => by omega)
          have HM7 := Aside0.mk hm7
          clear hgs hm7
          gi_wp2_with (gi_at_builtin; refine wpListIn_append_own _ rfl _ _ 22 rfl (w.heap.size + 10) 3 i0 (.int .i64 0) 1 8 Try.underlying22 hi hz0 hz1 hz2 rfl (by decide) _ _ _ rfl (hrow.alloc _) ⟨wr.heap.size, 0, none⟩ 1 1 [.int .i64 (-1)] rfl rfl (cell_one_new _ _ _) (by simp [Value.oneCell']) bd1 bd2 (by have := HGE.out; have := HSZ.out; have := hbs.out.size; simp; omega) ?_; intro v' w1 hown' hgrow _; obtain ⟨g', cap', rfl⟩ := ownsRow_succ hown'; obtain ⟨pp1, pp2, pp3, ppk, pp4⟩ := pair_appended HM7.out (by decide) hrow hown' hgrow; have hc1 := blk_cell pp1 1; have hf1 := blk_frozen pp1 1)
          have hgs := GS.out
          have hb1 : ButS (fun k => k = gS) W wr := ⟨hbs.out.size, hbs.out.same, hbs.out.os, hbs.out.tape, hbs.out.output⟩
          have hba := (hb1.mono (T := fun k => k = gS ∨ k = gM ∨ w.heap.size + 10 ≤ k) (fun k h => .inl h)).trans (pp4.mono (fun k h => .inr h))
          have hz := HSZ.out
          have hge := HGE.out
          refine ⟨(keeps_butS hb1 (fun k e o ho => by cases e; rw [Q6.out] at ho; cases ho; rfl)).trans ppk, fun k hk => hba.same k ?_ ?_, ?_, hba.blk Q1.out (by omega), hba.blk Q2.out (by omega), hba.blk Q3.out (by omega), hba.blk Q4.out (by omega), ⟨sr, hsl.out, pp4.blk (show wr.heap[gS]? = _ from hsr.out) (by omega)⟩, ⟨_, pp2, ?_⟩, q9.trans (hba.below (fun k hk => by omega) q9.size)⟩
          · rcases hk with rfl | ⟨e0, hk⟩
            · omega
            · have := C_block HS.out e0 hk; omega
          · rcases hk with rfl | ⟨e0, hk⟩
            · omega
            · have := C_block HS.out e0 hk; omega
          · exact hba.blk (show W.heap[W0.heap.size + 2]? = _ from HAT.out) (by omega)
          · rw [show fromL l1 s f (t + 1) = fromL l1 s f t ++ [-1] from by rw [fromL, fromOne, ← HQE.out]; simp [HTE.out]]
            simpa using pp3
  case done =>
    rintro W ⟨q1, q2, q3, q4, ⟨src, q5, q6⟩, ⟨v, q7, q8⟩, q9⟩ hD
    have hR : Kd.R (Kd.int .i64) 3 W (w.heap.size + 10) (fun _ => True) v (fromL l1 s f (prod s).toNat) := Kd.R_of_own (by rw [fromL_len]; exact q8) (fun _ _ => trivial)
    obtain ⟨Av, cv, rfl⟩ := Kd.R_slice hR
    gi_wp2_with (first | (refine wpListIn_load_row rfl 70 (.tmp 7) rfl gM rfl 70 #[.slice As s.length cs, .slice Av _ cv] (0, 0) _ q7 Try.underlying70 rfl (by kernel_rfl) ?_) | (refine wpListIn_store_named rfl 70 (.tmp 6) (.tmp 62) rfl gR #[.slice As s.length cs, .slice Av _ cv] rfl rfl 70 #[.slice none 0 0, .slice none 0 0] q3 (by kernel_rfl) rfl (by simp [Value.oneCell']) ?_; intro w1 hs1 hb1))
    have hz := HSZ.out
    have hgs := GS.out
    have hD1 : w1.heap[W0.heap.size]? = some (.deferred (some [])) := (hb1.same _ (by omega)).trans hD
    have hR1 := hb1.row hR q3 (by decide)
    refine ⟨by simp, .inl ⟨_, _, rfl, run_takeDeferred hD1, ?_⟩⟩
    refine ⟨_, results_cell_row rfl _ _ gR 70 #[.slice As s.length cs, .slice Av _ cv] (0, 0) _ rfl ((World.putObj_heap_other (by omega)).trans hs1) Try.underlying70 rfl (by kernel_rfl), _, rfl, Kd.R_of_own (own_weaken (base := w.heap.size + 10) (ownsRow_putObj (Kd.own_of_R hR1) _ hD1 rfl) (by omega)) (fun _ _ => trivial), (q9.trans (hb1.below _ (by omega))).trans (belowK_b (w := w) (Nat.le_refl _) w1 W0.heap.size _ _ (by omega) hD1 rfl rfl)⟩
  case stop =>
    rintro c t W _ h _
    exact h.elim
end Go.Proofs.Ytehfcnndjhjkoaa.PA

-- By a program (prt.py, over the print of the kit), for this claim. Not trusted: Lean checks it.
namespace Go.Proofs.Ytehfcnndjhjkoaa.PA
open Go.RowKit Go.Proofs.YtehfcnndjhjkoaaW.PrintWords Go.Proofs.YtehfcnndjhjkoaaW.PrintLast Go.Proofs.YtehfcnndjhjkoaaW.PrintMore
attribute [local go_sem] max2_int min2_int max_two min_two max_three min_three max_four min_four   -- for this text's walks alone
set_option linter.unusedVariables false
set_option linter.unusedSimpArgs false

/-! ### impl_firstAxis: function 102 -/
def impl_firstAxis.f (a0_0 : Bool) (l0_1 : List Int) (l0_2 : List Int) (a1 : Bool) : Option (Int) := if a1 = true then (some 0) else ((impl_Array_rank.f a0_0 l0_1 l0_2).bind fun t102 => (some (wrap64 (t102 - 1))))
set_option maxHeartbeats 8000000 in
set_option maxRecDepth 100000 in
theorem impl_firstAxis.calls (a0_0 : Bool) (A0_1 : Option Addr) (c0_1 : Nat) (l0_1 : List Int) (A0_2 : Option Addr) (c0_2 : Nat) (l0_2 : List Int) (a1 : Bool) (r : Int) (w : World) (hr0_1 : Kd.C (Kd.int .i64) w A0_1 l0_1.length l0_1) (hc0_1 : l0_1.length ≤ c0_1) (hr0_2 : Kd.C (Kd.int .i64) w A0_2 l0_2.length l0_2) (hc0_2 : l0_2.length ≤ c0_2) (h : impl_firstAxis.f a0_0 l0_1 l0_2 a1 = some r) :
    Calls Try.prog 102 #[.agg #[.bool a0_0, .slice A0_1 l0_1.length c0_1, .slice A0_2 l0_2.length c0_2], .bool a1] w fun e w' => e = .returned (.int .i64 r) ∧ Below w.heap.size w w' := by
  have hu28 := Try.underlying28
  have HR0_1 := Aside0.mk hr0_1
  have HC0_1 := Aside0.mk hc0_1
  clear hr0_1 hc0_1
  have HR0_2 := Aside0.mk hr0_2
  have HC0_2 := Aside0.mk hc0_2
  clear hr0_2 hc0_2
  have HB := Aside0.mk (Below.refl w.heap.size w)
  have H : (if a1 = true then (some 0) else ((impl_Array_rank.f a0_0 l0_1 l0_2).bind fun t102 => (some (wrap64 (t102 - 1))))) = some r := h
  clear h
  by_cases c3 : a1 = true
  · subst c3
    have H1 : (some 0) = some r := by rw [if_pos rfl] at H; exact H
    clear H
    have H := H1
    clear H1
    obtain rfl := Option.some.inj H
    go_enter Try.func102, Try.ntmps102
    go_wp2_with (first | ((with_reducible refine gate_dst (N := 2) rfl ?_); refine box_event ?hg (N := 2) ?hd (cs := #[.bool a0_0, .slice A0_1 l0_1.length c0_1, .slice A0_2 l0_2.length c0_2]) (t := 28) ?hr ?_; (case hd => rfl); (case hg => rfl); (case hr => first | (go_simp; done) | (go_simp; rfl)); intro gb101 hg w4 hbox hb; have n0_ := Aside0.mk (below_step (by repeat (first | (with_reducible first | exact HB.out | apply below_alloc | apply pw_below_drewN | apply below_drew1) | exact HB.out)) hb); have n1_ := Aside0.mk (hbox); have n2_ := Aside0.mk ((by rw [hg]; exact (below_size (by repeat (first | (with_reducible first | exact HB.out | apply below_alloc | apply pw_below_drewN | apply below_drew1) | exact HB.out))) : w.heap.size ≤ gb101)); have n3_ := Aside0.mk ((by rw [hg]; exact (below_size (by repeat (first | (with_reducible first | exact HB.out | apply below_alloc | apply pw_below_drewN | apply below_drew1) | exact HB.out))) : w.heap.size ≤ gb101)); clear HB; have HB := n0_; have BK101 := n1_; have GW101 := n2_; have GE101 := n3_; clear n0_ n1_ n2_ n3_; clear hb hbox hg))
    go_ret
    exact ⟨by first | rfl | (simp [errW_none, errW_some] <;> rfl) | (simp [*, errW_none, errW_some] <;> rfl), by repeat (first | (with_reducible first | exact HB.out | apply below_alloc | apply pw_below_drewN | apply below_drew1 | refine below_set ?_ GE101.out) | exact HB.out)⟩
  · replace c3 := Bool.eq_false_iff.mpr c3
    subst c3
    have H1 : ((impl_Array_rank.f a0_0 l0_1 l0_2).bind fun t102 => (some (wrap64 (t102 - 1)))) = some r := by rw [if_neg (show ¬ (false = true) by decide)] at H; exact H
    clear H
    have H := H1
    clear H1
    replace H := Option.bind_eq_some_iff.mp H
    obtain ⟨t102, A50, H⟩ := H
    replace H : (some (wrap64 (t102 - 1))) = some r := H
    have A5 := Aside0.mk A50
    clear A50
    obtain rfl := Option.some.inj H
    go_enter Try.func102, Try.ntmps102
    go_wp2_with (first | ((with_reducible refine gate_dst (N := 2) rfl ?_); refine box_event ?hg (N := 2) ?hd (cs := #[.bool a0_0, .slice A0_1 l0_1.length c0_1, .slice A0_2 l0_2.length c0_2]) (t := 28) ?hr ?_; (case hd => rfl); (case hg => rfl); (case hr => first | (go_simp; done) | (go_simp; rfl)); intro gb101 hg w6 hbox hb; have n0_ := Aside0.mk (below_step (by repeat (first | (with_reducible first | exact HB.out | apply below_alloc | apply pw_below_drewN | apply below_drew1) | exact HB.out)) hb); have n1_ := Aside0.mk (hbox); have n2_ := Aside0.mk ((by rw [hg]; exact (below_size (by repeat (first | (with_reducible first | exact HB.out | apply below_alloc | apply pw_below_drewN | apply below_drew1) | exact HB.out))) : w.heap.size ≤ gb101)); have n3_ := Aside0.mk ((by rw [hg]; exact (below_size (by repeat (first | (with_reducible first | exact HB.out | apply below_alloc | apply pw_below_drewN | apply below_drew1) | exact HB.out))) : w.heap.size ≤ gb101)); clear HB; have HB := n0_; have BK101 := n1_; have GW101 := n2_; have GE101 := n3_; clear n0_ n1_ n2_ n3_; clear hb hbox hg; have hcz7_0 : w6.cell? ⟨gb101, 0, none⟩ = some (.bool a0_0) := (blk_cell BK101.out 0).trans rfl; have hcz7_1 : w6.cell? ⟨gb101, 1, none⟩ = some (.slice A0_1 l0_1.length c0_1) := (blk_cell BK101.out 1).trans rfl; have hcz7_2 : w6.cell? ⟨gb101, 2, none⟩ = some (.slice A0_2 l0_2.length c0_2) := (blk_cell BK101.out 2).trans rfl; have hfz7_0 := blk_frozen BK101.out 0; have hfz7_1 := blk_frozen BK101.out 1; have hfz7_2 := blk_frozen BK101.out 2) | ((with_reducible refine gate_callee (f := 90) rfl ?_); refine goesL_ (some 7) rfl rfl Try.func90 (by kernel_rfl) rfl #[.agg #[.bool a0_0, .slice A0_1 l0_1.length c0_1, .slice A0_2 l0_2.length c0_2]] rfl (by (try simp only [List.map_toArray, List.map_cons, List.map_nil]); first | done | rfl | (simp only [List.length_drop, List.length_take]; rfl)) ?_; (with_reducible refine (impl_Array_rank.calls a0_0 _ _ l0_1 _ _ l0_2 t102 _ ?side1 ?side2 ?side3 ?side4 A5.out).mono ?_); (case side1 => repeat (first | exact (Kd.C_below HR0_1.out HB.out) | (with_reducible refine Kd.C_alloc ?_ _) | (with_reducible refine Kd.C_drewN ?_ _) | (with_reducible refine Kd.C_drew ?_))); (case side2 => exact HC0_1.out); (case side3 => repeat (first | exact (Kd.C_below HR0_2.out HB.out) | (with_reducible refine Kd.C_alloc ?_ _) | (with_reducible refine Kd.C_drewN ?_ _) | (with_reducible refine Kd.C_drew ?_))); (case side4 => exact HC0_2.out); rintro e w8 ⟨rfl, hb⟩; refine ⟨_, rfl, ?_⟩; have n0_ := Aside0.mk (blk_below (g := gb101) (o := .cells #[.bool a0_0, .slice A0_1 l0_1.length c0_1, .slice A0_2 l0_2.length c0_2] 28 (0, 0)) (by (with_reducible repeat (first | refine blk_drewN ?_ _ | refine blk_drew ?_ | refine blk_alloc ?_ _)); exact BK101.out) hb); have n1_ := Aside0.mk (below_step (by repeat (first | (with_reducible first | exact HB.out | apply below_alloc | apply pw_below_drewN | apply below_drew1 | refine below_set ?_ GE101.out) | exact HB.out)) hb); clear BK101; clear HB; have BK101 := n0_; have HB := n1_; clear n0_ n1_; (try clear hb); (try clear hb2); (try clear hk); (try clear hi)))
    go_ret
    exact ⟨by first | rfl | (simp [errW_none, errW_some] <;> rfl) | (simp [*, errW_none, errW_some] <;> rfl), by repeat (first | (with_reducible first | exact HB.out | apply below_alloc | apply pw_below_drewN | apply below_drew1 | refine below_set ?_ GE101.out) | exact HB.out)⟩

end Go.Proofs.Ytehfcnndjhjkoaa.PA
