import Derived.Test.YtehfcnndjhjkoaaKFnCut1
import Derived.RangeFuncNested
import Derived.RangeFuncBound
import Derived.RangeFuncCalls
import Derived.RangeFuncLeaves
import Derived.RangeFuncKeeps
import Derived.RangeFuncBox
import Derived.Maps.AppendAt
import Derived.Shelf.Abstract
import Derived.Shelf.RegionOpen
import Derived.WalkKit
import Derived.OwnWalkIn
import Derived.TacticsInMore
import Derived.LoopNIn
import Derived.LoopIn
import Derived.StillTailTactics
import Derived.Laws.CopyOwn
import Derived.IntWalk
import Derived.Deep.RegionLaw
import Derived.Laws.BitsLemmas
import Derived.Sort.BigQuietIn
import Derived.Stop.RegionWithIn
import Derived.Deep.RegionHeld3
import Derived.Lib.AppendZerosOnto
import Derived.Lib.SliceRun
import Derived.LoopN
import Derived.BigQuiet

-- By a program (prt.py, over the print of the kit), for this claim. Not trusted: Lean checks it.
namespace Go.Proofs.Ytehfcnndjhjkoaa.PA
open Go.RowKit Go.Proofs.YtehfcnndjhjkoaaW.PrintWords Go.Proofs.YtehfcnndjhjkoaaW.PrintLast Go.Proofs.YtehfcnndjhjkoaaW.PrintMore
attribute [local go_sem] max2_int min2_int max_two min_two max_three min_three max_four min_four   -- for this text's walks alone
set_option linter.unusedVariables false
set_option linter.unusedSimpArgs false

/-! ### spec_l3Shape: function 122 -/
def spec_l3Shape.l0 : Nat → Int → Int → List Int → Int → List Int → Int → Option (List Int × Int)
  | 0, _, _, _, _, _, _ => none
  | k + 1, x3, x4, x5, x6, x1000, x1001 => if x6 < x4 then ((spec_l1Rd_next.f x1000 x1001).bind fun bt110 => (if x4 > 3 then (if (wrap64 ((Int.tmod (Int.tmod bt110.1 5) 2) + 1)) = 0 then (if x3 < 220 then (if x5.length < 17592186044416 then (spec_l3Shape.l0 k x3 x4 (x5 ++ [2]) (wrap64 (x6 + 1)) x1000 bt110.2) else (none)) else (if x5.length < 17592186044416 then (spec_l3Shape.l0 k x3 x4 (x5 ++ [wrap64 ((Int.tmod (Int.tmod bt110.1 5) 2) + 1)]) (wrap64 (x6 + 1)) x1000 bt110.2) else (none))) else (if x5.length < 17592186044416 then (spec_l3Shape.l0 k x3 x4 (x5 ++ [wrap64 ((Int.tmod (Int.tmod bt110.1 5) 2) + 1)]) (wrap64 (x6 + 1)) x1000 bt110.2) else (none))) else (if (Int.tmod bt110.1 5) = 0 then (if x3 < 220 then (if x5.length < 17592186044416 then (spec_l3Shape.l0 k x3 x4 (x5 ++ [2]) (wrap64 (x6 + 1)) x1000 bt110.2) else (none)) else (if x5.length < 17592186044416 then (spec_l3Shape.l0 k x3 x4 (x5 ++ [Int.tmod bt110.1 5]) (wrap64 (x6 + 1)) x1000 bt110.2) else (none))) else (if x5.length < 17592186044416 then (spec_l3Shape.l0 k x3 x4 (x5 ++ [Int.tmod bt110.1 5]) (wrap64 (x6 + 1)) x1000 bt110.2) else (none))))) else (some (x5, x1001))
def spec_l3Shape.f (k : Nat) (s0_0 : List Int) (s0_1 : Int) : Option (List Int × Int) := (spec_l1Rd_next.f s0_0 s0_1).bind fun bt101 => ((some (([1, 1, 1, 0, 2, 2, 3, 0, 2, 4, 1, 5] : List Int) : List Int)).bind fun y103 => (if 0 ≤ (Int.tmod bt101.1 12) then (if (Int.tmod bt101.1 12) < (y103.length : Int) then (spec_l3Shape.l0 k bt101.1 (rd y103 (Int.tmod bt101.1 12)) (([] : List Int)) 0 s0_0 bt101.2) else (none)) else (none)))
theorem spec_l3Shape.mono_l : ∀ k, (∀ y0 y1 y2 y3 y4 y5, LeO (spec_l3Shape.l0 k y0 y1 y2 y3 y4 y5) (spec_l3Shape.l0 (k + 1) y0 y1 y2 y3 y4 y5))
  | 0 => fun _ _ _ _ _ _ r h => by simp [spec_l3Shape.l0] at h
  | k + 1 => by
    have ih0 := spec_l3Shape.mono_l k
    · intro y0 y1 y2 y3 y4 y5
      unfold spec_l3Shape.l0
      repeat' first
      | (with_reducible exact ih0 _ _ _ _ _ _)
      | (with_reducible exact LeO.refl _)
      | (with_reducible exact LeO.none _)
      | (with_reducible refine LeO.ite ?_ ?_)
      | (with_reducible refine LeO.bind ?_ (fun _ => ?_))
      | exact ih0 _ _ _ _ _ _
      | exact LeO.none _
      | refine LeO.ite ?_ ?_
      | refine LeO.bind ?_ (fun _ => ?_)
theorem spec_l3Shape.mono : ∀ a0 a1 k, LeO (spec_l3Shape.f k a0 a1) (spec_l3Shape.f (k + 1) a0 a1) := by
  intro a0 a1 k
  have ih0 := spec_l3Shape.mono_l k
  unfold spec_l3Shape.f
  repeat' first
      | (with_reducible exact ih0 _ _ _ _ _ _)
      | (with_reducible exact LeO.refl _)
      | (with_reducible exact LeO.none _)
      | (with_reducible refine LeO.ite ?_ ?_)
      | (with_reducible refine LeO.bind ?_ (fun _ => ?_))
      | exact ih0 _ _ _ _ _ _
      | exact LeO.none _
      | refine LeO.ite ?_ ?_
      | refine LeO.bind ?_ (fun _ => ?_)
set_option maxHeartbeats 8000000 in
set_option maxRecDepth 100000 in
theorem spec_l3Shape.calls (k : Nat) (g : Nat) (s0_0 : List Int) (s0_1 : Int) (r1 : List Int) (r2 : Int) (w0 w : World) (hI : IsS127 w0 w g s0_0 s0_1) (hB : Below w0.heap.size w0 w) (h : spec_l3Shape.f k s0_0 s0_1 = some (r1, r2)) :
    Calls Try.prog 122 #[.pointer (some ⟨g, 0, none⟩)] w fun e w' => ∃ v0_ : Value, e = .returned (v0_) ∧ Kd.R (Kd.int .i64) 3 w' w.heap.size (fun _ => True) v0_ r1 ∧ IsS127 w0 w' g s0_0 r2 ∧ Below w0.heap.size w0 w' ∧ KeepBut w w' g none := by
  have HI0 := Aside0.mk hI
  have HK := Aside0.mk (KeepBut.refl w g none)
  have HL := Aside0.mk hB.size
  clear hI
  have HW0 := Aside0.mk hB.size
  have HB := Aside0.mk hB
  clear hB
  have H : ((spec_l1Rd_next.f s0_0 s0_1).bind fun bt101 => ((some (([1, 1, 1, 0, 2, 2, 3, 0, 2, 4, 1, 5] : List Int) : List Int)).bind fun y103 => (if 0 ≤ (Int.tmod bt101.1 12) then (if (Int.tmod bt101.1 12) < (y103.length : Int) then (spec_l3Shape.l0 k bt101.1 (rd y103 (Int.tmod bt101.1 12)) (([] : List Int)) 0 s0_0 bt101.2) else (none)) else (none)))) = some (r1, r2) := h
  clear h
  replace H := Option.bind_eq_some_iff.mp H
  obtain ⟨⟨t101, t102⟩, A20, H⟩ := H
  replace H : ((some (([1, 1, 1, 0, 2, 2, 3, 0, 2, 4, 1, 5] : List Int) : List Int)).bind fun y103 => (if 0 ≤ (Int.tmod t101 12) then (if (Int.tmod t101 12) < (y103.length : Int) then (spec_l3Shape.l0 k t101 (rd y103 (Int.tmod t101 12)) (([] : List Int)) 0 s0_0 t102) else (none)) else (none))) = some (r1, r2) := H
  have A2 := Aside0.mk A20
  clear A20
  obtain ⟨y103, hy103⟩ : ∃ y_ : List Int, y_ = (([1, 1, 1, 0, 2, 2, 3, 0, 2, 4, 1, 5] : List Int)) := ⟨_, rfl⟩
  replace H : (if 0 ≤ (Int.tmod t101 12) then (if (Int.tmod t101 12) < (y103.length : Int) then (spec_l3Shape.l0 k t101 (rd y103 (Int.tmod t101 12)) (([] : List Int)) 0 s0_0 t102) else (none)) else (none)) = some (r1, r2) := by first | (rw [hy103]; with_reducible exact H) | (have H2_ := (Option.bind_some _ _).symm.trans H; rw [hy103]; with_reducible exact H2_) | (have H2_ := (Option.bind_some _ _).symm.trans H; with_reducible exact H2_) | with_reducible exact H | (rw [hy103]; exact H) | exact H
  have Ny103 := Aside0.mk hy103
  clear hy103
  obtain ⟨ji3, hji3⟩ : ∃ j_ : Int, (Int.tmod t101 12) = j_ := ⟨_, rfl⟩
  replace H : (if 0 ≤ (ji3) then (if (ji3) < (y103.length : Int) then (spec_l3Shape.l0 k t101 (rd y103 (ji3)) (([] : List Int)) 0 s0_0 t102) else (none)) else (none)) = some (r1, r2) := by first | (rw [hji3] at H; exact H) | (simp only [hji3] at H ⊢; exact H)
  (try rw [hji3] at A2)
  by_cases c4 : 0 ≤ (ji3)
  · rw [if_pos c4] at H
    have c4b0 : decide (0 ≤ (ji3)) = true := decide_eq_true c4
    clear c4
    by_cases c5 : (ji3) < (y103.length : Int)
    · rw [if_pos c5] at H
      have c5b0 : decide ((ji3) < (y103.length : Int)) = true := decide_eq_true c5
      clear c5
      obtain ⟨y107, hy107⟩ : ∃ y_ : List Int, y_ = (([] : List Int)) := ⟨_, rfl⟩
      replace H : (spec_l3Shape.l0 k t101 (rd y103 (ji3)) y107 0 s0_0 t102) = some (r1, r2) := by first | (rw [hy107]; with_reducible exact H) | (have H2_ := (Option.bind_some _ _).symm.trans H; rw [hy107]; with_reducible exact H2_) | (have H2_ := (Option.bind_some _ _).symm.trans H; with_reducible exact H2_) | with_reducible exact H | (rw [hy107]; exact H) | exact H
      have Ny107 := Aside0.mk hy107
      clear hy107
      have H' := Aside0.mk H
      clear H
      go_enter Try.func122, Try.ntmps122
      go_wp2_with (first | ((with_reducible refine gate_callee (f := 66) rfl ?_); refine goesL_ (some 9) rfl rfl Try.func66 (by kernel_rfl) rfl #[.pointer (some ⟨g, 0, none⟩)] rfl (by (try simp only [List.map_toArray, List.map_cons, List.map_nil]); first | done | rfl | (simp only [List.length_drop, List.length_take]; rfl)) ?_; (with_reducible refine (spec_l1Rd_next.calls g s0_0 s0_1 t101 t102 w0 _ ?side1 ?side2 A2.out).mono ?_); (case side1 => repeat (first | (with_reducible first | exact HI0.out | apply IsS127.alloc | apply IsS127.drewN | apply IsS127.drew | apply IsS127.set_1) | exact HI0.out)); (case side2 => repeat (first | (with_reducible first | exact HB.out | apply below_alloc | apply pw_below_drewN | apply below_drew1 | refine below_set ?_ (IsS127.ge HI0.out)) | exact HB.out)); rintro e w6 ⟨rfl, hi, hb, hk⟩; refine ⟨_, rfl, ?_⟩; have n0_ := Aside0.mk (KeepBut.trans (by repeat (first | (with_reducible first | exact HK.out | apply KeepBut.set_ | apply keep_drewN | apply keep_drew | apply keep_alloc) | exact HK.out)) hk (.inl rfl)); have n1_ := Aside0.mk (hb); have n2_ := Aside0.mk (hi); clear HK; clear HB; clear HI0; have HK := n0_; have HB := n1_; have HI0 := n2_; clear n0_ n1_ n2_; (try clear hb); (try clear hb2); (try clear hk); (try clear hi)) | ((with_reducible refine gate_dst (N := 10) rfl ?_); refine Kd.R_lit (Kd.int .i64) _ 3 ?hg (N := 10) ?hd (xs := ([1, 1, 1, 0, 2, 2, 3, 0, 2, 4, 1, 5] : List Int)) (inner := [.int .i64 1, .int .i64 1, .int .i64 1, .int .i64 0, .int .i64 2, .int .i64 2, .int .i64 3, .int .i64 0, .int .i64 2, .int .i64 4, .int .i64 1, .int .i64 5]) (ok := fun _ => True) (okp := fun _ => True) ?hr ?hp (fun _ hk => hk) trivial (Below.refl _ _) (Nat.le_refl _) (by simp) ?_; (case hd => rfl); (case hg => rfl); (case hr => first | (go_simp; done) | (go_simp; rfl)); (case hp => exact (Reps.one (show Kd.M (Kd.int .i64) _ _ _ 1 [.int .i64 1] from rfl) (Reps.one (show Kd.M (Kd.int .i64) _ _ _ 1 [.int .i64 1] from rfl) (Reps.one (show Kd.M (Kd.int .i64) _ _ _ 1 [.int .i64 1] from rfl) (Reps.one (show Kd.M (Kd.int .i64) _ _ _ 0 [.int .i64 0] from rfl) (Reps.one (show Kd.M (Kd.int .i64) _ _ _ 2 [.int .i64 2] from rfl) (Reps.one (show Kd.M (Kd.int .i64) _ _ _ 2 [.int .i64 2] from rfl) (Reps.one (show Kd.M (Kd.int .i64) _ _ _ 3 [.int .i64 3] from rfl) (Reps.one (show Kd.M (Kd.int .i64) _ _ _ 0 [.int .i64 0] from rfl) (Reps.one (show Kd.M (Kd.int .i64) _ _ _ 2 [.int .i64 2] from rfl) (Reps.one (show Kd.M (Kd.int .i64) _ _ _ 4 [.int .i64 4] from rfl) (Reps.one (show Kd.M (Kd.int .i64) _ _ _ 1 [.int .i64 1] from rfl) (Reps.one (show Kd.M (Kd.int .i64) _ _ _ 5 [.int .i64 5] from rfl) (Reps.none _ _)))))))))))))); intro v104 w7 ho8 hb hg_ hnew_; clear hg_ hnew_; (first | rw [← Ny103.out] at ho8 | (simp only [Int.reduceToNat] at ho8; rw [← Ny103.out] at ho8)); have n0_ := Aside0.mk (Kd.R_lower ho8 (keep_size (w := w) (g := g) (row := none) (by repeat (first | (with_reducible first | exact HK.out | apply KeepBut.set_ | apply keep_drewN | apply keep_drew | apply keep_alloc) | exact HK.out)))); have n1_ := Aside0.mk (IsS127.below (by repeat (first | (with_reducible first | exact HI0.out | apply IsS127.alloc | apply IsS127.drewN | apply IsS127.drew | apply IsS127.set_1) | exact HI0.out)) hb); have n2_ := Aside0.mk (KeepBut.trans (by repeat (first | (with_reducible first | exact HK.out | apply KeepBut.set_ | apply keep_drewN | apply keep_drew | apply keep_alloc) | exact HK.out)) (KeepBut.of_below hb g none) (.inl rfl)); have n3_ := Aside0.mk (below_step (by repeat (first | (with_reducible first | exact HB.out | apply below_alloc | apply pw_below_drewN | apply below_drew1 | refine below_set ?_ (IsS127.ge HI0.out)) | exact HB.out)) hb); clear HI0; clear HK; clear HB; have HO105 := n0_; have HI0 := n1_; have HK := n2_; have HB := n3_; clear n0_ n1_ n2_ n3_; clear hb ho8; obtain ⟨Ao9, co9, eo9⟩ := Kd.R_slice HO105.out; subst eo9; have p106 : 0 ≤ ((ji3) : Int) := of_decide_eq_true (by first | (with_reducible assumption) | assumption); have q106 : (ji3) < (y103.length : Int) := of_decide_eq_true (by first | (with_reducible assumption) | assumption); obtain ⟨ad106, e106, hx106_0⟩ := Kd.at_int (Kd.R_reads' HO105.out).2.2 (ji3) p106 q106; cases e106; replace p106 := eq_true p106; replace q106 := eq_true q106) | ((with_reducible refine gate_dst (N := 15) rfl ?_); refine Kd.R_lit (Kd.int .i64) _ 3 ?hg (N := 15) ?hd (xs := ([] : List Int)) (inner := []) (ok := fun _ => True) (okp := fun _ => True) ?hr ?hp (fun _ hk => hk) trivial (Below.refl _ _) (Nat.le_refl _) (by simp) ?_; (case hd => rfl); (case hg => rfl); (case hr => first | (go_simp; done) | (go_simp; rfl)); (case hp => exact (Reps.none _ _)); intro v108 w10 ho11 hb hg_ hnew_; clear hg_ hnew_; (first | rw [← Ny107.out] at ho11 | (simp only [Int.reduceToNat] at ho11; rw [← Ny107.out] at ho11)); have n0_ := Aside0.mk (Kd.R_elder' (by (with_reducible repeat (first | apply Kd.R_alloc | apply Kd.R_drewN | apply Kd.R_drew)); exact HO105.out) (Kd.R_base ho11) hb); have n1_ := Aside0.mk (Kd.R_lower (Kd.R_new' ho11 (Kd.R_lt (by (with_reducible repeat (first | apply Kd.R_alloc | apply Kd.R_drewN | apply Kd.R_drew)); exact HO105.out))) (keep_size (w := w) (g := g) (row := none) (by repeat (first | (with_reducible first | exact HK.out | apply KeepBut.set_ | apply keep_drewN | apply keep_drew | apply keep_alloc) | exact HK.out)))); have n2_ := Aside0.mk (IsS127.below (by repeat (first | (with_reducible first | exact HI0.out | apply IsS127.alloc | apply IsS127.drewN | apply IsS127.drew | apply IsS127.set_1) | exact HI0.out)) hb); have n3_ := Aside0.mk (KeepBut.trans (by repeat (first | (with_reducible first | exact HK.out | apply KeepBut.set_ | apply keep_drewN | apply keep_drew | apply keep_alloc) | exact HK.out)) (KeepBut.of_below hb g none) (.inl rfl)); have n4_ := Aside0.mk (below_step (by repeat (first | (with_reducible first | exact HB.out | apply below_alloc | apply pw_below_drewN | apply below_drew1 | refine below_set ?_ (IsS127.ge HI0.out)) | exact HB.out)) hb); clear HO105; clear HI0; clear HK; clear HB; have HO105 := n0_; have HO109 := n1_; have HI0 := n2_; have HK := n3_; have HB := n4_; clear n0_ n1_ n2_ n3_ n4_; clear hb ho11))
      go_loopg [5, 6] k (fun kq v5 v6 w' => ∃ (x5_1 : List Int) (x6_1 : Int) (x1001_1 : Int), v6 = .int .i64 x6_1 ∧ Aside0 (spec_l3Shape.l0 kq t101 (rd y103 (ji3)) x5_1 x6_1 s0_0 x1001_1 = some (r1, r2)) ∧ Aside0 (kq ≤ k) ∧ Aside0 (Kd.R (Kd.int .i64) 3 w' w.heap.size (fun _ => True) v5 x5_1) ∧ Aside0 (IsS127 w0 w' g s0_0 x1001_1) ∧ Aside0 (KeepBut w w' g none) ∧ Aside0 (Below w0.heap.size w0 w'))
      case atStart => exact ⟨(y107), (0), (t102), (by first | rfl | (simp; done) | (simp [*]; done)), H', ⟨Nat.le_refl _⟩, ⟨by (with_reducible repeat (first | apply Kd.R_alloc | apply Kd.R_drewN | apply Kd.R_drew)); exact Kd.R_mono HO109.out (fun _ hk => trivial)⟩, ⟨by repeat (first | (with_reducible first | exact HI0.out | apply IsS127.alloc | apply IsS127.drewN | apply IsS127.drew | apply IsS127.set_1) | exact HI0.out)⟩, ⟨by repeat (first | (with_reducible first | exact HK.out | apply KeepBut.set_ | apply keep_drewN | apply keep_drew | apply keep_alloc) | exact HK.out)⟩, ⟨by repeat (first | (with_reducible first | exact HB.out | apply below_alloc | apply pw_below_drewN | apply below_drew1 | refine below_set ?_ (IsS127.ge HI0.out)) | exact HB.out)⟩⟩
      case round =>
        clear H'
        try clear c1
        try clear p1
        try clear q1
        try clear hx1
        try clear p2
        try clear c4
        try clear c4b0
        try clear c5
        try clear c5b0
        try clear c6
        try clear p10
        try clear q10
        try clear hx10
        try clear hx106_0
        try clear p106
        try clear q106
        obtain ⟨x5_1, x6_1, x1001_1, rfl, HA, HK1, HO_5, HI0, HK, HB⟩ := hrel
        cases gk with
        | zero => exact absurd HA.out (by simp [spec_l3Shape.l0])
        | succ k1 =>
          have H := HA.out
          clear HA
          simp only [spec_l3Shape.l0] at H
          by_cases c12 : x6_1 < (rd y103 (ji3))
          · rw [if_pos c12] at H
            have c12b0 : decide (x6_1 < (rd y103 (ji3))) = true := decide_eq_true c12
            clear c12
            replace H := Option.bind_eq_some_iff.mp H
            obtain ⟨⟨t110, t111⟩, A130, H⟩ := H
            replace H : (if (rd y103 (ji3)) > 3 then (if (wrap64 ((Int.tmod (Int.tmod t110 5) 2) + 1)) = 0 then (if t101 < 220 then (if x5_1.length < 17592186044416 then (spec_l3Shape.l0 k1 t101 (rd y103 (ji3)) (x5_1 ++ [2]) (wrap64 (x6_1 + 1)) s0_0 t111) else (none)) else (if x5_1.length < 17592186044416 then (spec_l3Shape.l0 k1 t101 (rd y103 (ji3)) (x5_1 ++ [wrap64 ((Int.tmod (Int.tmod t110 5) 2) + 1)]) (wrap64 (x6_1 + 1)) s0_0 t111) else (none))) else (if x5_1.length < 17592186044416 then (spec_l3Shape.l0 k1 t101 (rd y103 (ji3)) (x5_1 ++ [wrap64 ((Int.tmod (Int.tmod t110 5) 2) + 1)]) (wrap64 (x6_1 + 1)) s0_0 t111) else (none))) else (if (Int.tmod t110 5) = 0 then (if t101 < 220 then (if x5_1.length < 17592186044416 then (spec_l3Shape.l0 k1 t101 (rd y103 (ji3)) (x5_1 ++ [2]) (wrap64 (x6_1 + 1)) s0_0 t111) else (none)) else (if x5_1.length < 17592186044416 then (spec_l3Shape.l0 k1 t101 (rd y103 (ji3)) (x5_1 ++ [Int.tmod t110 5]) (wrap64 (x6_1 + 1)) s0_0 t111) else (none))) else (if x5_1.length < 17592186044416 then (spec_l3Shape.l0 k1 t101 (rd y103 (ji3)) (x5_1 ++ [Int.tmod t110 5]) (wrap64 (x6_1 + 1)) s0_0 t111) else (none)))) = some (r1, r2) := H
            have A13 := Aside0.mk A130
            clear A130
            by_cases c14 : (rd y103 (ji3)) > 3
            · rw [if_pos c14] at H
              have c14b0 : decide (3 < (rd y103 (ji3))) = true := decide_eq_true c14
              clear c14
              by_cases c15 : (wrap64 ((Int.tmod (Int.tmod t110 5) 2) + 1)) = 0
              · rw [if_pos c15] at H
                have c15b0 : ((wrap64 ((Int.tmod (Int.tmod t110 5) 2) + 1)) == 0) = true := beq_iff_eq.mpr c15
                have c15b1 : ((wrap64 ((Int.tmod (Int.tmod t110 5) 2) + 1)) != 0) = false := bne_eq_false_iff_eq.mpr c15
                clear c15
                by_cases c16 : t101 < 220
                · rw [if_pos c16] at H
                  have c16b0 : decide (t101 < 220) = true := decide_eq_true c16
                  clear c16
                  by_cases c17 : x5_1.length < 17592186044416
                  · rw [if_pos c17] at H
                    have LMc17 := Aside0.mk c17
                    clear c17
                    obtain ⟨y112, hy112⟩ : ∃ y_ : List Int, y_ = (x5_1 ++ [2]) := ⟨_, rfl⟩
                    replace H : (spec_l3Shape.l0 k1 t101 (rd y103 (ji3)) y112 (wrap64 (x6_1 + 1)) s0_0 t111) = some (r1, r2) := by first | (rw [hy112]; with_reducible exact H) | (have H2_ := (Option.bind_some _ _).symm.trans H; rw [hy112]; with_reducible exact H2_) | (have H2_ := (Option.bind_some _ _).symm.trans H; with_reducible exact H2_) | with_reducible exact H | (rw [hy112]; exact H) | exact H
                    have Ny112 := Aside0.mk hy112
                    clear hy112
                    have H' := Aside0.mk H
                    clear H
                    go_wp2_with (first | ((with_reducible refine gate_callee (f := 66) rfl ?_); refine goesL_ (some 22) rfl rfl Try.func66 (by kernel_rfl) rfl #[.pointer (some ⟨g, 0, none⟩)] rfl (by (try simp only [List.map_toArray, List.map_cons, List.map_nil]); first | done | rfl | (simp only [List.length_drop, List.length_take]; rfl)) ?_; (with_reducible refine (spec_l1Rd_next.calls g s0_0 x1001_1 t110 t111 w0 _ ?side1 ?side2 A13.out).mono ?_); (case side1 => repeat (first | (with_reducible first | exact HI0.out | apply IsS127.alloc | apply IsS127.drewN | apply IsS127.drew | apply IsS127.set_1) | exact HI0.out)); (case side2 => repeat (first | (with_reducible first | exact HB.out | apply below_alloc | apply pw_below_drewN | apply below_drew1 | refine below_set ?_ (IsS127.ge HI0.out)) | exact HB.out)); rintro e w18 ⟨rfl, hi, hb, hk⟩; refine ⟨_, rfl, ?_⟩; have n0_ := Aside0.mk (Kd.R_mono (Kd.R_keep (IsS127.apart (show IsS127 w0 _ g s0_0 x1001_1 from by repeat (first | (with_reducible first | exact HI0.out | apply IsS127.alloc | apply IsS127.drewN | apply IsS127.drew | apply IsS127.set_1) | exact HI0.out)) (by (with_reducible repeat (first | apply Kd.R_alloc | apply Kd.R_drewN | apply Kd.R_drew)); exact HO_5.out) (by decide)) hk (fun _ h => h.2)) (fun _ h => h.1)); have n1_ := Aside0.mk (KeepBut.trans (by repeat (first | (with_reducible first | exact HK.out | apply KeepBut.set_ | apply keep_drewN | apply keep_drew | apply keep_alloc) | exact HK.out)) hk (.inl rfl)); have n2_ := Aside0.mk (hb); have n3_ := Aside0.mk (hi); clear HO_5; clear HK; clear HB; clear HI0; have HO_5 := n0_; have HK := n1_; have HB := n2_; have HI0 := n3_; clear n0_ n1_ n2_ n3_; (try clear hb); (try clear hb2); (try clear hk); (try clear hi)) | ((with_reducible refine gate_builtin (b := .append) (xs := #[.tmp 35, .tmp 37]) rfl ?_); at_builtin; refine Kd.R_append (Kd.int .i64) w.heap.size rfl (.tmp 35) (.tmp 37) 22 3 (.int .i64 0) 8 rfl Try.underlying22 info3 rfl (by decide) (by omega) u5 x5_1 2 [.int .i64 2] (fun _ => True) (fun _ => False) rfl rfl ?aP (fun _ hk => hk.elim) ?aF ?aO (Below.refl _ _) ?aS ?aL ?_; (case aP => exact rfl); (case aF => exact (fun _ _ => trivial)); (case aO => exact (by (with_reducible repeat (first | apply Kd.R_alloc | apply Kd.R_drewN | apply Kd.R_drew)); exact HO_5.out)); (case aS => exact (keep_size (w := w) (g := g) (row := none) (by repeat (first | (with_reducible first | exact HK.out | apply KeepBut.set_ | apply keep_drewN | apply keep_drew | apply keep_alloc) | exact HK.out)))); (case aL => have := LMc17.out; omega); intro v113 w19 ho hb hg hat; rw [← Ny112.out] at ho; have n0_ := Aside0.mk (IsS127.grown (by repeat (first | (with_reducible first | exact HI0.out | apply IsS127.alloc | apply IsS127.drewN | apply IsS127.drew | apply IsS127.set_1) | exact HI0.out)) hg (IsS127.own_ne HI0.out HO_5.out (by decide))); have n1_ := Aside0.mk (below_weaken (by repeat (first | (with_reducible first | exact HB.out | apply below_alloc | apply pw_below_drewN | apply below_drew1 | refine below_set ?_ (IsS127.ge HI0.out)) | exact HB.out)) HL.out hb); have n2_ := Aside0.mk (KeepBut.trans (by repeat (first | (with_reducible first | exact HK.out | apply KeepBut.set_ | apply keep_drewN | apply keep_drew | apply keep_alloc) | exact HK.out)) (KeepBut.of_grown hg g) (Kd.R_base2 HO_5.out)); have n3_ := Aside0.mk (ho); clear HI0; clear HB; clear HK; clear HO_5; have HI0 := n0_; have HB := n1_; have HK := n2_; have HO114 := n3_; clear n0_ n1_ n2_ n3_; clear ho hb hg hat))
                    go_roundg k1
                    case measure => have := HK1.out; omega
                    case rel => exact ⟨(y112), (wrap64 (x6_1 + 1)), (t111), (by first | rfl | (simp; done) | (simp [*]; done)), H', ⟨by have := HK1.out; omega⟩, ⟨by (with_reducible repeat (first | apply Kd.R_alloc | apply Kd.R_drewN | apply Kd.R_drew)); exact HO114.out⟩, ⟨by repeat (first | (with_reducible first | exact HI0.out | apply IsS127.alloc | apply IsS127.drewN | apply IsS127.drew | apply IsS127.set_1) | exact HI0.out)⟩, ⟨by repeat (first | (with_reducible first | exact HK.out | apply KeepBut.set_ | apply keep_drewN | apply keep_drew | apply keep_alloc) | exact HK.out)⟩, ⟨by repeat (first | (with_reducible first | exact HB.out | apply below_alloc | apply pw_below_drewN | apply below_drew1 | refine below_set ?_ (IsS127.ge HI0.out)) | exact HB.out)⟩⟩
                  · rw [if_neg c17] at H
                    exact absurd H (by simp)
                · rw [if_neg c16] at H
                  have c16b0 : decide (t101 < 220) = false := decide_eq_false c16
                  clear c16
                  by_cases c20 : x5_1.length < 17592186044416
                  · rw [if_pos c20] at H
                    have LMc20 := Aside0.mk c20
                    clear c20
                    obtain ⟨y115, hy115⟩ : ∃ y_ : List Int, y_ = (x5_1 ++ [wrap64 ((Int.tmod (Int.tmod t110 5) 2) + 1)]) := ⟨_, rfl⟩
                    replace H : (spec_l3Shape.l0 k1 t101 (rd y103 (ji3)) y115 (wrap64 (x6_1 + 1)) s0_0 t111) = some (r1, r2) := by first | (rw [hy115]; with_reducible exact H) | (have H2_ := (Option.bind_some _ _).symm.trans H; rw [hy115]; with_reducible exact H2_) | (have H2_ := (Option.bind_some _ _).symm.trans H; with_reducible exact H2_) | with_reducible exact H | (rw [hy115]; exact H) | exact H
                    have Ny115 := Aside0.mk hy115
                    clear hy115
                    have H' := Aside0.mk H
                    clear H
                    go_wp2_with (first | ((with_reducible refine gate_callee (f := 66) rfl ?_); refine goesL_ (some 22) rfl rfl Try.func66 (by kernel_rfl) rfl #[.pointer (some ⟨g, 0, none⟩)] rfl (by (try simp only [List.map_toArray, List.map_cons, List.map_nil]); first | done | rfl | (simp only [List.length_drop, List.length_take]; rfl)) ?_; (with_reducible refine (spec_l1Rd_next.calls g s0_0 x1001_1 t110 t111 w0 _ ?side1 ?side2 A13.out).mono ?_); (case side1 => repeat (first | (with_reducible first | exact HI0.out | apply IsS127.alloc | apply IsS127.drewN | apply IsS127.drew | apply IsS127.set_1) | exact HI0.out)); (case side2 => repeat (first | (with_reducible first | exact HB.out | apply below_alloc | apply pw_below_drewN | apply below_drew1 | refine below_set ?_ (IsS127.ge HI0.out)) | exact HB.out)); rintro e w21 ⟨rfl, hi, hb, hk⟩; refine ⟨_, rfl, ?_⟩; have n0_ := Aside0.mk (Kd.R_mono (Kd.R_keep (IsS127.apart (show IsS127 w0 _ g s0_0 x1001_1 from by repeat (first | (with_reducible first | exact HI0.out | apply IsS127.alloc | apply IsS127.drewN | apply IsS127.drew | apply IsS127.set_1) | exact HI0.out)) (by (with_reducible repeat (first | apply Kd.R_alloc | apply Kd.R_drewN | apply Kd.R_drew)); exact HO_5.out) (by decide)) hk (fun _ h => h.2)) (fun _ h => h.1)); have n1_ := Aside0.mk (KeepBut.trans (by repeat (first | (with_reducible first | exact HK.out | apply KeepBut.set_ | apply keep_drewN | apply keep_drew | apply keep_alloc) | exact HK.out)) hk (.inl rfl)); have n2_ := Aside0.mk (hb); have n3_ := Aside0.mk (hi); clear HO_5; clear HK; clear HB; clear HI0; have HO_5 := n0_; have HK := n1_; have HB := n2_; have HI0 := n3_; clear n0_ n1_ n2_ n3_; (try clear hb); (try clear hb2); (try clear hk); (try clear hi)) | ((with_reducible refine gate_builtin (b := .append) (xs := #[.tmp 35, .tmp 37]) rfl ?_); at_builtin; refine Kd.R_append (Kd.int .i64) w.heap.size rfl (.tmp 35) (.tmp 37) 22 3 (.int .i64 0) 8 rfl Try.underlying22 info3 rfl (by decide) (by omega) u5 x5_1 (wrap64 ((Int.tmod (Int.tmod t110 5) 2) + 1)) [.int .i64 (wrap64 ((Int.tmod (Int.tmod t110 5) 2) + 1))] (fun _ => True) (fun _ => False) rfl rfl ?aP (fun _ hk => hk.elim) ?aF ?aO (Below.refl _ _) ?aS ?aL ?_; (case aP => exact rfl); (case aF => exact (fun _ _ => trivial)); (case aO => exact (by (with_reducible repeat (first | apply Kd.R_alloc | apply Kd.R_drewN | apply Kd.R_drew)); exact HO_5.out)); (case aS => exact (keep_size (w := w) (g := g) (row := none) (by repeat (first | (with_reducible first | exact HK.out | apply KeepBut.set_ | apply keep_drewN | apply keep_drew | apply keep_alloc) | exact HK.out)))); (case aL => have := LMc20.out; omega); intro v116 w22 ho hb hg hat; rw [← Ny115.out] at ho; have n0_ := Aside0.mk (IsS127.grown (by repeat (first | (with_reducible first | exact HI0.out | apply IsS127.alloc | apply IsS127.drewN | apply IsS127.drew | apply IsS127.set_1) | exact HI0.out)) hg (IsS127.own_ne HI0.out HO_5.out (by decide))); have n1_ := Aside0.mk (below_weaken (by repeat (first | (with_reducible first | exact HB.out | apply below_alloc | apply pw_below_drewN | apply below_drew1 | refine below_set ?_ (IsS127.ge HI0.out)) | exact HB.out)) HL.out hb); have n2_ := Aside0.mk (KeepBut.trans (by repeat (first | (with_reducible first | exact HK.out | apply KeepBut.set_ | apply keep_drewN | apply keep_drew | apply keep_alloc) | exact HK.out)) (KeepBut.of_grown hg g) (Kd.R_base2 HO_5.out)); have n3_ := Aside0.mk (ho); clear HI0; clear HB; clear HK; clear HO_5; have HI0 := n0_; have HB := n1_; have HK := n2_; have HO117 := n3_; clear n0_ n1_ n2_ n3_; clear ho hb hg hat))
                    go_roundg k1
                    case measure => have := HK1.out; omega
                    case rel => exact ⟨(y115), (wrap64 (x6_1 + 1)), (t111), (by first | rfl | (simp; done) | (simp [*]; done)), H', ⟨by have := HK1.out; omega⟩, ⟨by (with_reducible repeat (first | apply Kd.R_alloc | apply Kd.R_drewN | apply Kd.R_drew)); exact HO117.out⟩, ⟨by repeat (first | (with_reducible first | exact HI0.out | apply IsS127.alloc | apply IsS127.drewN | apply IsS127.drew | apply IsS127.set_1) | exact HI0.out)⟩, ⟨by repeat (first | (with_reducible first | exact HK.out | apply KeepBut.set_ | apply keep_drewN | apply keep_drew | apply keep_alloc) | exact HK.out)⟩, ⟨by repeat (first | (with_reducible first | exact HB.out | apply below_alloc | apply pw_below_drewN | apply below_drew1 | refine below_set ?_ (IsS127.ge HI0.out)) | exact HB.out)⟩⟩
                  · rw [if_neg c20] at H
                    exact absurd H (by simp)
              · rw [if_neg c15] at H
                have c15b0 : ((wrap64 ((Int.tmod (Int.tmod t110 5) 2) + 1)) == 0) = false := beq_eq_false_iff_ne.mpr c15
                have c15b1 : ((wrap64 ((Int.tmod (Int.tmod t110 5) 2) + 1)) != 0) = true := bne_iff_ne.mpr c15
                by_cases c23 : x5_1.length < 17592186044416
                · rw [if_pos c23] at H
                  have LMc23 := Aside0.mk c23
                  clear c23
                  obtain ⟨y118, hy118⟩ : ∃ y_ : List Int, y_ = (x5_1 ++ [wrap64 ((Int.tmod (Int.tmod t110 5) 2) + 1)]) := ⟨_, rfl⟩
                  replace H : (spec_l3Shape.l0 k1 t101 (rd y103 (ji3)) y118 (wrap64 (x6_1 + 1)) s0_0 t111) = some (r1, r2) := by first | (rw [hy118]; with_reducible exact H) | (have H2_ := (Option.bind_some _ _).symm.trans H; rw [hy118]; with_reducible exact H2_) | (have H2_ := (Option.bind_some _ _).symm.trans H; with_reducible exact H2_) | with_reducible exact H | (rw [hy118]; exact H) | exact H
                  have Ny118 := Aside0.mk hy118
                  clear hy118
                  have H' := Aside0.mk H
                  clear H
                  go_wp2_with (first | ((with_reducible refine gate_callee (f := 66) rfl ?_); refine goesL_ (some 22) rfl rfl Try.func66 (by kernel_rfl) rfl #[.pointer (some ⟨g, 0, none⟩)] rfl (by (try simp only [List.map_toArray, List.map_cons, List.map_nil]); first | done | rfl | (simp only [List.length_drop, List.length_take]; rfl)) ?_; (with_reducible refine (spec_l1Rd_next.calls g s0_0 x1001_1 t110 t111 w0 _ ?side1 ?side2 A13.out).mono ?_); (case side1 => repeat (first | (with_reducible first | exact HI0.out | apply IsS127.alloc | apply IsS127.drewN | apply IsS127.drew | apply IsS127.set_1) | exact HI0.out)); (case side2 => repeat (first | (with_reducible first | exact HB.out | apply below_alloc | apply pw_below_drewN | apply below_drew1 | refine below_set ?_ (IsS127.ge HI0.out)) | exact HB.out)); rintro e w24 ⟨rfl, hi, hb, hk⟩; refine ⟨_, rfl, ?_⟩; have n0_ := Aside0.mk (Kd.R_mono (Kd.R_keep (IsS127.apart (show IsS127 w0 _ g s0_0 x1001_1 from by repeat (first | (with_reducible first | exact HI0.out | apply IsS127.alloc | apply IsS127.drewN | apply IsS127.drew | apply IsS127.set_1) | exact HI0.out)) (by (with_reducible repeat (first | apply Kd.R_alloc | apply Kd.R_drewN | apply Kd.R_drew)); exact HO_5.out) (by decide)) hk (fun _ h => h.2)) (fun _ h => h.1)); have n1_ := Aside0.mk (KeepBut.trans (by repeat (first | (with_reducible first | exact HK.out | apply KeepBut.set_ | apply keep_drewN | apply keep_drew | apply keep_alloc) | exact HK.out)) hk (.inl rfl)); have n2_ := Aside0.mk (hb); have n3_ := Aside0.mk (hi); clear HO_5; clear HK; clear HB; clear HI0; have HO_5 := n0_; have HK := n1_; have HB := n2_; have HI0 := n3_; clear n0_ n1_ n2_ n3_; (try clear hb); (try clear hb2); (try clear hk); (try clear hi)) | ((with_reducible refine gate_builtin (b := .append) (xs := #[.tmp 35, .tmp 37]) rfl ?_); at_builtin; refine Kd.R_append (Kd.int .i64) w.heap.size rfl (.tmp 35) (.tmp 37) 22 3 (.int .i64 0) 8 rfl Try.underlying22 info3 rfl (by decide) (by omega) u5 x5_1 (wrap64 ((Int.tmod (Int.tmod t110 5) 2) + 1)) [.int .i64 (wrap64 ((Int.tmod (Int.tmod t110 5) 2) + 1))] (fun _ => True) (fun _ => False) rfl rfl ?aP (fun _ hk => hk.elim) ?aF ?aO (Below.refl _ _) ?aS ?aL ?_; (case aP => exact rfl); (case aF => exact (fun _ _ => trivial)); (case aO => exact (by (with_reducible repeat (first | apply Kd.R_alloc | apply Kd.R_drewN | apply Kd.R_drew)); exact HO_5.out)); (case aS => exact (keep_size (w := w) (g := g) (row := none) (by repeat (first | (with_reducible first | exact HK.out | apply KeepBut.set_ | apply keep_drewN | apply keep_drew | apply keep_alloc) | exact HK.out)))); (case aL => have := LMc23.out; omega); intro v119 w25 ho hb hg hat; rw [← Ny118.out] at ho; have n0_ := Aside0.mk (IsS127.grown (by repeat (first | (with_reducible first | exact HI0.out | apply IsS127.alloc | apply IsS127.drewN | apply IsS127.drew | apply IsS127.set_1) | exact HI0.out)) hg (IsS127.own_ne HI0.out HO_5.out (by decide))); have n1_ := Aside0.mk (below_weaken (by repeat (first | (with_reducible first | exact HB.out | apply below_alloc | apply pw_below_drewN | apply below_drew1 | refine below_set ?_ (IsS127.ge HI0.out)) | exact HB.out)) HL.out hb); have n2_ := Aside0.mk (KeepBut.trans (by repeat (first | (with_reducible first | exact HK.out | apply KeepBut.set_ | apply keep_drewN | apply keep_drew | apply keep_alloc) | exact HK.out)) (KeepBut.of_grown hg g) (Kd.R_base2 HO_5.out)); have n3_ := Aside0.mk (ho); clear HI0; clear HB; clear HK; clear HO_5; have HI0 := n0_; have HB := n1_; have HK := n2_; have HO120 := n3_; clear n0_ n1_ n2_ n3_; clear ho hb hg hat))
                  go_roundg k1
                  case measure => have := HK1.out; omega
                  case rel => exact ⟨(y118), (wrap64 (x6_1 + 1)), (t111), (by first | rfl | (simp; done) | (simp [*]; done)), H', ⟨by have := HK1.out; omega⟩, ⟨by (with_reducible repeat (first | apply Kd.R_alloc | apply Kd.R_drewN | apply Kd.R_drew)); exact HO120.out⟩, ⟨by repeat (first | (with_reducible first | exact HI0.out | apply IsS127.alloc | apply IsS127.drewN | apply IsS127.drew | apply IsS127.set_1) | exact HI0.out)⟩, ⟨by repeat (first | (with_reducible first | exact HK.out | apply KeepBut.set_ | apply keep_drewN | apply keep_drew | apply keep_alloc) | exact HK.out)⟩, ⟨by repeat (first | (with_reducible first | exact HB.out | apply below_alloc | apply pw_below_drewN | apply below_drew1 | refine below_set ?_ (IsS127.ge HI0.out)) | exact HB.out)⟩⟩
                · rw [if_neg c23] at H
                  exact absurd H (by simp)
            · rw [if_neg c14] at H
              have c14b0 : decide (3 < (rd y103 (ji3))) = false := decide_eq_false c14
              clear c14
              by_cases c26 : (Int.tmod t110 5) = 0
              · rw [if_pos c26] at H
                have c26b0 : ((Int.tmod t110 5) == 0) = true := beq_iff_eq.mpr c26
                have c26b1 : ((Int.tmod t110 5) != 0) = false := bne_eq_false_iff_eq.mpr c26
                clear c26
                by_cases c27 : t101 < 220
                · rw [if_pos c27] at H
                  have c27b0 : decide (t101 < 220) = true := decide_eq_true c27
                  clear c27
                  by_cases c28 : x5_1.length < 17592186044416
                  · rw [if_pos c28] at H
                    have LMc28 := Aside0.mk c28
                    clear c28
                    obtain ⟨y121, hy121⟩ : ∃ y_ : List Int, y_ = (x5_1 ++ [2]) := ⟨_, rfl⟩
                    replace H : (spec_l3Shape.l0 k1 t101 (rd y103 (ji3)) y121 (wrap64 (x6_1 + 1)) s0_0 t111) = some (r1, r2) := by first | (rw [hy121]; with_reducible exact H) | (have H2_ := (Option.bind_some _ _).symm.trans H; rw [hy121]; with_reducible exact H2_) | (have H2_ := (Option.bind_some _ _).symm.trans H; with_reducible exact H2_) | with_reducible exact H | (rw [hy121]; exact H) | exact H
                    have Ny121 := Aside0.mk hy121
                    clear hy121
                    have H' := Aside0.mk H
                    clear H
                    go_wp2_with (first | ((with_reducible refine gate_callee (f := 66) rfl ?_); refine goesL_ (some 22) rfl rfl Try.func66 (by kernel_rfl) rfl #[.pointer (some ⟨g, 0, none⟩)] rfl (by (try simp only [List.map_toArray, List.map_cons, List.map_nil]); first | done | rfl | (simp only [List.length_drop, List.length_take]; rfl)) ?_; (with_reducible refine (spec_l1Rd_next.calls g s0_0 x1001_1 t110 t111 w0 _ ?side1 ?side2 A13.out).mono ?_); (case side1 => repeat (first | (with_reducible first | exact HI0.out | apply IsS127.alloc | apply IsS127.drewN | apply IsS127.drew | apply IsS127.set_1) | exact HI0.out)); (case side2 => repeat (first | (with_reducible first | exact HB.out | apply below_alloc | apply pw_below_drewN | apply below_drew1 | refine below_set ?_ (IsS127.ge HI0.out)) | exact HB.out)); rintro e w29 ⟨rfl, hi, hb, hk⟩; refine ⟨_, rfl, ?_⟩; have n0_ := Aside0.mk (Kd.R_mono (Kd.R_keep (IsS127.apart (show IsS127 w0 _ g s0_0 x1001_1 from by repeat (first | (with_reducible first | exact HI0.out | apply IsS127.alloc | apply IsS127.drewN | apply IsS127.drew | apply IsS127.set_1) | exact HI0.out)) (by (with_reducible repeat (first | apply Kd.R_alloc | apply Kd.R_drewN | apply Kd.R_drew)); exact HO_5.out) (by decide)) hk (fun _ h => h.2)) (fun _ h => h.1)); have n1_ := Aside0.mk (KeepBut.trans (by repeat (first | (with_reducible first | exact HK.out | apply KeepBut.set_ | apply keep_drewN | apply keep_drew | apply keep_alloc) | exact HK.out)) hk (.inl rfl)); have n2_ := Aside0.mk (hb); have n3_ := Aside0.mk (hi); clear HO_5; clear HK; clear HB; clear HI0; have HO_5 := n0_; have HK := n1_; have HB := n2_; have HI0 := n3_; clear n0_ n1_ n2_ n3_; (try clear hb); (try clear hb2); (try clear hk); (try clear hi)) | ((with_reducible refine gate_builtin (b := .append) (xs := #[.tmp 35, .tmp 37]) rfl ?_); at_builtin; refine Kd.R_append (Kd.int .i64) w.heap.size rfl (.tmp 35) (.tmp 37) 22 3 (.int .i64 0) 8 rfl Try.underlying22 info3 rfl (by decide) (by omega) u5 x5_1 2 [.int .i64 2] (fun _ => True) (fun _ => False) rfl rfl ?aP (fun _ hk => hk.elim) ?aF ?aO (Below.refl _ _) ?aS ?aL ?_; (case aP => exact rfl); (case aF => exact (fun _ _ => trivial)); (case aO => exact (by (with_reducible repeat (first | apply Kd.R_alloc | apply Kd.R_drewN | apply Kd.R_drew)); exact HO_5.out)); (case aS => exact (keep_size (w := w) (g := g) (row := none) (by repeat (first | (with_reducible first | exact HK.out | apply KeepBut.set_ | apply keep_drewN | apply keep_drew | apply keep_alloc) | exact HK.out)))); (case aL => have := LMc28.out; omega); intro v122 w30 ho hb hg hat; rw [← Ny121.out] at ho; have n0_ := Aside0.mk (IsS127.grown (by repeat (first | (with_reducible first | exact HI0.out | apply IsS127.alloc | apply IsS127.drewN | apply IsS127.drew | apply IsS127.set_1) | exact HI0.out)) hg (IsS127.own_ne HI0.out HO_5.out (by decide))); have n1_ := Aside0.mk (below_weaken (by repeat (first | (with_reducible first | exact HB.out | apply below_alloc | apply pw_below_drewN | apply below_drew1 | refine below_set ?_ (IsS127.ge HI0.out)) | exact HB.out)) HL.out hb); have n2_ := Aside0.mk (KeepBut.trans (by repeat (first | (with_reducible first | exact HK.out | apply KeepBut.set_ | apply keep_drewN | apply keep_drew | apply keep_alloc) | exact HK.out)) (KeepBut.of_grown hg g) (Kd.R_base2 HO_5.out)); have n3_ := Aside0.mk (ho); clear HI0; clear HB; clear HK; clear HO_5; have HI0 := n0_; have HB := n1_; have HK := n2_; have HO123 := n3_; clear n0_ n1_ n2_ n3_; clear ho hb hg hat))
                    go_roundg k1
                    case measure => have := HK1.out; omega
                    case rel => exact ⟨(y121), (wrap64 (x6_1 + 1)), (t111), (by first | rfl | (simp; done) | (simp [*]; done)), H', ⟨by have := HK1.out; omega⟩, ⟨by (with_reducible repeat (first | apply Kd.R_alloc | apply Kd.R_drewN | apply Kd.R_drew)); exact HO123.out⟩, ⟨by repeat (first | (with_reducible first | exact HI0.out | apply IsS127.alloc | apply IsS127.drewN | apply IsS127.drew | apply IsS127.set_1) | exact HI0.out)⟩, ⟨by repeat (first | (with_reducible first | exact HK.out | apply KeepBut.set_ | apply keep_drewN | apply keep_drew | apply keep_alloc) | exact HK.out)⟩, ⟨by repeat (first | (with_reducible first | exact HB.out | apply below_alloc | apply pw_below_drewN | apply below_drew1 | refine below_set ?_ (IsS127.ge HI0.out)) | exact HB.out)⟩⟩
                  · rw [if_neg c28] at H
                    exact absurd H (by simp)
                · rw [if_neg c27] at H
                  have c27b0 : decide (t101 < 220) = false := decide_eq_false c27
                  clear c27
                  by_cases c31 : x5_1.length < 17592186044416
                  · rw [if_pos c31] at H
                    have LMc31 := Aside0.mk c31
                    clear c31
                    obtain ⟨y124, hy124⟩ : ∃ y_ : List Int, y_ = (x5_1 ++ [Int.tmod t110 5]) := ⟨_, rfl⟩
                    replace H : (spec_l3Shape.l0 k1 t101 (rd y103 (ji3)) y124 (wrap64 (x6_1 + 1)) s0_0 t111) = some (r1, r2) := by first | (rw [hy124]; with_reducible exact H) | (have H2_ := (Option.bind_some _ _).symm.trans H; rw [hy124]; with_reducible exact H2_) | (have H2_ := (Option.bind_some _ _).symm.trans H; with_reducible exact H2_) | with_reducible exact H | (rw [hy124]; exact H) | exact H
                    have Ny124 := Aside0.mk hy124
                    clear hy124
                    have H' := Aside0.mk H
                    clear H
                    go_wp2_with (first | ((with_reducible refine gate_callee (f := 66) rfl ?_); refine goesL_ (some 22) rfl rfl Try.func66 (by kernel_rfl) rfl #[.pointer (some ⟨g, 0, none⟩)] rfl (by (try simp only [List.map_toArray, List.map_cons, List.map_nil]); first | done | rfl | (simp only [List.length_drop, List.length_take]; rfl)) ?_; (with_reducible refine (spec_l1Rd_next.calls g s0_0 x1001_1 t110 t111 w0 _ ?side1 ?side2 A13.out).mono ?_); (case side1 => repeat (first | (with_reducible first | exact HI0.out | apply IsS127.alloc | apply IsS127.drewN | apply IsS127.drew | apply IsS127.set_1) | exact HI0.out)); (case side2 => repeat (first | (with_reducible first | exact HB.out | apply below_alloc | apply pw_below_drewN | apply below_drew1 | refine below_set ?_ (IsS127.ge HI0.out)) | exact HB.out)); rintro e w32 ⟨rfl, hi, hb, hk⟩; refine ⟨_, rfl, ?_⟩; have n0_ := Aside0.mk (Kd.R_mono (Kd.R_keep (IsS127.apart (show IsS127 w0 _ g s0_0 x1001_1 from by repeat (first | (with_reducible first | exact HI0.out | apply IsS127.alloc | apply IsS127.drewN | apply IsS127.drew | apply IsS127.set_1) | exact HI0.out)) (by (with_reducible repeat (first | apply Kd.R_alloc | apply Kd.R_drewN | apply Kd.R_drew)); exact HO_5.out) (by decide)) hk (fun _ h => h.2)) (fun _ h => h.1)); have n1_ := Aside0.mk (KeepBut.trans (by repeat (first | (with_reducible first | exact HK.out | apply KeepBut.set_ | apply keep_drewN | apply keep_drew | apply keep_alloc) | exact HK.out)) hk (.inl rfl)); have n2_ := Aside0.mk (hb); have n3_ := Aside0.mk (hi); clear HO_5; clear HK; clear HB; clear HI0; have HO_5 := n0_; have HK := n1_; have HB := n2_; have HI0 := n3_; clear n0_ n1_ n2_ n3_; (try clear hb); (try clear hb2); (try clear hk); (try clear hi)) | ((with_reducible refine gate_builtin (b := .append) (xs := #[.tmp 35, .tmp 37]) rfl ?_); at_builtin; refine Kd.R_append (Kd.int .i64) w.heap.size rfl (.tmp 35) (.tmp 37) 22 3 (.int .i64 0) 8 rfl Try.underlying22 info3 rfl (by decide) (by omega) u5 x5_1 (Int.tmod t110 5) [.int .i64 (Int.tmod t110 5)] (fun _ => True) (fun _ => False) rfl rfl ?aP (fun _ hk => hk.elim) ?aF ?aO (Below.refl _ _) ?aS ?aL ?_; (case aP => exact rfl); (case aF => exact (fun _ _ => trivial)); (case aO => exact (by (with_reducible repeat (first | apply Kd.R_alloc | apply Kd.R_drewN | apply Kd.R_drew)); exact HO_5.out)); (case aS => exact (keep_size (w := w) (g := g) (row := none) (by repeat (first | (with_reducible first | exact HK.out | apply KeepBut.set_ | apply keep_drewN | apply keep_drew | apply keep_alloc) | exact HK.out)))); (case aL => have := LMc31.out; omega); intro v125 w33 ho hb hg hat; rw [← Ny124.out] at ho; have n0_ := Aside0.mk (IsS127.grown (by repeat (first | (with_reducible first | exact HI0.out | apply IsS127.alloc | apply IsS127.drewN | apply IsS127.drew | apply IsS127.set_1) | exact HI0.out)) hg (IsS127.own_ne HI0.out HO_5.out (by decide))); have n1_ := Aside0.mk (below_weaken (by repeat (first | (with_reducible first | exact HB.out | apply below_alloc | apply pw_below_drewN | apply below_drew1 | refine below_set ?_ (IsS127.ge HI0.out)) | exact HB.out)) HL.out hb); have n2_ := Aside0.mk (KeepBut.trans (by repeat (first | (with_reducible first | exact HK.out | apply KeepBut.set_ | apply keep_drewN | apply keep_drew | apply keep_alloc) | exact HK.out)) (KeepBut.of_grown hg g) (Kd.R_base2 HO_5.out)); have n3_ := Aside0.mk (ho); clear HI0; clear HB; clear HK; clear HO_5; have HI0 := n0_; have HB := n1_; have HK := n2_; have HO126 := n3_; clear n0_ n1_ n2_ n3_; clear ho hb hg hat))
                    go_roundg k1
                    case measure => have := HK1.out; omega
                    case rel => exact ⟨(y124), (wrap64 (x6_1 + 1)), (t111), (by first | rfl | (simp; done) | (simp [*]; done)), H', ⟨by have := HK1.out; omega⟩, ⟨by (with_reducible repeat (first | apply Kd.R_alloc | apply Kd.R_drewN | apply Kd.R_drew)); exact HO126.out⟩, ⟨by repeat (first | (with_reducible first | exact HI0.out | apply IsS127.alloc | apply IsS127.drewN | apply IsS127.drew | apply IsS127.set_1) | exact HI0.out)⟩, ⟨by repeat (first | (with_reducible first | exact HK.out | apply KeepBut.set_ | apply keep_drewN | apply keep_drew | apply keep_alloc) | exact HK.out)⟩, ⟨by repeat (first | (with_reducible first | exact HB.out | apply below_alloc | apply pw_below_drewN | apply below_drew1 | refine below_set ?_ (IsS127.ge HI0.out)) | exact HB.out)⟩⟩
                  · rw [if_neg c31] at H
                    exact absurd H (by simp)
              · rw [if_neg c26] at H
                have c26b0 : ((Int.tmod t110 5) == 0) = false := beq_eq_false_iff_ne.mpr c26
                have c26b1 : ((Int.tmod t110 5) != 0) = true := bne_iff_ne.mpr c26
                by_cases c34 : x5_1.length < 17592186044416
                · rw [if_pos c34] at H
                  have LMc34 := Aside0.mk c34
                  clear c34
                  obtain ⟨y127, hy127⟩ : ∃ y_ : List Int, y_ = (x5_1 ++ [Int.tmod t110 5]) := ⟨_, rfl⟩
                  replace H : (spec_l3Shape.l0 k1 t101 (rd y103 (ji3)) y127 (wrap64 (x6_1 + 1)) s0_0 t111) = some (r1, r2) := by first | (rw [hy127]; with_reducible exact H) | (have H2_ := (Option.bind_some _ _).symm.trans H; rw [hy127]; with_reducible exact H2_) | (have H2_ := (Option.bind_some _ _).symm.trans H; with_reducible exact H2_) | with_reducible exact H | (rw [hy127]; exact H) | exact H
                  have Ny127 := Aside0.mk hy127
                  clear hy127
                  have H' := Aside0.mk H
                  clear H
                  go_wp2_with (first | ((with_reducible refine gate_callee (f := 66) rfl ?_); refine goesL_ (some 22) rfl rfl Try.func66 (by kernel_rfl) rfl #[.pointer (some ⟨g, 0, none⟩)] rfl (by (try simp only [List.map_toArray, List.map_cons, List.map_nil]); first | done | rfl | (simp only [List.length_drop, List.length_take]; rfl)) ?_; (with_reducible refine (spec_l1Rd_next.calls g s0_0 x1001_1 t110 t111 w0 _ ?side1 ?side2 A13.out).mono ?_); (case side1 => repeat (first | (with_reducible first | exact HI0.out | apply IsS127.alloc | apply IsS127.drewN | apply IsS127.drew | apply IsS127.set_1) | exact HI0.out)); (case side2 => repeat (first | (with_reducible first | exact HB.out | apply below_alloc | apply pw_below_drewN | apply below_drew1 | refine below_set ?_ (IsS127.ge HI0.out)) | exact HB.out)); rintro e w35 ⟨rfl, hi, hb, hk⟩; refine ⟨_, rfl, ?_⟩; have n0_ := Aside0.mk (Kd.R_mono (Kd.R_keep (IsS127.apart (show IsS127 w0 _ g s0_0 x1001_1 from by repeat (first | (with_reducible first | exact HI0.out | apply IsS127.alloc | apply IsS127.drewN | apply IsS127.drew | apply IsS127.set_1) | exact HI0.out)) (by (with_reducible repeat (first | apply Kd.R_alloc | apply Kd.R_drewN | apply Kd.R_drew)); exact HO_5.out) (by decide)) hk (fun _ h => h.2)) (fun _ h => h.1)); have n1_ := Aside0.mk (KeepBut.trans (by repeat (first | (with_reducible first | exact HK.out | apply KeepBut.set_ | apply keep_drewN | apply keep_drew | apply keep_alloc) | exact HK.out)) hk (.inl rfl)); have n2_ := Aside0.mk (hb); have n3_ := Aside0.mk (hi); clear HO_5; clear HK; clear HB; clear HI0; have HO_5 := n0_; have HK := n1_; have HB := n2_; have HI0 := n3_; clear n0_ n1_ n2_ n3_; (try clear hb); (try clear hb2); (try clear hk); (try clear hi)) | ((with_reducible refine gate_builtin (b := .append) (xs := #[.tmp 35, .tmp 37]) rfl ?_); at_builtin; refine Kd.R_append (Kd.int .i64) w.heap.size rfl (.tmp 35) (.tmp 37) 22 3 (.int .i64 0) 8 rfl Try.underlying22 info3 rfl (by decide) (by omega) u5 x5_1 (Int.tmod t110 5) [.int .i64 (Int.tmod t110 5)] (fun _ => True) (fun _ => False) rfl rfl ?aP (fun _ hk => hk.elim) ?aF ?aO (Below.refl _ _) ?aS ?aL ?_; (case aP => exact rfl); (case aF => exact (fun _ _ => trivial)); (case aO => exact (by (with_reducible repeat (first | apply Kd.R_alloc | apply Kd.R_drewN | apply Kd.R_drew)); exact HO_5.out)); (case aS => exact (keep_size (w := w) (g := g) (row := none) (by repeat (first | (with_reducible first | exact HK.out | apply KeepBut.set_ | apply keep_drewN | apply keep_drew | apply keep_alloc) | exact HK.out)))); (case aL => have := LMc34.out; omega); intro v128 w36 ho hb hg hat; rw [← Ny127.out] at ho; have n0_ := Aside0.mk (IsS127.grown (by repeat (first | (with_reducible first | exact HI0.out | apply IsS127.alloc | apply IsS127.drewN | apply IsS127.drew | apply IsS127.set_1) | exact HI0.out)) hg (IsS127.own_ne HI0.out HO_5.out (by decide))); have n1_ := Aside0.mk (below_weaken (by repeat (first | (with_reducible first | exact HB.out | apply below_alloc | apply pw_below_drewN | apply below_drew1 | refine below_set ?_ (IsS127.ge HI0.out)) | exact HB.out)) HL.out hb); have n2_ := Aside0.mk (KeepBut.trans (by repeat (first | (with_reducible first | exact HK.out | apply KeepBut.set_ | apply keep_drewN | apply keep_drew | apply keep_alloc) | exact HK.out)) (KeepBut.of_grown hg g) (Kd.R_base2 HO_5.out)); have n3_ := Aside0.mk (ho); clear HI0; clear HB; clear HK; clear HO_5; have HI0 := n0_; have HB := n1_; have HK := n2_; have HO129 := n3_; clear n0_ n1_ n2_ n3_; clear ho hb hg hat))
                  go_roundg k1
                  case measure => have := HK1.out; omega
                  case rel => exact ⟨(y127), (wrap64 (x6_1 + 1)), (t111), (by first | rfl | (simp; done) | (simp [*]; done)), H', ⟨by have := HK1.out; omega⟩, ⟨by (with_reducible repeat (first | apply Kd.R_alloc | apply Kd.R_drewN | apply Kd.R_drew)); exact HO129.out⟩, ⟨by repeat (first | (with_reducible first | exact HI0.out | apply IsS127.alloc | apply IsS127.drewN | apply IsS127.drew | apply IsS127.set_1) | exact HI0.out)⟩, ⟨by repeat (first | (with_reducible first | exact HK.out | apply KeepBut.set_ | apply keep_drewN | apply keep_drew | apply keep_alloc) | exact HK.out)⟩, ⟨by repeat (first | (with_reducible first | exact HB.out | apply below_alloc | apply pw_below_drewN | apply below_drew1 | refine below_set ?_ (IsS127.ge HI0.out)) | exact HB.out)⟩⟩
                · rw [if_neg c34] at H
                  exact absurd H (by simp)
          · rw [if_neg c12] at H
            have c12b0 : decide (x6_1 < (rd y103 (ji3))) = false := decide_eq_false c12
            clear c12
            simp only [Option.some.injEq, Prod.mk.injEq] at H
            obtain ⟨rfl, rfl⟩ := H
            go_wp2
            go_ret
            exact ⟨_, by first | rfl | (simp [errW_none, errW_some] <;> rfl) | (simp only [← hji3]; first | rfl | (simp [errW_none, errW_some] <;> rfl)) | (simp [*, errW_none, errW_some] <;> rfl), by (with_reducible repeat (first | apply Kd.R_alloc | apply Kd.R_drewN | apply Kd.R_drew)); exact HO_5.out, by repeat (first | (with_reducible first | exact HI0.out | apply IsS127.alloc | apply IsS127.drewN | apply IsS127.drew | apply IsS127.set_1) | exact HI0.out), by repeat (first | (with_reducible first | exact HB.out | apply below_alloc | apply pw_below_drewN | apply below_drew1 | refine below_set ?_ (IsS127.ge HI0.out)) | exact HB.out), by repeat (first | (with_reducible first | exact HK.out | apply KeepBut.set_ | apply keep_drewN | apply keep_drew | apply keep_alloc) | exact HK.out)⟩
    · rw [if_neg c5] at H
      exact absurd H (by simp)
  · rw [if_neg c4] at H
    exact absurd H (by simp)

end Go.Proofs.Ytehfcnndjhjkoaa.PA

namespace Go.Proofs.Ytehfcnndjhjkoaa.PA
open Go.RowKit Go.Proofs.YtehfcnndjhjkoaaW.PrintWords Go.Proofs.YtehfcnndjhjkoaaW.PrintLast Go.Proofs.YtehfcnndjhjkoaaW.PrintMore
set_option linter.unusedVariables false
set_option linter.unusedSimpArgs false
/-- A reader that stands within its bytes. -/
structure RdOk (l : List Int) (p : Int) : Prop where
  len : l.length ≤ 1000
  byte : ∀ x ∈ l, 0 ≤ x ∧ x ≤ 255
  lo : 0 ≤ p
  hi : p ≤ l.length
theorem next_ok {l : List Int} {p : Int} (h : RdOk l p) : ∃ v p', spec_l1Rd_next.f l p = some (v, p') ∧ 0 ≤ v ∧ v ≤ 255 ∧ RdOk l p' := by
  obtain ⟨h1, h2, h3, h4⟩ := h
  unfold spec_l1Rd_next.f
  by_cases hp : p < (l.length : Int)
  · obtain ⟨q, rfl⟩ := Int.eq_ofNat_of_zero_le h3
    have hq : q < l.length := by omega
    have hm : rd l (q : Int) = l[q] := by simp [rd, hq]
    have hb := h2 l[q] (List.getElem_mem hq)
    rw [if_pos hp, if_pos h3, hm, w64 (by omega) (by omega), w64 (by omega) (by omega)]
    exact ⟨_, _, rfl, hb.1, hb.2, h1, h2, by omega, by omega⟩
  · rw [if_neg hp]
    exact ⟨_, _, rfl, by omega, by omega, h1, h2, h3, h4⟩
theorem tmod_lt (k n : Int) (h0 : 0 ≤ k) (hn : 0 < n) : 0 ≤ Int.tmod k n ∧ Int.tmod k n < n := by
  rw [Int.tmod_eq_emod_of_nonneg h0]
  exact ⟨Int.emod_nonneg _ (by omega), Int.emod_lt_of_pos _ hn⟩
theorem num_ok {l : List Int} {p : Int} (h : RdOk l p) : ∃ v p', spec_l3Num.f l p = some (v, p') ∧ -1000000000000000 ≤ v ∧ v ≤ 1000000000000000 ∧ RdOk l p' := by
  obtain ⟨k, p', e, k0, k1, hp⟩ := next_ok h
  unfold spec_l3Num.f
  rw [e, Option.bind_some]
  by_cases h8 : k ≥ 248
  · have ht := tmod_lt k 4 k0 (by omega)
    rw [if_pos h8, Option.bind_some, if_pos ht.1, if_pos (by simpa using ht.2)]
    refine ⟨_, _, rfl, ?_, ?_, hp⟩ <;>
    · have : Int.tmod k 4 = 0 ∨ Int.tmod k 4 = 1 ∨ Int.tmod k 4 = 2 ∨ Int.tmod k 4 = 3 := by omega
      rcases this with e | e | e | e <;> rw [e] <;> decide
  · have ht := tmod_lt k 23 k0 (by omega)
    have e2 : wrap64 (Int.tmod k 23 - 6) = Int.tmod k 23 - 6 := w64 (by omega) (by omega)
    refine ⟨Int.tmod k 23 - 6, p', ?_, by omega, by omega, hp⟩
    rw [if_neg h8]
    show some (wrap64 (Int.tmod k 23 - 6), p') = _
    rw [e2]
theorem shape_loop (l : List Int) (x3 : Int) (R : Nat) (hR : R ≤ 5) : ∀ (d i : Nat) (S : List Int) (p : Int), i + d = R → S.length = i → (∀ x ∈ S, 0 ≤ x ∧ x ≤ 4) → RdOk l p →
    ∃ S' p', Ev (fun k => spec_l3Shape.l0 k x3 (R : Int) S (i : Int) l p) (S', p') ∧ S'.length = R ∧ (∀ x ∈ S', 0 ≤ x ∧ x ≤ 4) ∧ RdOk l p'
  | 0, i, S, p, h, hl, hS, hp => by
    refine ⟨S, p, evRound (Ev.now _) fun k => ?_, by omega, hS, hp⟩
    simp only [spec_l3Shape.l0]
    rw [if_neg (by omega)]
  | d + 1, i, S, p, h, hl, hS, hp => by
    obtain ⟨v, p1, e, v0, v1, hp1⟩ := next_ok hp
    have t5 := tmod_lt v 5 v0 (by omega)
    have t2 := tmod_lt (Int.tmod v 5) 2 t5.1 (by omega)
    have key : ∃ y : Int, 0 ≤ y ∧ y ≤ 4 ∧ ∀ k, spec_l3Shape.l0 (k + 1) x3 (R : Int) S (i : Int) l p = spec_l3Shape.l0 k x3 (R : Int) (S ++ [y]) ((i + 1 : Nat) : Int) l p1 := by
      have w1 : wrap64 ((i : Int) + 1) = ((i + 1 : Nat) : Int) := by rw [w64 (by omega) (by omega)]; omega
      have w2 : wrap64 (Int.tmod (Int.tmod v 5) 2 + 1) = Int.tmod (Int.tmod v 5) 2 + 1 := w64 (by omega) (by omega)
      have hlen : S.length < 17592186044416 := by omega
      by_cases c1 : (R : Int) > 3
      · refine ⟨Int.tmod (Int.tmod v 5) 2 + 1, by omega, by omega, fun k => ?_⟩
        simp only [spec_l3Shape.l0]
        rw [if_pos (by omega), e, Option.bind_some, if_pos c1, w2, if_neg (by omega), if_pos hlen, w1]
      · by_cases c2 : Int.tmod v 5 = 0
        · by_cases c3 : x3 < 220
          · refine ⟨2, by omega, by omega, fun k => ?_⟩
            simp only [spec_l3Shape.l0]
            rw [if_pos (by omega), e, Option.bind_some, if_neg c1, if_pos c2, if_pos c3, if_pos hlen, w1]
          · refine ⟨Int.tmod v 5, by omega, by omega, fun k => ?_⟩
            simp only [spec_l3Shape.l0]
            rw [if_pos (by omega), e, Option.bind_some, if_neg c1, if_pos c2, if_neg c3, if_pos hlen, w1]
        · refine ⟨Int.tmod v 5, by omega, by omega, fun k => ?_⟩
          simp only [spec_l3Shape.l0]
          rw [if_pos (by omega), e, Option.bind_some, if_neg c1, if_neg c2, if_pos hlen, w1]
    obtain ⟨y, y0, y4, hk⟩ := key
    obtain ⟨S', p', hE, h1, h2, h3⟩ := shape_loop l x3 R hR d (i + 1) (S ++ [y]) p1 (by omega) (by simp [hl]) (fun x hx => by
      rcases List.mem_append.1 hx with h | h
      · exact hS x h
      · rw [List.mem_singleton] at h; omega) hp1
    exact ⟨S', p', evRound hE hk, h1, h2, h3⟩
theorem shape_ok {l : List Int} {p : Int} (h : RdOk l p) : ∃ k S p', spec_l3Shape.f k l p = some (S, p') ∧ S.length ≤ 5 ∧ (∀ x ∈ S, 0 ≤ x ∧ x ≤ 4) ∧ RdOk l p' := by
  obtain ⟨v, p1, e, v0, v1, hp1⟩ := next_ok h
  have ht := tmod_lt v 12 v0 (by omega)
  obtain ⟨R, hR, hR5⟩ : ∃ R : Nat, rd ([1, 1, 1, 0, 2, 2, 3, 0, 2, 4, 1, 5] : List Int) (Int.tmod v 12) = (R : Int) ∧ R ≤ 5 := by
    obtain ⟨q, hq⟩ := Int.eq_ofNat_of_zero_le ht.1
    have hq12 : q < 12 := by omega
    rw [hq]
    have : ∀ q : Nat, q < 12 → ∃ R : Nat, rd ([1, 1, 1, 0, 2, 2, 3, 0, 2, 4, 1, 5] : List Int) (q : Int) = (R : Int) ∧ R ≤ 5 := by
      intro q hq
      refine ⟨(rd ([1, 1, 1, 0, 2, 2, 3, 0, 2, 4, 1, 5] : List Int) (q : Int)).toNat, ?_, ?_⟩
      · revert q; decide
      · revert q; decide
    exact this q hq12
  obtain ⟨S, p', hE, h1, h2, h3⟩ := shape_loop l v R hR5 R 0 [] p1 (by omega) rfl (by simp) hp1
  obtain ⟨k, hk⟩ := hE.rounds
  refine ⟨k, S, p', ?_, by omega, h2, h3⟩
  unfold spec_l3Shape.f
  rw [e, Option.bind_some, Option.bind_some, if_pos ht.1, if_pos (by simpa using ht.2), hR]
  exact hk
theorem open_ok {l : List Int} (hb : ∀ x ∈ l, 0 ≤ x ∧ x ≤ 255) : ∃ l', spec_l1Open.f l = some (l', 0) ∧ RdOk l' 0 := by
  unfold spec_l1Open.f
  by_cases h : (l.length : Int) > 1000
  · refine ⟨l.take 1000, ?_, ⟨by simp; omega, fun x hx => hb x (List.mem_of_mem_take hx), by omega, by omega⟩⟩
    simp only [if_pos h]
    try rw [if_pos (by omega)]
    try rfl
  · refine ⟨l, ?_, ⟨by omega, hb, by omega, by omega⟩⟩
    simp only [if_neg h]
    try rfl
end Go.Proofs.Ytehfcnndjhjkoaa.PA

namespace Go.Proofs.Ytehfcnndjhjkoaa.PA
open Go.RowKit Go.Proofs.YtehfcnndjhjkoaaW.PrintWords Go.Proofs.YtehfcnndjhjkoaaW.PrintLast Go.Proofs.YtehfcnndjhjkoaaW.PrintMore
set_option linter.unusedVariables false
set_option linter.unusedSimpArgs false
inductive Th where
  | blk (g : Nat) (cs : Array Value) (t : TypeId)
  | row (v : Value) (xs : List Int)
def Th.on : Th → Nat → Prop
  | .blk g _ _, k => k = g
  | .row v _, k => v.ownBlock = some k
def Th.ok (B : Nat) (W : World) : Th → Prop
  | .blk g cs t => W.heap[g]? = some (.cells cs t (0, 0)) ∧ B ≤ g
  | .row v xs => Kd.R (Kd.int .i64) 3 W B (fun _ => True) v xs
structure Sx (w W : World) (Ts : List Th) : Prop where
  below : Below w.heap.size w W
  ok : ∀ T ∈ Ts, T.ok w.heap.size W
  nod : Ts.Pairwise (fun a b => ∀ k, a.on k → ¬ b.on k)
theorem Th.lt {B : Nat} {W : World} {T : Th} (h : T.ok B W) : ∀ k, T.on k → B ≤ k ∧ k < W.heap.size := by
  cases T with
  | blk g cs t => rintro k rfl; exact ⟨h.2, blk_lt h.1⟩
  | row v xs => intro k hk; exact ⟨Kd.R_base h k hk, Kd.R_lt h k hk⟩
theorem Th.keep {B : Nat} {W W' : World} {T : Th} (h : T.ok B W) (hk : ∀ k, T.on k → k < W.heap.size → W'.heap[k]? = W.heap[k]?) : T.ok B W' := by
  cases T with
  | blk g cs t => exact ⟨(hk g rfl (blk_lt h.1)).trans h.1, h.2⟩
  | row v xs => exact Kd.R_mono (Kd.R_step (Kd.R_tight rfl h) (fun k hok hlt => hk k hok.symm hlt)) (fun _ _ => trivial)
theorem Sx.start (w : World) : Sx w w [] := ⟨Below.refl _ _, by simp, .nil⟩
theorem Sx.step {w W W' : World} {Ts : List Th} (h : Sx w W Ts) (hb : Below W.heap.size W W') : Sx w W' Ts :=
  ⟨below_step h.below hb, fun T hT => Th.keep (h.ok T hT) fun k _ hlt => hb.block k hlt, h.nod⟩
theorem Sx.add {w W W' : World} {Ts : List Th} (h : Sx w W Ts) (hb : Below W.heap.size W W') {T : Th} (hT : T.ok W.heap.size W') : Sx w W' (T :: Ts) := by
  have h' := h.step hb
  refine ⟨h'.below, fun U hU => ?_, .cons (fun U hU k hk hU' => ?_) h'.nod⟩
  · rcases List.mem_cons.1 hU with rfl | hU
    · cases U with
      | blk g cs t => exact ⟨hT.1, Nat.le_trans h.below.size hT.2⟩
      | row v xs => exact Kd.R_lower hT h.below.size
    · exact h'.ok U hU
  · have h1 := (Th.lt hT k hk).1
    have h2 := (Th.lt (h.ok U hU) k hU').2
    omega
theorem Sx.box {w W W' : World} {Ts : List Th} {g : Nat} {cs : Array Value} {t : TypeId} (h : Sx w W Ts) (hg : g = W.heap.size) (hB : W'.heap[g]? = some (.cells cs t (0, 0))) (hb : Below W.heap.size W W') : Sx w W' (.blk g cs t :: Ts) :=
  h.add hb ⟨hB, by omega⟩
theorem Sx.addRow {w W W' : World} {Ts : List Th} (h : Sx w W Ts) (hb : Below W.heap.size W W') {ok : Nat → Prop} {v : Value} {xs : List Int} (hr : Kd.R (Kd.int .i64) 3 W' W.heap.size ok v xs) : Sx w W' (.row v xs :: Ts) :=
  h.add hb (Kd.R_mono hr (fun _ _ => trivial))
theorem Sx.addRow2 {w W W' : World} {Ts : List Th} (h : Sx w W Ts) (hb : Below W.heap.size W W') {ok2 : Nat → Prop} {v1 v2 : Value} {l1 l2 : List Int}
    (R1 : Kd.R (Kd.int .i64) 3 W' W.heap.size (fun k => some k ≠ v2.ownBlock) v1 l1) (R2 : Kd.R (Kd.int .i64) 3 W' W.heap.size ok2 v2 l2) : Sx w W' (.row v1 l1 :: .row v2 l2 :: Ts) := by
  have h2 := h.addRow hb R2
  have h1 := h.addRow hb R1
  refine ⟨h2.below, fun T hT => ?_, .cons (fun U hU k hk hU' => ?_) h2.nod⟩
  · rcases List.mem_cons.1 hT with rfl | hT
    · exact h1.ok _ List.mem_cons_self
    · exact h2.ok T hT
  · rcases List.mem_cons.1 hU with rfl | hU
    · exact R1.1 k hk hU'.symm
    · exact (List.pairwise_cons.1 h1.nod).1 U hU k hk hU'
theorem Sx.repl {w W W' : World} {Ts : List Th} (h : Sx w W Ts) (i : Nat) {T T' : Th} (hi : Ts[i]? = some T) (hT : T'.ok w.heap.size W') (hf : ∀ k, ¬ T.on k → k < W.heap.size → W'.heap[k]? = W.heap[k]?) (hon : ∀ k, T'.on k → T.on k ∨ W.heap.size ≤ k) (hb : Below w.heap.size w W') : Sx w W' (Ts.set i T') := by
  obtain ⟨hlt, hie⟩ := List.getElem?_eq_some_iff.1 hi
  have hnod := List.pairwise_iff_getElem.1 h.nod
  have hoth : ∀ (j : Nat) (hj : j < Ts.length), j ≠ i → ∀ k, (Ts[j]).on k → ¬ T.on k := fun j hj hne k hk hk' => by
    rcases Nat.lt_or_gt_of_ne hne with hl | hl
    · have := hnod j i hj hlt hl; rw [hie] at this; exact this k hk hk'
    · have := hnod i j hlt hj hl; rw [hie] at this; exact this k hk' hk
  have hfar : ∀ (j : Nat) (hj : j < Ts.length), j ≠ i → ∀ k, (Ts[j]).on k → ¬ T'.on k := fun j hj hne k hk hk' => by
    rcases hon k hk' with h1 | h1
    · exact hoth j hj hne k hk h1
    · have := (Th.lt (h.ok _ (List.getElem_mem hj)) k hk).2; omega
  refine ⟨hb, fun U hU => ?_, List.pairwise_iff_getElem.2 fun a b ha hb' hab => ?_⟩
  · obtain ⟨j, hj, e⟩ := List.getElem_of_mem hU
    rw [List.length_set] at hj
    rw [List.getElem_set] at e
    split at e
    · subst e; exact hT
    · rename_i hne
      subst e
      exact Th.keep (h.ok _ (List.getElem_mem hj)) fun k hk hlt' => hf k (hoth j hj (fun e => hne e.symm) k hk) hlt'
  · rw [List.length_set] at ha hb'
    rw [List.getElem_set, List.getElem_set]
    split
    · rename_i e1
      split
      · rename_i e2; omega
      · rename_i e2; exact fun k hk hk' => hfar b hb' (fun e => e2 e.symm) k hk' hk
    · rename_i e1
      split
      · exact fun k hk hk' => hfar a ha (fun e => e1 e.symm) k hk hk'
      · exact hnod a b ha hb' hab
theorem Sx.get {w W : World} {Ts : List Th} (h : Sx w W Ts) (i : Nat) {T : Th} (hi : Ts[i]? = some T) : T.ok w.heap.size W := h.ok _ (List.mem_of_getElem? hi)
theorem Sx.blk {w W : World} {Ts : List Th} (h : Sx w W Ts) (i : Nat) {g : Nat} {cs : Array Value} {t : TypeId} (hi : Ts[i]? = some (.blk g cs t)) : W.heap[g]? = some (.cells cs t (0, 0)) := (h.get i hi).1
theorem Sx.row {w W : World} {Ts : List Th} (h : Sx w W Ts) (i : Nat) {v : Value} {xs : List Int} (hi : Ts[i]? = some (.row v xs)) : Kd.R (Kd.int .i64) 3 W w.heap.size (fun _ => True) v xs := h.get i hi
theorem Sx.C {w W : World} {Ts : List Th} (h : Sx w W Ts) (i : Nat) {A : Option Addr} {n c : Nat} {xs : List Int} (hi : Ts[i]? = some (.row (.slice A n c) xs)) : Kd.C (Kd.int .i64) W A xs.length xs := (Kd.R_reads' (h.row i hi)).2.2
theorem Sx.cap {w W : World} {Ts : List Th} (h : Sx w W Ts) (i : Nat) {A : Option Addr} {n c : Nat} {xs : List Int} (hi : Ts[i]? = some (.row (.slice A n c) xs)) : xs.length ≤ c := by
  have := Kd.R_reads' (h.row i hi); omega
theorem Sx.put {w W W' : World} {Ts : List Th} (h : Sx w W Ts) (i : Nat) {g : Nat} {cs cs' : Array Value} {t : TypeId} (hi : Ts[i]? = some (.blk g cs t)) (hs : W'.heap[g]? = some (.cells cs' t (0, 0))) (hk : But1 g W W') : Sx w W' (Ts.set i (.blk g cs' t)) :=
  h.repl i hi ⟨hs, (h.get i hi).2⟩ (fun k hk' _ => hk.same k hk') (fun k hk' => .inl hk') (h.below.trans (hk.below _ (h.get i hi).2))
theorem Sx.grow {w W W' : World} {Ts : List Th} (h : Sx w W Ts) (i : Nat) {v v' : Value} {xs xs' : List Int} (hi : Ts[i]? = some (.row v xs)) (hr : Kd.R (Kd.int .i64) 3 W' w.heap.size (fun _ => True) v' xs') (hg : W.grownBy W' v.ownBlock)
    (hat : v'.ownBlock = v.ownBlock ∨ ∃ b, v'.ownBlock = some b ∧ W.heap.size ≤ b) : Sx w W' (Ts.set i (.row v' xs')) :=
  h.repl i hi hr (fun k hk hlt => hg.block k hlt fun e => hk e.symm) (fun k hk => by
    rcases hat with e | ⟨b, e, hb⟩
    · exact .inl (show v.ownBlock = some k from e.symm.trans hk)
    · rw [show (Th.row v' xs').on k = (v'.ownBlock = some k) from rfl, e] at hk; cases hk; exact .inr hb) (pw_below_grown h.below _ h.below.size hg fun k e => Kd.R_base (h.row i hi) k e)
theorem Sx.sub {w W : World} {Ts Ts' : List Th} (h : Sx w W Ts) (hs : Ts'.Sublist Ts) : Sx w W Ts' := ⟨h.below, fun T hT => h.ok T (hs.subset hT), h.nod.sublist hs⟩
theorem Sx.alloc {w W : World} {Ts : List Th} (h : Sx w W Ts) (cs : Array Value) (t : TypeId) : Sx w (W.alloc (.cells cs t)) (.blk W.heap.size cs t :: Ts) := h.box rfl (blk_new W _) (below_alloc (Below.refl _ _) _)
theorem Sx.drew {w W : World} {Ts : List Th} (h : Sx w W Ts) : Sx w W.drew Ts := h.step (below_drew (Below.refl _ _))
theorem Sx.drewN {w W : World} {Ts : List Th} (h : Sx w W Ts) (n : Nat) : Sx w (W.drewN n) Ts := h.step (pw_below_drewN (Below.refl _ _) n)
/-- Rows apart, as a contract's answer says it. -/
theorem Sx.two {w W : World} {Ts : List Th} (h : Sx w W Ts) (i j : Nat) (hne : i ≠ j) {v1 v2 : Value} {l1 l2 : List Int} (hi : Ts[i]? = some (.row v1 l1)) (hj : Ts[j]? = some (.row v2 l2)) :
    Kd.R (Kd.int .i64) 3 W w.heap.size (fun k => some k ≠ v2.ownBlock) v1 l1 ∧ Kd.R (Kd.int .i64) 3 W w.heap.size (fun k => some k ≠ v1.ownBlock) v2 l2 := by
  obtain ⟨hil, hie⟩ := List.getElem?_eq_some_iff.1 hi
  obtain ⟨hjl, hje⟩ := List.getElem?_eq_some_iff.1 hj
  have hnod := List.pairwise_iff_getElem.1 h.nod
  have hd : ∀ k, v1.ownBlock = some k → ¬ v2.ownBlock = some k := fun k h1 h2 => by
    rcases Nat.lt_or_gt_of_ne hne with hl | hl
    · have := hnod i j hil hjl hl; rw [hie, hje] at this; exact this k h1 h2
    · have := hnod j i hjl hil hl; rw [hie, hje] at this; exact this k h2 h1
  exact ⟨Kd.R_reok rfl (h.row i hi) fun k hk e => hd k hk e.symm, Kd.R_reok rfl (h.row j hj) fun k hk e => hd k e.symm hk⟩
section
variable {P : Program} {ops : Array Oper} {rest : List Oper} {o : Oper} {a : Act} {Q : Exit → Act → World → Prop}
def plainTy (P : Program) (ty : TypeId) : Bool := match P.underlying ty with
  | some (.struct _) | some (.array _ _) | none => false
  | _ => true
theorem run_load_cell {W : World} {ty : TypeId} {ad : Addr} {v : Value} (hc : W.cell? ad = some v) (hty : plainTy P ty = true) : (loadVar ty ad).run P W = .ok v W := by
  unfold plainTy at hty
  cases hu : P.underlying ty with
  | none => rw [hu] at hty; cases hty
  | some d =>
    have hagg : (isAgg ty).run P W = .ok false W := by
      unfold isAgg
      rw [Sem.run_bind, run_underlying hu W]
      rw [hu] at hty
      cases d <;> first | rfl | cases hty
    simp [loadVar, Sem.run_bind, hagg, hc]
theorem ev_load {W : World} (hgd : o.guard = none) (ty : TypeId) (x : Operand) (ho : o.op = .load ty x) (ad : Addr) (hx : a.eval x = .pointer (some ad)) (v : Value) (hc : W.cell? ad = some v) (hty : plainTy P ty = true)
    (h : wpList P ops Q rest (a.put o.dst v) W) : wpList P ops Q (o :: rest) a W := by
  refine Kd.event_run hgd ?_ h
  unfold execOp
  simp only [ho, hx, Instr.loadAt, Instr.sureAddr, Sem.run_bind, Sem.run_pure, Result.andThen_ok, run_load_cell hc hty]
theorem run_store_cell {W : World} {ty : TypeId} {g j : Nat} {cs : Array Value} {t : TypeId} {v : Value} (hg : W.heap[g]? = some (.cells cs t (0, 0))) (hj : j < cs.size) (h1 : v.oneCell' = true) (hi : (P.info? ty).map (·.size) = some 1) :
    (storeVar ty ⟨g, j, none⟩ v).run P W = .ok () (W.setCell ⟨g, j, none⟩ v) := by
  have hcs : v.cells = #[v] := by cases v <;> first | rfl | cases h1
  have hcell : W.cell? ⟨g, j, none⟩ = some cs[j] := (blk_cell hg j).trans (Array.getElem?_eq_getElem hj)
  have hfr := blk_frozen hg j
  cases hq : P.info? ty with
  | none => simp [hq] at hi
  | some i =>
    have hs : i.size = 1 := by simpa [hq] using hi
    have hadd : ∀ m, (⟨g, j, none⟩ : Addr).add m = ⟨g, j + m, none⟩ := fun m => by unfold Addr.add; split <;> simp_all
    simp [storeVar, sizeOf, typeInfo, hq, hcs, hs, storeCells, hadd, run_store P W _ v _ h1, hcell, hfr]
theorem ev_store {W : World} (hgd : o.guard = none) (ty : TypeId) (x y : Operand) (ho : o.op = .store ty x y) (g j : Nat) (hx : a.eval x = .pointer (some ⟨g, j, none⟩)) (v : Value) (hy : a.eval y = v)
    (cs : Array Value) (t : TypeId) (hg : W.heap[g]? = some (.cells cs t (0, 0))) (hj : j < cs.size) (h1 : v.oneCell' = true) (hi : (P.info? ty).map (·.size) = some 1)
    (h : ∀ w1, w1.heap[g]? = some (.cells (cs.setIfInBounds j v) t (0, 0)) → But1 g W w1 → wpList P ops Q rest (a.put o.dst undef) w1) : wpList P ops Q (o :: rest) a W := by
  refine wpList_plain hgd fun K hK => ?_
  unfold Oper.wp execOp
  simp only [ho, hx, hy, Instr.storeAt, Instr.sureAddr, Sem.run_bind, Sem.run_pure, Result.andThen_ok, run_store_cell hg hj h1 hi]
  exact hK _ _ (h _ (blk_set hg j v) ⟨fun k hk => Below.heap_setCell W _ v k hk, fun B hB => (Below.refl B W).setCell (p := ⟨g, j, none⟩) hB v⟩)
end
theorem But1.set1 (g j : Nat) (W : World) (v : Value) : But1 g W (W.setCell ⟨g, j, none⟩ v) := ⟨fun k hk => Below.heap_setCell W _ v k hk, fun B hB => (Below.refl B W).setCell (p := ⟨g, j, none⟩) hB v⟩
theorem Sx.blkM {w W : World} {Ts : List Th} (h : Sx w W Ts) {g : Nat} {cs : Array Value} {t : TypeId} (hm : Th.blk g cs t ∈ Ts) : W.heap[g]? = some (.cells cs t (0, 0)) := (h.ok _ hm).1
/-- The nil row laid in at a place of the list. -/
theorem Sx.nilRow {w W : World} {Ts : List Th} (h : Sx w W Ts) (i : Nat) (hi : i ≤ Ts.length) : Sx w W (Ts.take i ++ .row (.slice none 0 0) [] :: Ts.drop i) := by
  have hp : Ts.take i ++ Ts.drop i = Ts := List.take_append_drop i Ts
  have hn := h.nod
  rw [← hp] at hn
  obtain ⟨h1, h2, h3⟩ := List.pairwise_append.1 hn
  refine ⟨h.below, fun T hT => ?_, List.pairwise_append.2 ⟨h1, .cons (fun U _ k hk => by simp [Th.on, Value.ownBlock] at hk) h2, fun a ha b hb => ?_⟩⟩
  · rcases List.mem_append.1 hT with hT | hT
    · exact h.ok T (List.mem_of_mem_take hT)
    · rcases List.mem_cons.1 hT with rfl | hT
      · exact Kd.R_nil _ _ _ _ _
      · exact h.ok T (List.mem_of_mem_drop hT)
  · rcases List.mem_cons.1 hb with rfl | hb
    · intro k _ hk; simp [Th.on, Value.ownBlock] at hk
    · exact h3 a ha b hb
end Go.Proofs.Ytehfcnndjhjkoaa.PA

namespace Go.Proofs.Ytehfcnndjhjkoaa.PA
open Go Go.RowKit Go.Proofs.YtehfcnndjhjkoaaW.PrintWords Go.Proofs.YtehfcnndjhjkoaaW.PrintLast
/-- From A to B every block of A's stands as it stood, but those of S. -/
structure ButS (S : Nat → Prop) (A B : World) : Prop where
  size : A.heap.size ≤ B.heap.size
  same : ∀ k, k < A.heap.size → ¬ S k → B.heap[k]? = A.heap[k]?
  os : B.os = A.os
  tape : B.tape = A.tape
  output : B.output = A.output
theorem ButS.mono {S T : Nat → Prop} {A B : World} (h : ButS S A B) (ht : ∀ k, S k → T k) : ButS T A B := ⟨h.size, fun k hk hn => h.same k hk (fun hs => hn (ht k hs)), h.os, h.tape, h.output⟩
theorem ButS.alloc (S : Nat → Prop) (A : World) (o : Obj) : ButS S A (A.alloc o) := ⟨by simp, fun k hk _ => Below.heap_alloc A o k hk, rfl, rfl, rfl⟩
theorem ButS.putObj (A : World) (l : Nat) (o : Obj) {S : Nat → Prop} (hl : S l) : ButS S A (A.putObj l o) := ⟨by simp [World.putObj], fun k _ hn => World.putObj_heap_other (fun e => hn (e ▸ hl)), rfl, rfl, rfl⟩
theorem ButS.trans {S : Nat → Prop} {A B C : World} (h : ButS S A B) (k : ButS S B C) : ButS S A C :=
  ⟨Nat.le_trans h.size k.size, fun i hi hn => (k.same i (Nat.lt_of_lt_of_le hi h.size) hn).trans (h.same i hi hn), k.os.trans h.os, k.tape.trans h.tape, k.output.trans h.output⟩
/-- THE ITERATOR's CONTRACT: N rounds, each handing out the values vs G, G the block laid first in the iterator (its number: the heap's size where it begins); in round t 'At G t' holds; a round that goes on keeps it, and the blocks of M. -/
def RoundsG (F : Fence) (n : Nat) (P : Program) (g : Nat) (lb : Array Value) (vs : Nat → Array Value) (At : Nat → Nat → World → Prop) (N : Nat) (M : Nat → Prop) (w : World) : Prop :=
  ∀ (l : Nat) (J Jx : Nat → World → Prop) (W : World), Below w.heap.size w W →
    (∀ t A B, J t A → ButS (fun k => k = W.heap.size) A B → J t B) →
    (∀ t W1, J t W1 → t < N → At W.heap.size t W1 → YieldAt F (n - 1) P l (vs W.heap.size) W1 fun e W' =>
      (e = .returned (.bool true) ∧ J (t + 1) W' ∧ At W.heap.size t W' ∧ (∀ k, M k → W'.heap[k]? = W1.heap[k]?)) ∨ (e = .returned (.bool false) ∧ Jx (t + 1) W')) →
    J 0 W →
    CallsIn F n P g (#[.func (.yield l) #[] #[]] ++ lb) W fun e W' => (∃ v, e = .returned v) ∧ (J N W' ∨ ∃ t, t < N ∧ Jx (t + 1) W')
/-- How the body of a round may be left. -/
def roundPost (M : Nat → Prop) (At1 : World → Prop) (I : World → Prop) (Ix : Code → World → Prop) (W : World) : Exit → Act → World → Prop
  | .normal, _, W' => KeepsOthers W W' ∧ (∀ k, M k → W'.heap[k]? = W.heap[k]?) ∧ At1 W' ∧ I W'
  | .ret, _, W' => KeepsOthers W W' ∧ Ix .ret W'
  | .exit id, _, W' => KeepsOthers W W' ∧ Ix (.exit id) W'
  | .goto t, _, W' => KeepsOthers W W' ∧ Ix (.goto t) W'
  | .panic _, _, _ => False
  | .outgrown, _, _ => False
theorem wpIn_rounds {F : Fence} {n : Nat} {P : Program} {g : Operand} {ps : Array Tmp} {assign body : Code} {Q : Exit → Act → World → Prop} {a : Act} {w : World}
    (hro : F.round = none) (h1 : 1 ≤ n) {gf : Nat} {lb : Array Value} (hg : a.eval g = .func (.func gf) #[] lb) (hFg : F.fn gf) (eg : ∀ args w, (callFunc gf args).run P w = .ok (.enter gf args) w)
    {vs : Nat → Array Value} {At : Nat → Nat → World → Prop} {N : Nat} {M : Nat → Prop} {w0 : World} (hseq : RoundsG F (n - 1) P gf lb vs At N M w0) (hb0 : Below w0.heap.size w0 w) (hM : ∀ k, M k → k < w.heap.size)
    (hAt : ∀ G t A B, At G t A → B.heap[G]? = A.heap[G]? → At G t B) (hps : (vs (w.heap.size + 2)).size = ps.size)
    (I : Nat → World → Prop) (Ix : Code → Nat → World → Prop)
    (hI : ∀ t A B, I t A → ButS (fun k => w.heap.size ≤ k ∧ k < w.heap.size + 3) A B → I t B)
    (hIx : ∀ c t A B, Ix c t A → ButS (fun k => w.heap.size ≤ k ∧ k < w.heap.size + 3) A B → Ix c t B) (h0 : I 0 w) (a₁ : Act)
    (hassign : ∀ (l : Nat) (W : World) (K : Act → World → Prop), K a₁ W →
      assign.wpIn (F.inRound l) (n - 1 - 1) P (Exit.then K (fun _ _ _ => False)) { tmps := (ps.zip (vs (w.heap.size + 2))).foldl (fun t (p, v) => t.setIfInBounds p v) a.tmps, defers := [] } W)
    (hbody : ∀ (l t : Nat) (W : World), I t W → t < N → At (w.heap.size + 2) t W → w.heap.size + 2 ≤ W.heap.size → body.wpIn (F.inRound l) (n - 1 - 1) P (roundPost M (At (w.heap.size + 2) t) (I (t + 1)) (fun c => Ix c (t + 1)) W) a₁ W)
    (hdone : ∀ (W : World), I N W → W.heap[w.heap.size]? = some (.deferred (some [])) → Q .normal { a with defers := { target := .collected w.heap.size, args := #[] } :: a.defers } W)
    (hstop : ∀ (c : Code) (t : Nat) (W : World), t < N → Ix c (t + 1) W → W.heap[w.heap.size]? = some (.deferred (some [])) → c.wpIn F n P Q { a with defers := { target := .collected w.heap.size, args := #[] } :: a.defers } W) :
    (Code.rangeFunc g ps assign body).wpIn F n P Q a w := by
  refine wpIn_rangeFunc ?_
  intro fn hfn
  rw [hro]
  obtain ⟨rec, hrec⟩ : ∃ rec : LoopState → Option Code → Loop, rec = fun st pe => { state := st, pending := pe, fn, tmps := a.tmps, params := ps, assign, body, defers := w.heap.size } := ⟨_, rfl⟩
  obtain ⟨W1, hW1⟩ : ∃ W1, (w.alloc (.deferred (some []))).alloc (.loop (rec .ready none)) = W1 := ⟨_, rfl⟩
  have hsz : W1.heap.size = w.heap.size + 2 := by rw [← hW1]; simp
  have hL1 : W1.heap[w.heap.size + 1]? = some (.loop (rec .ready none)) := by
    rw [← hW1]; have := World.alloc_heap_new (w.alloc (.deferred (some []))) (.loop (rec .ready none)); rwa [World.size_alloc] at this
  have hK1 : W1.heap[w.heap.size]? = some (.deferred (some [])) := by
    rw [← hW1]; exact (Below.heap_alloc _ _ _ (by simp)).trans (World.alloc_heap_new w _)
  have hI1 : I 0 W1 := by rw [← hW1]; exact hI _ _ _ (hI _ _ _ h0 (ButS.alloc _ _ _)) (ButS.alloc _ _ _)
  have hb1 : Below w0.heap.size w0 W1 := by
    rw [← hW1]; exact hb0.trans ((((Below.refl _ w).alloc (Nat.le_refl _) _).alloc (by simp) _).mono hb0.size)
  refine ⟨w.heap.size + 1, [{ target := .collected w.heap.size, args := #[] }], W1, { target := .fn (.func gf) lb, args := #[.func (.yield (w.heap.size + 1)) #[] #[]] }, W1, gf,
    #[.func (.yield (w.heap.size + 1)) #[] #[]] ++ lb, W1, ?_, ?_, ?_, ?_, fun _ => h1, ?_⟩
  · rw [← hW1, hrec]; exact run_enterLoop_outer _ _ _ _ _
  · simp only [resolve, hg]
    simp [go_sem]
  · intro f' hf'; simp [Target.leads] at hf'; subst hf'; exact hFg
  · simp [invoke, go_sem, eg]
  · have win : ∀ {A B : World}, ButS (fun k => k = W1.heap.size) A B → ButS (fun k => w.heap.size ≤ k ∧ k < w.heap.size + 3) A B := fun h => h.mono (fun k e => by omega)
    refine (hseq (w.heap.size + 1)
      (fun t W => I t W ∧ W.heap[w.heap.size + 1]? = some (.loop (rec .ready none)) ∧ W.heap[w.heap.size]? = some (.deferred (some [])))
      (fun t W => ∃ c, Ix c t W ∧ W.heap[w.heap.size + 1]? = some (.loop (rec .done (some c))) ∧ W.heap[w.heap.size]? = some (.deferred (some [])))
      W1 hb1
      (fun t A B hs hg' => ⟨hI t A B hs.1 (win hg'), (hg'.same _ (Array.getElem?_eq_some_iff.1 hs.2.1).1 (by omega)).trans hs.2.1, (hg'.same _ (Array.getElem?_eq_some_iff.1 hs.2.2).1 (by omega)).trans hs.2.2⟩)
      ?_ ⟨hI1, hL1, hK1⟩).mono ?_
    · rintro t W ⟨hi, hl, hk⟩ hlen hat
      rw [hsz] at hat ⊢
      have hlt : w.heap.size + 1 < W.heap.size := (Array.getElem?_eq_some_iff.1 hl).1
      have hy := run_yield (P := P) (args := vs (w.heap.size + 2)) hl (by rw [hrec]; exact hps)
      rw [hrec] at hy
      refine ⟨fn, _, assign, body, hy, roundIn_of_wpIn hfn (hassign _ W _ ⟨_, run_beginRound hl (by rw [hrec]), ?_⟩)⟩
      have hl2 : (W.putObj (w.heap.size + 1) (.loop { rec .ready none with state := .busy })).heap[w.heap.size + 1]? = some (.loop { rec .ready none with state := .busy }) := World.putObj_heap_same hlt
      have hk2 : (W.putObj (w.heap.size + 1) (.loop { rec .ready none with state := .busy })).heap[w.heap.size]? = some (.deferred (some [])) := (World.putObj_heap_other (by omega)).trans hk
      refine wpIn_mono (hbody _ t _ (hI _ _ _ hi (ButS.putObj _ _ _ (by omega))) hlen (hAt _ _ _ _ hat (World.putObj_heap_other (by omega))) (by simp [World.putObj]; omega)) ?_
      have fin : ∀ (jump : Option Code) (W3 : World), KeepsOthers (W.putObj (w.heap.size + 1) (.loop { rec .ready none with state := .busy })) W3 →
          (Instr.endRound (w.heap.size + 1) jump).run P W3 = .ok (.bool jump.isNone) (W3.putObj (w.heap.size + 1) (.loop (rec (if jump.isNone then .ready else .done) jump))) ∧
          W3.heap[w.heap.size + 1]? = some (.loop { rec .ready none with state := .busy }) ∧
          (W3.putObj (w.heap.size + 1) (.loop (rec (if jump.isNone then .ready else .done) jump))).heap[w.heap.size + 1]? = some (.loop (rec (if jump.isNone then .ready else .done) jump)) ∧
          (W3.putObj (w.heap.size + 1) (.loop (rec (if jump.isNone then .ready else .done) jump))).heap[w.heap.size]? = some (.deferred (some [])) := fun jump W3 hk3 => by
        have hl3 := hk3.same _ _ hl2 rfl
        have := run_endRound (P := P) jump hl3
        rw [hrec] at this ⊢
        exact ⟨this, by rw [hrec] at hl3; exact hl3, World.putObj_heap_same (Array.getElem?_eq_some_iff.1 hl3).1, (World.putObj_heap_other (by omega)).trans (hk3.same _ _ hk2 rfl)⟩
      rintro e a3 W3 hp
      cases e with
      | normal =>
        obtain ⟨hk3, hm3, hat3, hi3⟩ := hp
        obtain ⟨hr, hl3, hl4, hk4⟩ := fin none W3 hk3
        refine ⟨_, _, hr, .inl ⟨rfl, ⟨hI _ _ _ hi3 (ButS.putObj _ _ _ (by omega)), hl4, hk4⟩, hAt _ _ _ _ hat3 (World.putObj_heap_other (by omega)), fun k hk => ?_⟩⟩
        have hkl := hM k hk
        exact (World.putObj_heap_other (by omega)).trans ((hm3 k hk).trans (World.putObj_heap_other (by omega)))
      | ret =>
        obtain ⟨hk3, hi3⟩ := hp
        obtain ⟨hr, hl3, hl4, hk4⟩ := fin (some .ret) W3 hk3
        exact ⟨_, _, hr, .inr ⟨rfl, .ret, hIx _ _ _ _ hi3 (ButS.putObj _ _ _ (by omega)), hl4, hk4⟩⟩
      | exit id =>
        obtain ⟨hk3, hi3⟩ := hp
        obtain ⟨hr, hl3, hl4, hk4⟩ := fin (some (.exit id)) W3 hk3
        exact ⟨_, _, hr, .inr ⟨rfl, .exit id, hIx _ _ _ _ hi3 (ButS.putObj _ _ _ (by omega)), hl4, hk4⟩⟩
      | goto t =>
        obtain ⟨hk3, hi3⟩ := hp
        obtain ⟨hr, hl3, hl4, hk4⟩ := fin (some (.goto t)) W3 hk3
        exact ⟨_, _, hr, .inr ⟨rfl, .goto t, hIx _ _ _ _ hi3 (ButS.putObj _ _ _ (by omega)), hl4, hk4⟩⟩
      | panic ch => exact hp.elim
      | outgrown => exact hp.elim
    · rintro e W2 ⟨⟨v, rfl⟩, (⟨hi, hl, hk⟩ | ⟨t, ht, c, hi, hl, hk⟩)⟩
      · exact ⟨none, _, by have := run_endLoop (P := P) hl (by rw [hrec]; simp); rw [hrec] at this; exact this, hdone _ (hI _ _ _ hi (ButS.putObj _ _ _ (by omega))) ((World.putObj_heap_other (by omega)).trans hk)⟩
      · exact ⟨some c, _, by have := run_endLoop (P := P) hl (by rw [hrec]; simp); rw [hrec] at this; exact this, hstop c t _ ht (hIx _ _ _ _ hi (ButS.putObj _ _ _ (by omega))) ((World.putObj_heap_other (by omega)).trans hk)⟩
theorem ButS.below {S : Nat → Prop} {A B : World} (h : ButS S A B) {n : Nat} (hS : ∀ k, S k → n ≤ k) (hn : n ≤ A.heap.size) : Below n A B :=
  ⟨h.os, h.tape, h.output, h.size, fun k hk => h.same k (by omega) (fun hs => by have := hS k hs; omega)⟩
theorem ButS.blk {S : Nat → Prop} {A B : World} (h : ButS S A B) {k : Nat} {o : Obj} (hk : A.heap[k]? = some o) (hS : ¬ S k) : B.heap[k]? = some o := (h.same k (blk_lt hk) hS).trans hk
theorem ButS.own {S : Nat → Prop} {A B : World} (h : ButS S A B) {base e size n : Nat} {v : Value} {xs : List Value} (hr : A.ownsRow base e size v n xs) (hS : ∀ k, S k → k < base) : B.ownsRow base e size v n xs :=
  own_move hr fun k hk => h.same k (own_lt hr k hk) (fun hs => by have := hS k hs; have := own_base hr k hk; omega)
end Go.Proofs.Ytehfcnndjhjkoaa.PA

namespace Go.Proofs.Ytehfcnndjhjkoaa.PA
open Go.RowKit Go.Proofs.YtehfcnndjhjkoaaW.PrintWords Go.Proofs.YtehfcnndjhjkoaaW.PrintLast Go.Proofs.YtehfcnndjhjkoaaW.PrintMore
set_option linter.unusedVariables false
set_option linter.unusedSimpArgs false
/-- The next index: the odometer's step over the first a axes. -/
def odo (s : List Int) : Nat → List Int → List Int
  | 0, cur => cur
  | a + 1, cur => if wrap64 (rd cur (a : Int) + 1) < rd s (a : Int) then cur.set a (wrap64 (rd cur (a : Int) + 1)) else odo s a (cur.set a 0)
def idxL (s : List Int) : Nat → List Int
  | 0 => List.replicate s.length 0
  | t + 1 => odo s s.length (idxL s t)
theorem odo_len (s : List Int) : ∀ (a : Nat) (cur : List Int), (odo s a cur).length = cur.length
  | 0, _ => rfl
  | a + 1, cur => by rw [odo]; split; simp; rw [odo_len s a]; simp
theorem idxL_len (s : List Int) : ∀ t, (idxL s t).length = s.length
  | 0 => by simp [idxL]
  | t + 1 => by rw [idxL, odo_len, idxL_len s t]

/-- The digits of a number over a shape that is read from its end. -/
def digR : List Int → Int → List Int
  | [], _ => []
  | a :: r, c => c % a :: digR r (c / a)
def digs (s : List Int) (c : Int) : List Int := (digR s.reverse c).reverse
theorem digR_len : ∀ (r : List Int) (c : Int), (digR r c).length = r.length
  | [], _ => rfl
  | a :: r, c => by simp [digR, digR_len r]
theorem digs_len (s : List Int) (c : Int) : (digs s c).length = s.length := by simp [digs, digR_len]
theorem digs_snoc (p : List Int) (a c : Int) : digs (p ++ [a]) c = digs p (c / a) ++ [c % a] := by simp [digs, digR]
theorem digs_nil (c : Int) : digs [] c = [] := rfl
theorem digR_zero : ∀ (r : List Int), digR r 0 = List.replicate r.length 0
  | [] => rfl
  | a :: r => by simp [digR, digR_zero r, List.replicate_succ]
theorem digs_zero (s : List Int) : digs s 0 = List.replicate s.length 0 := by simp [digs, digR_zero]
theorem snocI {n : Nat} {p : List Int} (h : p.length = n + 1) : ∃ q a, p = q ++ [a] ∧ q.length = n := by
  rcases List.eq_nil_or_concat p with rfl | ⟨q, a, rfl⟩
  · simp at h
  · refine ⟨q, a, by simp, ?_⟩; simpa using h
theorem step_same {c a : Int} (h0 : 0 ≤ c) (ha : 1 ≤ a) (h : c % a + 1 < a) : (c + 1) / a = c / a ∧ (c + 1) % a = c % a + 1 := by
  have e := Int.emod_add_mul_ediv c a
  have h1 := Int.emod_nonneg c (show a ≠ 0 by omega)
  have : c + 1 = (c % a + 1) + a * (c / a) := by omega
  constructor
  · rw [this, Int.add_mul_ediv_left _ _ (by omega), Int.ediv_eq_zero_of_lt (by omega) h]; omega
  · rw [this, Int.add_mul_emod_self_left, Int.emod_eq_of_lt (by omega) h]
theorem step_next {c a : Int} (h0 : 0 ≤ c) (ha : 1 ≤ a) (h : ¬ c % a + 1 < a) : (c + 1) / a = c / a + 1 ∧ (c + 1) % a = 0 := by
  have e := Int.emod_add_mul_ediv c a
  have h1 := Int.emod_lt_of_pos c (show 0 < a by omega)
  have : c + 1 = a * (c / a + 1) := by rw [Int.mul_add]; omega
  constructor
  · rw [this, Int.mul_ediv_cancel_left _ (by omega)]
  · rw [this, Int.mul_emod_right]
theorem rd_last (p z : List Int) (a : Int) (n : Nat) (h : p.length = n) : rd (p ++ a :: z) (n : Int) = a := by subst h; simp [rd, List.getD_eq_getElem?_getD]
theorem set_last (p z : List Int) (a b : Int) (n : Nat) (h : p.length = n) : (p ++ a :: z).set n b = p ++ b :: z := by subst h; simp
/-- One step of the odometer over the first axes. -/
theorem odo_step : ∀ (n : Nat) (p q z : List Int) (c : Int), p.length = n → 0 ≤ c → (∀ a ∈ p, 1 ≤ a ∧ a ≤ 1000000000) → odo (p ++ q) n (digs p c ++ z) = digs p (c + 1) ++ z
  | 0, p, q, z, c, hp, _, _ => by
    obtain rfl := List.eq_nil_of_length_eq_zero hp
    simp [digs_nil, odo]
  | n + 1, p, q, z, c, hp, hc, hr => by
    obtain ⟨p, a, rfl, hq⟩ := snocI hp
    have ha := hr a (by simp)
    have h1 := Int.emod_nonneg c (show a ≠ 0 by omega)
    have h2 := Int.emod_lt_of_pos c (show 0 < a by omega)
    have hdl : (digs p (c / a)).length = n := by rw [digs_len, hq]
    rw [digs_snoc, digs_snoc, odo, List.append_assoc, List.append_assoc, List.append_assoc]
    simp only [List.singleton_append]
    rw [rd_last _ _ _ n hdl, rd_last _ _ _ n hq, w64 (by omega) (by omega), set_last _ _ _ _ n hdl, set_last _ _ _ _ n hdl]
    by_cases h : c % a + 1 < a
    · rw [if_pos h, (step_same hc ha.1 h).1, (step_same hc ha.1 h).2]
    · rw [if_neg h, (step_next hc ha.1 h).1, (step_next hc ha.1 h).2]
      exact odo_step n p (a :: q) (0 :: z) (c / a) hq (Int.ediv_nonneg hc (by omega)) (fun x hx => hr x (by simp [hx]))
/-- The odometer's list is the list of digits. -/
theorem idxL_digs (s : List Int) (hr : ∀ a ∈ s, 1 ≤ a ∧ a ≤ 1000000000) : ∀ t : Nat, idxL s t = digs s (t : Int)
  | 0 => by rw [idxL]; exact (digs_zero s).symm
  | t + 1 => by
    have := odo_step s.length s [] [] (t : Int) rfl (by omega) hr
    simp only [List.append_nil] at this
    rw [idxL, idxL_digs s hr t, this]; rfl
theorem prod_app : ∀ (p q : List Int), prod (p ++ q) = prod p * prod q
  | [], q => by simp [prod]
  | a :: p, q => by simp only [List.cons_append, prod, prod_app p q, Int.mul_assoc]
/-- A shape with an element has no number below 1. -/
theorem pos_of_prod : ∀ {s : List Int}, (∀ a ∈ s, 0 ≤ a) → 0 < prod s → ∀ a ∈ s, 1 ≤ a
  | [], _, _, a, ha => by simp at ha
  | b :: s, h, hp, a, ha => by
    have hb := h b (by simp)
    have hs := prod_nonneg (l := s) (fun x hx => h x (by simp [hx]))
    have hb1 : 1 ≤ b := by
      rcases Int.lt_or_le 0 b with h1 | h1
      · omega
      · have : b = 0 := by omega
        simp [prod, this] at hp
    have hs1 : 0 < prod s := by
      rcases Int.lt_or_le 0 (prod s) with h1 | h1
      · exact h1
      · have : prod s = 0 := by omega
        simp [prod, this] at hp
    rcases List.mem_cons.1 ha with rfl | ha
    · exact hb1
    · exact pos_of_prod (fun x hx => h x (by simp [hx])) hs1 a ha
theorem idxL_of {s : List Int} (h0 : ∀ a ∈ s, 0 ≤ a ∧ a ≤ 10000) {t : Nat} (ht : (t : Int) < prod s) : idxL s t = digs s (t : Int) :=
  idxL_digs s (fun a ha => ⟨pos_of_prod (fun x hx => (h0 x hx).1) (by omega) a ha, by have := (h0 a ha).2; omega⟩) t
end Go.Proofs.Ytehfcnndjhjkoaa.PA

namespace Go.Proofs.Ytehfcnndjhjkoaa.PA
open Go.RowKit Go.Shelf Go.Proofs.YtehfcnndjhjkoaaW.PrintWords Go.Proofs.YtehfcnndjhjkoaaW.PrintLast Go.Proofs.YtehfcnndjhjkoaaW.PrintMore
attribute [local go_sem] Oper.semAt_some
set_option linter.unusedVariables false
set_option linter.unusedSimpArgs false
def rowI (l : List Int) : Array Value := (l.map (Value.int .i64)).toArray
theorem rowI_get (l : List Int) (i : Nat) (h : i < l.length) : (rowI l)[i]? = some (.int .i64 (rd l (i : Int))) := by
  simp [rowI, rd, h, List.getD_eq_getElem?_getD]
theorem rowI_set (l : List Int) (i : Nat) (x : Int) : (rowI l).setIfInBounds i (.int .i64 x) = rowI (l.set i x) := by
  apply Array.ext_getElem?; intro j; simp [rowI, List.getElem?_set, Array.getElem?_setIfInBounds, List.getElem?_map]
theorem rowI_cell {w : World} {g : Nat} {t : TypeId} {l : List Int} (h : w.heap[g]? = some (.cells (rowI l) t (0, 0))) (i : Nat) (hi : i < l.length) : w.cell? ⟨g, i, none⟩ = some (.int .i64 (rd l (i : Int))) :=
  (blk_cell h i).trans (rowI_get l i hi)
theorem rowI_put {w : World} {g : Nat} {t : TypeId} {l : List Int} (h : w.heap[g]? = some (.cells (rowI l) t (0, 0))) (i : Nat) (x : Int) : (w.setCell ⟨g, i, none⟩ (.int .i64 x)).heap[g]? = some (.cells (rowI (l.set i x)) t (0, 0)) := by
  rw [← rowI_set]; exact blk_set h i _
theorem make_row (n : Nat) (hn : n ≤ 1000) (w : World) : (Instr.makeSlice 22 (.int .i64 (n : Int)) (.int .i64 (n : Int))).run Try.prog w = .ok (.slice (some ⟨w.heap.size, 0, none⟩) n n) (w.alloc (.cells (rowI (List.replicate n 0)) 3)) := by
  obtain ⟨i, hi, hz⟩ := Option.map_eq_some_iff.1 info3
  simp only [Prod.mk.injEq] at hz
  have h := run_make (P := Try.prog) w 22 3 i (.int .i64 0) Try.underlying22 hi hz.1 .i64 .i64 (n : Int) (n : Int) (by omega) (by omega) (by rw [hz.2.2]; omega) (by omega)
  rw [h, hz.2.1]
  have e : madeCells (Value.int .i64 0).cells ((n : Int).toNat * 1) = rowI (List.replicate n 0) := by
    apply Array.ext
    · simp [madeCells, rowI]
    · intro j h1 h2
      simp [madeCells, rowI, Value.cells, Nat.mod_one]
  rw [e]; simp
theorem butS_set {S : Nat → Prop} {A B : World} (h : ButS S A B) {G : Nat} (hG : S G) (j : Nat) (v : Value) : ButS S A (B.setCell ⟨G, j, none⟩ v) :=
  ⟨Nat.le_trans h.size (KeepsOthers.setCell B ⟨G, j, none⟩ v).size, fun k hk hn => (Below.heap_setCell B ⟨G, j, none⟩ v k (fun e => hn (e ▸ hG))).trans (h.same k hk hn), h.os, h.tape, h.output⟩
theorem butS_drew {S : Nat → Prop} {A B : World} (h : ButS S A B) : ButS S A B.drew := ⟨h.size, h.same, h.os, h.tape, h.output⟩
def AtI (s : List Int) (G t : Nat) (W : World) : Prop := W.heap[G]? = some (.cells (rowI (idxL s t)) 3 (0, 0))
set_option maxRecDepth 100000 in
set_option maxHeartbeats 2000000 in
theorem idx_in (m : Nat) (hm : 1 ≤ m) (l Bs : Nat) (A : Option Addr) (c : Nat) (s : List Int) (hs5 : s.length ≤ 5) (hp : prod s ≤ 10000) (k : Nat) (hk : impl_shapeOk.f k s = some (prod s, true)) (J Jx : Nat → World → Prop) (W : World) (hJ : ∀ t A B, J t A → ButS (fun k => k = W.heap.size) A B → J t B)
    (hY : ∀ t W1, J t W1 → t < (prod s).toNat → AtI s W.heap.size t W1 → YieldAt Fence.wide (m - 1) Try.prog l #[.slice (some ⟨W.heap.size, 0, none⟩) s.length s.length] W1 fun e W' =>
      (e = .returned (.bool true) ∧ J (t + 1) W' ∧ AtI s W.heap.size t W' ∧ (∀ k, (k = Bs ∨ (0 < s.length ∧ some k = A.map (·.block))) → W'.heap[k]? = W1.heap[k]?)) ∨ (e = .returned (.bool false) ∧ Jx (t + 1) W'))
    (hBs : W.cell? ⟨Bs, 0, none⟩ = some (.slice A s.length c)) (hr : Kd.C (Kd.int .i64) W A s.length s) (hc : s.length ≤ c) (hadl : ∀ ad, A = some ad → 0 < s.length → ad.block < W.heap.size) (h0 : J 0 W) :
    CallsIn Fence.wide m Try.prog 137 #[.func (.yield l) #[] #[], .pointer (some ⟨Bs, 0, none⟩)] W fun e W' => (∃ v, e = .returned v) ∧ (J (prod s).toNat W' ∨ ∃ t, t < (prod s).toNat ∧ Jx (t + 1) W') := by
  have HR := Aside0.mk hr
  have HC := Aside0.mk hc
  have HK := Aside0.mk hk
  clear hr hc hk
  have hmk := make_row s.length (by omega)
  refine callsIn_of_wp Try.func137 rfl trivial ?_ rfl
  simp only [Try.ntmps137, List.size_toArray, List.length_cons, List.length_nil, Nat.reduceAdd, Nat.reduceSub, Array.replicate_succ, Array.replicate_zero, List.push_toArray, List.append_toArray, List.nil_append, List.cons_append]
  gi_wp2_with (first | (refine ⟨trivial, ?_⟩; gi_at_call 94; refine (callsIn_wide.2 (impl_shapeOk.calls k A c s (prod s) true W HR.out HC.out HK.out)).mono ?_; rintro e w' ⟨rfl, ⟨⟨n5, rfl⟩⟩⟩))
  gi_loopw [16] (fun i wr => ∃ t : Nat, i = .int .i64 (t : Int) ∧ Aside0 (t ≤ (prod s).toNat) ∧ J t wr ∧ Aside0 (AtI s W.heap.size t wr) ∧ Aside0 (∀ k, (k = Bs ∨ (0 < s.length ∧ some k = A.map (·.block))) → wr.heap[k]? = W.heap[k]?))
    (fun i _ => (prod s).toNat - (intOf i).toNat)
  case atStart =>
    refine ⟨0, rfl, ⟨Nat.zero_le _⟩, hJ _ _ _ h0 ⟨by simp, fun k hk _ => Below.heap_alloc _ _ k hk, rfl, rfl, rfl⟩, ⟨?_⟩, ⟨fun k hk => Below.heap_alloc _ _ k ?_⟩⟩
    · have := World.alloc_heap_new (W.drewN n5) (.cells (rowI (List.replicate s.length 0)) 3)
      exact this
    · rcases hk with rfl | ⟨hk0, hk⟩
      · exact World.block_lt_of_cell? W _ hBs
      · obtain ⟨ad, rfl, rfl⟩ : ∃ ad, A = some ad ∧ k = ad.block := by cases A with | none => cases hk | some ad => exact ⟨ad, rfl, Option.some.inj hk⟩
        exact hadl ad rfl hk0
  case round =>
    obtain ⟨t, rfl, ht, hJs, hA, hM⟩ := hrel
    by_cases hlt : (t : Int) < prod s
    · obtain ⟨fn, tmps, assign, body, hy, hR⟩ := hY t wr hJs (by omega) hA.out
      have hb1 := decide_eq_true hlt
      have hb2 := eq_true hlt
      gi_wp2
      refine hR.mono ?_
      rintro e W3 (⟨rfl, hJ3, hA3, hk3⟩ | ⟨rfl, hJx3⟩)
      · gi_wp2
        gi_loopw [6] (fun i wr => ∃ (a : Nat) (cur : List Int), i = .int .i64 ((a : Int) - 1) ∧ Aside0 (a ≤ s.length) ∧ Aside0 (cur.length = s.length) ∧ Aside0 (wr.heap[W.heap.size]? = some (.cells (rowI cur) 3 (0, 0))) ∧ Aside0 (odo s a cur = odo s s.length (idxL s t)) ∧ Aside0 (ButS (fun k => k = W.heap.size) W3 wr))
          (fun i _ => ((intOf i) + 1).toNat)
        case atStart => exact ⟨s.length, idxL s t, by first | rfl | (simp; done) | (unfold wrap64; simp; omega), ⟨Nat.le_refl _⟩, ⟨idxL_len s t⟩, ⟨hA3⟩, ⟨rfl⟩, ⟨⟨Nat.le_refl _, fun _ _ _ => rfl, rfl, rfl, rfl⟩⟩⟩
        case round =>
          obtain ⟨a, cur, rfl, ha, hcl, hcr, hod, hbs⟩ := hrel
          have hlm : ∀ k, (k = Bs ∨ (0 < s.length ∧ some k = A.map (·.block))) → k < W.heap.size := fun k hk => by
            rcases hk with rfl | ⟨hk0, hk⟩
            · exact World.block_lt_of_cell? W _ hBs
            · obtain ⟨ad, rfl, rfl⟩ : ∃ ad, A = some ad ∧ k = ad.block := by cases A with | none => cases hk | some ad => exact ⟨ad, rfl, Option.some.inj hk⟩
              exact hadl ad rfl hk0
          have hm3 : ∀ k, (k = Bs ∨ (0 < s.length ∧ some k = A.map (·.block))) → W3.heap[k]? = W.heap[k]? := fun k hk => (hk3 k hk).trans (hM.out k hk)
          have hl3 : ∀ k, (k = Bs ∨ (0 < s.length ∧ some k = A.map (·.block))) → k < W3.heap.size := fun k hk => by
            have h := hm3 k hk
            rw [Array.getElem?_eq_getElem (hlm k hk)] at h
            exact (Array.getElem?_eq_some_iff.1 h).1
          cases a with
          | zero =>
            have hc1 : decide (0 ≤ ((0 : Nat) : Int) - 1) = false := rfl
            gi_wp2
            refine ⟨⟨t + 1, rfl, ⟨by omega⟩, hJ _ _ _ hJ3 hbs.out, ⟨?_⟩, ⟨fun k hk => (hbs.out.same k (hl3 k hk) (by have := hlm k hk; omega)).trans (hm3 k hk)⟩⟩, ?_⟩
            · unfold AtI; rw [idxL, ← hod.out]; exact hcr.out
            · simp [intOf]; omega
          | succ a =>
            have hal : a < s.length := by have := ha.out; omega
            have p1 : 0 ≤ (a : Int) := by omega
            have p2 : (a : Int) < (s.length : Int) := by omega
            obtain ⟨ad, rfl, hx'⟩ := Kd.at_int HR.out (a : Int) p1 p2
            rw [Int.toNat_natCast] at hx'
            have HX' := Aside0.mk hx'
            clear hx'
            have hx := rowI_cell hcr.out a (by have := hcl.out; omega)
            have hfz := blk_frozen hcr.out a
            have hb3 : decide (0 ≤ (((a + 1 : Nat) : Int) - 1)) = true := by simp
            gi_wp2
            have E1 := Aside0.mk (rowI_put (t := 3) hcr.out a (wrap64 (rd cur (a : Int) + 1)))
            have hbx : (wr.setCell ⟨W.heap.size, a, none⟩ (.int .i64 (wrap64 (rd cur (a : Int) + 1)))).cell? ⟨Bs, 0, none⟩ = some (.slice (some ad) s.length c) := (World.cell?_of_block (((butS_set hbs.out rfl a _).same Bs (hl3 Bs (.inl rfl)) (by have := hlm Bs (.inl rfl); omega)).trans (hm3 Bs (.inl rfl)))).trans hBs
            have hsx : (wr.setCell ⟨W.heap.size, a, none⟩ (.int .i64 (wrap64 (rd cur (a : Int) + 1)))).cell? (ad.add a) = some (.int .i64 (rd s (a : Int))) := by
              refine (World.cell?_of_block (w := W) ?_).trans HX'.out
              rw [show (ad.add a).block = ad.block by unfold Addr.add; split <;> rfl]
              exact ((butS_set hbs.out rfl a _).same ad.block (hl3 ad.block (.inr ⟨by omega, rfl⟩)) (by have := hlm ad.block (.inr ⟨by omega, rfl⟩); omega)).trans (hm3 ad.block (.inr ⟨by omega, rfl⟩))
            have hcx := rowI_cell E1.out a (by have := hcl.out; rw [List.length_set]; omega)
            rw [show rd (cur.set a (wrap64 (rd cur (a : Int) + 1))) (a : Int) = wrap64 (rd cur (a : Int) + 1) by simp [rd, List.getD_eq_getElem?_getD, List.getElem?_set, show a < cur.length by have := hcl.out; omega]] at hcx
            have hfx := blk_frozen E1.out a
            gi_region
            by_cases hx9 : wrap64 (rd cur (a : Int) + 1) < rd s (a : Int)
            · have hx9b := decide_eq_true hx9
              gi_wp2
              refine ⟨⟨t + 1, rfl, ⟨by omega⟩, hJ _ _ _ hJ3 (butS_drew (butS_set hbs.out rfl a _)), ⟨?_⟩, ⟨fun k hk => ((butS_drew (butS_set hbs.out rfl a _)).same k (hl3 k hk) (by have := hlm k hk; omega)).trans (hm3 k hk)⟩⟩, by simp [intOf]; omega⟩
              unfold AtI
              rw [idxL, ← hod.out, odo, if_pos hx9]
              exact E1.out
            · have hx9b : decide (wrap64 (rd cur (a : Int) + 1) < rd s (a : Int)) = false := decide_eq_false hx9
              gi_wp2
              refine ⟨⟨a, cur.set a 0, rfl, ⟨by omega⟩, ⟨by rw [List.length_set]; exact hcl.out⟩, ⟨?_⟩, ⟨by rw [← hod.out, odo, if_neg hx9]⟩, ⟨butS_drew (butS_set (butS_set hbs.out rfl a _) rfl a _)⟩⟩, by simp [intOf]⟩
              have h0 := rowI_put (t := 3) E1.out a 0
              rw [List.set_set] at h0
              exact h0
      · gi_wp2
        refine bodyPost_ret (results_none rfl _ _ _) rfl ?_
        exact ⟨⟨_, rfl⟩, .inr ⟨t, by omega, hJx3⟩⟩
    · have hb1 : decide ((t : Int) < prod s) = false := decide_eq_false hlt
      have hb2 := eq_false hlt
      gi_wp2
      go_end0
      exact ⟨⟨_, rfl⟩, .inl (by rw [show (prod s).toNat = t by have := ht.out; omega]; exact hJs)⟩
/-- The iterator over a shape's indexes keeps the contract of rounds. -/
theorem idx_rounds (m : Nat) (hm : 1 ≤ m) (Bs : Nat) (A : Option Addr) (c : Nat) (s : List Int) (hs5 : s.length ≤ 5) (hp : prod s ≤ 10000) (k : Nat) (hk : impl_shapeOk.f k s = some (prod s, true)) (w : World)
    (hBs : w.cell? ⟨Bs, 0, none⟩ = some (.slice A s.length c)) (hr : Kd.C (Kd.int .i64) w A s.length s) (hc : s.length ≤ c) (hadl : ∀ ad, A = some ad → 0 < s.length → ad.block < w.heap.size) :
    RoundsG Fence.wide m Try.prog 137 #[.pointer (some ⟨Bs, 0, none⟩)] (fun G => #[.slice (some ⟨G, 0, none⟩) s.length s.length]) (fun G t W => AtI s G t W) (prod s).toNat (fun k => k = Bs ∨ (0 < s.length ∧ some k = A.map (·.block))) w :=
  fun l J Jx W hW hJ hY h0 => idx_in m hm l Bs A c s hs5 hp k hk J Jx W hJ hY (pw_cell_below hW hBs) (Kd.C_below hr hW) hc (fun ad e e0 => Nat.lt_of_lt_of_le (hadl ad e e0) hW.size) h0
set_option maxHeartbeats 1000000 in
theorem indexes_in (m : Nat) (A : Option Addr) (n c : Nat) (w : World) :
    CallsIn Fence.wide m Try.prog 119 #[.slice A n c] w fun e w' => e = .returned (.func (.func 137) #[] #[.pointer (some ⟨w.heap.size, 0, none⟩)]) ∧ w' = w.alloc (.cells #[.slice A n c] 22) := by
  refine callsIn_of_wp Try.func119 rfl trivial ?_ rfl
  simp only [Try.ntmps119, List.size_toArray, List.length_cons, List.length_nil, Nat.reduceAdd, Nat.reduceSub, Array.replicate_succ, Array.replicate_zero, List.push_toArray, List.append_toArray, List.nil_append, List.cons_append]
  gi_wp2
  go_ret
  exact ⟨rfl, rfl⟩
end Go.Proofs.Ytehfcnndjhjkoaa.PA

namespace Go.Proofs.Ytehfcnndjhjkoaa.PA
open Go.RowKit Go.Proofs.YtehfcnndjhjkoaaW.PrintWords Go.Proofs.YtehfcnndjhjkoaaW.PrintLast Go.Proofs.YtehfcnndjhjkoaaW.PrintMore
set_option linter.unusedVariables false
set_option linter.unusedSimpArgs false
theorem ButS.refl (S : Nat → Prop) (A : World) : ButS S A A := ⟨Nat.le_refl _, fun _ _ _ => rfl, rfl, rfl, rfl⟩
theorem ButS.then_ {S : Nat → Prop} {A B C : World} (h : ButS S A B) (hs : B.heap.size ≤ C.heap.size) (hk : ∀ k, k < B.heap.size → ¬ (S k ∨ A.heap.size ≤ k) → C.heap[k]? = B.heap[k]?) (ho : C.os = B.os) (ht : C.tape = B.tape) (hu : C.output = B.output) : ButS S A C :=
  ⟨Nat.le_trans h.size hs, fun k hk' hn => (hk k (Nat.lt_of_lt_of_le hk' h.size) (fun e => e.elim hn (fun e => by omega))).trans (h.same k hk' hn), ho.trans h.os, ht.trans h.tape, hu.trans h.output⟩
structure Rx (O : Nat → Prop) (w W : World) (Ts : List Th) : Prop where
  fr : ButS O w W
  ok : ∀ T ∈ Ts, T.ok 0 W
  nod : Ts.Pairwise (fun a b => ∀ k, a.on k → ¬ b.on k)
theorem Th.low {B B' : Nat} {W : World} {T : Th} (h : T.ok B W) (hb : B' ≤ B) : T.ok B' W := by
  cases T with
  | blk g cs t => exact ⟨h.1, Nat.le_trans hb h.2⟩
  | row v xs => exact Kd.R_lower h hb
theorem Rx.start {O : Nat → Prop} {w W : World} {Ts : List Th} (h : Sx w W Ts) : Rx O W W Ts := ⟨ButS.refl _ _, fun T hT => Th.low (h.ok T hT) (Nat.zero_le _), h.nod⟩
theorem Rx.step {O : Nat → Prop} {w W W' : World} {Ts : List Th} (h : Rx O w W Ts) (hb : Below W.heap.size W W') : Rx O w W' Ts :=
  ⟨h.fr.then_ hb.size (fun k hk _ => hb.block k hk) hb.os hb.tape hb.output, fun T hT => Th.keep (h.ok T hT) fun k _ hlt => hb.block k hlt, h.nod⟩
theorem Rx.add {O : Nat → Prop} {w W W' : World} {Ts : List Th} (h : Rx O w W Ts) (hb : Below W.heap.size W W') {T : Th} (hT : T.ok W.heap.size W') : Rx O w W' (T :: Ts) := by
  have h' := h.step hb
  refine ⟨h'.fr, fun U hU => ?_, .cons (fun U hU k hk hU' => ?_) h'.nod⟩
  · rcases List.mem_cons.1 hU with rfl | hU
    · exact Th.low hT (Nat.zero_le _)
    · exact h'.ok U hU
  · have h1 := (Th.lt hT k hk).1
    have h2 := (Th.lt (h.ok U hU) k hU').2
    omega
theorem Rx.box {O : Nat → Prop} {w W W' : World} {Ts : List Th} {g : Nat} {cs : Array Value} {t : TypeId} (h : Rx O w W Ts) (hg : g = W.heap.size) (hB : W'.heap[g]? = some (.cells cs t (0, 0))) (hb : Below W.heap.size W W') : Rx O w W' (.blk g cs t :: Ts) :=
  h.add hb ⟨hB, by omega⟩
theorem Rx.repl {O : Nat → Prop} {w W W' : World} {Ts : List Th} (h : Rx O w W Ts) (i : Nat) {T T' : Th} (hi : Ts[i]? = some T) (hO : ∀ k, T.on k → O k ∨ w.heap.size ≤ k) (hT : T'.ok 0 W') (hsz : W.heap.size ≤ W'.heap.size) (hf : ∀ k, ¬ T.on k → k < W.heap.size → W'.heap[k]? = W.heap[k]?) (hon : ∀ k, T'.on k → T.on k ∨ W.heap.size ≤ k)
    (ho : W'.os = W.os) (ht : W'.tape = W.tape) (hu : W'.output = W.output) : Rx O w W' (Ts.set i T') := by
  obtain ⟨hlt, hie⟩ := List.getElem?_eq_some_iff.1 hi
  have hnod := List.pairwise_iff_getElem.1 h.nod
  have hoth : ∀ (j : Nat) (hj : j < Ts.length), j ≠ i → ∀ k, (Ts[j]).on k → ¬ T.on k := fun j hj hne k hk hk' => by
    rcases Nat.lt_or_gt_of_ne hne with hl | hl
    · have := hnod j i hj hlt hl; rw [hie] at this; exact this k hk hk'
    · have := hnod i j hlt hj hl; rw [hie] at this; exact this k hk' hk
  have hfar : ∀ (j : Nat) (hj : j < Ts.length), j ≠ i → ∀ k, (Ts[j]).on k → ¬ T'.on k := fun j hj hne k hk hk' => by
    rcases hon k hk' with h1 | h1
    · exact hoth j hj hne k hk h1
    · have := (Th.lt (h.ok _ (List.getElem_mem hj)) k hk).2; omega
  refine ⟨h.fr.then_ hsz (fun k hk hn => hf k (fun hT => hn (hO k hT)) hk) ho ht hu, fun U hU => ?_, List.pairwise_iff_getElem.2 fun a b ha hb' hab => ?_⟩
  · obtain ⟨j, hj, e⟩ := List.getElem_of_mem hU
    rw [List.length_set] at hj
    rw [List.getElem_set] at e
    split at e
    · subst e; exact hT
    · rename_i hne
      subst e
      exact Th.keep (h.ok _ (List.getElem_mem hj)) fun k hk hlt' => hf k (hoth j hj (fun e => hne e.symm) k hk) hlt'
  · rw [List.length_set] at ha hb'
    rw [List.getElem_set, List.getElem_set]
    split
    · rename_i e1
      split
      · rename_i e2; omega
      · rename_i e2; exact fun k hk hk' => hfar b hb' (fun e => e2 e.symm) k hk' hk
    · rename_i e1
      split
      · exact fun k hk hk' => hfar a ha (fun e => e1 e.symm) k hk hk'
      · exact hnod a b ha hb' hab
theorem Rx.get {O : Nat → Prop} {w W : World} {Ts : List Th} (h : Rx O w W Ts) (i : Nat) {T : Th} (hi : Ts[i]? = some T) : T.ok 0 W := h.ok _ (List.mem_of_getElem? hi)
theorem Rx.blk {O : Nat → Prop} {w W : World} {Ts : List Th} (h : Rx O w W Ts) (i : Nat) {g : Nat} {cs : Array Value} {t : TypeId} (hi : Ts[i]? = some (.blk g cs t)) : W.heap[g]? = some (.cells cs t (0, 0)) := (h.get i hi).1
theorem Rx.row {O : Nat → Prop} {w W : World} {Ts : List Th} (h : Rx O w W Ts) (i : Nat) {v : Value} {xs : List Int} (hi : Ts[i]? = some (.row v xs)) : Kd.R (Kd.int .i64) 3 W 0 (fun _ => True) v xs := h.get i hi
theorem Rx.C {O : Nat → Prop} {w W : World} {Ts : List Th} (h : Rx O w W Ts) (i : Nat) {A : Option Addr} {n c : Nat} {xs : List Int} (hi : Ts[i]? = some (.row (.slice A n c) xs)) : Kd.C (Kd.int .i64) W A xs.length xs := (Kd.R_reads' (h.row i hi)).2.2
theorem But1.size {g : Nat} {W w1 : World} (h : But1 g W w1) : W.heap.size ≤ w1.heap.size := (h.below 0 (Nat.zero_le _)).size
theorem Rx.put {O : Nat → Prop} {w W W' : World} {Ts : List Th} (h : Rx O w W Ts) (i : Nat) {g : Nat} {cs cs' : Array Value} {t : TypeId} (hi : Ts[i]? = some (.blk g cs t)) (hO : O g ∨ w.heap.size ≤ g) (hs : W'.heap[g]? = some (.cells cs' t (0, 0))) (hk : But1 g W W') : Rx O w W' (Ts.set i (.blk g cs' t)) :=
  h.repl i hi (fun k e => by rw [show k = g from e]; exact hO) ⟨hs, Nat.zero_le _⟩ hk.size (fun k hk' _ => hk.same k hk') (fun k hk' => .inl hk') (hk.below 0 (Nat.zero_le _)).os (hk.below 0 (Nat.zero_le _)).tape (hk.below 0 (Nat.zero_le _)).output
theorem Rx.sub {O : Nat → Prop} {w W : World} {Ts Ts' : List Th} (h : Rx O w W Ts) (hs : Ts'.Sublist Ts) : Rx O w W Ts' := ⟨h.fr, fun T hT => h.ok T (hs.subset hT), h.nod.sublist hs⟩
theorem Rx.alloc {O : Nat → Prop} {w W : World} {Ts : List Th} (h : Rx O w W Ts) (cs : Array Value) (t : TypeId) : Rx O w (W.alloc (.cells cs t)) (.blk W.heap.size cs t :: Ts) := h.box rfl (blk_new W _) (below_alloc (Below.refl _ _) _)
theorem Rx.keeps {O : Nat → Prop} {W W' : World} {Ts : List Th} (h : Rx O W W' Ts) (hS : ∀ k, O k → ∀ o, W.heap[k]? = some o → o.isCells = true) : KeepsOthers W W' :=
  ⟨h.fr.size, fun k o hk ho => (h.fr.same k (blk_lt hk) (fun hs => by rw [hS k hs o hk] at ho; cases ho)).trans hk⟩
theorem Th.cells {B : Nat} {W : World} {T : Th} (h : T.ok B W) : ∀ k, T.on k → ∀ o, W.heap[k]? = some o → o.isCells = true := by
  intro k hk o ho
  cases T with
  | blk g cs t => rw [show k = g from hk, h.1] at ho; cases ho; rfl
  | row v xs => obtain ⟨cs, hc⟩ := Kd.R_typed h k hk; rw [hc] at ho; cases ho; rfl
theorem Sx.apart {w W : World} {Ts : List Th} (h : Sx w W Ts) (i j : Nat) (hne : i ≠ j) {T U : Th} (hi : Ts[i]? = some T) (hj : Ts[j]? = some U) : ∀ k, T.on k → ¬ U.on k := by
  obtain ⟨hil, hie⟩ := List.getElem?_eq_some_iff.1 hi
  obtain ⟨hjl, hje⟩ := List.getElem?_eq_some_iff.1 hj
  have hnod := List.pairwise_iff_getElem.1 h.nod
  intro k h1 h2
  rcases Nat.lt_or_gt_of_ne hne with hl | hl
  · have := hnod i j hil hjl hl; rw [hie, hje] at this; exact this k h1 h2
  · have := hnod j i hjl hil hl; rw [hie, hje] at this; exact this k h2 h1
end Go.Proofs.Ytehfcnndjhjkoaa.PA

-- By a program (prt.py, over the print of the kit), for this claim. Not trusted: Lean checks it.
namespace Go.Proofs.Ytehfcnndjhjkoaa.PA
open Go.RowKit Go.Proofs.YtehfcnndjhjkoaaW.PrintWords Go.Proofs.YtehfcnndjhjkoaaW.PrintLast Go.Proofs.YtehfcnndjhjkoaaW.PrintMore
attribute [local go_sem] max2_int min2_int max_two min_two max_three min_three max_four min_four   -- for this text's walks alone
set_option linter.unusedVariables false
set_option linter.unusedSimpArgs false

/-! ### bits_Mul64: function 142 -/
def bits_Mul64.f (a0 : Int) (a1 : Int) : Option (Int × Int) := some (IntKind.u64.wrap ((IntKind.u64.wrap ((IntKind.u64.wrap ((a0 / 4294967296) * (a1 / 4294967296))) + ((IntKind.u64.wrap ((IntKind.u64.wrap ((a0 / 4294967296) * (Go.bits .and .u64 a1 4294967295))) + ((IntKind.u64.wrap ((Go.bits .and .u64 a0 4294967295) * (Go.bits .and .u64 a1 4294967295))) / 4294967296))) / 4294967296))) + ((IntKind.u64.wrap ((Go.bits .and .u64 (IntKind.u64.wrap ((IntKind.u64.wrap ((a0 / 4294967296) * (Go.bits .and .u64 a1 4294967295))) + ((IntKind.u64.wrap ((Go.bits .and .u64 a0 4294967295) * (Go.bits .and .u64 a1 4294967295))) / 4294967296))) 4294967295) + (IntKind.u64.wrap ((Go.bits .and .u64 a0 4294967295) * (a1 / 4294967296))))) / 4294967296)), IntKind.u64.wrap (a0 * a1))

end Go.Proofs.Ytehfcnndjhjkoaa.PA

-- By a program (prt.py, over the print of the kit), for this claim. Not trusted: Lean checks it.
namespace Go.Proofs.Ytehfcnndjhjkoaa.PA
open Go.RowKit Go.Proofs.YtehfcnndjhjkoaaW.PrintWords Go.Proofs.YtehfcnndjhjkoaaW.PrintLast Go.Proofs.YtehfcnndjhjkoaaW.PrintMore
attribute [local go_sem] max2_int min2_int max_two min_two max_three min_three max_four min_four   -- for this text's walks alone
set_option linter.unusedVariables false
set_option linter.unusedSimpArgs false

/-! ### bits_Mul: function 138 -/
def bits_Mul.f (a0 : Int) (a1 : Int) : Option (Int × Int) := (bits_Mul64.f a0 a1).bind fun bt101 => (some (bt101.1, bt101.2))

end Go.Proofs.Ytehfcnndjhjkoaa.PA

namespace Go.Proofs.Ytehfcnndjhjkoaa.PA
open Go.RowKit Go.Proofs.YtehfcnndjhjkoaaW.PrintWords Go.Proofs.YtehfcnndjhjkoaaW.PrintLast Go.Proofs.YtehfcnndjhjkoaaW.PrintMore
set_option linter.unusedVariables false
set_option linter.unusedSimpArgs false
theorem make_rowN (n : Nat) (hn : n ≤ 1000000) (w : World) : (Instr.makeSlice 22 (.int .i64 (n : Int)) (.int .i64 (n : Int))).run Try.prog w = .ok (.slice (some ⟨w.heap.size, 0, none⟩) n n) (w.alloc (.cells (rowI (List.replicate n 0)) 3)) := by
  obtain ⟨i, hi, hz⟩ := Option.map_eq_some_iff.1 info3
  simp only [Prod.mk.injEq] at hz
  have h := run_make (P := Try.prog) w 22 3 i (.int .i64 0) Try.underlying22 hi hz.1 .i64 .i64 (n : Int) (n : Int) (by omega) (by omega) (by rw [hz.2.2]; omega) (by omega)
  rw [h, hz.2.1]
  have e : madeCells (Value.int .i64 0).cells ((n : Int).toNat * 1) = rowI (List.replicate n 0) := by
    apply Array.ext
    · simp [madeCells, rowI]
    · intro j h1 h2
      simp [madeCells, rowI, Value.cells, Nat.mod_one]
  rw [e]; simp
/-- A block that is a row of numbers, as a row made. -/
theorem R_of_blk {W : World} {g : Nat} {l : List Int} {B : Nat} (h : W.heap[g]? = some (.cells (rowI l) 3 (0, 0))) (hB : B ≤ g) (hm : l.length ≤ 1000000) : Kd.R (Kd.int .i64) 3 W B (fun _ => True) (.slice (some ⟨g, 0, none⟩) l.length l.length) l := by
  refine Kd.R_of_own ⟨by simp [encs], .inr ⟨g, l.length, rowI l, rfl, hB, h, Nat.le_refl _, by unfold maxLen; omega, by simp [rowI], ?_⟩⟩ (fun _ _ => trivial)
  simp only [rowI, encs, Nat.mul_one, List.toList_toArray]
  exact List.take_of_length_le (by simp)
section
variable {P : Program} {ops : Array Oper} {rest : List Oper} {o : Oper} {a : Act} {Q : Exit → Act → World → Prop}
end
end Go.Proofs.Ytehfcnndjhjkoaa.PA

namespace Go.Proofs.Ytehfcnndjhjkoaa.PA
open Go.RowKit Go.Proofs.YtehfcnndjhjkoaaW.PrintWords Go.Proofs.YtehfcnndjhjkoaaW.PrintLast Go.Proofs.YtehfcnndjhjkoaaW.PrintMore
set_option linter.unusedVariables false
def noInt (cs : Array Value) : Prop := ∀ (j : Nat) (k : IntKind) (z : Int), cs[j]? ≠ some (.int k z)
theorem C_but1 {W w1 : World} {A : Option Addr} {l : List Int} {g : Nat} {cs : Array Value} {t : TypeId} (h : Kd.C (Kd.int .i64) W A l.length l) (hb : But1 g W w1) (hg : W.heap[g]? = some (.cells cs t (0, 0))) (hns : noInt cs) : Kd.C (Kd.int .i64) w1 A l.length l := by
  refine Kd.C_foot_ne (g := g) (fun h => h) h (fun ad e h0 hb' => ?_) w1 ⟨hb.size, fun i _ hi _ => hb.same i hi⟩
  obtain ⟨ad', e', hx⟩ := Kd.at_int h 0 (by omega) (by omega)
  rw [e] at e'; cases e'
  unfold World.cell? at hx
  rw [show (ad.add (0 : Int).toNat).block = ad.block by unfold Addr.add; split <;> rfl, hb', hg] at hx
  simp only at hx
  split at hx
  · cases hx
  · exact hns _ _ _ hx
end Go.Proofs.Ytehfcnndjhjkoaa.PA

namespace Go.Proofs.Ytehfcnndjhjkoaa.PA
open Go.RowKit Go.Shelf
set_option linter.unusedVariables false
theorem opIn_round {F : Fence} {n : Nat} {P : Program} {ops : Array Oper} {Q : Exit → Act → World → Prop} (l : Nat) (hd : ∀ (i : Nat) (o : Oper), ops[i]? = some o → ∀ c, o.op ≠ .defer c) {i : Nat} {K K' : Act → World → Prop} {a : Act} {w : World}
    (hK : ∀ a w, K a w → K' a w) (h : wpOpIn F n P ops Q i K a w) : wpOpIn (F.inRound l) n P ops Q i K' a w := by
  unfold wpOpIn at *
  cases ho : ops[i]? with
  | none => simp only [ho] at h ⊢; exact hK _ _ h
  | some o =>
    simp only [ho] at h ⊢
    split at h
    · rename_i hw
      rw [if_pos hw]
      have h' : o.wpIn F n P a w K' Q := Oper.wpIn_mono hK h
      unfold Oper.wpIn at *
      refine ⟨h'.1, ?_⟩
      have e := h'.2
      rw [Oper.semAt_eq _ _ _ (hd i o ho)] at e ⊢
      exact e
    · rename_i hw
      rw [if_neg hw]
      exact ⟨h.1, hK _ _ h.2⟩
theorem anyIn_round {F : Fence} {n : Nat} {P : Program} {md : Region.Mode} {ops : Array Oper} {Q : Exit → Act → World → Prop} (l : Nat) (hd : ∀ (i : Nat) (o : Oper), ops[i]? = some o → ∀ c, o.op ≠ .defer c) :
    ∀ (fuel : Nat) (listed : Array Bool) (a : Act) (w : World), wpAnyIn F n P md ops Q fuel listed a w → wpAnyIn (F.inRound l) n P md ops Q fuel listed a w
  | 0, _, _, _, h => h
  | fuel + 1, listed, a, w, h => ⟨h.1, fun i hi => opIn_round l hd (fun a' w' hh => anyIn_round l hd fuel _ a' w' hh) (h.2 i hi)⟩
/-- No operation of the list defers. -/
def noDefer (ops : Array Oper) : Bool := ops.toList.all fun o => match o.op with | .defer _ => false | _ => true
theorem noDefer_spec {ops : Array Oper} (h : noDefer ops = true) (i : Nat) (o : Oper) (ho : ops[i]? = some o) : ∀ c, o.op ≠ .defer c := by
  intro c hc
  have hm : o ∈ ops.toList := by
    rw [← Array.getElem?_toList] at ho
    exact List.mem_of_getElem? ho
  have := List.all_eq_true.1 h o hm
  rw [hc] at this
  cases this
/-- The region's any order, walked outside the round. -/
theorem region_round {id n l : Nat} {P : Program} {F : Fence} {ops : Array Oper} {Q : Exit → Act → World → Prop} {a : Act} {w : World} (hm : P.follows .mixedOrders = true) (hd : noDefer ops = true)
    (h : wpAnyIn F n P .any ops Q ops.size (Array.replicate ops.size false) a w.drew) : (Code.region id ops true).wpIn (F.inRound l) n P Q a w :=
  wpIn_region_any hm (anyIn_round l (noDefer_spec hd) _ _ _ _ h)
/-- A quiet region, walked in its lexical order outside the round. -/
theorem quiet_round {id n lo : Nat} {P : Program} {F : Fence} {Q : Exit → Act → World → Prop} {a : Act} {w : World} {l : List Oper} (hro : F.round = none) (hm : P.follows .mixedOrders = true) (hd : noDefer l.toArray = true) (hB : Region.lexB .any l.toArray = true)
    (h : wpQuietIn F n P l.toArray (fun w' => ∃ n, w' = w.drewN n) (fun a' => ∀ w', (∃ n, w' = w.drewN n) → Q .normal a' w') l a) : (Code.region id l.toArray true).wpIn (F.inRound lo) n P Q a w := by
  simp only [Region.lexB, Bool.and_eq_true] at hB
  refine region_round hm hd (wpAnyIn_of_quiet (Q := fun a' => ∀ w', (∃ n, w' = w.drewN n) → Q .normal a' w') hro (fun _ w' hw' h => h w' hw') _ _ _ _ ⟨1, rfl⟩ ?_)
  have := wpAnyQIn_lex (F := F) (n := n) (C := fun w' => ∃ n, w' = w.drewN n) (md := .any) hB.1 l 0 (Array.replicate l.toArray.size false) a (by simp) (by simpa using hB.2) h
  simpa using this
end Go.Proofs.Ytehfcnndjhjkoaa.PA

namespace Go.Proofs.Ytehfcnndjhjkoaa.PA
open Go.RowKit Go.Proofs.YtehfcnndjhjkoaaW.PrintWords Go.Proofs.YtehfcnndjhjkoaaW.PrintLast Go.Proofs.YtehfcnndjhjkoaaW.PrintMore
set_option linter.unusedVariables false
set_option linter.unusedSimpArgs false
/-- The number of an element, from an axis and a number on, over the numbers that are left (as the program reckons it). -/
def numGo (sh : List Int) : Nat → Int → List Int → Int
  | _, n, [] => n
  | k, n, i :: t => numGo sh (k + 1) (wrap64 (wrap64 (n * rd sh (k : Int)) + i)) t
/-- The same without bounds. -/
def hor : Int → List Int → List Int → Int
  | n, a :: sh, d :: ds => hor (n * a + d) sh ds
  | n, _, _ => n
theorem prod_snoc (p : List Int) (a : Int) : prod (p ++ [a]) = prod p * a := by rw [prod_app]; simp [prod]
theorem prod_pos : ∀ {p : List Int}, (∀ a ∈ p, 1 ≤ a) → 1 ≤ prod p
  | [], _ => by simp [prod]
  | a :: p, h => by
    have h1 := h a (by simp)
    have h2 := prod_pos (p := p) (fun x hx => h x (by simp [hx]))
    have := Int.mul_le_mul h1 h2 (by omega) (by omega)
    simpa [prod] using this
theorem digs_range : ∀ (n : Nat) (s : List Int) (c : Int), s.length = n → (∀ a ∈ s, 1 ≤ a) → 0 ≤ c → ∀ k : Nat, k < n → 0 ≤ rd (digs s c) (k : Int) ∧ rd (digs s c) (k : Int) < rd s (k : Int)
  | 0, s, c, hn, _, _, k, hk => by omega
  | n + 1, s, c, hn, hs, h0, k, hk => by
    obtain ⟨p, a, rfl, hp⟩ := snocI hn
    have ha := hs a (by simp)
    rw [digs_snoc]
    by_cases e : k = n
    · subst e
      rw [rd_last _ [] _ k (by rw [digs_len, hp]), rd_last p [] a k hp]
      exact ⟨Int.emod_nonneg _ (by omega), Int.emod_lt_of_pos _ (by omega)⟩
    · have ih := digs_range n p (c / a) hp (fun x hx => hs x (by simp [hx])) (Int.ediv_nonneg h0 (by omega)) k (by omega)
      have e1 : rd (digs p (c / a) ++ [c % a]) (k : Int) = rd (digs p (c / a)) (k : Int) := by
        simp only [rd, Int.toNat_natCast, List.getD_eq_getElem?_getD]; rw [List.getElem?_append_left (by rw [digs_len]; omega)]
      have e2 : rd (p ++ [a]) (k : Int) = rd p (k : Int) := by
        simp only [rd, Int.toNat_natCast, List.getD_eq_getElem?_getD]; rw [List.getElem?_append_left (by omega)]
      rw [e1, e2]; exact ih
/-- The program's number is the plain one where each digit is in range. -/
theorem numGo_hor (sh : List Int) (hs : ∀ a ∈ sh, 1 ≤ a) (hp : prod sh ≤ 1000000000) : ∀ (t : List Int) (p q : List Int) (n : Int), p ++ q = sh → q.length = t.length → 0 ≤ n → n < prod p → (∀ k : Nat, k < t.length → 0 ≤ rd t (k : Int) ∧ rd t (k : Int) < rd q (k : Int)) →
    numGo sh p.length n t = hor n q t
  | [], p, q, n, e, hl, h0, h1, hr => by
    obtain rfl := List.eq_nil_of_length_eq_zero hl
    simp [numGo, hor]
  | d :: t, p, [], n, e, hl, h0, h1, hr => by simp at hl
  | d :: t, p, a :: q, n, e, hl, h0, h1, hr => by
    have ha : 1 ≤ a := hs a (by rw [← e]; simp)
    have hd := hr 0 (by simp)
    simp only [rd, Int.ofNat_zero, Int.toNat_zero, List.getD_cons_zero] at hd
    have hd : 0 ≤ d ∧ d < a := hd
    have hq1 : 1 ≤ prod q := prod_pos (fun x hx => hs x (by rw [← e]; simp [hx]))
    have hp1 : 1 ≤ prod p := prod_pos (fun x hx => hs x (by rw [← e]; simp [hx]))
    have hpp : prod p * a * prod q ≤ 1000000000 := by
      have h := hp
      rw [← e, prod_app] at h; simp only [prod] at h; rw [Int.mul_assoc]; exact h
    have hpa : prod p * a ≤ 1000000000 := by
      have h1 := Int.mul_le_mul_of_nonneg_left hq1 (show 0 ≤ prod p * a from Int.mul_nonneg (by omega) (by omega))
      omega
    have hna : n * a + d < prod p * a := by
      have h := Int.mul_le_mul_of_nonneg_right (show n + 1 ≤ prod p by omega) (show 0 ≤ a by omega)
      rw [Int.add_mul] at h; omega
    have hn0 : 0 ≤ n * a := Int.mul_nonneg h0 (by omega)
    have hrd : rd sh (p.length : Int) = a := by rw [← e]; exact rd_last p q a _ rfl
    rw [numGo, hrd, w64 (x := n * a) (by omega) (by omega), w64 (by omega) (by omega), hor]
    have := numGo_hor sh hs hp t (p ++ [a]) q (n * a + d) (by rw [← e]; simp) (by simpa using hl) (by omega) (by rw [prod_snoc]; exact hna) (fun k hk => by
      have h := hr (k + 1) (by simp; omega)
      simp only [rd, Int.toNat_natCast, List.getD_cons_succ] at h ⊢
      exact h)
    simpa using this
end Go.Proofs.Ytehfcnndjhjkoaa.PA

-- By a program (prt.py, over the print of the kit), for this claim. Not trusted: Lean checks it.
namespace Go.Proofs.Ytehfcnndjhjkoaa.PA
open Go.RowKit Go.Proofs.YtehfcnndjhjkoaaW.PrintWords Go.Proofs.YtehfcnndjhjkoaaW.PrintLast Go.Proofs.YtehfcnndjhjkoaaW.PrintMore
attribute [local go_sem] max2_int min2_int max_two min_two max_three min_three max_four min_four   -- for this text's walks alone
set_option linter.unusedVariables false
set_option linter.unusedSimpArgs false

/-! ### impl_number: function 120 -/
def impl_number.l0 : Nat → List Int → Int → List Int → Int → Int → Option (Int)
  | 0, _, _, _, _, _ => none
  | k + 1, x0, x5, x8, x9, x10 => if x10 < x9 then (if 0 ≤ x10 then (if x10 < (x8.length : Int) then (if x10 < (x0.length : Int) then (impl_number.l0 k x0 (wrap64 ((wrap64 (x5 * (rd x0 x10))) + (rd x8 x10))) x8 x9 (wrap64 (x10 + 1))) else (none)) else (none)) else (none)) else (some x5)
def impl_number.f (k : Nat) (l0 : List Int) (l1 : List Int) : Option (Int) := impl_number.l0 k l0 0 l1 (l1.length : Int) 0
theorem impl_number.mono_l : ∀ k, (∀ y0 y1 y2 y3 y4, LeO (impl_number.l0 k y0 y1 y2 y3 y4) (impl_number.l0 (k + 1) y0 y1 y2 y3 y4))
  | 0 => fun _ _ _ _ _ r h => by simp [impl_number.l0] at h
  | k + 1 => by
    have ih0 := impl_number.mono_l k
    · intro y0 y1 y2 y3 y4
      unfold impl_number.l0
      repeat' first
      | (with_reducible exact ih0 _ _ _ _ _)
      | (with_reducible exact LeO.refl _)
      | (with_reducible exact LeO.none _)
      | (with_reducible refine LeO.ite ?_ ?_)
      | (with_reducible refine LeO.bind ?_ (fun _ => ?_))
      | exact ih0 _ _ _ _ _
      | exact LeO.none _
      | refine LeO.ite ?_ ?_
      | refine LeO.bind ?_ (fun _ => ?_)
theorem impl_number.mono : ∀ a0 a1 k, LeO (impl_number.f k a0 a1) (impl_number.f (k + 1) a0 a1) := by
  intro a0 a1 k
  have ih0 := impl_number.mono_l k
  unfold impl_number.f
  repeat' first
      | (with_reducible exact ih0 _ _ _ _ _)
      | (with_reducible exact LeO.refl _)
      | (with_reducible exact LeO.none _)
      | (with_reducible refine LeO.ite ?_ ?_)
      | (with_reducible refine LeO.bind ?_ (fun _ => ?_))
      | exact ih0 _ _ _ _ _
      | exact LeO.none _
      | refine LeO.ite ?_ ?_
      | refine LeO.bind ?_ (fun _ => ?_)
set_option maxHeartbeats 8000000 in
set_option maxRecDepth 100000 in
theorem impl_number.calls (k : Nat) (A0 : Option Addr) (c0 : Nat) (l0 : List Int) (A1 : Option Addr) (c1 : Nat) (l1 : List Int) (r : Int) (w : World) (hr0 : Kd.C (Kd.int .i64) w A0 l0.length l0) (hc0 : l0.length ≤ c0) (hr1 : Kd.C (Kd.int .i64) w A1 l1.length l1) (hc1 : l1.length ≤ c1) (h : impl_number.f k l0 l1 = some r) :
    Calls Try.prog 120 #[.slice A0 l0.length c0, .slice A1 l1.length c1] w fun e w' => e = .returned (.int .i64 r) ∧ Drawn0 w w' := by
  have HR0 := Aside0.mk hr0
  have HC0 := Aside0.mk hc0
  clear hr0 hc0
  have HR1 := Aside0.mk hr1
  have HC1 := Aside0.mk hc1
  clear hr1 hc1
  have H : (impl_number.l0 k l0 0 l1 (l1.length : Int) 0) = some r := h
  clear h
  have H' := Aside0.mk H
  clear H
  go_enter Try.func120, Try.ntmps120
  go_wp2
  go_loopg [5, 10] k (fun kq v5 v10 w' => ∃ (x5_1 : Int) (x10_1 : Int), v5 = .int .i64 x5_1 ∧ v10 = .int .i64 x10_1 ∧ Aside0 (impl_number.l0 kq l0 x5_1 l1 (l1.length : Int) x10_1 = some r) ∧ Aside0 (kq ≤ k) ∧ Drawn0 w w')
  case atStart => exact ⟨(0), (0), (by first | rfl | (simp; done) | (simp [*]; done)), (by first | rfl | (simp; done) | (simp [*]; done)), H', ⟨Nat.le_refl _⟩, by repeat (first | exact Drawn0.refl _ | apply Drawn0.step)⟩
  case round =>
    clear H'
    try clear c1
    try clear p2
    obtain ⟨x5_1, x10_1, rfl, rfl, HA, HK1, ⟨m1, rfl⟩⟩ := hrel
    cases gk with
    | zero => exact absurd HA.out (by simp [impl_number.l0])
    | succ k1 =>
      have H := HA.out
      clear HA
      simp only [impl_number.l0] at H
      by_cases c3 : x10_1 < (l1.length : Int)
      · rw [if_pos c3] at H
        have c3b0 : decide (x10_1 < (l1.length : Int)) = true := decide_eq_true c3
        clear c3
        by_cases c4 : 0 ≤ x10_1
        · rw [if_pos c4] at H
          have c4b0 : decide (0 ≤ x10_1) = true := decide_eq_true c4
          clear c4
          by_cases c5 : x10_1 < (l1.length : Int)
          · rw [if_pos c5] at H
            have c5b0 : decide (x10_1 < (l1.length : Int)) = true := decide_eq_true c5
            clear c5
            by_cases c6 : x10_1 < (l0.length : Int)
            · rw [if_pos c6] at H
              have c6b0 : decide (x10_1 < (l0.length : Int)) = true := decide_eq_true c6
              clear c6
              have H' := Aside0.mk H
              clear H
              have p101 : 0 ≤ (x10_1 : Int) := of_decide_eq_true (by first | (with_reducible assumption) | assumption)
              have q101 : x10_1 < (l1.length : Int) := of_decide_eq_true (by first | (with_reducible assumption) | assumption)
              obtain ⟨ad101, e101, hx101_0⟩ := Kd.at_int HR1.out x10_1 p101 q101
              cases e101
              replace p101 := eq_true p101
              replace q101 := eq_true q101
              have p102 : 0 ≤ (x10_1 : Int) := of_decide_eq_true (by first | (with_reducible assumption) | assumption)
              have q102 : x10_1 < (l0.length : Int) := of_decide_eq_true (by first | (with_reducible assumption) | assumption)
              obtain ⟨ad102, e102, hx102_0⟩ := Kd.at_int HR0.out x10_1 p102 q102
              cases e102
              replace p102 := eq_true p102
              replace q102 := eq_true q102
              go_wp2
              go_roundg k1
              case measure => have := HK1.out; omega
              case rel => exact ⟨(wrap64 ((wrap64 (x5_1 * (rd l0 x10_1))) + (rd l1 x10_1))), (wrap64 (x10_1 + 1)), (by first | rfl | (simp; done) | (simp [*]; done)), (by first | rfl | (simp; done) | (simp [*]; done)), H', ⟨by have := HK1.out; omega⟩, by repeat (first | exact Drawn0.refl _ | apply Drawn0.step)⟩
            · rw [if_neg c6] at H
              exact absurd H (by simp)
          · rw [if_neg c5] at H
            exact absurd H (by simp)
        · rw [if_neg c4] at H
          exact absurd H (by simp)
      · rw [if_neg c3] at H
        have c3b0 : decide (x10_1 < (l1.length : Int)) = false := decide_eq_false c3
        clear c3
        obtain rfl := Option.some.inj H
        go_wp2
        go_ret
        exact ⟨by first | rfl | (simp; done) | (simp [*]; done), by repeat (first | exact Drawn0.refl _ | apply Drawn0.step)⟩

end Go.Proofs.Ytehfcnndjhjkoaa.PA

namespace Go.Proofs.Ytehfcnndjhjkoaa.PA
open Go.RowKit Go.Proofs.YtehfcnndjhjkoaaW.PrintWords Go.Proofs.YtehfcnndjhjkoaaW.PrintLast Go.Proofs.YtehfcnndjhjkoaaW.PrintMore
set_option linter.unusedVariables false
theorem number_go (sh src : List Int) (h : src.length ≤ sh.length) (hb : src.length ≤ 1000000) : ∀ (m j : Nat) (n : Int), j + m = src.length →
    impl_number.l0 (m + 1) sh n src (src.length : Int) (j : Int) = some (numGo sh j n (src.drop j))
  | 0, j, n, hj => by
    rw [impl_number.l0, if_neg (by omega), List.drop_eq_nil_of_le (by omega), numGo]
  | m + 1, j, n, hj => by
    have hlt : j < src.length := by omega
    rw [impl_number.l0, if_pos (by omega), if_pos (by omega), if_pos (by omega), if_pos (by omega), show wrap64 ((j : Int) + 1) = ((j + 1 : Nat) : Int) from by rw [w64 (by omega) (by omega)]; push_cast; rfl]
    rw [number_go sh src h hb m (j + 1) _ (by omega), List.drop_eq_getElem_cons hlt, numGo]
    simp [rd, List.getD_eq_getElem?_getD, hlt]
theorem number_ev (sh src : List Int) (h : src.length ≤ sh.length) (hb : src.length ≤ 1000000) : impl_number.f (src.length + 1) sh src = some (numGo sh 0 0 src) :=
  number_go sh src h hb src.length 0 0 (by omega)
end Go.Proofs.Ytehfcnndjhjkoaa.PA

namespace Go.Proofs.Ytehfcnndjhjkoaa.PA
open Go.RowKit
set_option linter.unusedVariables false
section
variable {F : Fence} {n : Nat} {P : Program} {ops : Array Oper} {rest : List Oper} {o : Oper} {a : Act} {Q : Exit → Act → World → Prop}
theorem wpListIn_run {w w1 : World} {v : Value} (hgd : o.guard = none) (hnd : ∀ c, o.op ≠ .defer c) (hab : o.about P w a.eval = none) (hrun : (execOp a.eval o).run P w = .ok (.value v) w1)
    (h : wpListIn F n P ops Q rest (a.put o.dst v) w1) : wpListIn F n P ops Q (o :: rest) a w := by
  refine wpListIn_plain hgd fun K hK => ?_
  unfold Oper.wpIn
  refine ⟨by simp [hab], ?_⟩
  rw [Oper.semAt_plain F _ _ hnd, hrun]
  exact hK _ _ h
theorem wpListIn_load_row {w : World} (hgd : o.guard = none) (ty : TypeId) (x : Operand) (ho : o.op = .load ty x)
    (g : Nat) (hx : a.eval x = .pointer (some ⟨g, 0, none⟩)) (t : TypeId) (cs : Array Value) (fr : Nat × Nat) (d : TypeDesc) (hg : w.heap[g]? = some (.cells cs t fr))
    (hu : P.underlying ty = some d) (hd : (match d with | .struct _ | .array _ _ => true | _ => false) = true) (hi : (P.info? ty).map (·.size) = some cs.size)
    (h : wpListIn F n P ops Q rest (a.put o.dst (.agg cs)) w) : wpListIn F n P ops Q (o :: rest) a w := by
  refine wpListIn_run (v := .agg cs) hgd (by rw [ho]; intro c e; cases e) (by simp [Oper.about, ho]) ?_ h
  unfold execOp
  simp only [ho, hx, Instr.loadAt, Instr.sureAddr, Sem.run_bind, Sem.run_pure, Result.andThen_ok, run_loadVar_row w g t ty cs fr d hg hu hd hi]
theorem wpListIn_store_named {W : World} (hgd : o.guard = none) (ty : TypeId) (x y : Operand) (ho : o.op = .store ty x y)
    (g : Nat) (cells : Array Value) (hx : a.eval x = .pointer (some ⟨g, 0, none⟩)) (hy : a.eval y = .agg cells)
    (t : TypeId) (old : Array Value) (hg : W.heap[g]? = some (.cells old t (0, 0))) (hi : (P.info? ty).map (·.size) = some cells.size)
    (hold : old.size = cells.size) (h1 : cells.all (·.oneCell') = true)
    (h : ∀ w1, w1.heap[g]? = some (.cells cells t (0, 0)) → But1 g W w1 → wpListIn F n P ops Q rest (a.put o.dst undef) w1) : wpListIn F n P ops Q (o :: rest) a W := by
  refine wpListIn_plain hgd fun K hK => ?_
  unfold Oper.wpIn
  refine ⟨by simp [Oper.about, ho], ?_⟩
  rw [Oper.semAt_plain F _ _ (by rw [ho]; intro c hc'; cases hc')]
  unfold execOp
  simp only [ho, hx, hy, Instr.storeAt, Instr.sureAddr, Sem.run_bind, Sem.run_pure, Result.andThen_ok, run_storeVar_row W g t ty old cells hg hi hold h1]
  exact hK _ _ (h _ (setRow_heap _ g _ _ _ _ hg) ⟨fun k hk => setRow_other _ g k _ hk, fun B hB => below_setRow (Below.refl B W) hB _⟩)
end
end Go.Proofs.Ytehfcnndjhjkoaa.PA

namespace Go.Proofs.Ytehfcnndjhjkoaa.PA
open Go.RowKit Go.Proofs.YtehfcnndjhjkoaaW.PrintWords Go.Proofs.YtehfcnndjhjkoaaW.PrintLast Go.Proofs.YtehfcnndjhjkoaaW.PrintMore
set_option linter.unusedVariables false
theorem pair_appended {W w1 : World} {n₁ B : Nat} {t e : TypeId} {size : Nat} {a v v' : Value} {k m : Nat} {xs ys : List Value} {tmp : Obj}
    (hv : W.heap[B]? = some (.cells #[a, v] t (0, 0))) (hte : t ≠ e) (hrow : W.ownsRow n₁ e size v k xs) (hown' : w1.ownsRow n₁ e size v' m ys) (hgrow : (W.alloc tmp).grownBy w1 v.ownBlock) :
    w1.heap[B]? = some (.cells #[a, v] t (0, 0)) ∧ (w1.setCell ⟨B, 1, none⟩ v').heap[B]? = some (.cells #[a, v'] t (0, 0)) ∧ (w1.setCell ⟨B, 1, none⟩ v').ownsRow n₁ e size v' m ys ∧ KeepsOthers W (w1.setCell ⟨B, 1, none⟩ v') ∧ ButS (fun k => k = B ∨ n₁ ≤ k) W (w1.setCell ⟨B, 1, none⟩ v') := by
  have hne : v.ownBlock ≠ some B := fun h => by
    obtain ⟨cs, hc⟩ := own_typed hrow B h
    rw [hv] at hc; cases hc; exact hte rfl
  have hl : B < W.heap.size := blk_lt hv
  have hv1 : w1.heap[B]? = some (.cells #[a, v] t (0, 0)) := (hgrow.block B (by simp; omega) (Ne.symm hne)).trans (blk_alloc hv tmp)
  have hne' : v'.ownBlock ≠ some B := fun h => by
    obtain ⟨cs, hc⟩ := own_typed hown' B h
    rw [hv1] at hc; cases hc; exact hte rfl
  refine ⟨hv1, blk_set hv1 1 v', hown'.kept (w' := w1.setCell ⟨B, 1, none⟩ v') (row := some B) ⟨rfl, rfl, rfl, (KeepsOthers.setCell w1 _ v').size, fun k _ hk => Below.heap_setCell _ _ _ k (fun e => hk (by rw [e]))⟩ (.inr hne'), ?_, ?_⟩
  · refine ((KeepsOthers.alloc W tmp).trans (KeepsOthers.of_grownBy hgrow fun j o ej hj => ?_)).trans (KeepsOthers.setCell _ _ _)
    obtain ⟨cs, hc⟩ := own_typed (hrow.alloc tmp) j ej
    rw [hc] at hj; cases hj; rfl
  refine ⟨?_, fun j hj hn => ?_, hgrow.os, hgrow.tape, hgrow.output⟩
  · have := hgrow.size; have := (KeepsOthers.setCell w1 ⟨B, 1, none⟩ v').size; simp at *; omega
  · refine (Below.heap_setCell _ _ _ j (fun e => hn (.inl e))).trans ((hgrow.block j (by simp; omega) fun e => ?_).trans (Below.heap_alloc W tmp j hj))
    exact hn (.inr (own_base hrow j e.symm))
end Go.Proofs.Ytehfcnndjhjkoaa.PA

namespace Go.Proofs.Ytehfcnndjhjkoaa.PA
open Go.RowKit Go.Shelf Go.Proofs.YtehfcnndjhjkoaaW.PrintWords Go.Proofs.YtehfcnndjhjkoaaW.PrintLast Go.Proofs.YtehfcnndjhjkoaaW.PrintMore
attribute [local go_sem] Oper.semAt_some
set_option linter.unusedVariables false
set_option linter.unusedSimpArgs false
def srcGo (f : Nat → Int → Int) : Nat → List Int → List Int
  | _, [] => []
  | k, i :: t => f k i :: srcGo f (k + 1) t
def thrGo (sh : List Int) (f : Nat → Int → Int) : Nat → Bool → List Int → Bool
  | _, b, [] => b
  | k, b, i :: t => thrGo sh f (k + 1) (b && decide (0 ≤ f k i ∧ f k i ≤ wrap64 (rd sh (k : Int) - 1))) t
def fromOne (sh : List Int) (f : Nat → Int → Int) (cur : List Int) : Int := if thrGo sh f 0 true cur then numGo sh 0 0 (srcGo f 0 cur) else -1
def fromL (sh s : List Int) (f : Nat → Int → Int) : Nat → List Int
  | 0 => []
  | t + 1 => fromL sh s f t ++ [fromOne sh f (idxL s t)]
theorem fromL_len (sh s : List Int) (f : Nat → Int → Int) : ∀ t, (fromL sh s f t).length = t
  | 0 => rfl
  | t + 1 => by simp [fromL, fromL_len sh s f t]
/-- What is asked of the function: it answers f at each index of the shape, and only draws. -/
def Gives2 (g : Nat) (lb : Array Value) (f : Nat → Int → Int) (s : List Int) (w : World) : Prop := ∀ (W : World) (k : Nat) (i : Int), Below w.heap.size w W → k < s.length → 0 ≤ i → i < rd s (k : Int) →
  Calls Try.prog g (#[.int .i64 (k : Int), .int .i64 i] ++ lb) W fun e w' => e = .returned (.int .i64 (f k i)) ∧ ∃ q, w' = W.drewN q
theorem rowI_C {w : World} {g : Nat} {t : TypeId} {l : List Int} (h : w.heap[g]? = some (.cells (rowI l) t (0, 0))) (hm : l.length ≤ 9223372036854775807) : Kd.C (Kd.int .i64) w (some ⟨g, 0, none⟩) l.length l := by
  refine Kd.C_of_reads (d := (0 : Int)) (h1 := fun _ => rfl) ⟨rfl, by omega, fun _ => ⟨_, rfl, fun j hj => ?_⟩⟩
  have ha : (⟨g, 0, none⟩ : Addr).add j = ⟨g, j, none⟩ := by unfold Addr.add; split <;> simp_all
  rw [ha, rowI_cell h j hj]
  simp only [rd, Int.toNat_natCast]
theorem src_step (f : Nat → Int → Int) (sr cur : List Int) (j : Nat) (h1 : j < sr.length) (h2 : j < cur.length) :
    (sr.set j (f j (rd cur (j : Int)))).take (j + 1) ++ srcGo f (j + 1) (cur.drop (j + 1)) = sr.take j ++ srcGo f j (cur.drop j) := by
  rw [List.drop_eq_getElem_cons h2, srcGo, List.take_succ_eq_append_getElem (by simpa using h1), List.take_set_of_le (Nat.le_refl j)]
  simp [rd, List.getD_eq_getElem?_getD, h2]
theorem thr_step (sh : List Int) (f : Nat → Int → Int) (cur : List Int) (j : Nat) (q : Bool) (h2 : j < cur.length) :
    thrGo sh f j q (cur.drop j) = thrGo sh f (j + 1) (q && decide (0 ≤ f j (rd cur (j : Int)) ∧ f j (rd cur (j : Int)) ≤ wrap64 (rd sh (j : Int) - 1))) (cur.drop (j + 1)) := by
  rw [List.drop_eq_getElem_cons h2, thrGo]
  simp [rd, List.getD_eq_getElem?_getD, h2]
theorem rd_set (l : List Int) (i : Nat) (x : Int) (h : i < l.length) : rd (l.set i x) (i : Int) = x := by simp [rd, List.getD_eq_getElem?_getD, List.getElem?_set, h]
theorem within_ev (a c : Int) : impl_within.f a 0 c = some (decide (0 ≤ a ∧ a ≤ c)) := by
  unfold impl_within.f
  by_cases h : a ≥ 0
  · rw [if_pos h]; congr 1; by_cases h2 : a ≤ c <;> simp [h2]; omega
  · rw [if_neg h]; congr 1; simp; omega
theorem blk_of {W : World} {G t : Nat} {s : List Int} (h : AtI s G t W) : W.heap[G]? = some (.cells (rowI (idxL s t)) 3 (0, 0)) := h
theorem new_at (W : World) (o : Obj) (n : Nat) (h : n = W.heap.size) : (W.alloc o).heap[n]? = some o := h ▸ blk_new W o
theorem alloc7 (w : World) (o0 o1 o2 o3 o4 o5 o6 : Obj) :
    (((((((w.alloc o0).alloc o1).alloc o2).alloc o3).alloc o4).alloc o5).alloc o6).heap[w.heap.size]? = some o0 ∧
    (((((((w.alloc o0).alloc o1).alloc o2).alloc o3).alloc o4).alloc o5).alloc o6).heap[w.heap.size + 1]? = some o1 ∧
    (((((((w.alloc o0).alloc o1).alloc o2).alloc o3).alloc o4).alloc o5).alloc o6).heap[w.heap.size + 1 + 1]? = some o2 ∧
    (((((((w.alloc o0).alloc o1).alloc o2).alloc o3).alloc o4).alloc o5).alloc o6).heap[w.heap.size + 1 + 1 + 1]? = some o3 ∧
    (((((((w.alloc o0).alloc o1).alloc o2).alloc o3).alloc o4).alloc o5).alloc o6).heap[w.heap.size + 1 + 1 + 1 + 1]? = some o4 ∧
    (((((((w.alloc o0).alloc o1).alloc o2).alloc o3).alloc o4).alloc o5).alloc o6).heap[w.heap.size + 1 + 1 + 1 + 1 + 1]? = some o5 ∧
    (((((((w.alloc o0).alloc o1).alloc o2).alloc o3).alloc o4).alloc o5).alloc o6).heap[w.heap.size + 1 + 1 + 1 + 1 + 1 + 1]? = some o6 ∧
    (((((((w.alloc o0).alloc o1).alloc o2).alloc o3).alloc o4).alloc o5).alloc o6).heap.size = w.heap.size + 7 ∧
    Below w.heap.size w (((((((w.alloc o0).alloc o1).alloc o2).alloc o3).alloc o4).alloc o5).alloc o6) := by
  refine ⟨?_, ?_, ?_, ?_, ?_, ?_, ?_, ?_, ?_⟩
  · exact blk_alloc (blk_alloc (blk_alloc (blk_alloc (blk_alloc (blk_alloc (new_at _ _ _ rfl) _) _) _) _) _) _
  · exact blk_alloc (blk_alloc (blk_alloc (blk_alloc (blk_alloc (new_at _ _ _ (by simp)) _) _) _) _) _
  · exact blk_alloc (blk_alloc (blk_alloc (blk_alloc (new_at _ _ _ (by simp)) _) _) _) _
  · exact blk_alloc (blk_alloc (blk_alloc (new_at _ _ _ (by simp)) _) _) _
  · exact blk_alloc (blk_alloc (new_at _ _ _ (by simp)) _) _
  · exact blk_alloc (new_at _ _ _ (by simp)) _
  · exact new_at _ _ _ (by simp)
  · simp
  · exact below_alloc (below_alloc (below_alloc (below_alloc (below_alloc (below_alloc (below_alloc (Below.refl _ _) _) _) _) _) _) _) _
theorem keeps_butS {S : Nat → Prop} {A B : World} (h : ButS S A B) (hS : ∀ k, S k → ∀ o, A.heap[k]? = some o → o.isCells = true) : KeepsOthers A B :=
  ⟨h.size, fun k o hk ho => (h.same k (blk_lt hk) (fun hs => by rw [hS k hs o hk] at ho; cases ho)).trans hk⟩
theorem C_block {w : World} {A : Option Addr} {l : List Int} (h : Kd.C (Kd.int .i64) w A l.length l) {k : Nat} (h0 : 0 < l.length) (hk : some k = A.map (·.block)) : k < w.heap.size := by
  obtain ⟨ad, rfl, hx⟩ := Kd.at_int h 0 (by omega) (by omega)
  cases Option.some.inj hk
  have := World.block_lt_of_cell? w _ hx
  rwa [show (ad.add (0 : Int).toNat).block = ad.block by unfold Addr.add; split <;> rfl] at this
end Go.Proofs.Ytehfcnndjhjkoaa.PA

-- By a program (prt.py, over the print of the kit), for this claim. Not trusted: Lean checks it.
namespace Go.Proofs.Ytehfcnndjhjkoaa.PA
open Go.RowKit Go.Proofs.YtehfcnndjhjkoaaW.PrintWords Go.Proofs.YtehfcnndjhjkoaaW.PrintLast Go.Proofs.YtehfcnndjhjkoaaW.PrintMore
attribute [local go_sem] max2_int min2_int max_two min_two max_three min_three max_four min_four   -- for this text's walks alone
set_option linter.unusedVariables false
set_option linter.unusedSimpArgs false

/-! ### impl_Array_rank: function 90 -/
def impl_Array_rank.f (a0_0 : Bool) (l0_1 : List Int) (l0_2 : List Int) : Option (Int) := some (l0_1.length : Int)
set_option maxHeartbeats 8000000 in
set_option maxRecDepth 100000 in
theorem impl_Array_rank.calls (a0_0 : Bool) (A0_1 : Option Addr) (c0_1 : Nat) (l0_1 : List Int) (A0_2 : Option Addr) (c0_2 : Nat) (l0_2 : List Int) (r : Int) (w : World) (hr0_1 : Kd.C (Kd.int .i64) w A0_1 l0_1.length l0_1) (hc0_1 : l0_1.length ≤ c0_1) (hr0_2 : Kd.C (Kd.int .i64) w A0_2 l0_2.length l0_2) (hc0_2 : l0_2.length ≤ c0_2) (h : impl_Array_rank.f a0_0 l0_1 l0_2 = some r) :
    Calls Try.prog 90 #[.agg #[.bool a0_0, .slice A0_1 l0_1.length c0_1, .slice A0_2 l0_2.length c0_2]] w fun e w' => e = .returned (.int .i64 r) ∧ Below w.heap.size w w' := by
  have hu28 := Try.underlying28
  have HR0_1 := Aside0.mk hr0_1
  have HC0_1 := Aside0.mk hc0_1
  clear hr0_1 hc0_1
  have HR0_2 := Aside0.mk hr0_2
  have HC0_2 := Aside0.mk hc0_2
  clear hr0_2 hc0_2
  have HB := Aside0.mk (Below.refl w.heap.size w)
  have H : (some (l0_1.length : Int)) = some r := h
  clear h
  obtain rfl := Option.some.inj H
  go_enter Try.func90, Try.ntmps90
  go_wp2_with (first | ((with_reducible refine gate_dst (N := 1) rfl ?_); refine box_event ?hg (N := 1) ?hd (cs := #[.bool a0_0, .slice A0_1 l0_1.length c0_1, .slice A0_2 l0_2.length c0_2]) (t := 28) ?hr ?_; (case hd => rfl); (case hg => rfl); (case hr => first | (go_simp; done) | (go_simp; rfl)); intro gb101 hg w2 hbox hb; have n0_ := Aside0.mk (below_step (by repeat (first | (with_reducible first | exact HB.out | apply below_alloc | apply pw_below_drewN | apply below_drew1) | exact HB.out)) hb); have n1_ := Aside0.mk (hbox); have n2_ := Aside0.mk ((by rw [hg]; exact (below_size (by repeat (first | (with_reducible first | exact HB.out | apply below_alloc | apply pw_below_drewN | apply below_drew1) | exact HB.out))) : w.heap.size ≤ gb101)); have n3_ := Aside0.mk ((by rw [hg]; exact (below_size (by repeat (first | (with_reducible first | exact HB.out | apply below_alloc | apply pw_below_drewN | apply below_drew1) | exact HB.out))) : w.heap.size ≤ gb101)); clear HB; have HB := n0_; have BK101 := n1_; have GW101 := n2_; have GE101 := n3_; clear n0_ n1_ n2_ n3_; clear hb hbox hg; have hcz3_0 : w2.cell? ⟨gb101, 0, none⟩ = some (.bool a0_0) := (blk_cell BK101.out 0).trans rfl; have hcz3_1 : w2.cell? ⟨gb101, 1, none⟩ = some (.slice A0_1 l0_1.length c0_1) := (blk_cell BK101.out 1).trans rfl; have hcz3_2 : w2.cell? ⟨gb101, 2, none⟩ = some (.slice A0_2 l0_2.length c0_2) := (blk_cell BK101.out 2).trans rfl; have hfz3_0 := blk_frozen BK101.out 0; have hfz3_1 := blk_frozen BK101.out 1; have hfz3_2 := blk_frozen BK101.out 2))
  go_ret
  exact ⟨by first | rfl | (simp [errW_none, errW_some] <;> rfl) | (simp [*, errW_none, errW_some] <;> rfl), by repeat (first | (with_reducible first | exact HB.out | apply below_alloc | apply pw_below_drewN | apply below_drew1 | refine below_set ?_ GE101.out) | exact HB.out)⟩

end Go.Proofs.Ytehfcnndjhjkoaa.PA

-- By a program (prt.py, over the print of the kit), for this claim. Not trusted: Lean checks it.
namespace Go.Proofs.Ytehfcnndjhjkoaa.PA
open Go.RowKit Go.Proofs.YtehfcnndjhjkoaaW.PrintWords Go.Proofs.YtehfcnndjhjkoaaW.PrintLast Go.Proofs.YtehfcnndjhjkoaaW.PrintMore
attribute [local go_sem] max2_int min2_int max_two min_two max_three min_three max_four min_four   -- for this text's walks alone
set_option linter.unusedVariables false
set_option linter.unusedSimpArgs false

/-! ### impl_listOk: function 99 -/
def impl_listOk.f (a0_0 : Bool) (l0_1 : List Int) (l0_2 : List Int) : Option (Int) := (impl_Array_rank.f a0_0 l0_1 l0_2).bind fun t102 => (if t102 > 1 then (some 4) else (if a0_0 = true then (some 3) else (some 0)))
set_option maxHeartbeats 8000000 in
set_option maxRecDepth 100000 in
theorem impl_listOk.calls (a0_0 : Bool) (A0_1 : Option Addr) (c0_1 : Nat) (l0_1 : List Int) (A0_2 : Option Addr) (c0_2 : Nat) (l0_2 : List Int) (r : Int) (w : World) (hr0_1 : Kd.C (Kd.int .i64) w A0_1 l0_1.length l0_1) (hc0_1 : l0_1.length ≤ c0_1) (hr0_2 : Kd.C (Kd.int .i64) w A0_2 l0_2.length l0_2) (hc0_2 : l0_2.length ≤ c0_2) (h : impl_listOk.f a0_0 l0_1 l0_2 = some r) :
    Calls Try.prog 99 #[.agg #[.bool a0_0, .slice A0_1 l0_1.length c0_1, .slice A0_2 l0_2.length c0_2]] w fun e w' => e = .returned (.int .i64 r) ∧ Below w.heap.size w w' := by
  have hu28 := Try.underlying28
  have HR0_1 := Aside0.mk hr0_1
  have HC0_1 := Aside0.mk hc0_1
  clear hr0_1 hc0_1
  have HR0_2 := Aside0.mk hr0_2
  have HC0_2 := Aside0.mk hc0_2
  clear hr0_2 hc0_2
  have HB := Aside0.mk (Below.refl w.heap.size w)
  have H : ((impl_Array_rank.f a0_0 l0_1 l0_2).bind fun t102 => (if t102 > 1 then (some 4) else (if a0_0 = true then (some 3) else (some 0)))) = some r := h
  clear h
  replace H := Option.bind_eq_some_iff.mp H
  obtain ⟨t102, A20, H⟩ := H
  replace H : (if t102 > 1 then (some 4) else (if a0_0 = true then (some 3) else (some 0))) = some r := H
  have A2 := Aside0.mk A20
  clear A20
  by_cases c3 : t102 > 1
  · rw [if_pos c3] at H
    have c3b0 : decide (1 < t102) = true := decide_eq_true c3
    clear c3
    obtain rfl := Option.some.inj H
    go_enter Try.func99, Try.ntmps99
    go_wp2_with (first | ((with_reducible refine gate_dst (N := 1) rfl ?_); refine box_event ?hg (N := 1) ?hd (cs := #[.bool a0_0, .slice A0_1 l0_1.length c0_1, .slice A0_2 l0_2.length c0_2]) (t := 28) ?hr ?_; (case hd => rfl); (case hg => rfl); (case hr => first | (go_simp; done) | (go_simp; rfl)); intro gb101 hg w4 hbox hb; have n0_ := Aside0.mk (below_step (by repeat (first | (with_reducible first | exact HB.out | apply below_alloc | apply pw_below_drewN | apply below_drew1) | exact HB.out)) hb); have n1_ := Aside0.mk (hbox); have n2_ := Aside0.mk ((by rw [hg]; exact (below_size (by repeat (first | (with_reducible first | exact HB.out | apply below_alloc | apply pw_below_drewN | apply below_drew1) | exact HB.out))) : w.heap.size ≤ gb101)); have n3_ := Aside0.mk ((by rw [hg]; exact (below_size (by repeat (first | (with_reducible first | exact HB.out | apply below_alloc | apply pw_below_drewN | apply below_drew1) | exact HB.out))) : w.heap.size ≤ gb101)); clear HB; have HB := n0_; have BK101 := n1_; have GW101 := n2_; have GE101 := n3_; clear n0_ n1_ n2_ n3_; clear hb hbox hg; have hcz5_0 : w4.cell? ⟨gb101, 0, none⟩ = some (.bool a0_0) := (blk_cell BK101.out 0).trans rfl; have hcz5_1 : w4.cell? ⟨gb101, 1, none⟩ = some (.slice A0_1 l0_1.length c0_1) := (blk_cell BK101.out 1).trans rfl; have hcz5_2 : w4.cell? ⟨gb101, 2, none⟩ = some (.slice A0_2 l0_2.length c0_2) := (blk_cell BK101.out 2).trans rfl; have hfz5_0 := blk_frozen BK101.out 0; have hfz5_1 := blk_frozen BK101.out 1; have hfz5_2 := blk_frozen BK101.out 2) | ((with_reducible refine gate_callee (f := 90) rfl ?_); refine goesL_ (some 4) rfl rfl Try.func90 (by kernel_rfl) rfl #[.agg #[.bool a0_0, .slice A0_1 l0_1.length c0_1, .slice A0_2 l0_2.length c0_2]] rfl (by (try simp only [List.map_toArray, List.map_cons, List.map_nil]); first | done | rfl | (simp only [List.length_drop, List.length_take]; rfl)) ?_; (with_reducible refine (impl_Array_rank.calls a0_0 _ _ l0_1 _ _ l0_2 t102 _ ?side1 ?side2 ?side3 ?side4 A2.out).mono ?_); (case side1 => repeat (first | exact (Kd.C_below HR0_1.out HB.out) | (with_reducible refine Kd.C_alloc ?_ _) | (with_reducible refine Kd.C_drewN ?_ _) | (with_reducible refine Kd.C_drew ?_))); (case side2 => exact HC0_1.out); (case side3 => repeat (first | exact (Kd.C_below HR0_2.out HB.out) | (with_reducible refine Kd.C_alloc ?_ _) | (with_reducible refine Kd.C_drewN ?_ _) | (with_reducible refine Kd.C_drew ?_))); (case side4 => exact HC0_2.out); rintro e w6 ⟨rfl, hb⟩; refine ⟨_, rfl, ?_⟩; have n0_ := Aside0.mk (blk_below (g := gb101) (o := .cells #[.bool a0_0, .slice A0_1 l0_1.length c0_1, .slice A0_2 l0_2.length c0_2] 28 (0, 0)) (by (with_reducible repeat (first | refine blk_drewN ?_ _ | refine blk_drew ?_ | refine blk_alloc ?_ _)); exact BK101.out) hb); have n1_ := Aside0.mk (below_step (by repeat (first | (with_reducible first | exact HB.out | apply below_alloc | apply pw_below_drewN | apply below_drew1 | refine below_set ?_ GE101.out) | exact HB.out)) hb); clear BK101; clear HB; have BK101 := n0_; have HB := n1_; clear n0_ n1_; (try clear hb); (try clear hb2); (try clear hk); (try clear hi)))
    go_ret
    exact ⟨by first | rfl | (simp [errW_none, errW_some] <;> rfl) | (simp [*, errW_none, errW_some] <;> rfl), by repeat (first | (with_reducible first | exact HB.out | apply below_alloc | apply pw_below_drewN | apply below_drew1 | refine below_set ?_ GE101.out) | exact HB.out)⟩
  · rw [if_neg c3] at H
    have c3b0 : decide (1 < t102) = false := decide_eq_false c3
    clear c3
    by_cases c7 : a0_0 = true
    · subst c7
      have H1 : (some 3) = some r := by rw [if_pos rfl] at H; exact H
      clear H
      have H := H1
      clear H1
      obtain rfl := Option.some.inj H
      go_enter Try.func99, Try.ntmps99
      go_wp2_with (first | ((with_reducible refine gate_dst (N := 1) rfl ?_); refine box_event ?hg (N := 1) ?hd (cs := #[.bool true, .slice A0_1 l0_1.length c0_1, .slice A0_2 l0_2.length c0_2]) (t := 28) ?hr ?_; (case hd => rfl); (case hg => rfl); (case hr => first | (go_simp; done) | (go_simp; rfl)); intro gb101 hg w8 hbox hb; have n0_ := Aside0.mk (below_step (by repeat (first | (with_reducible first | exact HB.out | apply below_alloc | apply pw_below_drewN | apply below_drew1) | exact HB.out)) hb); have n1_ := Aside0.mk (hbox); have n2_ := Aside0.mk ((by rw [hg]; exact (below_size (by repeat (first | (with_reducible first | exact HB.out | apply below_alloc | apply pw_below_drewN | apply below_drew1) | exact HB.out))) : w.heap.size ≤ gb101)); have n3_ := Aside0.mk ((by rw [hg]; exact (below_size (by repeat (first | (with_reducible first | exact HB.out | apply below_alloc | apply pw_below_drewN | apply below_drew1) | exact HB.out))) : w.heap.size ≤ gb101)); clear HB; have HB := n0_; have BK101 := n1_; have GW101 := n2_; have GE101 := n3_; clear n0_ n1_ n2_ n3_; clear hb hbox hg; have hcz9_0 : w8.cell? ⟨gb101, 0, none⟩ = some (.bool true) := (blk_cell BK101.out 0).trans rfl; have hcz9_1 : w8.cell? ⟨gb101, 1, none⟩ = some (.slice A0_1 l0_1.length c0_1) := (blk_cell BK101.out 1).trans rfl; have hcz9_2 : w8.cell? ⟨gb101, 2, none⟩ = some (.slice A0_2 l0_2.length c0_2) := (blk_cell BK101.out 2).trans rfl; have hfz9_0 := blk_frozen BK101.out 0; have hfz9_1 := blk_frozen BK101.out 1; have hfz9_2 := blk_frozen BK101.out 2) | ((with_reducible refine gate_callee (f := 90) rfl ?_); refine goesL_ (some 4) rfl rfl Try.func90 (by kernel_rfl) rfl #[.agg #[.bool true, .slice A0_1 l0_1.length c0_1, .slice A0_2 l0_2.length c0_2]] rfl (by (try simp only [List.map_toArray, List.map_cons, List.map_nil]); first | done | rfl | (simp only [List.length_drop, List.length_take]; rfl)) ?_; (with_reducible refine (impl_Array_rank.calls true _ _ l0_1 _ _ l0_2 t102 _ ?side1 ?side2 ?side3 ?side4 A2.out).mono ?_); (case side1 => repeat (first | exact (Kd.C_below HR0_1.out HB.out) | (with_reducible refine Kd.C_alloc ?_ _) | (with_reducible refine Kd.C_drewN ?_ _) | (with_reducible refine Kd.C_drew ?_))); (case side2 => exact HC0_1.out); (case side3 => repeat (first | exact (Kd.C_below HR0_2.out HB.out) | (with_reducible refine Kd.C_alloc ?_ _) | (with_reducible refine Kd.C_drewN ?_ _) | (with_reducible refine Kd.C_drew ?_))); (case side4 => exact HC0_2.out); rintro e w10 ⟨rfl, hb⟩; refine ⟨_, rfl, ?_⟩; have n0_ := Aside0.mk (blk_below (g := gb101) (o := .cells #[.bool true, .slice A0_1 l0_1.length c0_1, .slice A0_2 l0_2.length c0_2] 28 (0, 0)) (by (with_reducible repeat (first | refine blk_drewN ?_ _ | refine blk_drew ?_ | refine blk_alloc ?_ _)); exact BK101.out) hb); have n1_ := Aside0.mk (below_step (by repeat (first | (with_reducible first | exact HB.out | apply below_alloc | apply pw_below_drewN | apply below_drew1 | refine below_set ?_ GE101.out) | exact HB.out)) hb); clear BK101; clear HB; have BK101 := n0_; have HB := n1_; clear n0_ n1_; (try clear hb); (try clear hb2); (try clear hk); (try clear hi); have hcz11_0 : w10.cell? ⟨gb101, 0, none⟩ = some (.bool true) := (blk_cell BK101.out 0).trans rfl; have hcz11_1 : w10.cell? ⟨gb101, 1, none⟩ = some (.slice A0_1 l0_1.length c0_1) := (blk_cell BK101.out 1).trans rfl; have hcz11_2 : w10.cell? ⟨gb101, 2, none⟩ = some (.slice A0_2 l0_2.length c0_2) := (blk_cell BK101.out 2).trans rfl; have hfz11_0 := blk_frozen BK101.out 0; have hfz11_1 := blk_frozen BK101.out 1; have hfz11_2 := blk_frozen BK101.out 2))
      go_ret
      exact ⟨by first | rfl | (simp [errW_none, errW_some] <;> rfl) | (simp [*, errW_none, errW_some] <;> rfl), by repeat (first | (with_reducible first | exact HB.out | apply below_alloc | apply pw_below_drewN | apply below_drew1 | refine below_set ?_ GE101.out) | exact HB.out)⟩
    · replace c7 := Bool.eq_false_iff.mpr c7
      subst c7
      have H1 : (some 0) = some r := by rw [if_neg (show ¬ (false = true) by decide)] at H; exact H
      clear H
      have H := H1
      clear H1
      obtain rfl := Option.some.inj H
      go_enter Try.func99, Try.ntmps99
      go_wp2_with (first | ((with_reducible refine gate_dst (N := 1) rfl ?_); refine box_event ?hg (N := 1) ?hd (cs := #[.bool false, .slice A0_1 l0_1.length c0_1, .slice A0_2 l0_2.length c0_2]) (t := 28) ?hr ?_; (case hd => rfl); (case hg => rfl); (case hr => first | (go_simp; done) | (go_simp; rfl)); intro gb101 hg w12 hbox hb; have n0_ := Aside0.mk (below_step (by repeat (first | (with_reducible first | exact HB.out | apply below_alloc | apply pw_below_drewN | apply below_drew1) | exact HB.out)) hb); have n1_ := Aside0.mk (hbox); have n2_ := Aside0.mk ((by rw [hg]; exact (below_size (by repeat (first | (with_reducible first | exact HB.out | apply below_alloc | apply pw_below_drewN | apply below_drew1) | exact HB.out))) : w.heap.size ≤ gb101)); have n3_ := Aside0.mk ((by rw [hg]; exact (below_size (by repeat (first | (with_reducible first | exact HB.out | apply below_alloc | apply pw_below_drewN | apply below_drew1) | exact HB.out))) : w.heap.size ≤ gb101)); clear HB; have HB := n0_; have BK101 := n1_; have GW101 := n2_; have GE101 := n3_; clear n0_ n1_ n2_ n3_; clear hb hbox hg; have hcz13_0 : w12.cell? ⟨gb101, 0, none⟩ = some (.bool false) := (blk_cell BK101.out 0).trans rfl; have hcz13_1 : w12.cell? ⟨gb101, 1, none⟩ = some (.slice A0_1 l0_1.length c0_1) := (blk_cell BK101.out 1).trans rfl; have hcz13_2 : w12.cell? ⟨gb101, 2, none⟩ = some (.slice A0_2 l0_2.length c0_2) := (blk_cell BK101.out 2).trans rfl; have hfz13_0 := blk_frozen BK101.out 0; have hfz13_1 := blk_frozen BK101.out 1; have hfz13_2 := blk_frozen BK101.out 2) | ((with_reducible refine gate_callee (f := 90) rfl ?_); refine goesL_ (some 4) rfl rfl Try.func90 (by kernel_rfl) rfl #[.agg #[.bool false, .slice A0_1 l0_1.length c0_1, .slice A0_2 l0_2.length c0_2]] rfl (by (try simp only [List.map_toArray, List.map_cons, List.map_nil]); first | done | rfl | (simp only [List.length_drop, List.length_take]; rfl)) ?_; (with_reducible refine (impl_Array_rank.calls false _ _ l0_1 _ _ l0_2 t102 _ ?side1 ?side2 ?side3 ?side4 A2.out).mono ?_); (case side1 => repeat (first | exact (Kd.C_below HR0_1.out HB.out) | (with_reducible refine Kd.C_alloc ?_ _) | (with_reducible refine Kd.C_drewN ?_ _) | (with_reducible refine Kd.C_drew ?_))); (case side2 => exact HC0_1.out); (case side3 => repeat (first | exact (Kd.C_below HR0_2.out HB.out) | (with_reducible refine Kd.C_alloc ?_ _) | (with_reducible refine Kd.C_drewN ?_ _) | (with_reducible refine Kd.C_drew ?_))); (case side4 => exact HC0_2.out); rintro e w14 ⟨rfl, hb⟩; refine ⟨_, rfl, ?_⟩; have n0_ := Aside0.mk (blk_below (g := gb101) (o := .cells #[.bool false, .slice A0_1 l0_1.length c0_1, .slice A0_2 l0_2.length c0_2] 28 (0, 0)) (by (with_reducible repeat (first | refine blk_drewN ?_ _ | refine blk_drew ?_ | refine blk_alloc ?_ _)); exact BK101.out) hb); have n1_ := Aside0.mk (below_step (by repeat (first | (with_reducible first | exact HB.out | apply below_alloc | apply pw_below_drewN | apply below_drew1 | refine below_set ?_ GE101.out) | exact HB.out)) hb); clear BK101; clear HB; have BK101 := n0_; have HB := n1_; clear n0_ n1_; (try clear hb); (try clear hb2); (try clear hk); (try clear hi); have hcz15_0 : w14.cell? ⟨gb101, 0, none⟩ = some (.bool false) := (blk_cell BK101.out 0).trans rfl; have hcz15_1 : w14.cell? ⟨gb101, 1, none⟩ = some (.slice A0_1 l0_1.length c0_1) := (blk_cell BK101.out 1).trans rfl; have hcz15_2 : w14.cell? ⟨gb101, 2, none⟩ = some (.slice A0_2 l0_2.length c0_2) := (blk_cell BK101.out 2).trans rfl; have hfz15_0 := blk_frozen BK101.out 0; have hfz15_1 := blk_frozen BK101.out 1; have hfz15_2 := blk_frozen BK101.out 2))
      go_ret
      exact ⟨by first | rfl | (simp [errW_none, errW_some] <;> rfl) | (simp [*, errW_none, errW_some] <;> rfl), by repeat (first | (with_reducible first | exact HB.out | apply below_alloc | apply pw_below_drewN | apply below_drew1 | refine below_set ?_ GE101.out) | exact HB.out)⟩

end Go.Proofs.Ytehfcnndjhjkoaa.PA

namespace Go.Proofs.Ytehfcnndjhjkoaa.PA
open Go.RowKit Go.Proofs.YtehfcnndjhjkoaaW.PrintWords Go.Proofs.YtehfcnndjhjkoaaW.PrintLast Go.Proofs.YtehfcnndjhjkoaaW.PrintMore
set_option linter.unusedVariables false
set_option linter.unusedSimpArgs false
set_option maxHeartbeats 2000000 in
set_option maxRecDepth 100000 in
theorem axesFor_same (a : Bool) (Aa1 : Option Addr) (ca1 : Nat) (la1 : List Int) (Aa2 : Option Addr) (ca2 : Nat) (la2 : List Int) (b : Bool) (Ab1 : Option Addr) (cb1 : Nat) (lb1 : List Int) (Ab2 : Option Addr) (cb2 : Nat) (lb2 : List Int) (w : World) (ha1 : Kd.C (Kd.int .i64) w Aa1 la1.length la1) (ka1 : la1.length ≤ ca1) (ha2 : Kd.C (Kd.int .i64) w Aa2 la2.length la2) (ka2 : la2.length ≤ ca2) (hb1 : Kd.C (Kd.int .i64) w Ab1 lb1.length lb1) (kb1 : lb1.length ≤ cb1) (hb2 : Kd.C (Kd.int .i64) w Ab2 lb2.length lb2) (kb2 : lb2.length ≤ cb2) (hf : impl_listOk.f a la1 la2 = some 0) (hz : lb1.length ≠ 0) (hn : la2.length = lb1.length) :
    Calls Try.prog 128 #[.agg #[.bool a, .slice Aa1 la1.length ca1, .slice Aa2 la2.length ca2], .agg #[.bool b, .slice Ab1 lb1.length cb1, .slice Ab2 lb2.length cb2]] w fun e w' => e = .returned (.tuple #[.agg #[.bool b, .slice Ab1 lb1.length cb1, .slice Ab2 lb2.length cb2], .int .i64 0]) ∧ Below w.heap.size w w' := by
  have Ha1 := Aside0.mk ha1
  have Ka1 := Aside0.mk ka1
  clear ha1 ka1
  have Ha2 := Aside0.mk ha2
  have Ka2 := Aside0.mk ka2
  clear ha2 ka2
  have Hb1 := Aside0.mk hb1
  have Kb1 := Aside0.mk kb1
  clear hb1 kb1
  have Hb2 := Aside0.mk hb2
  have Kb2 := Aside0.mk kb2
  clear hb2 kb2
  have HF := Aside0.mk hf
  clear hf
  have c0 : ((lb1.length : Int) == 0) = false := beq_eq_false_iff_ne.mpr (by omega)
  have c1 : ¬ lb1.length = 0 := hz
  clear hz
  have d0 : ((la2.length : Int) == (lb1.length : Int)) = true := beq_iff_eq.mpr (by omega)
  have d1 : ((la2.length : Int) != (lb1.length : Int)) = false := by simp [hn]
  have HN := Aside0.mk hn
  clear hn
  have HS := Aside0.mk (Sx.start w)
  go_enter Try.func128, Try.ntmps128
  go_upto_region 8 with (first | ((with_reducible refine gate_dst (N := 2) rfl ?_); refine box_event ?hg (N := 2) ?hd (cs := #[.bool a, .slice Aa1 la1.length ca1, .slice Aa2 la2.length ca2]) (t := 28) ?hr ?_; (case hd => rfl); (case hg => rfl); (case hr => first | (go_simp; done) | (go_simp; rfl)); intro gK hg1 w1 hx1 hb1; have nS : Aside0 (Sx w w1 [(.blk gK #[.bool a, .slice Aa1 la1.length ca1, .slice Aa2 la2.length ca2] 28)]) := Aside0.mk (HS.out.box hg1 hx1 hb1); clear HS; have HS := nS; clear nS hg1 hx1 hb1) | ((with_reducible refine gate_dst (N := 3) rfl ?_); refine box_event ?hg (N := 3) ?hd (cs := #[.bool b, .slice Ab1 lb1.length cb1, .slice Ab2 lb2.length cb2]) (t := 28) ?hr ?_; (case hd => rfl); (case hg => rfl); (case hr => first | (go_simp; done) | (go_simp; rfl)); intro gB hg2 w2 hx2 hb2; have nS : Aside0 (Sx w w2 [(.blk gB #[.bool b, .slice Ab1 lb1.length cb1, .slice Ab2 lb2.length cb2] 28), (.blk gK #[.bool a, .slice Aa1 la1.length ca1, .slice Aa2 la2.length ca2] 28)]) := Aside0.mk (HS.out.box hg2 hx2 hb2); clear HS; have HS := nS; clear nS hg2 hx2 hb2) | ((with_reducible refine gate_dst (N := 4) rfl ?_); refine box_event ?hg (N := 4) ?hd (cs := #[.bool false, .slice none 0 0, .slice none 0 0]) (t := 28) ?hr ?_; (case hd => rfl); (case hg => rfl); (case hr => first | (go_simp; done) | (go_simp; rfl)); intro gR hg3 w3 hx3 hb3; have nS : Aside0 (Sx w w3 [(.blk gR #[.bool false, .slice none 0 0, .slice none 0 0] 28), (.blk gB #[.bool b, .slice Ab1 lb1.length cb1, .slice Ab2 lb2.length cb2] 28), (.blk gK #[.bool a, .slice Aa1 la1.length ca1, .slice Aa2 la2.length ca2] 28)]) := Aside0.mk (HS.out.box hg3 hx3 hb3); clear HS; have HS := nS; clear nS hg3 hx3 hb3) | ((with_reducible refine gate_dst (N := 7) rfl ?_); refine wpList_load_row rfl 28 (.tmp 2) rfl gK rfl 28 #[.bool a, .slice Aa1 la1.length ca1, .slice Aa2 la2.length ca2] (0, 0) _ (HS.out.blk 2 rfl) Try.underlying28 rfl (by kernel_rfl) ?_) | (go_at_call 99; refine (impl_listOk.calls a Aa1 ca1 la1 Aa2 ca2 la2 0 _ (Kd.C_below Ha1.out HS.out.below) Ka1.out (Kd.C_below Ha2.out HS.out.below) Ka2.out HF.out).mono ?_; rintro e w4 ⟨rfl, hb4⟩; have nS : Aside0 (Sx w w4 [(.blk gR #[.bool false, .slice none 0 0, .slice none 0 0] 28), (.blk gB #[.bool b, .slice Ab1 lb1.length cb1, .slice Ab2 lb2.length cb2] 28), (.blk gK #[.bool a, .slice Aa1 la1.length ca1, .slice Aa2 la2.length ca2] 28)]) := Aside0.mk (HS.out.step hb4); clear HS; have HS := nS; clear nS hb4) | ((with_reducible refine gate_dst (N := 13) rfl ?_); refine wpList_load_row rfl 28 (.tmp 3) rfl gB rfl 28 #[.bool b, .slice Ab1 lb1.length cb1, .slice Ab2 lb2.length cb2] (0, 0) _ (HS.out.blk 1 rfl) Try.underlying28 rfl (by kernel_rfl) ?_) | (go_at_call 90; refine (impl_Array_rank.calls b Ab1 cb1 lb1 Ab2 cb2 lb2 (lb1.length : Int) _ (Kd.C_below Hb1.out HS.out.below) Kb1.out (Kd.C_below Hb2.out HS.out.below) Kb2.out rfl).mono ?_; rintro e w5 ⟨rfl, hb5⟩; have nS : Aside0 (Sx w w5 [(.blk gR #[.bool false, .slice none 0 0, .slice none 0 0] 28), (.blk gB #[.bool b, .slice Ab1 lb1.length cb1, .slice Ab2 lb2.length cb2] 28), (.blk gK #[.bool a, .slice Aa1 la1.length ca1, .slice Aa2 la2.length ca2] 28)]) := Aside0.mk (HS.out.step hb5); clear HS; have HS := nS; clear nS hb5))
  go_region_held3 (fun w' => w'.cell? ⟨gK, 2, none⟩ = some (.slice Aa2 la2.length ca2) ∧ w'.cell? ⟨gB, 0, none⟩ = some (.bool b) ∧ w'.cell? ⟨gB, 1, none⟩ = some (.slice Ab1 lb1.length cb1) ∧ w'.cell? ⟨gB, 2, none⟩ = some (.slice Ab2 lb2.length cb2)) ((exact ⟨(blk_cell (Sx.blkM (by repeat (first | (with_reducible exact HS.out) | (with_reducible apply Sx.drew) | (with_reducible apply Sx.drewN) | (with_reducible apply Sx.alloc))) (g := gK) (cs := #[.bool a, .slice Aa1 la1.length ca1, .slice Aa2 la2.length ca2]) (t := 28) (by simp)) 2).trans rfl, (blk_cell (Sx.blkM (by repeat (first | (with_reducible exact HS.out) | (with_reducible apply Sx.drew) | (with_reducible apply Sx.drewN) | (with_reducible apply Sx.alloc))) (g := gB) (cs := #[.bool b, .slice Ab1 lb1.length cb1, .slice Ab2 lb2.length cb2]) (t := 28) (by simp)) 0).trans rfl, (blk_cell (Sx.blkM (by repeat (first | (with_reducible exact HS.out) | (with_reducible apply Sx.drew) | (with_reducible apply Sx.drewN) | (with_reducible apply Sx.alloc))) (g := gB) (cs := #[.bool b, .slice Ab1 lb1.length cb1, .slice Ab2 lb2.length cb2]) (t := 28) (by simp)) 1).trans rfl, (blk_cell (Sx.blkM (by repeat (first | (with_reducible exact HS.out) | (with_reducible apply Sx.drew) | (with_reducible apply Sx.drewN) | (with_reducible apply Sx.alloc))) (g := gB) (cs := #[.bool b, .slice Ab1 lb1.length cb1, .slice Ab2 lb2.length cb2]) (t := 28) (by simp)) 2).trans rfl⟩)) (first | (go_at_call 90; refine (impl_Array_rank.calls b Ab1 cb1 lb1 Ab2 cb2 lb2 (lb1.length : Int) _ (Kd.C_below Hb1.out (show Sx w _ [(.blk gR #[.bool false, .slice none 0 0, .slice none 0 0] 28), (.blk gB #[.bool b, .slice Ab1 lb1.length cb1, .slice Ab2 lb2.length cb2] 28), (.blk gK #[.bool a, .slice Aa1 la1.length ca1, .slice Aa2 la2.length ca2] 28)] from (by repeat (first | (with_reducible exact HS.out) | (with_reducible apply Sx.drew) | (with_reducible apply Sx.drewN) | (with_reducible apply Sx.alloc)))).below) Kb1.out (Kd.C_below Hb2.out (show Sx w _ [(.blk gR #[.bool false, .slice none 0 0, .slice none 0 0] 28), (.blk gB #[.bool b, .slice Ab1 lb1.length cb1, .slice Ab2 lb2.length cb2] 28), (.blk gK #[.bool a, .slice Aa1 la1.length ca1, .slice Aa2 la2.length ca2] 28)] from (by repeat (first | (with_reducible exact HS.out) | (with_reducible apply Sx.drew) | (with_reducible apply Sx.drewN) | (with_reducible apply Sx.alloc)))).below) Kb2.out rfl).mono ?_; rintro e w6 ⟨rfl, hb6⟩; have nS : Aside0 (Sx w w6 [(.blk gR #[.bool false, .slice none 0 0, .slice none 0 0] 28), (.blk gB #[.bool b, .slice Ab1 lb1.length cb1, .slice Ab2 lb2.length cb2] 28), (.blk gK #[.bool a, .slice Aa1 la1.length ca1, .slice Aa2 la2.length ca2] 28)]) := Aside0.mk ((show Sx w _ [(.blk gR #[.bool false, .slice none 0 0, .slice none 0 0] 28), (.blk gB #[.bool b, .slice Ab1 lb1.length cb1, .slice Ab2 lb2.length cb2] 28), (.blk gK #[.bool a, .slice Aa1 la1.length ca1, .slice Aa2 la2.length ca2] 28)] from (by repeat (first | (with_reducible exact HS.out) | (with_reducible apply Sx.drew) | (with_reducible apply Sx.drewN) | (with_reducible apply Sx.alloc)))).step hb6); clear HS; have HS := nS; clear nS hb6))
  go_wp2_with (first | ((with_reducible refine gate_dst (N := 34) rfl ?_); refine wpList_load_row rfl 28 (.tmp 3) rfl gB rfl 28 #[.bool b, .slice Ab1 lb1.length cb1, .slice Ab2 lb2.length cb2] (0, 0) _ (HS.out.blk 1 rfl) Try.underlying28 rfl (by kernel_rfl) ?_) | ((with_reducible refine gate_store rfl ?_); refine store_named rfl 28 (.tmp 4) (.tmp 34) rfl gR #[.bool b, .slice Ab1 lb1.length cb1, .slice Ab2 lb2.length cb2] rfl rfl 28 #[.bool false, .slice none 0 0, .slice none 0 0] (HS.out.blk 0 rfl) (by kernel_rfl) rfl (by simp [Value.oneCell']) ?_; intro w7 hx7 hb7; have nS : Aside0 (Sx w w7 [(.blk gR #[.bool b, .slice Ab1 lb1.length cb1, .slice Ab2 lb2.length cb2] 28), (.blk gB #[.bool b, .slice Ab1 lb1.length cb1, .slice Ab2 lb2.length cb2] 28), (.blk gK #[.bool a, .slice Aa1 la1.length ca1, .slice Aa2 la2.length ca2] 28)]) := Aside0.mk (HS.out.put 0 rfl hx7 hb7); clear HS; have HS := nS; clear nS hx7 hb7))
  refine bodyPost_ret (results_ct rfl _ _ gR 28 #[.bool b, .slice Ab1 lb1.length cb1, .slice Ab2 lb2.length cb2] (0, 0) _ rfl (HS.out.blk 0 rfl) Try.underlying28 rfl (by kernel_rfl)) rfl ?_
  exact ⟨rfl, HS.out.below⟩
end Go.Proofs.Ytehfcnndjhjkoaa.PA

namespace Go.Proofs.Ytehfcnndjhjkoaa.PA
open Go.RowKit Go.Proofs.YtehfcnndjhjkoaaW.PrintWords Go.Proofs.YtehfcnndjhjkoaaW.PrintLast Go.Proofs.YtehfcnndjhjkoaaW.PrintMore
set_option linter.unusedVariables false
set_option linter.unusedSimpArgs false
section
variable {P : Program} {ops : Array Oper} {rest : List Oper} {o : Oper} {a : Act} {Q : Exit → Act → World → Prop}
theorem Sx.append {w W : World} {Ts : List Th} (h : Sx w W Ts) (i : Nat) {v : Value} {xs : List Int} (hi : Ts[i]? = some (.row v xs)) (hgd : o.guard = none) (s y : Operand)
    (ho : o.op = .call { callee := .builtin .append, args := #[s, y], argTypes := #[22, 22] }) (ht : P.underlying 22 = some (.slice 3)) (hinfo : (P.info? 3).map (fun i => (i.zero, i.size, i.bytes)) = some (some (.int .i64 0), 1, 8))
    (x : Int) (hs : a.eval s = v) (hy : a.eval y = .slice (some ⟨W.heap.size, 0, none⟩) 1 1) (hl : xs.length ≤ 1000000)
    (hK : ∀ A c w1, Sx w w1 (Ts.set i (.row (.slice A (xs.length + 1) c) (xs ++ [x]))) → wpList P ops Q rest (a.put o.dst (.slice A (xs.length + 1) c)) w1) : wpList P ops Q (o :: rest) a (W.alloc (.cells #[.int .i64 x] 3)) := by
  refine Kd.R_append (Kd.int .i64) (w0 := W) w.heap.size hgd s y 22 3 (.int .i64 0) 8 ho ht hinfo rfl (by decide) (by decide) v xs x [.int .i64 x] (fun _ => True) (fun _ => False) hs hy (by rfl) (fun _ h => h.elim) (fun _ _ => trivial) (h.row i hi) ((Below.refl W.heap.size W).mono h.below.size) h.below.size (by omega) ?_
  intro v1 w1 hr hb hg hat
  obtain ⟨A, c, rfl⟩ := Kd.R_slice hr
  have := hK A c w1 (by
    have := h.grow i hi hr hg hat
    rw [List.length_append, List.length_singleton] at this; exact this)
  rw [List.length_append, List.length_singleton]; exact this
/-- The literal row of no number. -/
theorem ev_nolit {w W : World} {Ts : List Th} (h : Sx w W Ts) (hgd : o.guard = none) {N : Tmp} (_hd : o.dst = some N)
    (hrun : (execOp a.eval o).run P W = .ok (.value (.slice (some ⟨W.heap.size, 0, none⟩) 0 0)) (W.alloc (.cells #[] 3 (0, 0))))
    (hK : ∀ A w1, Sx w w1 (.row (.slice A 0 0) [] :: Ts) → wpList P ops Q rest (a.put o.dst (.slice A 0 0)) w1) : wpList P ops Q (o :: rest) a W := by
  refine Kd.event_run hgd hrun (hK _ _ (h.add (below_alloc (Below.refl _ _) _) ?_))
  have := R_of_blk (W := W.alloc (.cells #[] 3 (0, 0))) (g := W.heap.size) (l := []) (B := W.heap.size) (blk_new W _) (Nat.le_refl _) (by simp)
  exact this
end
/-- An element of a row of the list. -/
theorem Sx.at {w W : World} {Ts : List Th} (h : Sx w W Ts) (i : Nat) {A : Option Addr} {n c : Nat} {xs : List Int} (hi : Ts[i]? = some (.row (.slice A n c) xs)) (j : Nat) (hj : j < xs.length) : ∃ g, A = some ⟨g, 0, none⟩ ∧ W.cell? ⟨g, j, none⟩ = some (.int .i64 (rd xs (j : Int))) ∧ W.frozen? ⟨g, j, none⟩ = false := by
  have hr := h.row i hi
  obtain ⟨g, cap, e, _, _, _⟩ := Kd.R_form hr (by omega)
  injection e with e1 e2 e3
  subst e1 e2 e3
  have := Kd.R_cell (0 : Int) (enc := Value.int .i64) hr (j : Int) (by omega) (by omega)
  rw [Int.toNat_natCast] at this
  exact ⟨g, rfl, this.1, this.2⟩
/-- A store into a row of the list. -/
theorem Sx.setAt {w W : World} {Ts : List Th} (h : Sx w W Ts) (i : Nat) {g n c : Nat} {xs : List Int} (hi : Ts[i]? = some (.row (.slice (some ⟨g, 0, none⟩) n c) xs)) (j : Nat) (x : Int) : Sx w (W.setCell ⟨g, j, none⟩ (.int .i64 x)) (Ts.set i (.row (.slice (some ⟨g, 0, none⟩) n c) (xs.set j x))) := by
  have hr := h.row i hi
  obtain ⟨rfl, _, _⟩ := Kd.R_reads' hr
  have := Kd.R_put (enc := Value.int .i64) hr (j : Int) x
  rw [Int.toNat_natCast] at this
  exact h.grow i hi this.1 this.2 (.inl rfl)
end Go.Proofs.Ytehfcnndjhjkoaa.PA

namespace Go.Proofs.Ytehfcnndjhjkoaa.PA
open Go.RowKit Go.Proofs.YtehfcnndjhjkoaaW.PrintWords Go.Proofs.YtehfcnndjhjkoaaW.PrintLast Go.Proofs.YtehfcnndjhjkoaaW.PrintMore
set_option linter.unusedVariables false
set_option linter.unusedSimpArgs false
section
variable {P : Program} {ops : Array Oper} {rest : List Oper} {o : Oper} {a : Act} {Q : Exit → Act → World → Prop}
theorem Sx.appendRows {w W : World} {Ts : List Th} (h : Sx w W Ts) (i : Nat) {v : Value} {xs : List Int} (hi : Ts[i]? = some (.row v xs)) (n N : Nat) (hn : xs.length = n) (hgd : o.guard = none) (s y : Operand)
    (ho : o.op = .call { callee := .builtin .append, args := #[s, y], argTypes := #[22, 22] }) (ht : P.underlying 22 = some (.slice 3)) (hinfo : (P.info? 3).map (fun i => (i.zero, i.size, i.bytes)) = some (some (.int .i64 0), 1, 8))
    (A : Option Addr) (m c : Nat) (ys zs : List Int) (hs : a.eval s = v) (hy : a.eval y = .slice A m c) (hm : ys.length = m) (hC : Kd.C (Kd.int .i64) W A ys.length ys) (hN : n + m = N) (hz : xs ++ ys = zs) (hl : N ≤ 1000000)
    (hK : ∀ B d w1, Sx w w1 (Ts.set i (.row (.slice B N d) zs)) → wpList P ops Q rest (a.put o.dst (.slice B N d)) w1) : wpList P ops Q (o :: rest) a W := by
  subst hn hm hN hz
  refine Kd.R_append_rows (Kd.int .i64) (w0 := W) w.heap.size hgd s y 22 3 (.int .i64 0) 8 ho ht hinfo rfl (by decide) (by decide) v xs ys A ys.length c (fun _ => True) (fun _ => False) hs hy (h.row i hi) hC (fun _ _ h => h) (fun _ h => h.elim) (fun _ _ => trivial) ((Below.refl W.heap.size W).mono h.below.size) h.below.size (by omega) ?_
  intro v1 w1 hr hb hg hat
  obtain ⟨B, d, rfl⟩ := Kd.R_slice hr
  have := hK B d w1 (by
    have := h.grow i hi hr hg hat
    rw [List.length_append] at this; exact this)
  rw [List.length_append]; exact this
end
end Go.Proofs.Ytehfcnndjhjkoaa.PA

namespace Go.Proofs.Ytehfcnndjhjkoaa.PA
open Go.RowKit Go.Proofs.YtehfcnndjhjkoaaW.PrintWords Go.Proofs.YtehfcnndjhjkoaaW.PrintLast Go.Proofs.YtehfcnndjhjkoaaW.PrintMore
set_option linter.unusedVariables false
set_option linter.unusedSimpArgs false
theorem Sx.cellOf {w W : World} {Ts : List Th} (h : Sx w W Ts) (i : Nat) {A : Option Addr} {n c : Nat} {xs : List Int} (hi : Ts[i]? = some (.row (.slice A n c) xs)) (j : Nat) (hj : j < xs.length) : ∃ g, A = some ⟨g, 0, none⟩ ∧ W.cell? ⟨g, j, none⟩ = some (.int .i64 (rd xs (j : Int))) ∧ W.frozen? ⟨g, j, none⟩ = false := by
  have hr := h.row i hi
  obtain ⟨g, cap, e, _, _, _⟩ := Kd.R_form hr (by omega)
  injection e with e1 e2 e3
  subst e1 e2 e3
  have := Kd.R_cell (0 : Int) (enc := Value.int .i64) hr (j : Int) (by omega) (by omega)
  rw [Int.toNat_natCast] at this
  exact ⟨g, rfl, this.1, this.2⟩
section
variable {P : Program} {ops : Array Oper} {rest : List Oper} {o : Oper} {a : Act} {Q : Exit → Act → World → Prop}
theorem run_store_at {W : World} {ty : TypeId} {g j : Nat} {u v : Value} (hcell : W.cell? ⟨g, j, none⟩ = some u) (hfr : W.frozen? ⟨g, j, none⟩ = false) (h1 : v.oneCell' = true) (hi : (P.info? ty).map (·.size) = some 1) :
    (storeVar ty ⟨g, j, none⟩ v).run P W = .ok () (W.setCell ⟨g, j, none⟩ v) := by
  have hcs : v.cells = #[v] := by cases v <;> first | rfl | cases h1
  cases hq : P.info? ty with
  | none => simp [hq] at hi
  | some i =>
    have hs : i.size = 1 := by simpa [hq] using hi
    have hadd : ∀ m, (⟨g, j, none⟩ : Addr).add m = ⟨g, j + m, none⟩ := fun m => by unfold Addr.add; split <;> simp_all
    simp [storeVar, sizeOf, typeInfo, hq, hcs, hs, storeCells, hadd, run_store P W _ v _ h1, hcell, hfr]
theorem Sx.store_step {Kc : Act → World → Prop} {w W : World} {Ts : List Th} (h : Sx w W Ts) (i : Nat) {g n c : Nat} {xs : List Int} (hi : Ts[i]? = some (.row (.slice (some ⟨g, 0, none⟩) n c) xs)) (hw : Region.wanted o (yielded ops a.tmps) = true) (ty : TypeId) (x y : Operand) (ho : o.op = .store ty x y) (j : Nat) (hj : j < xs.length)
    (hx : a.eval x = .pointer (some ⟨g, j, none⟩)) (z : Int) (hy : a.eval y = .int .i64 z) (hsz : (P.info? ty).map (·.size) = some 1)
    (hK : ∀ w1, Sx w w1 (Ts.set i (.row (.slice (some ⟨g, 0, none⟩) n c) (xs.set j z))) → But1 g W w1 → Kc (a.put o.dst undef) w1) : if Region.wanted o (yielded ops a.tmps) = true then Oper.wp P o a W Kc Q else Kc (a.put o.dst undef) W := by
  rw [if_pos hw]
  obtain ⟨g', e, hc, hf⟩ := h.cellOf i hi j hj
  cases e
  unfold Oper.wp execOp
  simp only [ho, hx, hy, Instr.storeAt, Instr.sureAddr, Sem.run_bind, Sem.run_pure, Result.andThen_ok, run_store_at hc hf (show (Value.int .i64 z).oneCell' = true from rfl) hsz]
  refine hK _ ?_ (But1.set1 g j W _)
  have hr := h.row i hi
  obtain ⟨rfl, _, _⟩ := Kd.R_reads' hr
  have := Kd.R_put (enc := Value.int .i64) hr (j : Int) z
  rw [Int.toNat_natCast] at this
  exact h.grow i hi this.1 this.2 (.inl rfl)
end
end Go.Proofs.Ytehfcnndjhjkoaa.PA

namespace Go.Proofs.Ytehfcnndjhjkoaa.PA
open Go.RowKit Go.Proofs.YtehfcnndjhjkoaaW.PrintWords Go.Proofs.YtehfcnndjhjkoaaW.PrintLast Go.Proofs.YtehfcnndjhjkoaaW.PrintMore
set_option linter.unusedVariables false
set_option linter.unusedSimpArgs false
theorem shapeOk_len (k n : Nat) (A : Option Addr) (c : Nat) (l : List Int) (r : Int × Bool) (w : World) (h : Kd.C (Kd.int .i64) w A l.length l) (hc : l.length ≤ c) (hn : l.length = n) (hf : impl_shapeOk.f k l = some r) :
    Calls Try.prog 94 #[.slice A n c] w fun e w' => e = .returned (.tuple #[.int .i64 r.1, .bool r.2]) ∧ Below w.heap.size w w' := by
  subst hn
  exact (impl_shapeOk.calls k A c l r.1 r.2 w h hc hf).mono fun _ _ h => ⟨h.1, h.2.below⟩
end Go.Proofs.Ytehfcnndjhjkoaa.PA

namespace Go.Proofs.Ytehfcnndjhjkoaa.PA
open Go.RowKit Go.Proofs.YtehfcnndjhjkoaaW.PrintWords Go.Proofs.YtehfcnndjhjkoaaW.PrintLast Go.Proofs.YtehfcnndjhjkoaaW.PrintMore
set_option linter.unusedVariables false
set_option linter.unusedSimpArgs false
theorem wpList_guardedB {P : Program} {ops : Array Oper} {Q : Exit → Act → World → Prop} {a : Act} {w : World} {rest : List Oper} {dst : Option Tmp} {op : Op} {type : TypeId} {pos : String} {after : Array Edge} {g : Nat × Bool}
    (hw : Region.wanted ⟨dst, op, type, pos, after, some g⟩ (yielded ops a.tmps) = true) (h : wpList P ops Q (⟨dst, op, type, pos, after, none⟩ :: rest) a w) : wpList P ops Q (⟨dst, op, type, pos, after, some g⟩ :: rest) a w := by
  simp only [wpList] at h ⊢
  rw [if_pos hw]
  rw [if_pos (by rfl)] at h
  exact h
theorem lit_step {P : Program} {ops : Array Oper} {o : Oper} {a : Act} {Q : Exit → Act → World → Prop} {K : Act → World → Prop} {W : World} {N : Option Tmp} (hw : Region.wanted o (yielded ops a.tmps) = true) (hN : o.dst = N) (cs : Array Value) (t : TypeId) (n : Nat)
    (hrun : (execOp a.eval o).run P W = .ok (.value (.slice (some ⟨W.heap.size, 0, none⟩) n n)) (W.alloc (.cells cs t (0, 0))))
    (h : ∀ g w1, W.heap.size = g → w1.heap[g]? = some (.cells cs t (0, 0)) → Below W.heap.size W w1 → K (a.put N (.slice (some ⟨g, 0, none⟩) n n)) w1) : if Region.wanted o (yielded ops a.tmps) = true then Oper.wp P o a W K Q else K (a.put N undef) W :=
  value_ hw hN hrun (h _ _ rfl (blk_new W _) (below_alloc (Below.refl _ _) _))
theorem Sx.appendRows_step {P : Program} {ops : Array Oper} {o : Oper} {a : Act} {Q : Exit → Act → World → Prop} {Kc : Act → World → Prop} {w W : World} {Ts : List Th} (h : Sx w W Ts) (i : Nat) {v : Value} {xs : List Int} (hi : Ts[i]? = some (.row v xs)) (n N : Nat) (hn : xs.length = n) (hw : Region.wanted o (yielded ops a.tmps) = true) (s y : Operand)
    (ho : o.op = .call { callee := .builtin .append, args := #[s, y], argTypes := #[22, 22] }) (ht : P.underlying 22 = some (.slice 3)) (hinfo : (P.info? 3).map (fun i => (i.zero, i.size, i.bytes)) = some (some (.int .i64 0), 1, 8))
    (A : Option Addr) (m c : Nat) (ys zs : List Int) (hs : a.eval s = v) (hy : a.eval y = .slice A m c) (hm : ys.length = m) (hC : Kd.C (Kd.int .i64) W A ys.length ys) (hN : n + m = N) (hz : xs ++ ys = zs) (hl : N ≤ 1000000)
    (hK : ∀ B d w1, Sx w w1 (Ts.set i (.row (.slice B N d) zs)) → Kc (a.put o.dst (.slice B N d)) w1) : if Region.wanted o (yielded ops a.tmps) = true then Oper.wp P o a W Kc Q else Kc (a.put o.dst undef) W := by
  subst hn hm hN hz
  refine Kd.R_append_rows_step (Kd.int .i64) (w0 := W) w.heap.size hw s y 22 3 (.int .i64 0) 8 ho ht hinfo rfl (by decide) (by decide) v xs ys A ys.length c (fun _ => True) (fun _ => False) hs hy (h.row i hi) hC (fun _ _ h => h) (fun _ h => h.elim) (fun _ _ => trivial) ((Below.refl W.heap.size W).mono h.below.size) h.below.size (by omega) ?_
  intro v1 w1 hr hb hg hat
  obtain ⟨B, d, rfl⟩ := Kd.R_slice hr
  have := hK B d w1 (by
    have := h.grow i hi hr hg hat
    rw [List.length_append] at this; exact this)
  rw [List.length_append]; exact this
theorem store_named_step {P : Program} {ops : Array Oper} {o : Oper} {a : Act} {Q : Exit → Act → World → Prop} {Kc : Act → World → Prop} {W : World} (hw : Region.wanted o (yielded ops a.tmps) = true) (ty : TypeId) (x y : Operand) (ho : o.op = .store ty x y)
    (g : Nat) (cells : Array Value) (hx : a.eval x = .pointer (some ⟨g, 0, none⟩)) (hy : a.eval y = .agg cells)
    (t : TypeId) (old : Array Value) (hg : W.heap[g]? = some (.cells old t (0, 0))) (hi : (P.info? ty).map (·.size) = some cells.size)
    (hold : old.size = cells.size) (h1 : cells.all (·.oneCell') = true)
    (h : ∀ w1, w1.heap[g]? = some (.cells cells t (0, 0)) → But1 g W w1 → Kc (a.put o.dst undef) w1) : if Region.wanted o (yielded ops a.tmps) = true then Oper.wp P o a W Kc Q else Kc (a.put o.dst undef) W := by
  rw [if_pos hw]
  exact wp_store_row ty x y ho g cells hx hy t old hg hi hold h1 (h _ (setRow_heap _ g _ _ _ _ hg) ⟨fun k hk => setRow_other _ g k _ hk, fun B hB => below_setRow (Below.refl B W) hB _⟩)
set_option maxHeartbeats 2000000 in
set_option maxRecDepth 100000 in
theorem beside_same (a : Bool) (Aa1 : Option Addr) (ca1 : Nat) (la1 : List Int) (Aa2 : Option Addr) (ca2 : Nat) (la2 : List Int) (b : Bool) (Ab1 : Option Addr) (cb1 : Nat) (lb1 : List Int) (Ab2 : Option Addr) (cb2 : Nat) (lb2 : List Int) (w : World) (ha1 : Kd.C (Kd.int .i64) w Aa1 la1.length la1) (ka1 : la1.length ≤ ca1) (ha2 : Kd.C (Kd.int .i64) w Aa2 la2.length la2) (ka2 : la2.length ≤ ca2) (hb1 : Kd.C (Kd.int .i64) w Ab1 lb1.length lb1) (kb1 : lb1.length ≤ cb1) (hb2 : Kd.C (Kd.int .i64) w Ab2 lb2.length lb2) (kb2 : lb2.length ≤ cb2) (hn5 : la1.length ≤ 5) (hz : la1.length ≠ 0) (hn : la1.length + 1 ≠ lb1.length) :
    Calls Try.prog 89 #[.agg #[.bool a, .slice Aa1 la1.length ca1, .slice Aa2 la2.length ca2], .agg #[.bool b, .slice Ab1 lb1.length cb1, .slice Ab2 lb2.length cb2]] w fun e w' => ∃ As cs Ad cd, e = .returned (.agg #[.bool a, .slice As (la1 : List Int).length cs, .slice Ad (la2 : List Int).length cd]) ∧ Kd.C (Kd.int .i64) w' As (la1 : List Int).length la1 ∧ (la1 : List Int).length ≤ cs ∧ Kd.C (Kd.int .i64) w' Ad (la2 : List Int).length la2 ∧ (la2 : List Int).length ≤ cd ∧ Below w.heap.size w w' := by
  have Ha1 := Aside0.mk ha1
  have Ka1 := Aside0.mk ka1
  clear ha1 ka1
  have Ha2 := Aside0.mk ha2
  have Ka2 := Aside0.mk ka2
  clear ha2 ka2
  have Hb1 := Aside0.mk hb1
  have Kb1 := Aside0.mk kb1
  clear hb1 kb1
  have Hb2 := Aside0.mk hb2
  have Kb2 := Aside0.mk kb2
  clear hb2 kb2
  have HN5 := Aside0.mk hn5
  clear hn5
  have c0 : ((la1.length : Int) == 0) = false := beq_eq_false_iff_ne.mpr (by omega)
  have c1 : ¬ la1.length = 0 := hz
  clear hz
  have d0 : ((la1.length : Int) + 1 == (lb1.length : Int)) = false := beq_eq_false_iff_ne.mpr (by omega)
  have wn : IntKind.i64.wrap ((la1.length : Int) + 1) = (la1.length : Int) + 1 := IntWalk.i64_in _ (by have := HN5.out; omega)
  have d2 : ¬ la1.length + 1 = lb1.length := hn
  clear hn
  have HS := Aside0.mk (Sx.start w)
  go_enter Try.func89, Try.ntmps89
  go_upto_region 8 with (first | ((with_reducible refine gate_dst (N := 2) rfl ?_); refine box_event ?hg (N := 2) ?hd (cs := #[.bool a, .slice Aa1 la1.length ca1, .slice Aa2 la2.length ca2]) (t := 28) ?hr ?_; (case hd => rfl); (case hg => rfl); (case hr => first | (go_simp; done) | (go_simp; rfl)); intro gK hg1 w1 hx1 hb1; have nS : Aside0 (Sx w w1 [(.blk gK #[.bool a, .slice Aa1 la1.length ca1, .slice Aa2 la2.length ca2] 28)]) := Aside0.mk (HS.out.box hg1 hx1 hb1); clear HS; have HS := nS; clear nS hg1 hx1 hb1) | ((with_reducible refine gate_dst (N := 3) rfl ?_); refine box_event ?hg (N := 3) ?hd (cs := #[.bool b, .slice Ab1 lb1.length cb1, .slice Ab2 lb2.length cb2]) (t := 28) ?hr ?_; (case hd => rfl); (case hg => rfl); (case hr => first | (go_simp; done) | (go_simp; rfl)); intro gB hg2 w2 hx2 hb2; have nS : Aside0 (Sx w w2 [(.blk gB #[.bool b, .slice Ab1 lb1.length cb1, .slice Ab2 lb2.length cb2] 28), (.blk gK #[.bool a, .slice Aa1 la1.length ca1, .slice Aa2 la2.length ca2] 28)]) := Aside0.mk (HS.out.box hg2 hx2 hb2); clear HS; have HS := nS; clear nS hg2 hx2 hb2) | ((with_reducible refine gate_dst (N := 4) rfl ?_); refine box_event ?hg (N := 4) ?hd (cs := #[.bool false, .slice none 0 0, .slice none 0 0]) (t := 28) ?hr ?_; (case hd => rfl); (case hg => rfl); (case hr => first | (go_simp; done) | (go_simp; rfl)); intro gR hg3 w3 hx3 hb3; have nS : Aside0 (Sx w w3 [(.blk gR #[.bool false, .slice none 0 0, .slice none 0 0] 28), (.blk gB #[.bool b, .slice Ab1 lb1.length cb1, .slice Ab2 lb2.length cb2] 28), (.blk gK #[.bool a, .slice Aa1 la1.length ca1, .slice Aa2 la2.length ca2] 28)]) := Aside0.mk (HS.out.box hg3 hx3 hb3); clear HS; have HS := nS; clear nS hg3 hx3 hb3) | ((with_reducible refine gate_dst (N := 9) rfl ?_); refine wpList_load_row rfl 28 (.tmp 2) rfl gK rfl 28 #[.bool a, .slice Aa1 la1.length ca1, .slice Aa2 la2.length ca2] (0, 0) _ (HS.out.blk 2 rfl) Try.underlying28 rfl (by kernel_rfl) ?_) | (go_at_call_of 90 (Value.agg #[.bool a, .slice Aa1 la1.length ca1, .slice Aa2 la2.length ca2]); refine (impl_Array_rank.calls a Aa1 ca1 la1 Aa2 ca2 la2 (la1.length : Int) _ (Kd.C_below Ha1.out HS.out.below) Ka1.out (Kd.C_below Ha2.out HS.out.below) Ka2.out rfl).mono ?_; rintro e w4 ⟨rfl, hb4⟩; have nS : Aside0 (Sx w w4 [(.blk gR #[.bool false, .slice none 0 0, .slice none 0 0] 28), (.blk gB #[.bool b, .slice Ab1 lb1.length cb1, .slice Ab2 lb2.length cb2] 28), (.blk gK #[.bool a, .slice Aa1 la1.length ca1, .slice Aa2 la2.length ca2] 28)]) := Aside0.mk (HS.out.step hb4); clear HS; have HS := nS; clear nS hb4) | ((with_reducible refine gate_dst (N := 24) rfl ?_); refine wpList_load_row rfl 28 (.tmp 2) rfl gK rfl 28 #[.bool a, .slice Aa1 la1.length ca1, .slice Aa2 la2.length ca2] (0, 0) _ (HS.out.blk 2 rfl) Try.underlying28 rfl (by kernel_rfl) ?_) | (go_at_call_of 90 (Value.agg #[.bool a, .slice Aa1 la1.length ca1, .slice Aa2 la2.length ca2]); refine (impl_Array_rank.calls a Aa1 ca1 la1 Aa2 ca2 la2 (la1.length : Int) _ (Kd.C_below Ha1.out HS.out.below) Ka1.out (Kd.C_below Ha2.out HS.out.below) Ka2.out rfl).mono ?_; rintro e w5 ⟨rfl, hb5⟩; have nS : Aside0 (Sx w w5 [(.blk gR #[.bool false, .slice none 0 0, .slice none 0 0] 28), (.blk gB #[.bool b, .slice Ab1 lb1.length cb1, .slice Ab2 lb2.length cb2] 28), (.blk gK #[.bool a, .slice Aa1 la1.length ca1, .slice Aa2 la2.length ca2] 28)]) := Aside0.mk (HS.out.step hb5); clear HS; have HS := nS; clear nS hb5))
  go_region_held3 (fun w' => w'.cell? ⟨gK, 0, none⟩ = some (.bool a) ∧ w'.cell? ⟨gK, 1, none⟩ = some (.slice Aa1 la1.length ca1) ∧ w'.cell? ⟨gK, 2, none⟩ = some (.slice Aa2 la2.length ca2) ∧ w'.cell? ⟨gB, 0, none⟩ = some (.bool b) ∧ w'.cell? ⟨gB, 1, none⟩ = some (.slice Ab1 lb1.length cb1) ∧ w'.cell? ⟨gB, 2, none⟩ = some (.slice Ab2 lb2.length cb2)) ((exact ⟨(blk_cell (Sx.blkM (by repeat (first | (with_reducible exact HS.out) | (with_reducible apply Sx.drew) | (with_reducible apply Sx.drewN) | (with_reducible apply Sx.alloc))) (g := gK) (cs := #[.bool a, .slice Aa1 la1.length ca1, .slice Aa2 la2.length ca2]) (t := 28) (by simp)) 0).trans rfl, (blk_cell (Sx.blkM (by repeat (first | (with_reducible exact HS.out) | (with_reducible apply Sx.drew) | (with_reducible apply Sx.drewN) | (with_reducible apply Sx.alloc))) (g := gK) (cs := #[.bool a, .slice Aa1 la1.length ca1, .slice Aa2 la2.length ca2]) (t := 28) (by simp)) 1).trans rfl, (blk_cell (Sx.blkM (by repeat (first | (with_reducible exact HS.out) | (with_reducible apply Sx.drew) | (with_reducible apply Sx.drewN) | (with_reducible apply Sx.alloc))) (g := gK) (cs := #[.bool a, .slice Aa1 la1.length ca1, .slice Aa2 la2.length ca2]) (t := 28) (by simp)) 2).trans rfl, (blk_cell (Sx.blkM (by repeat (first | (with_reducible exact HS.out) | (with_reducible apply Sx.drew) | (with_reducible apply Sx.drewN) | (with_reducible apply Sx.alloc))) (g := gB) (cs := #[.bool b, .slice Ab1 lb1.length cb1, .slice Ab2 lb2.length cb2]) (t := 28) (by simp)) 0).trans rfl, (blk_cell (Sx.blkM (by repeat (first | (with_reducible exact HS.out) | (with_reducible apply Sx.drew) | (with_reducible apply Sx.drewN) | (with_reducible apply Sx.alloc))) (g := gB) (cs := #[.bool b, .slice Ab1 lb1.length cb1, .slice Ab2 lb2.length cb2]) (t := 28) (by simp)) 1).trans rfl, (blk_cell (Sx.blkM (by repeat (first | (with_reducible exact HS.out) | (with_reducible apply Sx.drew) | (with_reducible apply Sx.drewN) | (with_reducible apply Sx.alloc))) (g := gB) (cs := #[.bool b, .slice Ab1 lb1.length cb1, .slice Ab2 lb2.length cb2]) (t := 28) (by simp)) 2).trans rfl⟩)) (first | (go_at_call_of 90 (Value.agg #[.bool a, .slice Aa1 la1.length ca1, .slice Aa2 la2.length ca2]); refine (impl_Array_rank.calls a Aa1 ca1 la1 Aa2 ca2 la2 (la1.length : Int) _ (Kd.C_below Ha1.out (show Sx w _ [(.blk gR #[.bool false, .slice none 0 0, .slice none 0 0] 28), (.blk gB #[.bool b, .slice Ab1 lb1.length cb1, .slice Ab2 lb2.length cb2] 28), (.blk gK #[.bool a, .slice Aa1 la1.length ca1, .slice Aa2 la2.length ca2] 28)] from (by repeat (first | (with_reducible exact HS.out) | (with_reducible apply Sx.drew) | (with_reducible apply Sx.drewN) | (with_reducible apply Sx.alloc)))).below) Ka1.out (Kd.C_below Ha2.out (show Sx w _ [(.blk gR #[.bool false, .slice none 0 0, .slice none 0 0] 28), (.blk gB #[.bool b, .slice Ab1 lb1.length cb1, .slice Ab2 lb2.length cb2] 28), (.blk gK #[.bool a, .slice Aa1 la1.length ca1, .slice Aa2 la2.length ca2] 28)] from (by repeat (first | (with_reducible exact HS.out) | (with_reducible apply Sx.drew) | (with_reducible apply Sx.drewN) | (with_reducible apply Sx.alloc)))).below) Ka2.out rfl).mono ?_; rintro e w6 ⟨rfl, hb6⟩; have nS : Aside0 (Sx w w6 [(.blk gR #[.bool false, .slice none 0 0, .slice none 0 0] 28), (.blk gB #[.bool b, .slice Ab1 lb1.length cb1, .slice Ab2 lb2.length cb2] 28), (.blk gK #[.bool a, .slice Aa1 la1.length ca1, .slice Aa2 la2.length ca2] 28)]) := Aside0.mk ((show Sx w _ [(.blk gR #[.bool false, .slice none 0 0, .slice none 0 0] 28), (.blk gB #[.bool b, .slice Ab1 lb1.length cb1, .slice Ab2 lb2.length cb2] 28), (.blk gK #[.bool a, .slice Aa1 la1.length ca1, .slice Aa2 la2.length ca2] 28)] from (by repeat (first | (with_reducible exact HS.out) | (with_reducible apply Sx.drew) | (with_reducible apply Sx.drewN) | (with_reducible apply Sx.alloc)))).step hb6); clear HS; have HS := nS; clear nS hb6) | (go_at_call_of 90 (Value.agg #[.bool b, .slice Ab1 lb1.length cb1, .slice Ab2 lb2.length cb2]); refine (impl_Array_rank.calls b Ab1 cb1 lb1 Ab2 cb2 lb2 (lb1.length : Int) _ (Kd.C_below Hb1.out (show Sx w _ [(.blk gR #[.bool false, .slice none 0 0, .slice none 0 0] 28), (.blk gB #[.bool b, .slice Ab1 lb1.length cb1, .slice Ab2 lb2.length cb2] 28), (.blk gK #[.bool a, .slice Aa1 la1.length ca1, .slice Aa2 la2.length ca2] 28)] from (by repeat (first | (with_reducible exact HS.out) | (with_reducible apply Sx.drew) | (with_reducible apply Sx.drewN) | (with_reducible apply Sx.alloc)))).below) Kb1.out (Kd.C_below Hb2.out (show Sx w _ [(.blk gR #[.bool false, .slice none 0 0, .slice none 0 0] 28), (.blk gB #[.bool b, .slice Ab1 lb1.length cb1, .slice Ab2 lb2.length cb2] 28), (.blk gK #[.bool a, .slice Aa1 la1.length ca1, .slice Aa2 la2.length ca2] 28)] from (by repeat (first | (with_reducible exact HS.out) | (with_reducible apply Sx.drew) | (with_reducible apply Sx.drewN) | (with_reducible apply Sx.alloc)))).below) Kb2.out rfl).mono ?_; rintro e w7 ⟨rfl, hb7⟩; have nS : Aside0 (Sx w w7 [(.blk gR #[.bool false, .slice none 0 0, .slice none 0 0] 28), (.blk gB #[.bool b, .slice Ab1 lb1.length cb1, .slice Ab2 lb2.length cb2] 28), (.blk gK #[.bool a, .slice Aa1 la1.length ca1, .slice Aa2 la2.length ca2] 28)]) := Aside0.mk ((show Sx w _ [(.blk gR #[.bool false, .slice none 0 0, .slice none 0 0] 28), (.blk gB #[.bool b, .slice Ab1 lb1.length cb1, .slice Ab2 lb2.length cb2] 28), (.blk gK #[.bool a, .slice Aa1 la1.length ca1, .slice Aa2 la2.length ca2] 28)] from (by repeat (first | (with_reducible exact HS.out) | (with_reducible apply Sx.drew) | (with_reducible apply Sx.drewN) | (with_reducible apply Sx.alloc)))).step hb7); clear HS; have HS := nS; clear nS hb7))
  all_goals go_wp2_with (first | ((with_reducible refine gate_dst (N := 65) rfl ?_); refine wpList_load_row rfl 28 (.tmp 2) rfl gK rfl 28 #[.bool a, .slice Aa1 la1.length ca1, .slice Aa2 la2.length ca2] (0, 0) _ (HS.out.blk 2 rfl) Try.underlying28 rfl (by kernel_rfl) ?_) | ((with_reducible refine gate_store rfl ?_); refine store_named rfl 28 (.tmp 4) (.tmp 65) rfl gR #[.bool a, .slice Aa1 la1.length ca1, .slice Aa2 la2.length ca2] rfl rfl 28 #[.bool false, .slice none 0 0, .slice none 0 0] (HS.out.blk 0 rfl) (by kernel_rfl) rfl (by simp [Value.oneCell']) ?_; intro w8 hx8 hb8; have nS : Aside0 (Sx w w8 [(.blk gR #[.bool a, .slice Aa1 la1.length ca1, .slice Aa2 la2.length ca2] 28), (.blk gB #[.bool b, .slice Ab1 lb1.length cb1, .slice Ab2 lb2.length cb2] 28), (.blk gK #[.bool a, .slice Aa1 la1.length ca1, .slice Aa2 la2.length ca2] 28)]) := Aside0.mk (HS.out.put 0 rfl hx8 hb8); clear HS; have HS := nS; clear nS hx8 hb8))
  all_goals
    refine bodyPost_ret (results_cell_row rfl _ _ gR 28 #[.bool a, .slice Aa1 la1.length ca1, .slice Aa2 la2.length ca2] (0, 0) _ rfl (HS.out.blk 0 rfl) Try.underlying28 rfl (by kernel_rfl)) rfl ?_
    exact ⟨_, _, _, _, rfl, (Kd.C_below Ha1.out HS.out.below), Ka1.out, (Kd.C_below Ha2.out HS.out.below), Ka2.out, HS.out.below⟩
end Go.Proofs.Ytehfcnndjhjkoaa.PA

namespace Go.Proofs.Ytehfcnndjhjkoaa.PA
open Go.RowKit Go.Proofs.YtehfcnndjhjkoaaW.PrintWords Go.Proofs.YtehfcnndjhjkoaaW.PrintLast Go.Proofs.YtehfcnndjhjkoaaW.PrintMore
set_option linter.unusedVariables false
set_option linter.unusedSimpArgs false
theorem srcGo_rd (f : Nat → Int → Int) : ∀ (c : List Int) (k j : Nat), j < c.length → rd (srcGo f k c) (j : Int) = f (k + j) (rd c (j : Int))
  | a :: c, k, 0, _ => by simp [srcGo, rd]
  | a :: c, k, j + 1, h => by
    have := srcGo_rd f c (k + 1) j (by simpa using h)
    simp only [rd, Int.toNat_natCast, srcGo, List.getD_cons_succ] at this ⊢
    rw [this, Nat.add_assoc, Nat.add_comm 1]
end Go.Proofs.Ytehfcnndjhjkoaa.PA

-- By a program (prt.py, over the print of the kit), for this claim. Not trusted: Lean checks it.
namespace Go.Proofs.Ytehfcnndjhjkoaa.PA
open Go.RowKit Go.Proofs.YtehfcnndjhjkoaaW.PrintWords Go.Proofs.YtehfcnndjhjkoaaW.PrintLast Go.Proofs.YtehfcnndjhjkoaaW.PrintMore
attribute [local go_sem] max2_int min2_int max_two min_two max_three min_three max_four min_four   -- for this text's walks alone
set_option linter.unusedVariables false
set_option linter.unusedSimpArgs false

/-! ### spec_l5List: function 71 -/
def spec_l5List.f (a0_0 : Bool) (l0_1 : List Int) (l0_2 : List Int) : Option (Int) := if (l0_1.length : Int) > 1 then (some 4) else (if a0_0 = true then (some 3) else (some 0))

end Go.Proofs.Ytehfcnndjhjkoaa.PA

namespace Go.Proofs.Ytehfcnndjhjkoaa.PA
open Go.RowKit Go.Proofs.YtehfcnndjhjkoaaW.PrintWords Go.Proofs.YtehfcnndjhjkoaaW.PrintLast Go.Proofs.YtehfcnndjhjkoaaW.PrintMore
set_option linter.unusedVariables false
set_option linter.unusedSimpArgs false
abbrev ArrAns := Bool × List Int × List Int × Int
def noArr (code : Int) : ArrAns := (false, [], [], code)
/-- The code of an array that should be a list of numbers. -/
def listC (b : Bool) (l1 : List Int) : Int := if (l1.length : Int) > 1 then 4 else if b = true then 3 else 0
theorem listOk_eq (b : Bool) (l1 l2 : List Int) : impl_listOk.f b l1 l2 = some (listC b l1) := by
  unfold impl_listOk.f impl_Array_rank.f listC
  simp only [Option.bind_some]
  split <;> first | rfl | (split <;> rfl)
theorem shapeOk_yes {l : List Int} (h : shOk l = true) : Ev (fun k => impl_shapeOk.f k l) (prod l, true) := by
  have := shapeOk_ev l; unfold shSize at this; rw [if_pos h] at this; exact this
/-- Lists short enough for the checks. -/
def okLens (l1 l2 m1 m2 : List Int) : Bool := decide (l1.length ≤ 35184372088832) && decide (l2.length ≤ 35184372088832) && decide (m1.length ≤ 35184372088832) && decide (m2.length ≤ 35184372088832)
end Go.Proofs.Ytehfcnndjhjkoaa.PA

-- By a program (prt.py, over the print of the kit), for this claim. Not trusted: Lean checks it.
namespace Go.Proofs.Ytehfcnndjhjkoaa.PA
open Go.RowKit Go.Proofs.YtehfcnndjhjkoaaW.PrintWords Go.Proofs.YtehfcnndjhjkoaaW.PrintLast Go.Proofs.YtehfcnndjhjkoaaW.PrintMore
attribute [local go_sem] max2_int min2_int max_two min_two max_three min_three max_four min_four   -- for this text's walks alone
set_option linter.unusedVariables false
set_option linter.unusedSimpArgs false

/-! ### spec_l4Axis: function 82 -/
mutual
def spec_l4Axis.j0 : Nat → List Int → Int → Option (Int × Int × Int)
  | 0, _, _ => none
  | k + 1, x0, x7 => spec_l4Axis.l0 k x0 x7 1 1 0
def spec_l4Axis.l0 : Nat → List Int → Int → Int → Int → Int → Option (Int × Int × Int)
  | 0, _, _, _, _, _ => none
  | k + 1, x0, x7, x8, x9, x10 => if x10 < (x0.length : Int) then (if x10 < x7 then (if 0 ≤ x10 then (if x10 > x7 then (spec_l4Axis.l0 k x0 x7 (wrap64 (x8 * (rd x0 x10))) (wrap64 (x9 * (rd x0 x10))) (wrap64 (x10 + 1))) else (spec_l4Axis.l0 k x0 x7 (wrap64 (x8 * (rd x0 x10))) x9 (wrap64 (x10 + 1)))) else (none)) else (if x10 > x7 then (if 0 ≤ x10 then (spec_l4Axis.l0 k x0 x7 x8 (wrap64 (x9 * (rd x0 x10))) (wrap64 (x10 + 1))) else (none)) else (spec_l4Axis.l0 k x0 x7 x8 x9 (wrap64 (x10 + 1))))) else (if 0 ≤ x7 then (if x7 < (x0.length : Int) then (some (x8, rd x0 x7, x9)) else (none)) else (none))
end
def spec_l4Axis.f (k : Nat) (l0 : List Int) (a1 : Bool) : Option (Int × Int × Int) := if a1 = true then (spec_l4Axis.j0 k l0 0) else (spec_l4Axis.j0 k l0 (wrap64 ((l0.length : Int) - 1)))
theorem spec_l4Axis.mono_l : ∀ k, (∀ y0 y1, LeO (spec_l4Axis.j0 k y0 y1) (spec_l4Axis.j0 (k + 1) y0 y1)) ∧ (∀ y0 y1 y2 y3 y4, LeO (spec_l4Axis.l0 k y0 y1 y2 y3 y4) (spec_l4Axis.l0 (k + 1) y0 y1 y2 y3 y4))
  | 0 => ⟨fun _ _ r h => by simp [spec_l4Axis.j0] at h, fun _ _ _ _ _ r h => by simp [spec_l4Axis.l0] at h⟩
  | k + 1 => by
    obtain ⟨ih0, ih1⟩ := spec_l4Axis.mono_l k
    refine ⟨?_, ?_⟩
    · intro y0 y1
      unfold spec_l4Axis.j0
      repeat' first
      | (with_reducible exact ih0 _ _)
      | (with_reducible exact ih1 _ _ _ _ _)
      | (with_reducible exact LeO.refl _)
      | (with_reducible exact LeO.none _)
      | (with_reducible refine LeO.ite ?_ ?_)
      | (with_reducible refine LeO.bind ?_ (fun _ => ?_))
      | exact ih0 _ _
      | exact ih1 _ _ _ _ _
      | exact LeO.none _
      | refine LeO.ite ?_ ?_
      | refine LeO.bind ?_ (fun _ => ?_)
    · intro y0 y1 y2 y3 y4
      unfold spec_l4Axis.l0
      repeat' first
      | (with_reducible exact ih0 _ _)
      | (with_reducible exact ih1 _ _ _ _ _)
      | (with_reducible exact LeO.refl _)
      | (with_reducible exact LeO.none _)
      | (with_reducible refine LeO.ite ?_ ?_)
      | (with_reducible refine LeO.bind ?_ (fun _ => ?_))
      | exact ih0 _ _
      | exact ih1 _ _ _ _ _
      | exact LeO.none _
      | refine LeO.ite ?_ ?_
      | refine LeO.bind ?_ (fun _ => ?_)
theorem spec_l4Axis.mono : ∀ a0 a1 k, LeO (spec_l4Axis.f k a0 a1) (spec_l4Axis.f (k + 1) a0 a1) := by
  intro a0 a1 k
  obtain ⟨ih0, ih1⟩ := spec_l4Axis.mono_l k
  unfold spec_l4Axis.f
  repeat' first
      | (with_reducible exact ih0 _ _)
      | (with_reducible exact ih1 _ _ _ _ _)
      | (with_reducible exact LeO.refl _)
      | (with_reducible exact LeO.none _)
      | (with_reducible refine LeO.ite ?_ ?_)
      | (with_reducible refine LeO.bind ?_ (fun _ => ?_))
      | exact ih0 _ _
      | exact ih1 _ _ _ _ _
      | exact LeO.none _
      | refine LeO.ite ?_ ?_
      | refine LeO.bind ?_ (fun _ => ?_)

end Go.Proofs.Ytehfcnndjhjkoaa.PA

-- By a program (prt.py, over the print of the kit), for this claim. Not trusted: Lean checks it.
namespace Go.Proofs.Ytehfcnndjhjkoaa.PA
open Go.RowKit Go.Proofs.YtehfcnndjhjkoaaW.PrintWords Go.Proofs.YtehfcnndjhjkoaaW.PrintLast Go.Proofs.YtehfcnndjhjkoaaW.PrintMore
attribute [local go_sem] max2_int min2_int max_two min_two max_three min_three max_four min_four   -- for this text's walks alone
set_option linter.unusedVariables false
set_option linter.unusedSimpArgs false

/-! ### spec_l4Mod: function 83 -/
def spec_l4Mod.f (a0 : Int) (a1 : Int) : Option (Int) := if a0 = 0 then (some a1) else (if (Int.tmod a1 a0) = 0 then (some (Int.tmod a1 a0)) else (if ((decide ((Int.tmod a1 a0) < 0)) != (decide (a0 < 0))) = true then (some (wrap64 ((Int.tmod a1 a0) + a0))) else (some (Int.tmod a1 a0))))

end Go.Proofs.Ytehfcnndjhjkoaa.PA

-- By a program (prt.py, over the print of the kit), for this claim. Not trusted: Lean checks it.
namespace Go.Proofs.Ytehfcnndjhjkoaa.PA
open Go.RowKit Go.Proofs.YtehfcnndjhjkoaaW.PrintWords Go.Proofs.YtehfcnndjhjkoaaW.PrintLast Go.Proofs.YtehfcnndjhjkoaaW.PrintMore
attribute [local go_sem] max2_int min2_int max_two min_two max_three min_three max_four min_four   -- for this text's walks alone
set_option linter.unusedVariables false
set_option linter.unusedSimpArgs false

/-! ### spec_l3Copy: function 81 -/
def spec_l3Copy.f (a0_0 : Bool) (l0_1 : List Int) (l0_2 : List Int) : Option (Bool × List Int × List Int) := (spec_l3Ints.f l0_1).bind fun t103 => ((spec_l3Ints.f l0_2).bind fun t106 => (some (a0_0, t103, t106)))
def spec_l3Copy.B1 : List Nat := [0, 1, 0, 4, 12, 0, 32, 124, 255, 511]

end Go.Proofs.Ytehfcnndjhjkoaa.PA

-- By a program (prt.py, over the print of the kit), for this claim. Not trusted: Lean checks it.
namespace Go.Proofs.Ytehfcnndjhjkoaa.PA
open Go.RowKit Go.Proofs.YtehfcnndjhjkoaaW.PrintWords Go.Proofs.YtehfcnndjhjkoaaW.PrintLast Go.Proofs.YtehfcnndjhjkoaaW.PrintMore
attribute [local go_sem] max2_int min2_int max_two min_two max_three min_three max_four min_four   -- for this text's walks alone
set_option linter.unusedVariables false
set_option linter.unusedSimpArgs false

/-! ### spec_l5Single: function 80 -/
def spec_l5Single.f (a0_0 : Bool) (l0_1 : List Int) (l0_2 : List Int) : Option (Int) := if (l0_2.length : Int) = 1 then (if a0_0 = true then (some 3) else (some 0)) else (some 5)

end Go.Proofs.Ytehfcnndjhjkoaa.PA

-- By a program (prt.py, over the print of the kit), for this claim. Not trusted: Lean checks it.
namespace Go.Proofs.Ytehfcnndjhjkoaa.PA
open Go.RowKit Go.Proofs.YtehfcnndjhjkoaaW.PrintWords Go.Proofs.YtehfcnndjhjkoaaW.PrintLast Go.Proofs.YtehfcnndjhjkoaaW.PrintMore
attribute [local go_sem] max2_int min2_int max_two min_two max_three min_three max_four min_four   -- for this text's walks alone
set_option linter.unusedVariables false
set_option linter.unusedSimpArgs false

/-! ### spec_l5Abs: function 96 -/
def spec_l5Abs.f (a0 : Int) : Option (Int) := if a0 < 0 then (some (wrap64 (-a0))) else (some a0)

end Go.Proofs.Ytehfcnndjhjkoaa.PA

namespace Go.Proofs.Ytehfcnndjhjkoaa.PA
open Go.RowKit Go.Proofs.YtehfcnndjhjkoaaW.PrintWords Go.Proofs.YtehfcnndjhjkoaaW.PrintLast Go.Proofs.YtehfcnndjhjkoaaW.PrintMore
set_option linter.unusedVariables false
set_option linter.unusedSimpArgs false
theorem C_at {W : World} {ad : Addr} {n : Nat} {l : List Int} (h : Kd.C (Kd.int .i64) W (some ad) n l) (j : Nat) (hj : j < n) : W.cell? (ad.add j) = some (.int .i64 (rd l (j : Int))) := by
  obtain ⟨ad', e, hx⟩ := Kd.at_int h (j : Int) (by omega) (by omega)
  cases e
  rwa [Int.toNat_natCast] at hx
end Go.Proofs.Ytehfcnndjhjkoaa.PA

-- By a program (prt.py, over the print of the kit), for this claim. Not trusted: Lean checks it.
namespace Go.Proofs.Ytehfcnndjhjkoaa.PA
open Go.RowKit Go.Proofs.YtehfcnndjhjkoaaW.PrintWords Go.Proofs.YtehfcnndjhjkoaaW.PrintLast Go.Proofs.YtehfcnndjhjkoaaW.PrintMore
attribute [local go_sem] max2_int min2_int max_two min_two max_three min_three max_four min_four   -- for this text's walks alone
set_option linter.unusedVariables false
set_option linter.unusedSimpArgs false

/-! ### impl_Array_without: function 92 -/
def impl_Array_without.f (a0_0 : Bool) (l0_1 : List Int) (l0_2 : List Int) (a1 : Bool) : Option (List Int) := if a1 = true then (if 1 ≤ (l0_1.length : Int) then ((slices_Clone_int_int.f (l0_1.drop 1)).bind fun t103 => (some t103)) else (none)) else ((impl_Array_rank.f a0_0 l0_1 l0_2).bind fun t106 => (if 0 ≤ (wrap64 (t106 - 1)) then (if (wrap64 (t106 - 1)) ≤ (l0_1.length : Int) then ((slices_Clone_int_int.f (l0_1.take ((wrap64 (t106 - 1)) : Int).toNat)).bind fun t108 => (some t108)) else (none)) else (none)))
def impl_Array_without.T3 : Bool × List (List Nat × List Nat) := (true, [([], []), ([0], [0]), ([], []), ([2], [2]), ([3], [3]), ([1, 4], [1, 4]), ([5, 3], [5]), ([6, 6, 0, 1, 2, 3, 4, 5, 6], [6])])
def impl_Array_without.B3 : List Nat := [0, 1, 0, 4, 12, 31, 63, 127]
theorem impl_Array_without.tab3 : rtab .any (opsOf Try.f92 3) = impl_Array_without.T3 := by kernel_rfl
theorem impl_Array_without.bits3 : waitsOk impl_Array_without.T3.2 impl_Array_without.B3 = true := by kernel_rfl
set_option maxHeartbeats 8000000 in
set_option maxRecDepth 100000 in
theorem impl_Array_without.calls (a0_0 : Bool) (A0_1 : Option Addr) (c0_1 : Nat) (l0_1 : List Int) (A0_2 : Option Addr) (c0_2 : Nat) (l0_2 : List Int) (a1 : Bool) (r : List Int) (w : World) (hr0_1 : Kd.C (Kd.int .i64) w A0_1 l0_1.length l0_1) (hc0_1 : l0_1.length ≤ c0_1) (hr0_2 : Kd.C (Kd.int .i64) w A0_2 l0_2.length l0_2) (hc0_2 : l0_2.length ≤ c0_2) (h : impl_Array_without.f a0_0 l0_1 l0_2 a1 = some r) :
    Calls Try.prog 92 #[.agg #[.bool a0_0, .slice A0_1 l0_1.length c0_1, .slice A0_2 l0_2.length c0_2], .bool a1] w fun e w' => ∃ v0_ : Value, e = .returned (v0_) ∧ Kd.R (Kd.int .i64) 3 w' w.heap.size (fun _ => True) v0_ r ∧ Below w.heap.size w w' := by
  have hu28 := Try.underlying28
  have HR0_1 := Aside0.mk hr0_1
  have HC0_1 := Aside0.mk hc0_1
  clear hr0_1 hc0_1
  have HR0_2 := Aside0.mk hr0_2
  have HC0_2 := Aside0.mk hc0_2
  clear hr0_2 hc0_2
  have HB := Aside0.mk (Below.refl w.heap.size w)
  have H : (if a1 = true then (if 1 ≤ (l0_1.length : Int) then ((slices_Clone_int_int.f (l0_1.drop 1)).bind fun t103 => (some t103)) else (none)) else ((impl_Array_rank.f a0_0 l0_1 l0_2).bind fun t106 => (if 0 ≤ (wrap64 (t106 - 1)) then (if (wrap64 (t106 - 1)) ≤ (l0_1.length : Int) then ((slices_Clone_int_int.f (l0_1.take ((wrap64 (t106 - 1)) : Int).toNat)).bind fun t108 => (some t108)) else (none)) else (none)))) = some r := h
  clear h
  by_cases c3 : a1 = true
  · subst c3
    have H1 : (if 1 ≤ (l0_1.length : Int) then ((slices_Clone_int_int.f (l0_1.drop 1)).bind fun t103 => (some t103)) else (none)) = some r := by rw [if_pos rfl] at H; exact H
    clear H
    have H := H1
    clear H1
    by_cases c4 : 1 ≤ (l0_1.length : Int)
    · rw [if_pos c4] at H
      have c4b0 := eq_true c4
      have c4b1 : decide (1 ≤ (l0_1.length : Int)) = true := decide_eq_true c4
      clear c4
      replace H := Option.bind_eq_some_iff.mp H
      obtain ⟨t103, A50, H⟩ := H
      replace H : (some t103) = some r := H
      have A5 := Aside0.mk A50
      clear A50
      obtain rfl := Option.some.inj H
      go_enter Try.func92, Try.ntmps92
      go_wp2_with (first | ((with_reducible refine gate_dst (N := 2) rfl ?_); refine box_event ?hg (N := 2) ?hd (cs := #[.bool a0_0, .slice A0_1 l0_1.length c0_1, .slice A0_2 l0_2.length c0_2]) (t := 28) ?hr ?_; (case hd => rfl); (case hg => rfl); (case hr => first | (go_simp; done) | (go_simp; rfl)); intro gb101 hg w6 hbox hb; have n0_ := Aside0.mk (below_step (by repeat (first | (with_reducible first | exact HB.out | apply below_alloc | apply pw_below_drewN | apply below_drew1) | exact HB.out)) hb); have n1_ := Aside0.mk (hbox); have n2_ := Aside0.mk ((by rw [hg]; exact (below_size (by repeat (first | (with_reducible first | exact HB.out | apply below_alloc | apply pw_below_drewN | apply below_drew1) | exact HB.out))) : w.heap.size ≤ gb101)); have n3_ := Aside0.mk ((by rw [hg]; exact (below_size (by repeat (first | (with_reducible first | exact HB.out | apply below_alloc | apply pw_below_drewN | apply below_drew1) | exact HB.out))) : w.heap.size ≤ gb101)); clear HB; have HB := n0_; have BK101 := n1_; have GW101 := n2_; have GE101 := n3_; clear n0_ n1_ n2_ n3_; clear hb hbox hg; have hcz7_0 : w6.cell? ⟨gb101, 0, none⟩ = some (.bool a0_0) := (blk_cell BK101.out 0).trans rfl; have hcz7_1 : w6.cell? ⟨gb101, 1, none⟩ = some (.slice A0_1 l0_1.length c0_1) := (blk_cell BK101.out 1).trans rfl; have hcz7_2 : w6.cell? ⟨gb101, 2, none⟩ = some (.slice A0_2 l0_2.length c0_2) := (blk_cell BK101.out 2).trans rfl; have hfz7_0 := blk_frozen BK101.out 0; have hfz7_1 := blk_frozen BK101.out 1; have hfz7_2 := blk_frozen BK101.out 2; obtain ⟨i08, hi08, _, hsz8, _⟩ := info_parts info3; obtain ⟨A8, hcut8, hA8, hC8⟩ := print_drop_of (P := Try.prog) (Value.int .i64) 0 22 3 .i64 Try.underlying22 hi08 hsz8 A0_1 c0_1 l0_1 1 (by omega) (of_decide_eq_true (by first | (with_reducible assumption) | assumption)) HC0_1.out; have HR102 := Aside0.mk (Kd.C_of_reads (h1 := fun _ => rfl) (hA8 _ (Kd.reads_of_C HR0_1.out))); have HC102 := Aside0.mk hC8; clear hA8 hC8 hi08 hsz8) | ((with_reducible refine gate_callee (f := 104) rfl ?_); refine goesL_ (some 9) rfl rfl Try.func104 (by kernel_rfl) rfl #[.slice A8 (l0_1.drop 1).length (c0_1 - 1)] rfl (by (try simp only [List.map_toArray, List.map_cons, List.map_nil]); first | done | (rw [show (l0_1.drop 1).length = (l0_1.length - 1) from List.length_drop] <;> rfl) | rfl | (simp only [List.length_drop, List.length_take]; rfl)) ?_; (with_reducible refine (slices_Clone_int_int.calls _ _ (l0_1.drop 1) t103 _ ?side1 ?side2 A5.out).mono ?_); (case side1 => repeat (first | exact (Kd.C_below HR102.out HB.out) | (with_reducible refine Kd.C_alloc ?_ _) | (with_reducible refine Kd.C_drewN ?_ _) | (with_reducible refine Kd.C_drew ?_))); (case side2 => exact HC102.out); rintro e w9 ⟨v104, rfl, ho0, hb⟩; refine ⟨_, rfl, ?_⟩; have n0_ := Aside0.mk (Kd.R_lower ho0 (below_size (by repeat (first | (with_reducible first | exact HB.out | apply below_alloc | apply pw_below_drewN | apply below_drew1 | refine below_set ?_ GE101.out) | exact HB.out)))); have n1_ := Aside0.mk (blk_below (g := gb101) (o := .cells #[.bool a0_0, .slice A0_1 l0_1.length c0_1, .slice A0_2 l0_2.length c0_2] 28 (0, 0)) (by (with_reducible repeat (first | refine blk_drewN ?_ _ | refine blk_drew ?_ | refine blk_alloc ?_ _)); exact BK101.out) hb); have n2_ := Aside0.mk (below_step (by repeat (first | (with_reducible first | exact HB.out | apply below_alloc | apply pw_below_drewN | apply below_drew1 | refine below_set ?_ GE101.out) | exact HB.out)) hb); clear BK101; clear HB; have HO105 := n0_; have BK101 := n1_; have HB := n2_; clear n0_ n1_ n2_; (try clear hb); (try clear hb2); (try clear hk); (try clear hi); (try clear ho0)))
      go_ret
      exact ⟨_, by first | rfl | (simp [errW_none, errW_some] <;> rfl) | (simp [*, errW_none, errW_some] <;> rfl), by (with_reducible repeat (first | apply Kd.R_alloc | apply Kd.R_drewN | apply Kd.R_drew)); exact HO105.out, by repeat (first | (with_reducible first | exact HB.out | apply below_alloc | apply pw_below_drewN | apply below_drew1 | refine below_set ?_ GE101.out) | exact HB.out)⟩
    · rw [if_neg c4] at H
      exact absurd H (by simp)
  · replace c3 := Bool.eq_false_iff.mpr c3
    subst c3
    have H1 : ((impl_Array_rank.f a0_0 l0_1 l0_2).bind fun t106 => (if 0 ≤ (wrap64 (t106 - 1)) then (if (wrap64 (t106 - 1)) ≤ (l0_1.length : Int) then ((slices_Clone_int_int.f (l0_1.take ((wrap64 (t106 - 1)) : Int).toNat)).bind fun t108 => (some t108)) else (none)) else (none))) = some r := by rw [if_neg (show ¬ (false = true) by decide)] at H; exact H
    clear H
    have H := H1
    clear H1
    replace H := Option.bind_eq_some_iff.mp H
    obtain ⟨t106, A100, H⟩ := H
    replace H : (if 0 ≤ (wrap64 (t106 - 1)) then (if (wrap64 (t106 - 1)) ≤ (l0_1.length : Int) then ((slices_Clone_int_int.f (l0_1.take ((wrap64 (t106 - 1)) : Int).toNat)).bind fun t108 => (some t108)) else (none)) else (none)) = some r := H
    have A10 := Aside0.mk A100
    clear A100
    obtain ⟨ji11, hji11⟩ : ∃ j_ : Int, (wrap64 (t106 - 1)) = j_ := ⟨_, rfl⟩
    replace H : (if 0 ≤ (ji11) then (if (ji11) ≤ (l0_1.length : Int) then ((slices_Clone_int_int.f (l0_1.take ((ji11) : Int).toNat)).bind fun t108 => (some t108)) else (none)) else (none)) = some r := by first | (rw [hji11] at H; exact H) | (simp only [hji11] at H ⊢; exact H)
    (try rw [hji11] at A10)
    have hji11w : (IntKind.i64.wrap (t106 - 1)) = ji11 := (i64_w _).trans hji11
    by_cases c12 : 0 ≤ (ji11)
    · rw [if_pos c12] at H
      have c12b0 := eq_true c12
      have c12b1 : decide (0 ≤ (ji11)) = true := decide_eq_true c12
      clear c12
      by_cases c13 : (ji11) ≤ (l0_1.length : Int)
      · rw [if_pos c13] at H
        have c13b0 := eq_true c13
        have c13b1 : decide ((ji11) ≤ (l0_1.length : Int)) = true := decide_eq_true c13
        clear c13
        replace H := Option.bind_eq_some_iff.mp H
        obtain ⟨t108, A140, H⟩ := H
        replace H : (some t108) = some r := H
        have A14 := Aside0.mk A140
        clear A140
        obtain rfl := Option.some.inj H
        go_enter Try.func92, Try.ntmps92
        try go_wp2_with (first | ((with_reducible refine gate_dst (N := 2) rfl ?_); refine box_event ?hg (N := 2) ?hd (cs := #[.bool a0_0, .slice A0_1 l0_1.length c0_1, .slice A0_2 l0_2.length c0_2]) (t := 28) ?hr ?_; (case hd => rfl); (case hg => rfl); (case hr => first | (go_simp; done) | (go_simp; rfl)); intro gb101 hg w15 hbox hb; have n0_ := Aside0.mk (below_step (by repeat (first | (with_reducible first | exact HB.out | apply below_alloc | apply pw_below_drewN | apply below_drew1) | exact HB.out)) hb); have n1_ := Aside0.mk (hbox); have n2_ := Aside0.mk ((by rw [hg]; exact (below_size (by repeat (first | (with_reducible first | exact HB.out | apply below_alloc | apply pw_below_drewN | apply below_drew1) | exact HB.out))) : w.heap.size ≤ gb101)); have n3_ := Aside0.mk ((by rw [hg]; exact (below_size (by repeat (first | (with_reducible first | exact HB.out | apply below_alloc | apply pw_below_drewN | apply below_drew1) | exact HB.out))) : w.heap.size ≤ gb101)); clear HB; have HB := n0_; have BK101 := n1_; have GW101 := n2_; have GE101 := n3_; clear n0_ n1_ n2_ n3_; clear hb hbox hg))
        have n0_ := Aside0.mk (blk_drew BK101.out)
        have n1_ := Aside0.mk (below_drew1 HB.out)
        clear BK101
        clear HB
        have BK101 := n0_
        have HB := n1_
        clear n0_ n1_
        refine start_ (n := 8) (S := fun w' => w'.cell? ⟨gb101, 0, none⟩ = some (.bool a0_0) ∧ w'.cell? ⟨gb101, 1, none⟩ = some (.slice A0_1 l0_1.length c0_1) ∧ w'.cell? ⟨gb101, 2, none⟩ = some (.slice A0_2 l0_2.length c0_2)) (ds := []) #[false, false, false, false, false, false, false, false] (by kernel_rfl) rfl rfl ⟨(blk_cell BK101.out 0).trans rfl, (blk_cell BK101.out 1).trans rfl, (blk_cell BK101.out 2).trans rfl⟩ (fun hHeld => ?_); refine with_tabW impl_Array_without.tab3 impl_Array_without.bits3 (fun HT_ HW_ => ?_)
        generalize w15.drew = w16 at BK101 HB hHeld ⊢
        refine pure_ (i := 0) (N := some 10) (v := ?_) (a' := ?_) #[true, false, false, false, false, false, false, false] rfl rfl (any_of HT_.out (by kernel_rfl)) (fun _ _ _ h => h) (Or.inl ⟨by rfl, ?_⟩) ?_ ?_
        rotate_left
        · intro w'
          go_simp
          with_reducible rfl
        rotate_left
        · simp only [Act.put, List.setIfInBounds_toArray, List.set_cons_zero, List.set_cons_succ, i64_w, i32_w]
          rfl
        refine take_ (i := 1) (N := some 11) (v := ?_) (a' := ?_) #[true, true, false, false, false, false, false, false] rfl rfl (take_ofW HT_.out HW_.out (by kernel_rfl)) (fun _ _ _ h => h) (Or.inl ⟨by rfl, ?_⟩) hHeld ?_ ?_
        rotate_left
        · rintro w' ⟨s0, s1, s2⟩
          go_simp
          with_reducible rfl
        rotate_left
        · simp only [Act.put, List.setIfInBounds_toArray, List.set_cons_zero, List.set_cons_succ, i64_w, i32_w]
          rfl
        refine take_ (i := 2) (N := some 12) (v := ?_) (a' := ?_) #[true, true, true, false, false, false, false, false] rfl rfl (take_ofW HT_.out HW_.out (by kernel_rfl)) (fun _ _ _ h => h) (Or.inl ⟨by rfl, ?_⟩) hHeld ?_ ?_
        rotate_left
        · rintro w' ⟨s0, s1, s2⟩
          go_simp
          with_reducible rfl
        rotate_left
        · simp only [Act.put, List.setIfInBounds_toArray, List.set_cons_zero, List.set_cons_succ, i64_w, i32_w]
          rfl
        refine one_ (i := 3) (N := some 13) #[true, true, true, true, false, false, false, false] rfl rfl (one_of HT_.out (by kernel_rfl)) (by decide) (fun K hK => ?_)
        refine goes_ Try.func90 (by kernel_rfl) rfl #[.agg #[.bool a0_0, .slice A0_1 l0_1.length c0_1, .slice A0_2 l0_2.length c0_2]] (by rfl) rfl rfl (by (try simp only [List.map_toArray, List.map_cons, List.map_nil]); first | done | rfl | (simp only [List.length_drop, List.length_take]; rfl)) ?_
        with_reducible refine (impl_Array_rank.calls a0_0 _ _ l0_1 _ _ l0_2 t106 _ ?side1 ?side2 ?side3 ?side4 A10.out).mono ?_
        (case side1 => repeat (first | exact (Kd.C_below HR0_1.out HB.out) | (with_reducible refine Kd.C_alloc ?_ _) | (with_reducible refine Kd.C_drewN ?_ _) | (with_reducible refine Kd.C_drew ?_)))
        (case side2 => exact HC0_1.out)
        (case side3 => repeat (first | exact (Kd.C_below HR0_2.out HB.out) | (with_reducible refine Kd.C_alloc ?_ _) | (with_reducible refine Kd.C_drewN ?_ _) | (with_reducible refine Kd.C_drew ?_)))
        (case side4 => exact HC0_2.out)
        rintro e w17 ⟨rfl, hb⟩
        refine ⟨_, rfl, ?_⟩
        have n0_ := Aside0.mk (blk_below (g := gb101) (o := .cells #[.bool a0_0, .slice A0_1 l0_1.length c0_1, .slice A0_2 l0_2.length c0_2] 28 (0, 0)) (by (with_reducible repeat (first | refine blk_drewN ?_ _ | refine blk_drew ?_ | refine blk_alloc ?_ _)); exact BK101.out) hb)
        have n1_ := Aside0.mk (below_step (by repeat (first | (with_reducible first | exact HB.out | apply below_alloc | apply pw_below_drewN | apply below_drew1 | refine below_set ?_ GE101.out) | exact HB.out)) hb)
        clear BK101
        clear HB
        have BK101 := n0_
        have HB := n1_
        clear n0_ n1_
        (try clear hb)
        (try clear hb2)
        (try clear hk)
        (try clear hi)
        obtain ⟨i018, hi018, _, hsz18, _⟩ := info_parts info3
        obtain ⟨hcut18, hA18, hC18⟩ := print_take_of (P := Try.prog) (Value.int .i64) 0 22 3 .i64 Try.underlying22 hi018 hsz18 A0_1 c0_1 l0_1 (ji11) (of_decide_eq_true (by first | (with_reducible assumption) | assumption)) (of_decide_eq_true (by first | (with_reducible assumption) | assumption)) HC0_1.out
        have HR107 := Aside0.mk (Kd.C_of_reads (h1 := fun _ => rfl) (hA18 _ (Kd.reads_of_C HR0_1.out)))
        have HC107 := Aside0.mk hC18
        clear hA18 hC18 hi018 hsz18
        refine hK.out _ _ ⟨(blk_cell BK101.out 0).trans rfl, (blk_cell BK101.out 1).trans rfl, (blk_cell BK101.out 2).trans rfl⟩ (fun hHeld => ?_)
        clear hK K
        refine norm_ (a' := ?_) ?_ ?_
        rotate_left
        · show Act.put _ (some 13) _ = _
          simp only [Act.put, List.setIfInBounds_toArray, List.set_cons_zero, List.set_cons_succ, i64_w, i32_w]
          rfl
        refine pure_ (i := 4) (N := some 14) (v := ?_) (a' := ?_) #[true, true, true, true, true, false, false, false] rfl rfl (any_of HT_.out (by kernel_rfl)) (fun _ _ _ h => h) (Or.inl ⟨by rfl, ?_⟩) ?_ ?_
        rotate_left
        · intro w'
          go_simp
          with_reducible rfl
        rotate_left
        · simp only [Act.put, List.setIfInBounds_toArray, List.set_cons_zero, List.set_cons_succ, i64_w, i32_w]
          rfl
        refine pure_ (i := 5) (N := some 15) (v := ?_) (a' := ?_) #[true, true, true, true, true, true, false, false] rfl rfl (any_of HT_.out (by kernel_rfl)) (fun _ _ _ h => h) (Or.inl ⟨by rfl, ?_⟩) ?_ ?_
        rotate_left
        · intro w'
          go_simp
          with_reducible rfl
        rotate_left
        · simp only [Act.put, List.setIfInBounds_toArray, List.set_cons_zero, List.set_cons_succ, i64_w, i32_w]
          rfl
        refine one_ (i := 6) (N := some 16) #[true, true, true, true, true, true, true, false] rfl rfl (one_of HT_.out (by kernel_rfl)) (by decide) (fun K hK => ?_)
        refine goes_ Try.func104 (by kernel_rfl) rfl #[.slice A0_1 (l0_1.take ((ji11) : Int).toNat).length c0_1] (by rfl) rfl rfl (by (try simp only [List.map_toArray, List.map_cons, List.map_nil]); first | done | (rw [show (l0_1.take ((ji11) : Int).toNat).length = (ji11).toNat from (by rw [List.length_take]; have h_ : ((ji11) : Int) ≤ (l0_1.length : Int) := of_decide_eq_true (by first | (with_reducible assumption) | assumption); omega)] <;> rfl) | (simp only [hji11]; rfl) | rfl | (simp only [List.length_drop, List.length_take]; rfl)) ?_
        with_reducible refine (slices_Clone_int_int.calls _ _ (l0_1.take ((ji11) : Int).toNat) t108 _ ?side1 ?side2 A14.out).mono ?_
        (case side1 => repeat (first | exact (Kd.C_below HR107.out HB.out) | (with_reducible refine Kd.C_alloc ?_ _) | (with_reducible refine Kd.C_drewN ?_ _) | (with_reducible refine Kd.C_drew ?_)))
        (case side2 => exact HC107.out)
        rintro e w19 ⟨v109, rfl, ho0, hb⟩
        refine ⟨_, rfl, ?_⟩
        have n0_ := Aside0.mk (Kd.R_lower ho0 (below_size (by repeat (first | (with_reducible first | exact HB.out | apply below_alloc | apply pw_below_drewN | apply below_drew1 | refine below_set ?_ GE101.out) | exact HB.out))))
        have n1_ := Aside0.mk (blk_below (g := gb101) (o := .cells #[.bool a0_0, .slice A0_1 l0_1.length c0_1, .slice A0_2 l0_2.length c0_2] 28 (0, 0)) (by (with_reducible repeat (first | refine blk_drewN ?_ _ | refine blk_drew ?_ | refine blk_alloc ?_ _)); exact BK101.out) hb)
        have n2_ := Aside0.mk (below_step (by repeat (first | (with_reducible first | exact HB.out | apply below_alloc | apply pw_below_drewN | apply below_drew1 | refine below_set ?_ GE101.out) | exact HB.out)) hb)
        clear BK101
        clear HB
        have HO110 := n0_
        have BK101 := n1_
        have HB := n2_
        clear n0_ n1_ n2_
        (try clear hb)
        (try clear hb2)
        (try clear hk)
        (try clear hi)
        (try clear ho0)
        refine hK.out _ _ ⟨(blk_cell BK101.out 0).trans rfl, (blk_cell BK101.out 1).trans rfl, (blk_cell BK101.out 2).trans rfl⟩ (fun hHeld => ?_)
        clear hK K
        refine norm_ (a' := ?_) ?_ ?_
        rotate_left
        · show Act.put _ (some 16) _ = _
          simp only [Act.put, List.setIfInBounds_toArray, List.set_cons_zero, List.set_cons_succ, i64_w, i32_w]
          rfl
        refine pure_ (i := 7) (N := some 4) (v := ?_) (a' := ?_) #[true, true, true, true, true, true, true, true] rfl rfl (any_of HT_.out (by kernel_rfl)) (fun _ _ _ h => h) (Or.inl ⟨by rfl, ?_⟩) ?_ ?_
        rotate_left
        · intro w'
          go_simp
          with_reducible rfl
        rotate_left
        · simp only [Act.put, List.setIfInBounds_toArray, List.set_cons_zero, List.set_cons_succ, i64_w, i32_w]
          rfl
        refine done_ (done_of HT_.out (by kernel_rfl)) ?_
        try go_wp2
        go_ret
        exact ⟨_, by first | rfl | (simp [errW_none, errW_some] <;> rfl) | (simp only [← hji11]; first | rfl | (simp [errW_none, errW_some] <;> rfl)) | (simp [*, errW_none, errW_some] <;> rfl), by (with_reducible repeat (first | apply Kd.R_alloc | apply Kd.R_drewN | apply Kd.R_drew)); exact HO110.out, by repeat (first | (with_reducible first | exact HB.out | apply below_alloc | apply pw_below_drewN | apply below_drew1 | refine below_set ?_ GE101.out) | exact HB.out)⟩
      · rw [if_neg c13] at H
        exact absurd H (by simp)
    · rw [if_neg c12] at H
      exact absurd H (by simp)

end Go.Proofs.Ytehfcnndjhjkoaa.PA

namespace Go.Proofs.Ytehfcnndjhjkoaa.PA
open Go.RowKit Go.Proofs.YtehfcnndjhjkoaaW.PrintWords Go.Proofs.YtehfcnndjhjkoaaW.PrintLast Go.Proofs.YtehfcnndjhjkoaaW.PrintMore
set_option linter.unusedVariables false
set_option linter.unusedSimpArgs false
set_option maxHeartbeats 2000000 in
set_option maxRecDepth 100000 in
theorem axisOf_last (a : Bool) (Aa1 : Option Addr) (ca1 : Nat) (la1 : List Int) (Aa2 : Option Addr) (ca2 : Nat) (la2 : List Int) (m : Nat) (w : World) (ha1 : Kd.C (Kd.int .i64) w Aa1 la1.length la1) (ka1 : la1.length ≤ ca1) (ha2 : Kd.C (Kd.int .i64) w Aa2 la2.length la2) (ka2 : la2.length ≤ ca2) (hm : la1.length = m + 1) (h5 : la1.length ≤ 5) :
    Calls Try.prog 93 #[.agg #[.bool a, .slice Aa1 la1.length ca1, .slice Aa2 la2.length ca2], .bool false] w fun e w' => e = .returned (.tuple #[.int .i64 (rd la1 (m : Int)), .int .i64 1]) ∧ Below w.heap.size w w' := by
  have Ha1 := Aside0.mk ha1
  have Ka1 := Aside0.mk ka1
  clear ha1 ka1
  have Ha2 := Aside0.mk ha2
  have Ka2 := Aside0.mk ka2
  clear ha2 ka2
  have HM := Aside0.mk hm
  have w0 : IntKind.i64.wrap ((la1.length : Int) - 1) = (m : Int) := by rw [IntWalk.i64_in _ (by omega)]; omega
  have w1 : IntKind.i64.wrap ((m : Int) + 1) = (la1.length : Int) := by rw [IntWalk.i64_in _ (by omega)]; omega
  have p0 : 0 ≤ (m : Int) := by omega
  have p1 : (m : Int) < (la1.length : Int) := by omega
  obtain ⟨i_, hi_, hz_⟩ := Option.map_eq_some_iff.1 info3
  simp only [Prod.mk.injEq] at hz_
  obtain ⟨A_, hcut0, -⟩ := print_cut (P := Try.prog) 22 3 .i64 Try.underlying22 hi_ hz_.2.1 Aa1 la1.length ca1 la1.length (Nat.le_refl _)
  have hcut : ∀ W : World, (Instr.slice 22 (.slice Aa1 la1.length ca1) (some (.int .i64 (la1.length : Int))) none none).run Try.prog W = .ok (.slice A_ 0 (ca1 - la1.length)) W := fun W => by have := hcut0 W; rwa [Nat.sub_self] at this
  clear hcut0 hm h5 hz_ hi_
  have HS := Aside0.mk (Sx.start w)
  go_enter Try.func93, Try.ntmps93
  go_wp2_with (first | ((with_reducible refine gate_dst (N := 2) rfl ?_); refine box_event ?hg (N := 2) ?hd (cs := #[.bool a, .slice Aa1 la1.length ca1, .slice Aa2 la2.length ca2]) (t := 28) ?hr ?_; (case hd => rfl); (case hg => rfl); (case hr => first | (go_simp; done) | (go_simp; rfl)); intro gK hg1 w1 hx1 hb1; have nS : Aside0 (Sx w w1 [(.blk gK #[.bool a, .slice Aa1 la1.length ca1, .slice Aa2 la2.length ca2] 28)]) := Aside0.mk (HS.out.box hg1 hx1 hb1); clear HS; have HS := nS; clear nS hg1 hx1 hb1) | ((with_reducible refine gate_dst (N := 9) rfl ?_); refine wpList_load_row rfl 28 (.tmp 2) rfl gK rfl 28 #[.bool a, .slice Aa1 la1.length ca1, .slice Aa2 la2.length ca2] (0, 0) _ (HS.out.blk 0 rfl) Try.underlying28 rfl (by kernel_rfl) ?_) | (go_at_call 90; refine (impl_Array_rank.calls a Aa1 ca1 la1 Aa2 ca2 la2 (la1.length : Int) _ (Kd.C_below Ha1.out HS.out.below) Ka1.out (Kd.C_below Ha2.out HS.out.below) Ka2.out rfl).mono ?_; rintro e w2 ⟨rfl, hb2⟩; have nS : Aside0 (Sx w w2 [(.blk gK #[.bool a, .slice Aa1 la1.length ca1, .slice Aa2 la2.length ca2] 28)]) := Aside0.mk (HS.out.step hb2); clear HS; have HS := nS; clear nS hb2) | ((with_reducible refine gate_dst (N := 14) rfl ?_); refine ev_load rfl 22 (.tmp 13) rfl ⟨gK, 1, none⟩ rfl (.slice Aa1 la1.length ca1) ((blk_cell (HS.out.blk 0 rfl) 1).trans rfl) (by kernel_rfl) ?_))
  go_loopw [5, 8, 19] (fun u _ z wr => u = .int .i64 1 ∧ z = .int .i64 0 ∧ Aside0 (Sx w wr [(.blk gK #[.bool a, .slice Aa1 la1.length ca1, .slice Aa2 la2.length ca2] 28)])) (fun _ _ _ _ => 0)
  case atStart => exact ⟨rfl, rfl, HS⟩
  case round =>
    clear HS hcut
    obtain ⟨rfl, rfl, HS⟩ := hrel
    obtain ⟨ad, rfl, y1⟩ := Kd.at_int (Kd.C_below Ha1.out HS.out.below) (m : Int) p0 p1
    rw [Int.toNat_natCast] at y1
    go_wp2_with (first | ((with_reducible refine gate_dst (N := 28) rfl ?_); refine ev_load rfl 22 (.tmp 27) rfl ⟨gK, 1, none⟩ rfl (.slice (some ad) la1.length ca1) ((blk_cell (HS.out.blk 0 rfl) 1).trans rfl) (by kernel_rfl) ?_))
    refine bodyPost_ret (results_tmp2 rfl _ _ _) rfl ?_
    exact ⟨rfl, HS.out.below⟩
end Go.Proofs.Ytehfcnndjhjkoaa.PA

-- By a program (prt.py, over the print of the kit), for this claim. Not trusted: Lean checks it.
namespace Go.Proofs.Ytehfcnndjhjkoaa.PA
open Go.RowKit Go.Proofs.YtehfcnndjhjkoaaW.PrintWords Go.Proofs.YtehfcnndjhjkoaaW.PrintLast Go.Proofs.YtehfcnndjhjkoaaW.PrintMore
attribute [local go_sem] max2_int min2_int max_two min_two max_three min_three max_four min_four   -- for this text's walks alone
set_option linter.unusedVariables false
set_option linter.unusedSimpArgs false

/-! ### slices_Equal_int_int: function 91 -/
def slices_Equal_int_int.l0 : Nat → List Int → List Int → Int → Int → Option (Bool)
  | 0, _, _, _, _ => none
  | k + 1, x0, x1, x12, x13 => if x13 < x12 then (if 0 ≤ x13 then (if x13 < (x0.length : Int) then (if x13 < (x1.length : Int) then (if (rd x0 x13) = (rd x1 x13) then (slices_Equal_int_int.l0 k x0 x1 x12 (wrap64 (x13 + 1))) else (some false)) else (none)) else (none)) else (none)) else (some true)
def slices_Equal_int_int.f (k : Nat) (l0 : List Int) (l1 : List Int) : Option (Bool) := if (l0.length : Int) = (l1.length : Int) then (slices_Equal_int_int.l0 k l0 l1 (l0.length : Int) 0) else (some false)
theorem slices_Equal_int_int.mono_l : ∀ k, (∀ y0 y1 y2 y3, LeO (slices_Equal_int_int.l0 k y0 y1 y2 y3) (slices_Equal_int_int.l0 (k + 1) y0 y1 y2 y3))
  | 0 => fun _ _ _ _ r h => by simp [slices_Equal_int_int.l0] at h
  | k + 1 => by
    have ih0 := slices_Equal_int_int.mono_l k
    · intro y0 y1 y2 y3
      unfold slices_Equal_int_int.l0
      repeat' first
      | (with_reducible exact ih0 _ _ _ _)
      | (with_reducible exact LeO.refl _)
      | (with_reducible exact LeO.none _)
      | (with_reducible refine LeO.ite ?_ ?_)
      | (with_reducible refine LeO.bind ?_ (fun _ => ?_))
      | exact ih0 _ _ _ _
      | exact LeO.none _
      | refine LeO.ite ?_ ?_
      | refine LeO.bind ?_ (fun _ => ?_)
theorem slices_Equal_int_int.mono : ∀ a0 a1 k, LeO (slices_Equal_int_int.f k a0 a1) (slices_Equal_int_int.f (k + 1) a0 a1) := by
  intro a0 a1 k
  have ih0 := slices_Equal_int_int.mono_l k
  unfold slices_Equal_int_int.f
  repeat' first
      | (with_reducible exact ih0 _ _ _ _)
      | (with_reducible exact LeO.refl _)
      | (with_reducible exact LeO.none _)
      | (with_reducible refine LeO.ite ?_ ?_)
      | (with_reducible refine LeO.bind ?_ (fun _ => ?_))
      | exact ih0 _ _ _ _
      | exact LeO.none _
      | refine LeO.ite ?_ ?_
      | refine LeO.bind ?_ (fun _ => ?_)
set_option maxHeartbeats 8000000 in
set_option maxRecDepth 100000 in
theorem slices_Equal_int_int.calls (k : Nat) (A0 : Option Addr) (c0 : Nat) (l0 : List Int) (A1 : Option Addr) (c1 : Nat) (l1 : List Int) (r : Bool) (w : World) (hr0 : Kd.C (Kd.int .i64) w A0 l0.length l0) (hc0 : l0.length ≤ c0) (hr1 : Kd.C (Kd.int .i64) w A1 l1.length l1) (hc1 : l1.length ≤ c1) (h : slices_Equal_int_int.f k l0 l1 = some r) :
    Calls Try.prog 91 #[.slice A0 l0.length c0, .slice A1 l1.length c1] w fun e w' => e = .returned (.bool r) ∧ Drawn0 w w' := by
  have HR0 := Aside0.mk hr0
  have HC0 := Aside0.mk hc0
  clear hr0 hc0
  have HR1 := Aside0.mk hr1
  have HC1 := Aside0.mk hc1
  clear hr1 hc1
  have H : (if (l0.length : Int) = (l1.length : Int) then (slices_Equal_int_int.l0 k l0 l1 (l0.length : Int) 0) else (some false)) = some r := h
  clear h
  by_cases c3 : (l0.length : Int) = (l1.length : Int)
  · rw [if_pos c3] at H
    have c3b0 : ((l0.length : Int) == (l1.length : Int)) = true := beq_iff_eq.mpr c3
    have c3b1 : ((l0.length : Int) != (l1.length : Int)) = false := bne_eq_false_iff_eq.mpr c3
    have c3b2 : (l0.length == l1.length) = true := by first | simpa using c3 | (simp at c3 ⊢; omega)
    clear c3
    have H' := Aside0.mk H
    clear H
    go_enter Try.func91, Try.ntmps91
    go_wp2
    repeat (go_quiet (fail); try go_wp2)
    go_loopg [13] k (fun kq v13 w' => ∃ (x13_1 : Int), v13 = .int .i64 x13_1 ∧ Aside0 (slices_Equal_int_int.l0 kq l0 l1 (l0.length : Int) x13_1 = some r) ∧ Aside0 (kq ≤ k) ∧ Drawn0 w w')
    case atStart => exact ⟨(0), (by first | rfl | (simp; done) | (simp [*]; done)), H', ⟨Nat.le_refl _⟩, by repeat (first | exact Drawn0.refl _ | apply Drawn0.step)⟩
    case round =>
      clear H'
      try clear c1
      try clear p2
      try clear c3
      try clear c3b0
      try clear c3b1
      try clear c3b2
      obtain ⟨x13_1, rfl, HA, HK1, ⟨m1, rfl⟩⟩ := hrel
      cases gk with
      | zero => exact absurd HA.out (by simp [slices_Equal_int_int.l0])
      | succ k1 =>
        have H := HA.out
        clear HA
        simp only [slices_Equal_int_int.l0] at H
        by_cases c4 : x13_1 < (l0.length : Int)
        · rw [if_pos c4] at H
          have c4b0 : decide (x13_1 < (l0.length : Int)) = true := decide_eq_true c4
          clear c4
          by_cases c5 : 0 ≤ x13_1
          · rw [if_pos c5] at H
            have c5b0 : decide (0 ≤ x13_1) = true := decide_eq_true c5
            clear c5
            by_cases c6 : x13_1 < (l0.length : Int)
            · rw [if_pos c6] at H
              have c6b0 : decide (x13_1 < (l0.length : Int)) = true := decide_eq_true c6
              clear c6
              by_cases c7 : x13_1 < (l1.length : Int)
              · rw [if_pos c7] at H
                have c7b0 : decide (x13_1 < (l1.length : Int)) = true := decide_eq_true c7
                clear c7
                by_cases c8 : (rd l0 x13_1) = (rd l1 x13_1)
                · rw [if_pos c8] at H
                  have c8b0 : ((rd l0 x13_1) == (rd l1 x13_1)) = true := beq_iff_eq.mpr c8
                  have c8b1 : ((rd l0 x13_1) != (rd l1 x13_1)) = false := bne_eq_false_iff_eq.mpr c8
                  clear c8
                  have H' := Aside0.mk H
                  clear H
                  have p101 : 0 ≤ (x13_1 : Int) := of_decide_eq_true (by first | (with_reducible assumption) | assumption)
                  have q101 : x13_1 < (l0.length : Int) := of_decide_eq_true (by first | (with_reducible assumption) | assumption)
                  obtain ⟨ad101, e101, hx101_0⟩ := Kd.at_int HR0.out x13_1 p101 q101
                  cases e101
                  replace p101 := eq_true p101
                  replace q101 := eq_true q101
                  have p102 : 0 ≤ (x13_1 : Int) := of_decide_eq_true (by first | (with_reducible assumption) | assumption)
                  have q102 : x13_1 < (l1.length : Int) := of_decide_eq_true (by first | (with_reducible assumption) | assumption)
                  obtain ⟨ad102, e102, hx102_0⟩ := Kd.at_int HR1.out x13_1 p102 q102
                  cases e102
                  replace p102 := eq_true p102
                  replace q102 := eq_true q102
                  go_wp2
                  repeat (go_quiet (fail); try go_wp2)
                  go_roundg k1
                  case measure => have := HK1.out; omega
                  case rel => exact ⟨(wrap64 (x13_1 + 1)), (by first | rfl | (simp; done) | (simp [*]; done)), H', ⟨by have := HK1.out; omega⟩, by repeat (first | exact Drawn0.refl _ | apply Drawn0.step)⟩
                · rw [if_neg c8] at H
                  have c8b0 : ((rd l0 x13_1) == (rd l1 x13_1)) = false := beq_eq_false_iff_ne.mpr c8
                  have c8b1 : ((rd l0 x13_1) != (rd l1 x13_1)) = true := bne_iff_ne.mpr c8
                  obtain rfl := Option.some.inj H
                  have p101 : 0 ≤ (x13_1 : Int) := of_decide_eq_true (by first | (with_reducible assumption) | assumption)
                  have q101 : x13_1 < (l0.length : Int) := of_decide_eq_true (by first | (with_reducible assumption) | assumption)
                  obtain ⟨ad101, e101, hx101_0⟩ := Kd.at_int HR0.out x13_1 p101 q101
                  cases e101
                  replace p101 := eq_true p101
                  replace q101 := eq_true q101
                  have p102 : 0 ≤ (x13_1 : Int) := of_decide_eq_true (by first | (with_reducible assumption) | assumption)
                  have q102 : x13_1 < (l1.length : Int) := of_decide_eq_true (by first | (with_reducible assumption) | assumption)
                  obtain ⟨ad102, e102, hx102_0⟩ := Kd.at_int HR1.out x13_1 p102 q102
                  cases e102
                  replace p102 := eq_true p102
                  replace q102 := eq_true q102
                  go_wp2
                  repeat (go_quiet (fail); try go_wp2)
                  go_ret
                  exact ⟨by first | rfl | (simp; done) | (simp [*]; done), by repeat (first | exact Drawn0.refl _ | apply Drawn0.step)⟩
              · rw [if_neg c7] at H
                exact absurd H (by simp)
            · rw [if_neg c6] at H
              exact absurd H (by simp)
          · rw [if_neg c5] at H
            exact absurd H (by simp)
        · rw [if_neg c4] at H
          have c4b0 : decide (x13_1 < (l0.length : Int)) = false := decide_eq_false c4
          clear c4
          obtain rfl := Option.some.inj H
          go_wp2
          repeat (go_quiet (fail); try go_wp2)
          go_ret
          exact ⟨by first | rfl | (simp; done) | (simp [*]; done), by repeat (first | exact Drawn0.refl _ | apply Drawn0.step)⟩
  · rw [if_neg c3] at H
    have c3b0 : ((l0.length : Int) == (l1.length : Int)) = false := beq_eq_false_iff_ne.mpr c3
    have c3b1 : ((l0.length : Int) != (l1.length : Int)) = true := bne_iff_ne.mpr c3
    have c3b2 : (l0.length == l1.length) = false := by first | simpa using c3 | (simp at c3 ⊢; omega)
    obtain rfl := Option.some.inj H
    go_enter Try.func91, Try.ntmps91
    go_wp2
    repeat (go_quiet (fail); try go_wp2)
    go_ret
    exact ⟨by first | rfl | (simp; done) | (simp [*]; done), by repeat (first | exact Drawn0.refl _ | apply Drawn0.step)⟩

end Go.Proofs.Ytehfcnndjhjkoaa.PA

namespace Go.Proofs.Ytehfcnndjhjkoaa.PA
open Go.RowKit Go.Proofs.YtehfcnndjhjkoaaW.PrintWords Go.Proofs.YtehfcnndjhjkoaaW.PrintLast Go.Proofs.YtehfcnndjhjkoaaW.PrintMore
set_option linter.unusedVariables false
set_option linter.unusedSimpArgs false
theorem noInt_A (b : Bool) (A1 : Option Addr) (n1 c1 : Nat) (A2 : Option Addr) (n2 c2 : Nat) : noInt #[.bool b, .slice A1 n1 c1, .slice A2 n2 c2] := by
  intro j k z
  match j with
  | 0 => simp
  | 1 => simp
  | 2 => simp
  | j + 3 => simp
/-- What is known of one beside another. -/
def BesOk (args : Array Value) (a : Bool) (L1 L2 : List Int) (w : World) : Prop := ∀ W, Below w.heap.size w W → Calls Try.prog 89 args W fun e w' => ∃ As cs Ad cd, e = .returned (.agg #[.bool a, .slice As L1.length cs, .slice Ad L2.length cd]) ∧ Kd.C (Kd.int .i64) w' As L1.length L1 ∧ L1.length ≤ cs ∧ Kd.C (Kd.int .i64) w' Ad L2.length L2 ∧ L2.length ≤ cd ∧ Below W.heap.size W w'
theorem BesOk.go {args : Array Value} {a : Bool} {L1 L2 : List Int} {w : World} (h : BesOk args a L1 L2 w) (W : World) (hb : Below w.heap.size w W) : Calls Try.prog 89 args W fun e w' => ∃ As cs Ad cd, e = .returned (.agg #[.bool a, .slice As L1.length cs, .slice Ad L2.length cd]) ∧ Kd.C (Kd.int .i64) w' As L1.length L1 ∧ L1.length ≤ cs ∧ Kd.C (Kd.int .i64) w' Ad L2.length L2 ∧ L2.length ≤ cd ∧ Below W.heap.size W w' := h W hb
end Go.Proofs.Ytehfcnndjhjkoaa.PA

namespace Go.Proofs.Ytehfcnndjhjkoaa.PA
open Go.RowKit Go.Proofs.YtehfcnndjhjkoaaW.PrintWords Go.Proofs.YtehfcnndjhjkoaaW.PrintLast Go.Proofs.YtehfcnndjhjkoaaW.PrintMore
set_option linter.unusedVariables false
set_option linter.unusedSimpArgs false
def catL1 (l1 m1 : List Int) : List Int := if l1.length = 0 then m1.dropLast ++ [1] else if l1.length + 1 = m1.length then l1 ++ [1] else l1
def catL2 (l1 l2 m1 : List Int) : List Int := if l1.length = 0 then List.replicate (prod m1.dropLast).toNat (rd l2 0) else l2
theorem prod_app1 : ∀ (p : List Int) (y : Int), prod (p ++ [y]) = prod p * y
  | [], y => by simp [prod]
  | x :: p, y => by simp only [List.cons_append, prod]; rw [prod_app1 p y, Int.mul_assoc]
theorem shGo_one : ∀ (p : List Int) (f y : Int), 0 ≤ f → f ≤ 10000 → shGo f (p ++ [y]) = true → shGo f (p ++ [1]) = true
  | [], f, y, h0, h1, h => by simp [shGo]; omega
  | x :: p, f, y, h0, h1, h => by
    simp only [List.cons_append, shGo, Bool.and_eq_true, decide_eq_true_eq] at h ⊢
    refine ⟨h.1, ?_⟩
    have h2 := h.2
    by_cases hx : x = 0
    · rw [if_pos hx] at h2 ⊢
      exact shGo_one p f y h0 h1 h2
    · rw [if_neg hx] at h2 ⊢
      simp only [Bool.and_eq_true, decide_eq_true_eq] at h2 ⊢
      exact ⟨h2.1, shGo_one p (f * x) y (Int.mul_nonneg h0 h.1.1) h2.1 h2.2⟩
theorem shOk_one {l : List Int} (h : shOk l = true) (hl : l.length ≠ 0) : shOk (l.dropLast ++ [1]) = true := by
  have hne : l ≠ [] := by intro e; subst e; simp at hl
  obtain ⟨p, y, rfl⟩ : ∃ p y, l = p ++ [y] := ⟨l.dropLast, l.getLast hne, (List.dropLast_concat_getLast hne).symm⟩
  simp only [shOk, Bool.and_eq_true, decide_eq_true_eq] at h ⊢
  rw [List.dropLast_concat]
  refine ⟨by simpa using h.1, shGo_one p 1 y (by omega) (by omega) h.2⟩
end Go.Proofs.Ytehfcnndjhjkoaa.PA

-- By a program (prt.py, over the print of the kit), for this claim. Not trusted: Lean checks it.
namespace Go.Proofs.Ytehfcnndjhjkoaa.PA
open Go.RowKit Go.Proofs.YtehfcnndjhjkoaaW.PrintWords Go.Proofs.YtehfcnndjhjkoaaW.PrintLast Go.Proofs.YtehfcnndjhjkoaaW.PrintMore
attribute [local go_sem] max2_int min2_int max_two min_two max_three min_three max_four min_four   -- for this text's walks alone
set_option linter.unusedVariables false
set_option linter.unusedSimpArgs false

/-! ### spec_l3Same: function 87 -/
def spec_l3Same.l0 : Nat → List Int → List Int → Int → Option (Bool)
  | 0, _, _, _ => none
  | k + 1, x0, x1, x5 => if x5 < (x0.length : Int) then (if 0 ≤ x5 then (if x5 < (x1.length : Int) then (if (rd x0 x5) = (rd x1 x5) then (spec_l3Same.l0 k x0 x1 (wrap64 (x5 + 1))) else (some false)) else (none)) else (none)) else (some true)
def spec_l3Same.f (k : Nat) (l0 : List Int) (l1 : List Int) : Option (Bool) := if (l0.length : Int) = (l1.length : Int) then (spec_l3Same.l0 k l0 l1 0) else (some false)
theorem spec_l3Same.mono_l : ∀ k, (∀ y0 y1 y2, LeO (spec_l3Same.l0 k y0 y1 y2) (spec_l3Same.l0 (k + 1) y0 y1 y2))
  | 0 => fun _ _ _ r h => by simp [spec_l3Same.l0] at h
  | k + 1 => by
    have ih0 := spec_l3Same.mono_l k
    · intro y0 y1 y2
      unfold spec_l3Same.l0
      repeat' first
      | (with_reducible exact ih0 _ _ _)
      | (with_reducible exact LeO.refl _)
      | (with_reducible exact LeO.none _)
      | (with_reducible refine LeO.ite ?_ ?_)
      | (with_reducible refine LeO.bind ?_ (fun _ => ?_))
      | exact ih0 _ _ _
      | exact LeO.none _
      | refine LeO.ite ?_ ?_
      | refine LeO.bind ?_ (fun _ => ?_)
theorem spec_l3Same.mono : ∀ a0 a1 k, LeO (spec_l3Same.f k a0 a1) (spec_l3Same.f (k + 1) a0 a1) := by
  intro a0 a1 k
  have ih0 := spec_l3Same.mono_l k
  unfold spec_l3Same.f
  repeat' first
      | (with_reducible exact ih0 _ _ _)
      | (with_reducible exact LeO.refl _)
      | (with_reducible exact LeO.none _)
      | (with_reducible refine LeO.ite ?_ ?_)
      | (with_reducible refine LeO.bind ?_ (fun _ => ?_))
      | exact ih0 _ _ _
      | exact LeO.none _
      | refine LeO.ite ?_ ?_
      | refine LeO.bind ?_ (fun _ => ?_)

end Go.Proofs.Ytehfcnndjhjkoaa.PA

namespace Go.Proofs.Ytehfcnndjhjkoaa.PA
open Go.RowKit Go.Proofs.YtehfcnndjhjkoaaW.PrintWords Go.Proofs.YtehfcnndjhjkoaaW.PrintLast Go.Proofs.YtehfcnndjhjkoaaW.PrintMore
set_option linter.unusedVariables false
set_option linter.unusedSimpArgs false
theorem l3Same_loop : ∀ (t p q s : List Int), p.length = q.length → t.length = s.length → (p ++ t).length < 35184372088833 →
    Ev (fun k => spec_l3Same.l0 k (p ++ t) (q ++ s) (p.length : Int)) (decide (t = s))
  | [], p, q, s, _, hs, _ => by
    obtain rfl : s = [] := List.eq_nil_of_length_eq_zero hs.symm
    refine evRound (Ev.now _) fun k => ?_
    simp only [spec_l3Same.l0]; rw [if_neg len_nlt]; simp
  | a :: t, p, q, [], _, hs, _ => by simp at hs
  | a :: t, p, q, b :: s, hp, hs, hl => by
    by_cases e : a = b
    · subst e
      have ih := l3Same_loop t (p ++ [a]) (q ++ [a]) s (by simp [hp]) (by simpa using hs) (by simpa using hl)
      rw [← app_mid, ← app_mid] at ih
      refine evVal (evRound ih fun k => ?_) (by simp)
      simp only [spec_l3Same.l0]
      rw [if_pos len_lt, if_pos (by omega), if_pos (by simp [hp]; omega), rd_mid, show rd (q ++ a :: s) (p.length : Int) = a by rw [hp]; exact rd_mid _ _ _, if_pos rfl, next_mid p t a hl]
    · refine evRound (Ev.now _) fun k => ?_
      simp only [spec_l3Same.l0]
      rw [if_pos len_lt, if_pos (by omega), if_pos (by simp [hp]; omega), rd_mid, show rd (q ++ b :: s) (p.length : Int) = b by rw [hp]; exact rd_mid _ _ _, if_neg e]; simp [e]
theorem l3Same_ev (l m : List Int) (h : l.length ≤ 35184372088832) : Ev (fun k => spec_l3Same.f k l m) (decide (l = m)) := by
  by_cases e : l.length = m.length
  · have h1 := l3Same_loop l [] [] m rfl e (by simpa using (by omega : l.length < 35184372088833))
    refine Ev.congr (fun k => ?_) h1
    simp only [spec_l3Same.f]
    rw [if_pos (by omega)]; rfl
  · refine evEq fun k => ?_
    simp only [spec_l3Same.f]
    rw [if_neg (by omega)]
    have : l ≠ m := fun h => e (h ▸ rfl)
    simp [this]
theorem slEqual_loop : ∀ (t p q s : List Int) (n : Int), n = ((p ++ t).length : Nat) → p.length = q.length → t.length = s.length → (p ++ t).length < 35184372088833 →
    Ev (fun k => slices_Equal_int_int.l0 k (p ++ t) (q ++ s) n (p.length : Int)) (decide (t = s))
  | [], p, q, s, n, hn, _, hs, _ => by
    obtain rfl : s = [] := List.eq_nil_of_length_eq_zero hs.symm
    subst hn
    refine evRound (Ev.now _) fun k => ?_
    simp only [slices_Equal_int_int.l0]; rw [if_neg len_nlt]; simp
  | a :: t, p, q, [], n, _, _, hs, _ => by simp at hs
  | a :: t, p, q, b :: s, n, hn, hp, hs, hl => by
    subst hn
    by_cases e : a = b
    · subst e
      have ih := slEqual_loop t (p ++ [a]) (q ++ [a]) s _ rfl (by simp [hp]) (by simpa using hs) (by simpa using hl)
      rw [← app_mid, ← app_mid] at ih
      refine evVal (evRound ih fun k => ?_) (by simp)
      simp only [slices_Equal_int_int.l0]
      rw [if_pos len_lt, if_pos (by omega), if_pos len_lt, if_pos (by simp [hp]; omega), rd_mid, show rd (q ++ a :: s) (p.length : Int) = a by rw [hp]; exact rd_mid _ _ _, if_pos rfl, next_mid p t a hl]
    · refine evRound (Ev.now _) fun k => ?_
      simp only [slices_Equal_int_int.l0]
      rw [if_pos len_lt, if_pos (by omega), if_pos len_lt, if_pos (by simp [hp]; omega), rd_mid, show rd (q ++ b :: s) (p.length : Int) = b by rw [hp]; exact rd_mid _ _ _, if_neg e]; simp [e]
theorem slEqual_ev (l m : List Int) (h : l.length ≤ 35184372088832) : Ev (fun k => slices_Equal_int_int.f k l m) (decide (l = m)) := by
  by_cases e : l.length = m.length
  · have h1 := slEqual_loop l [] [] m _ rfl rfl e (by simpa using (by omega : l.length < 35184372088833))
    refine Ev.congr (fun k => ?_) h1
    simp only [slices_Equal_int_int.f]
    rw [if_pos (by omega)]; rfl
  · refine evEq fun k => ?_
    simp only [slices_Equal_int_int.f]
    rw [if_neg (by omega)]
    have : l ≠ m := fun h => e (h ▸ rfl)
    simp [this]
theorem without_eq (a : Bool) (l1 l2 : List Int) (h0 : l1.length ≠ 0) (h5 : l1.length ≤ 5) : impl_Array_without.f a l1 l2 false = some l1.dropLast := by
  simp only [impl_Array_without.f, impl_Array_rank.f]
  rw [if_neg (by decide), Option.bind_some, w64 (by omega) (by omega), if_pos (by omega), if_pos (by omega)]
  have : ((l1.length : Int) - 1).toNat = l1.length - 1 := by omega
  rw [this, ← List.dropLast_eq_take]
  simp only [slices_Clone_int_int.f]
  rw [if_pos (by simp; omega)]
  rfl
/-- Rows of two arrays beside each other. -/
def catRows (A B : List Int) (m n : Nat) : Nat → List Int
  | 0 => []
  | r + 1 => catRows A B m n r ++ ((A.drop (r * m)).take m ++ (B.drop (r * n)).take n)
def lastOf (l : List Int) : Int := rd l ((l.length : Int) - 1)
def catV (a : Bool) (l1 l2 : List Int) (b : Bool) (m1 m2 : List Int) : ArrAns :=
  if (arrOk a l1 l2 && arrOk b m1 m2) = true then
    (if (catL1 l1 m1).length = (catL1 m1 l1).length then
      (if (catL1 l1 m1).dropLast = (catL1 m1 l1).dropLast then
        (if a ≠ b ∧ 0 < (catL2 l1 l2 m1).length ∧ 0 < (catL2 m1 m2 l1).length then noArr 3
         else if shOk ((catL1 l1 m1).dropLast ++ [lastOf (catL1 l1 m1) + lastOf (catL1 m1 l1)]) = true then
           (if (catL2 l1 l2 m1).length = 0 ∧ 0 < (catL2 m1 m2 l1).length then b else a, (catL1 l1 m1).dropLast ++ [lastOf (catL1 l1 m1) + lastOf (catL1 m1 l1)],
             catRows (catL2 l1 l2 m1) (catL2 m1 m2 l1) (lastOf (catL1 l1 m1)).toNat (lastOf (catL1 m1 l1)).toNat (prod (catL1 l1 m1).dropLast).toNat, 0)
         else noArr 7)
       else noArr 5)
     else noArr 4)
  else noArr 3
/-- The two widened arrays stand as arrays do: the elements are as many as the shape says. -/
theorem catL_prod {a b : Bool} {l1 l2 m1 m2 : List Int} (oa : arrOk a l1 l2 = true) (ob : arrOk b m1 m2 = true) : prod (catL1 l1 m1) = (catL2 l1 l2 m1).length := by
  have pa := arrOk_prod oa
  have sb := arrOk_sh ob
  unfold catL1 catL2
  by_cases hz : l1.length = 0
  · rw [if_pos hz, if_pos hz, prod_app1, Int.mul_one, List.length_replicate]
    by_cases hy : m1.length = 0
    · have e1 : m1 = [] := List.length_eq_zero_iff.1 hy
      subst e1; simp [prod]
    · have hp := shOk_prod (shOk_one sb hy)
      rw [prod_app1, Int.mul_one] at hp
      omega
  · rw [if_neg hz, if_neg hz]
    split
    · rw [prod_app1, Int.mul_one]; exact pa
    · exact pa
end Go.Proofs.Ytehfcnndjhjkoaa.PA
