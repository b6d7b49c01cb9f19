import Derived.Test.YtehfcnndjhjkoaaKFnExactRotate3
import Derived.Deep.RegionHeld3
import Derived.Deep.DeepCutAuto
import Derived.ProofKit
import Derived.OpenShut
import Derived.ChangeOld
import Derived.Below
import Derived.SizedLaws
import Derived.Lib.SmallJoins
import Derived.Deep.Fields

-- By a program (prt.py, over the print of the kit), for this claim. Not trusted: Lean checks it.
namespace Go.Proofs.Ytehfcnndjhjkoaa.PA
open Go.RowKit Go.Proofs.YtehfcnndjhjkoaaW.PrintWords Go.Proofs.YtehfcnndjhjkoaaW.PrintLast Go.Proofs.YtehfcnndjhjkoaaW.PrintMore
attribute [local go_sem] max2_int min2_int max_two min_two max_three min_three max_four min_four   -- for this text's walks alone
set_option linter.unusedVariables false
set_option linter.unusedSimpArgs false

/-! ### spec_Rotate: function 35 -/
mutual
def spec_Rotate.j0 : Nat → Bool → Bool → Bool → List Int → List Int → Bool → List Int → List Int → Option (Bool × List Int × List Int × Int)
  | 0, _, _, _, _, _, _, _, _ => none
  | k + 1, x2, x24, x102000, x102001, x102002, x103000, x103001, x103002 => if x24 = true then ((spec_l4None.f).bind fun bt106 => (some (bt106.1, bt106.2.1, bt106.2.2, 3))) else ((spec_l5Single.f x102000 x102001 x102002).bind fun t113 => (if t113 = 0 then ((spec_l3Copy.f x103000 x103001 x103002).bind fun bt121 => (if (x103001.length : Int) = 0 then (spec_Rotate.j1 k x2 true x102000 x102001 x102002 x103000 x103001 x103002 bt121.1 bt121.2.1 bt121.2.2) else (spec_Rotate.j1 k x2 ((x103002.length : Int) == 0) x102000 x102001 x102002 x103000 x103001 x103002 bt121.1 bt121.2.1 bt121.2.2))) else ((spec_l4None.f).bind fun bt114 => (some (bt114.1, bt114.2.1, bt114.2.2, t113)))))
def spec_Rotate.j1 : Nat → Bool → Bool → Bool → List Int → List Int → Bool → List Int → List Int → Bool → List Int → List Int → Option (Bool × List Int × List Int × Int)
  | 0, _, _, _, _, _, _, _, _, _, _, _ => none
  | k + 1, x2, x43, x102000, x102001, x102002, x103000, x103001, x103002, x129000, x129001, x129002 => if x43 = true then (some (x129000, x129001, x129002, 0)) else ((spec_l4Axis.f k x103001 x2).bind fun bt129 => (if 0 < (x102002.length : Int) then ((spec_l4Mod.f bt129.2.1 (rd x102002 0)).bind fun t133 => (spec_Rotate.l0 k bt129.1 bt129.2.1 bt129.2.2 t133 0 x103000 x103001 x103002 x129000 x129001 x129002)) else (none)))
def spec_Rotate.l0 : Nat → Int → Int → Int → Int → Int → Bool → List Int → List Int → Bool → List Int → List Int → Option (Bool × List Int × List Int × Int)
  | 0, _, _, _, _, _, _, _, _, _, _, _ => none
  | k + 1, x10, x11, x12, x13, x14, x103000, x103001, x103002, x129000, x129001, x129002 => if x14 < x10 then (spec_Rotate.l1 k x10 x11 x12 x13 x14 0 x103000 x103001 x103002 x129000 x129001 x129002) else (some (x129000, x129001, x129002, 0))
def spec_Rotate.l1 : Nat → Int → Int → Int → Int → Int → Int → Bool → List Int → List Int → Bool → List Int → List Int → Option (Bool × List Int × List Int × Int)
  | 0, _, _, _, _, _, _, _, _, _, _, _, _ => none
  | k + 1, x10, x11, x12, x13, x14, x15, x103000, x103001, x103002, x129000, x129001, x129002 => if x15 < x11 then (spec_Rotate.l2 k x10 x11 x12 x13 x14 x15 0 x103000 x103001 x103002 x129000 x129001 x129002) else (spec_Rotate.l0 k x10 x11 x12 x13 (wrap64 (x14 + 1)) x103000 x103001 x103002 x129000 x129001 x129002)
def spec_Rotate.l2 : Nat → Int → Int → Int → Int → Int → Int → Int → Bool → List Int → List Int → Bool → List Int → List Int → Option (Bool × List Int × List Int × Int)
  | 0, _, _, _, _, _, _, _, _, _, _, _, _, _ => none
  | k + 1, x10, x11, x12, x13, x14, x15, x16, x103000, x103001, x103002, x129000, x129001, x129002 => if x16 < x12 then (if x11 = 0 then (none) else (if 0 ≤ (wrap64 ((wrap64 ((wrap64 ((wrap64 (x14 * x11)) + (Int.tmod (wrap64 (x15 + x13)) x11))) * x12)) + x16)) then (if (wrap64 ((wrap64 ((wrap64 ((wrap64 (x14 * x11)) + (Int.tmod (wrap64 (x15 + x13)) x11))) * x12)) + x16)) < (x103002.length : Int) then (if 0 ≤ (wrap64 ((wrap64 ((wrap64 ((wrap64 (x14 * x11)) + x15)) * x12)) + x16)) then (if (wrap64 ((wrap64 ((wrap64 ((wrap64 (x14 * x11)) + x15)) * x12)) + x16)) < (x129002.length : Int) then (spec_Rotate.l2 k x10 x11 x12 x13 x14 x15 (wrap64 (x16 + 1)) x103000 x103001 x103002 x129000 x129001 (x129002.set ((wrap64 ((wrap64 ((wrap64 ((wrap64 (x14 * x11)) + x15)) * x12)) + x16)) : Int).toNat (rd x103002 (wrap64 ((wrap64 ((wrap64 ((wrap64 (x14 * x11)) + (Int.tmod (wrap64 (x15 + x13)) x11))) * x12)) + x16))))) else (none)) else (none)) else (none)) else (none))) else (spec_Rotate.l1 k x10 x11 x12 x13 x14 (wrap64 (x15 + 1)) x103000 x103001 x103002 x129000 x129001 x129002)
end
def spec_Rotate.f (k : Nat) (a0_0 : Bool) (l0_1 : List Int) (l0_2 : List Int) (a1_0 : Bool) (l1_1 : List Int) (l1_2 : List Int) (a2 : Bool) : Option (Bool × List Int × List Int × Int) := (spec_ArrayOk.f k a0_0 l0_1 l0_2).bind fun t104 => (if t104 = true then ((spec_ArrayOk.f k a1_0 l1_1 l1_2).bind fun t105 => (spec_Rotate.j0 k a2 (!t105) a0_0 l0_1 l0_2 a1_0 l1_1 l1_2)) else (spec_Rotate.j0 k a2 true a0_0 l0_1 l0_2 a1_0 l1_1 l1_2))
theorem spec_Rotate.mono_l : ∀ k, (∀ y0 y1 y2 y3 y4 y5 y6 y7, LeO (spec_Rotate.j0 k y0 y1 y2 y3 y4 y5 y6 y7) (spec_Rotate.j0 (k + 1) y0 y1 y2 y3 y4 y5 y6 y7)) ∧ (∀ y0 y1 y2 y3 y4 y5 y6 y7 y8 y9 y10, LeO (spec_Rotate.j1 k y0 y1 y2 y3 y4 y5 y6 y7 y8 y9 y10) (spec_Rotate.j1 (k + 1) y0 y1 y2 y3 y4 y5 y6 y7 y8 y9 y10)) ∧ (∀ y0 y1 y2 y3 y4 y5 y6 y7 y8 y9 y10, LeO (spec_Rotate.l0 k y0 y1 y2 y3 y4 y5 y6 y7 y8 y9 y10) (spec_Rotate.l0 (k + 1) y0 y1 y2 y3 y4 y5 y6 y7 y8 y9 y10)) ∧ (∀ y0 y1 y2 y3 y4 y5 y6 y7 y8 y9 y10 y11, LeO (spec_Rotate.l1 k y0 y1 y2 y3 y4 y5 y6 y7 y8 y9 y10 y11) (spec_Rotate.l1 (k + 1) y0 y1 y2 y3 y4 y5 y6 y7 y8 y9 y10 y11)) ∧ (∀ y0 y1 y2 y3 y4 y5 y6 y7 y8 y9 y10 y11 y12, LeO (spec_Rotate.l2 k y0 y1 y2 y3 y4 y5 y6 y7 y8 y9 y10 y11 y12) (spec_Rotate.l2 (k + 1) y0 y1 y2 y3 y4 y5 y6 y7 y8 y9 y10 y11 y12))
  | 0 => ⟨fun _ _ _ _ _ _ _ _ r h => by simp [spec_Rotate.j0] at h, fun _ _ _ _ _ _ _ _ _ _ _ r h => by simp [spec_Rotate.j1] at h, fun _ _ _ _ _ _ _ _ _ _ _ r h => by simp [spec_Rotate.l0] at h, fun _ _ _ _ _ _ _ _ _ _ _ _ r h => by simp [spec_Rotate.l1] at h, fun _ _ _ _ _ _ _ _ _ _ _ _ _ r h => by simp [spec_Rotate.l2] at h⟩
  | k + 1 => by
    obtain ⟨ih0, ih1, ih2, ih3, ih4⟩ := spec_Rotate.mono_l k
    refine ⟨?_, ?_, ?_, ?_, ?_⟩
    · intro y0 y1 y2 y3 y4 y5 y6 y7
      unfold spec_Rotate.j0
      repeat' first
      | (with_reducible exact ih0 _ _ _ _ _ _ _ _)
      | (with_reducible exact ih1 _ _ _ _ _ _ _ _ _ _ _)
      | (with_reducible exact ih2 _ _ _ _ _ _ _ _ _ _ _)
      | (with_reducible exact ih3 _ _ _ _ _ _ _ _ _ _ _ _)
      | (with_reducible exact ih4 _ _ _ _ _ _ _ _ _ _ _ _ _)
      | (with_reducible exact spec_ArrayOk.mono _ _ _ _)
      | (with_reducible exact spec_l4Axis.mono _ _ _)
      | (with_reducible exact LeO.refl _)
      | (with_reducible exact LeO.none _)
      | (with_reducible refine LeO.ite ?_ ?_)
      | (with_reducible refine LeO.bind ?_ (fun _ => ?_))
      | exact ih0 _ _ _ _ _ _ _ _
      | exact ih1 _ _ _ _ _ _ _ _ _ _ _
      | exact ih2 _ _ _ _ _ _ _ _ _ _ _
      | exact ih3 _ _ _ _ _ _ _ _ _ _ _ _
      | exact ih4 _ _ _ _ _ _ _ _ _ _ _ _ _
      | exact spec_ArrayOk.mono _ _ _ _
      | exact spec_l4Axis.mono _ _ _
      | exact LeO.none _
      | refine LeO.ite ?_ ?_
      | refine LeO.bind ?_ (fun _ => ?_)
    · intro y0 y1 y2 y3 y4 y5 y6 y7 y8 y9 y10
      unfold spec_Rotate.j1
      repeat' first
      | (with_reducible exact ih0 _ _ _ _ _ _ _ _)
      | (with_reducible exact ih1 _ _ _ _ _ _ _ _ _ _ _)
      | (with_reducible exact ih2 _ _ _ _ _ _ _ _ _ _ _)
      | (with_reducible exact ih3 _ _ _ _ _ _ _ _ _ _ _ _)
      | (with_reducible exact ih4 _ _ _ _ _ _ _ _ _ _ _ _ _)
      | (with_reducible exact spec_ArrayOk.mono _ _ _ _)
      | (with_reducible exact spec_l4Axis.mono _ _ _)
      | (with_reducible exact LeO.refl _)
      | (with_reducible exact LeO.none _)
      | (with_reducible refine LeO.ite ?_ ?_)
      | (with_reducible refine LeO.bind ?_ (fun _ => ?_))
      | exact ih0 _ _ _ _ _ _ _ _
      | exact ih1 _ _ _ _ _ _ _ _ _ _ _
      | exact ih2 _ _ _ _ _ _ _ _ _ _ _
      | exact ih3 _ _ _ _ _ _ _ _ _ _ _ _
      | exact ih4 _ _ _ _ _ _ _ _ _ _ _ _ _
      | exact spec_ArrayOk.mono _ _ _ _
      | exact spec_l4Axis.mono _ _ _
      | exact LeO.none _
      | refine LeO.ite ?_ ?_
      | refine LeO.bind ?_ (fun _ => ?_)
    · intro y0 y1 y2 y3 y4 y5 y6 y7 y8 y9 y10
      unfold spec_Rotate.l0
      repeat' first
      | (with_reducible exact ih0 _ _ _ _ _ _ _ _)
      | (with_reducible exact ih1 _ _ _ _ _ _ _ _ _ _ _)
      | (with_reducible exact ih2 _ _ _ _ _ _ _ _ _ _ _)
      | (with_reducible exact ih3 _ _ _ _ _ _ _ _ _ _ _ _)
      | (with_reducible exact ih4 _ _ _ _ _ _ _ _ _ _ _ _ _)
      | (with_reducible exact spec_ArrayOk.mono _ _ _ _)
      | (with_reducible exact spec_l4Axis.mono _ _ _)
      | (with_reducible exact LeO.refl _)
      | (with_reducible exact LeO.none _)
      | (with_reducible refine LeO.ite ?_ ?_)
      | (with_reducible refine LeO.bind ?_ (fun _ => ?_))
      | exact ih0 _ _ _ _ _ _ _ _
      | exact ih1 _ _ _ _ _ _ _ _ _ _ _
      | exact ih2 _ _ _ _ _ _ _ _ _ _ _
      | exact ih3 _ _ _ _ _ _ _ _ _ _ _ _
      | exact ih4 _ _ _ _ _ _ _ _ _ _ _ _ _
      | exact spec_ArrayOk.mono _ _ _ _
      | exact spec_l4Axis.mono _ _ _
      | exact LeO.none _
      | refine LeO.ite ?_ ?_
      | refine LeO.bind ?_ (fun _ => ?_)
    · intro y0 y1 y2 y3 y4 y5 y6 y7 y8 y9 y10 y11
      unfold spec_Rotate.l1
      repeat' first
      | (with_reducible exact ih0 _ _ _ _ _ _ _ _)
      | (with_reducible exact ih1 _ _ _ _ _ _ _ _ _ _ _)
      | (with_reducible exact ih2 _ _ _ _ _ _ _ _ _ _ _)
      | (with_reducible exact ih3 _ _ _ _ _ _ _ _ _ _ _ _)
      | (with_reducible exact ih4 _ _ _ _ _ _ _ _ _ _ _ _ _)
      | (with_reducible exact spec_ArrayOk.mono _ _ _ _)
      | (with_reducible exact spec_l4Axis.mono _ _ _)
      | (with_reducible exact LeO.refl _)
      | (with_reducible exact LeO.none _)
      | (with_reducible refine LeO.ite ?_ ?_)
      | (with_reducible refine LeO.bind ?_ (fun _ => ?_))
      | exact ih0 _ _ _ _ _ _ _ _
      | exact ih1 _ _ _ _ _ _ _ _ _ _ _
      | exact ih2 _ _ _ _ _ _ _ _ _ _ _
      | exact ih3 _ _ _ _ _ _ _ _ _ _ _ _
      | exact ih4 _ _ _ _ _ _ _ _ _ _ _ _ _
      | exact spec_ArrayOk.mono _ _ _ _
      | exact spec_l4Axis.mono _ _ _
      | exact LeO.none _
      | refine LeO.ite ?_ ?_
      | refine LeO.bind ?_ (fun _ => ?_)
    · intro y0 y1 y2 y3 y4 y5 y6 y7 y8 y9 y10 y11 y12
      unfold spec_Rotate.l2
      repeat' first
      | (with_reducible exact ih0 _ _ _ _ _ _ _ _)
      | (with_reducible exact ih1 _ _ _ _ _ _ _ _ _ _ _)
      | (with_reducible exact ih2 _ _ _ _ _ _ _ _ _ _ _)
      | (with_reducible exact ih3 _ _ _ _ _ _ _ _ _ _ _ _)
      | (with_reducible exact ih4 _ _ _ _ _ _ _ _ _ _ _ _ _)
      | (with_reducible exact spec_ArrayOk.mono _ _ _ _)
      | (with_reducible exact spec_l4Axis.mono _ _ _)
      | (with_reducible exact LeO.refl _)
      | (with_reducible exact LeO.none _)
      | (with_reducible refine LeO.ite ?_ ?_)
      | (with_reducible refine LeO.bind ?_ (fun _ => ?_))
      | exact ih0 _ _ _ _ _ _ _ _
      | exact ih1 _ _ _ _ _ _ _ _ _ _ _
      | exact ih2 _ _ _ _ _ _ _ _ _ _ _
      | exact ih3 _ _ _ _ _ _ _ _ _ _ _ _
      | exact ih4 _ _ _ _ _ _ _ _ _ _ _ _ _
      | exact spec_ArrayOk.mono _ _ _ _
      | exact spec_l4Axis.mono _ _ _
      | exact LeO.none _
      | refine LeO.ite ?_ ?_
      | refine LeO.bind ?_ (fun _ => ?_)
theorem spec_Rotate.mono : ∀ a0 a1 a2 a3 a4 a5 a6 k, LeO (spec_Rotate.f k a0 a1 a2 a3 a4 a5 a6) (spec_Rotate.f (k + 1) a0 a1 a2 a3 a4 a5 a6) := by
  intro a0 a1 a2 a3 a4 a5 a6 k
  obtain ⟨ih0, ih1, ih2, ih3, ih4⟩ := spec_Rotate.mono_l k
  unfold spec_Rotate.f
  repeat' first
      | (with_reducible exact ih0 _ _ _ _ _ _ _ _)
      | (with_reducible exact ih1 _ _ _ _ _ _ _ _ _ _ _)
      | (with_reducible exact ih2 _ _ _ _ _ _ _ _ _ _ _)
      | (with_reducible exact ih3 _ _ _ _ _ _ _ _ _ _ _ _)
      | (with_reducible exact ih4 _ _ _ _ _ _ _ _ _ _ _ _ _)
      | (with_reducible exact spec_ArrayOk.mono _ _ _ _)
      | (with_reducible exact spec_l4Axis.mono _ _ _)
      | (with_reducible exact LeO.refl _)
      | (with_reducible exact LeO.none _)
      | (with_reducible refine LeO.ite ?_ ?_)
      | (with_reducible refine LeO.bind ?_ (fun _ => ?_))
      | exact ih0 _ _ _ _ _ _ _ _
      | exact ih1 _ _ _ _ _ _ _ _ _ _ _
      | exact ih2 _ _ _ _ _ _ _ _ _ _ _
      | exact ih3 _ _ _ _ _ _ _ _ _ _ _ _
      | exact ih4 _ _ _ _ _ _ _ _ _ _ _ _ _
      | exact spec_ArrayOk.mono _ _ _ _
      | exact spec_l4Axis.mono _ _ _
      | exact LeO.none _
      | refine LeO.ite ?_ ?_
      | refine LeO.bind ?_ (fun _ => ?_)
def spec_Rotate.T20 : Bool × List (List Nat × List Nat) := (true, [([], []), ([0], [0]), ([], []), ([], []), ([2, 3], [2, 3]), ([], []), ([4, 5], [4, 5]), ([], []), ([6, 7], [6, 7]), ([], []), ([8, 9], [8, 9]), ([], []), ([11], [11]), ([], []), ([], []), ([13, 14], [13, 14]), ([], []), ([], []), ([16, 17], [16, 17]), ([], []), ([18, 19], [18, 19]), ([15, 20], [15, 20]), ([], []), ([21, 22], [21, 22]), ([], []), ([23, 24], [23, 24]), ([12, 25], [12, 25]), ([26], [26]), ([1, 10, 0, 1, 2, 3, 4, 5, 6, 7, 8, 9, 10, 11, 12, 13, 14, 15, 16, 17, 18, 19, 20, 21, 22, 23, 24, 25, 26, 27], [1, 10]), ([28, 27, 0, 1, 2, 3, 4, 5, 6, 7, 8, 9, 10, 11, 12, 13, 14, 15, 16, 17, 18, 19, 20, 21, 22, 23, 24, 25, 26, 27], [27, 28])])
def spec_Rotate.B20 : List Nat := [0, 1, 0, 0, 12, 0, 60, 0, 252, 0, 1020, 0, 2048, 0, 0, 24576, 0, 0, 196608, 0, 983040, 2088960, 0, 8380416, 0, 33546240, 67106816, 134215680, 268435455, 536870911]
theorem spec_Rotate.tab20 : rtab .any (opsOf Try.f35 20) = spec_Rotate.T20 := by kernel_rfl
theorem spec_Rotate.bits20 : waitsOk spec_Rotate.T20.2 spec_Rotate.B20 = true := by kernel_rfl
set_option maxHeartbeats 8000000 in
set_option maxRecDepth 100000 in
theorem spec_Rotate.calls (k : Nat) (a0_0 : Bool) (A0_1 : Option Addr) (c0_1 : Nat) (l0_1 : List Int) (A0_2 : Option Addr) (c0_2 : Nat) (l0_2 : List Int) (a1_0 : Bool) (A1_1 : Option Addr) (c1_1 : Nat) (l1_1 : List Int) (A1_2 : Option Addr) (c1_2 : Nat) (l1_2 : List Int) (a2 : Bool) (r1 : Bool) (r2 : List Int) (r3 : List Int) (r4 : Int) (w : World) (hr0_1 : Kd.C (Kd.int .i64) w A0_1 l0_1.length l0_1) (hc0_1 : l0_1.length ≤ c0_1) (hr0_2 : Kd.C (Kd.int .i64) w A0_2 l0_2.length l0_2) (hc0_2 : l0_2.length ≤ c0_2) (hr1_1 : Kd.C (Kd.int .i64) w A1_1 l1_1.length l1_1) (hc1_1 : l1_1.length ≤ c1_1) (hr1_2 : Kd.C (Kd.int .i64) w A1_2 l1_2.length l1_2) (hc1_2 : l1_2.length ≤ c1_2) (h : spec_Rotate.f k a0_0 l0_1 l0_2 a1_0 l1_1 l1_2 a2 = some (r1, r2, r3, r4)) :
    Calls Try.prog 35 #[.agg #[.bool a0_0, .slice A0_1 l0_1.length c0_1, .slice A0_2 l0_2.length c0_2], .agg #[.bool a1_0, .slice A1_1 l1_1.length c1_1, .slice A1_2 l1_2.length c1_2], .bool a2] w fun e w' => ∃ v1_ v2_ : Value, e = .returned (.tuple #[.agg #[.bool r1, v1_, v2_], .int .i64 r4]) ∧ Kd.R (Kd.int .i64) 3 w' w.heap.size (fun k_ => some k_ ≠ (v2_ : Value).ownBlock) v1_ r2 ∧ Kd.R (Kd.int .i64) 3 w' w.heap.size (fun k_ => some k_ ≠ (v1_ : Value).ownBlock) v2_ r3 ∧ Below w.heap.size w w' := by
  have hu28 := Try.underlying28
  have HR0_1 := Aside0.mk hr0_1
  have HC0_1 := Aside0.mk hc0_1
  clear hr0_1 hc0_1
  have HR0_2 := Aside0.mk hr0_2
  have HC0_2 := Aside0.mk hc0_2
  clear hr0_2 hc0_2
  have HR1_1 := Aside0.mk hr1_1
  have HC1_1 := Aside0.mk hc1_1
  clear hr1_1 hc1_1
  have HR1_2 := Aside0.mk hr1_2
  have HC1_2 := Aside0.mk hc1_2
  clear hr1_2 hc1_2
  have HB := Aside0.mk (Below.refl w.heap.size w)
  have H : ((spec_ArrayOk.f k a0_0 l0_1 l0_2).bind fun t104 => (if t104 = true then ((spec_ArrayOk.f k a1_0 l1_1 l1_2).bind fun t105 => (spec_Rotate.j0 k a2 (!t105) a0_0 l0_1 l0_2 a1_0 l1_1 l1_2)) else (spec_Rotate.j0 k a2 true a0_0 l0_1 l0_2 a1_0 l1_1 l1_2))) = some (r1, r2, r3, r4) := h
  clear h
  have HC4 := Aside0.mk H
  clear H
  go_enter Try.func35, Try.ntmps35
  go_upto_region 1 with (first | ((with_reducible refine gate_dst (N := 3) rfl ?_); (try (refine gate_guard (by rfl) ?_; dsimp only)); refine box_event ?hg (N := 3) ?hd (cs := #[.bool a0_0, .slice A0_1 l0_1.length c0_1, .slice A0_2 l0_2.length c0_2]) (t := 28) ?hr ?_; (case hd => rfl); (case hg => rfl); (case hr => first | (go_simp; done) | (go_simp; rfl)); intro gb101 hg w5 hbox hb; have n0_ := Aside0.mk (below_step (by repeat (first | (with_reducible first | exact HB.out | apply below_alloc | apply pw_below_drewN | apply below_drew1) | exact HB.out)) hb); have n1_ := Aside0.mk (hbox); have n2_ := Aside0.mk ((by rw [hg]; exact (below_size (by repeat (first | (with_reducible first | exact HB.out | apply below_alloc | apply pw_below_drewN | apply below_drew1) | exact HB.out))) : w.heap.size ≤ gb101)); have n3_ := Aside0.mk ((by rw [hg]; exact (below_size (by repeat (first | (with_reducible first | exact HB.out | apply below_alloc | apply pw_below_drewN | apply below_drew1) | exact HB.out))) : w.heap.size ≤ gb101)); clear HB; have HB := n0_; have BK101 := n1_; have GW101 := n2_; have GE101 := n3_; clear n0_ n1_ n2_ n3_; clear hb hbox hg) | ((with_reducible refine gate_dst (N := 4) rfl ?_); (try (refine gate_guard (by rfl) ?_; dsimp only)); refine box_event ?hg (N := 4) ?hd (cs := #[.bool a1_0, .slice A1_1 l1_1.length c1_1, .slice A1_2 l1_2.length c1_2]) (t := 28) ?hr ?_; (case hd => rfl); (case hg => rfl); (case hr => first | (go_simp; done) | (go_simp; rfl)); intro gb102 hg w6 hbox hb; have n0_ := Aside0.mk (blk_below (g := gb101) (o := .cells #[.bool a0_0, .slice A0_1 l0_1.length c0_1, .slice A0_2 l0_2.length c0_2] 28 (0, 0)) (by (with_reducible repeat (first | refine blk_drewN ?_ _ | refine blk_drew ?_ | refine blk_alloc ?_ _)); exact BK101.out) hb); have n1_ := Aside0.mk (below_step (by repeat (first | (with_reducible first | exact HB.out | apply below_alloc | apply pw_below_drewN | apply below_drew1 | refine below_set ?_ GE101.out) | exact HB.out)) hb); have n2_ := Aside0.mk (hbox); have n3_ := Aside0.mk ((by rw [hg]; exact (below_size (by repeat (first | (with_reducible first | exact HB.out | apply below_alloc | apply pw_below_drewN | apply below_drew1 | refine below_set ?_ GE101.out) | exact HB.out))) : w.heap.size ≤ gb102)); have n4_ := Aside0.mk ((by rw [hg]; exact (below_size (by repeat (first | (with_reducible first | exact HB.out | apply below_alloc | apply pw_below_drewN | apply below_drew1 | refine below_set ?_ GE101.out) | exact HB.out))) : w.heap.size ≤ gb102)); have n5_ := Aside0.mk ((by rw [hg]; exact Nat.ne_of_lt (blk_lt (g := gb101) (o := .cells #[.bool a0_0, .slice A0_1 l0_1.length c0_1, .slice A0_2 l0_2.length c0_2] 28 (0, 0)) (by (with_reducible repeat (first | refine blk_drewN ?_ _ | refine blk_drew ?_ | refine blk_alloc ?_ _)); exact BK101.out)) : gb101 ≠ gb102)); have n6_ := Aside0.mk ((by rw [hg]; exact Nat.ne_of_gt (blk_lt (g := gb101) (o := .cells #[.bool a0_0, .slice A0_1 l0_1.length c0_1, .slice A0_2 l0_2.length c0_2] 28 (0, 0)) (by (with_reducible repeat (first | refine blk_drewN ?_ _ | refine blk_drew ?_ | refine blk_alloc ?_ _)); exact BK101.out)) : gb102 ≠ gb101)); clear BK101; clear HB; have BK101 := n0_; have HB := n1_; have BK102 := n2_; have GW102 := n3_; have GE102 := n4_; have NB101_102 := n5_; have NB102_101 := n6_; clear n0_ n1_ n2_ n3_ n4_ n5_ n6_; clear hb hbox hg) | ((with_reducible refine gate_dst (N := 6) rfl ?_); (try (refine gate_guard (by rfl) ?_; dsimp only)); refine box_event ?hg (N := 6) ?hd (cs := #[.bool false, .slice none 0 0, .slice none 0 0]) (t := 28) ?hr ?_; (case hd => rfl); (case hg => rfl); (case hr => first | (go_simp; done) | (go_simp; rfl)); intro gb103 hg w7 hbox hb; have n0_ := Aside0.mk (blk_below (g := gb101) (o := .cells #[.bool a0_0, .slice A0_1 l0_1.length c0_1, .slice A0_2 l0_2.length c0_2] 28 (0, 0)) (by (with_reducible repeat (first | refine blk_drewN ?_ _ | refine blk_drew ?_ | refine blk_alloc ?_ _)); exact BK101.out) hb); have n1_ := Aside0.mk (blk_below (g := gb102) (o := .cells #[.bool a1_0, .slice A1_1 l1_1.length c1_1, .slice A1_2 l1_2.length c1_2] 28 (0, 0)) (by (with_reducible repeat (first | refine blk_drewN ?_ _ | refine blk_drew ?_ | refine blk_alloc ?_ _)); exact BK102.out) hb); have n2_ := Aside0.mk (below_step (by repeat (first | (with_reducible first | exact HB.out | apply below_alloc | apply pw_below_drewN | apply below_drew1 | refine below_set ?_ GE101.out | refine below_set ?_ GE102.out) | exact HB.out)) hb); have n3_ := Aside0.mk (hbox); have n4_ := Aside0.mk ((by rw [hg]; exact (below_size (by repeat (first | (with_reducible first | exact HB.out | apply below_alloc | apply pw_below_drewN | apply below_drew1 | refine below_set ?_ GE101.out | refine below_set ?_ GE102.out) | exact HB.out))) : w.heap.size ≤ gb103)); have n5_ := Aside0.mk ((by rw [hg]; exact (below_size (by repeat (first | (with_reducible first | exact HB.out | apply below_alloc | apply pw_below_drewN | apply below_drew1 | refine below_set ?_ GE101.out | refine below_set ?_ GE102.out) | exact HB.out))) : w.heap.size ≤ gb103)); have n6_ := Aside0.mk ((by rw [hg]; exact Nat.ne_of_lt (blk_lt (g := gb101) (o := .cells #[.bool a0_0, .slice A0_1 l0_1.length c0_1, .slice A0_2 l0_2.length c0_2] 28 (0, 0)) (by (with_reducible repeat (first | refine blk_drewN ?_ _ | refine blk_drew ?_ | refine blk_alloc ?_ _)); exact BK101.out)) : gb101 ≠ gb103)); have n7_ := Aside0.mk ((by rw [hg]; exact Nat.ne_of_gt (blk_lt (g := gb101) (o := .cells #[.bool a0_0, .slice A0_1 l0_1.length c0_1, .slice A0_2 l0_2.length c0_2] 28 (0, 0)) (by (with_reducible repeat (first | refine blk_drewN ?_ _ | refine blk_drew ?_ | refine blk_alloc ?_ _)); exact BK101.out)) : gb103 ≠ gb101)); have n8_ := Aside0.mk ((by rw [hg]; exact Nat.ne_of_lt (blk_lt (g := gb102) (o := .cells #[.bool a1_0, .slice A1_1 l1_1.length c1_1, .slice A1_2 l1_2.length c1_2] 28 (0, 0)) (by (with_reducible repeat (first | refine blk_drewN ?_ _ | refine blk_drew ?_ | refine blk_alloc ?_ _)); exact BK102.out)) : gb102 ≠ gb103)); have n9_ := Aside0.mk ((by rw [hg]; exact Nat.ne_of_gt (blk_lt (g := gb102) (o := .cells #[.bool a1_0, .slice A1_1 l1_1.length c1_1, .slice A1_2 l1_2.length c1_2] 28 (0, 0)) (by (with_reducible repeat (first | refine blk_drewN ?_ _ | refine blk_drew ?_ | refine blk_alloc ?_ _)); exact BK102.out)) : gb103 ≠ gb102)); clear BK101; clear BK102; clear HB; have BK101 := n0_; have BK102 := n1_; have HB := n2_; have BK103 := n3_; have GW103 := n4_; have GE103 := n5_; have NB101_103 := n6_; have NB103_101 := n7_; have NB102_103 := n8_; have NB103_102 := n9_; clear n0_ n1_ n2_ n3_ n4_ n5_ n6_ n7_ n8_ n9_; clear hb hbox hg))
  (try simp only [Act.put, List.setIfInBounds_toArray, List.set_cons_zero, List.set_cons_succ])
  go_cut [24] (fun v24 wc => ∃ (kq : Nat) (x24_3 : Bool), v24 = .bool x24_3 ∧ Aside0 (spec_Rotate.j0 kq a2 x24_3 a0_0 l0_1 l0_2 a1_0 l1_1 l1_2 = some (r1, r2, r3, r4)) ∧ Aside0 (kq ≤ k) ∧ Aside0 (wc.heap[gb101]? = some (.cells #[.bool a0_0, (.slice A0_1 l0_1.length c0_1), (.slice A0_2 l0_2.length c0_2)] 28 (0, 0))) ∧ Aside0 (wc.heap[gb102]? = some (.cells #[.bool a1_0, (.slice A1_1 l1_1.length c1_1), (.slice A1_2 l1_2.length c1_2)] 28 (0, 0))) ∧ Aside0 (wc.heap[gb103]? = some (.cells #[.bool false, (.slice none 0 0), (.slice none 0 0)] 28 (0, 0))) ∧ Aside0 (Below w.heap.size w wc))
  case first =>
    have H := HC4.out
    clear HC4
    replace H := Option.bind_eq_some_iff.mp H
    obtain ⟨t104, A80, H⟩ := H
    replace H : (if t104 = true then ((spec_ArrayOk.f k a1_0 l1_1 l1_2).bind fun t105 => (spec_Rotate.j0 k a2 (!t105) a0_0 l0_1 l0_2 a1_0 l1_1 l1_2)) else (spec_Rotate.j0 k a2 true a0_0 l0_1 l0_2 a1_0 l1_1 l1_2)) = some (r1, r2, r3, r4) := H
    have A8 := Aside0.mk A80
    clear A80
    by_cases c9 : t104 = true
    · subst c9
      have H1 : ((spec_ArrayOk.f k a1_0 l1_1 l1_2).bind fun t105 => (spec_Rotate.j0 k a2 (!t105) a0_0 l0_1 l0_2 a1_0 l1_1 l1_2)) = some (r1, r2, r3, r4) := by rw [if_pos rfl] at H; exact H
      clear H
      have H := H1
      clear H1
      replace H := Option.bind_eq_some_iff.mp H
      obtain ⟨t105, A100, H⟩ := H
      replace H : (spec_Rotate.j0 k a2 (!t105) a0_0 l0_1 l0_2 a1_0 l1_1 l1_2) = some (r1, r2, r3, r4) := H
      have A10 := Aside0.mk A100
      clear A100
      have H' := Aside0.mk H
      clear H
      have hnb11 := NB101_102.out
      have hnc11 := NB102_101.out
      have hnb12 := NB101_103.out
      have hnc12 := NB103_101.out
      have hcz13_0 : w7.cell? ⟨gb101, 0, none⟩ = some (.bool a0_0) := (blk_cell BK101.out 0).trans rfl
      have hcz13_1 : w7.cell? ⟨gb101, 1, none⟩ = some (.slice A0_1 l0_1.length c0_1) := (blk_cell BK101.out 1).trans rfl
      have hcz13_2 : w7.cell? ⟨gb101, 2, none⟩ = some (.slice A0_2 l0_2.length c0_2) := (blk_cell BK101.out 2).trans rfl
      have hfz13_0 := blk_frozen BK101.out 0
      have hfz13_1 := blk_frozen BK101.out 1
      have hfz13_2 := blk_frozen BK101.out 2
      go_wp2_with (first | ((with_reducible refine gate_callee (f := 47) rfl ?_); refine goesL_ (some 18) rfl rfl Try.func47 (by kernel_rfl) rfl #[.agg #[.bool a0_0, .slice A0_1 l0_1.length c0_1, .slice A0_2 l0_2.length c0_2]] rfl (by (try simp only [List.map_toArray, List.map_cons, List.map_nil]); first | done | rfl | (simp only [List.length_drop, List.length_take]; rfl)) ?_; (with_reducible refine (spec_ArrayOk.calls k a0_0 _ _ l0_1 _ _ l0_2 true _ ?side1 ?side2 ?side3 ?side4 A8.out).mono ?_); (case side1 => repeat (first | exact (Kd.C_below HR0_1.out HB.out) | (with_reducible refine Kd.C_alloc ?_ _) | (with_reducible refine Kd.C_drewN ?_ _) | (with_reducible refine Kd.C_drew ?_))); (case side2 => exact HC0_1.out); (case side3 => repeat (first | exact (Kd.C_below HR0_2.out HB.out) | (with_reducible refine Kd.C_alloc ?_ _) | (with_reducible refine Kd.C_drewN ?_ _) | (with_reducible refine Kd.C_drew ?_))); (case side4 => exact HC0_2.out); rintro e w14 ⟨rfl, hb⟩; refine ⟨_, rfl, ?_⟩; have n0_ := Aside0.mk (blk_below (g := gb101) (o := .cells #[.bool a0_0, .slice A0_1 l0_1.length c0_1, .slice A0_2 l0_2.length c0_2] 28 (0, 0)) (by (with_reducible repeat (first | refine blk_drewN ?_ _ | refine blk_drew ?_ | refine blk_alloc ?_ _)); exact BK101.out) hb); have n1_ := Aside0.mk (blk_below (g := gb102) (o := .cells #[.bool a1_0, .slice A1_1 l1_1.length c1_1, .slice A1_2 l1_2.length c1_2] 28 (0, 0)) (by (with_reducible repeat (first | refine blk_drewN ?_ _ | refine blk_drew ?_ | refine blk_alloc ?_ _)); exact BK102.out) hb); have n2_ := Aside0.mk (blk_below (g := gb103) (o := .cells #[.bool false, .slice none 0 0, .slice none 0 0] 28 (0, 0)) (by (with_reducible repeat (first | refine blk_drewN ?_ _ | refine blk_drew ?_ | refine blk_alloc ?_ _)); exact BK103.out) hb); have n3_ := Aside0.mk (below_step (by repeat (first | (with_reducible first | exact HB.out | apply below_alloc | apply pw_below_drewN | apply below_drew1 | refine below_set ?_ GE101.out | refine below_set ?_ GE102.out | refine below_set ?_ GE103.out) | exact HB.out)) hb); clear BK101; clear BK102; clear BK103; clear HB; have BK101 := n0_; have BK102 := n1_; have BK103 := n2_; have HB := n3_; clear n0_ n1_ n2_ n3_; (try clear hb); (try clear hb2); (try clear hk); (try clear hi); have hnb15 := NB102_103.out; have hnc15 := NB103_102.out; have hcz16_0 : w14.cell? ⟨gb102, 0, none⟩ = some (.bool a1_0) := (blk_cell BK102.out 0).trans rfl; have hcz16_1 : w14.cell? ⟨gb102, 1, none⟩ = some (.slice A1_1 l1_1.length c1_1) := (blk_cell BK102.out 1).trans rfl; have hcz16_2 : w14.cell? ⟨gb102, 2, none⟩ = some (.slice A1_2 l1_2.length c1_2) := (blk_cell BK102.out 2).trans rfl; have hfz16_0 := blk_frozen BK102.out 0; have hfz16_1 := blk_frozen BK102.out 1; have hfz16_2 := blk_frozen BK102.out 2) | (go_at_call 47; (with_reducible refine (spec_ArrayOk.calls k a1_0 _ _ l1_1 _ _ l1_2 t105 _ ?side1 ?side2 ?side3 ?side4 A10.out).mono ?_); (case side1 => repeat (first | exact (Kd.C_below HR1_1.out HB.out) | (with_reducible refine Kd.C_alloc ?_ _) | (with_reducible refine Kd.C_drewN ?_ _) | (with_reducible refine Kd.C_drew ?_))); (case side2 => exact HC1_1.out); (case side3 => repeat (first | exact (Kd.C_below HR1_2.out HB.out) | (with_reducible refine Kd.C_alloc ?_ _) | (with_reducible refine Kd.C_drewN ?_ _) | (with_reducible refine Kd.C_drew ?_))); (case side4 => exact HC1_2.out); rintro e w17 ⟨rfl, hb⟩; have n0_ := Aside0.mk (blk_below (g := gb101) (o := .cells #[.bool a0_0, .slice A0_1 l0_1.length c0_1, .slice A0_2 l0_2.length c0_2] 28 (0, 0)) (by (with_reducible repeat (first | refine blk_drewN ?_ _ | refine blk_drew ?_ | refine blk_alloc ?_ _)); exact BK101.out) hb); have n1_ := Aside0.mk (blk_below (g := gb102) (o := .cells #[.bool a1_0, .slice A1_1 l1_1.length c1_1, .slice A1_2 l1_2.length c1_2] 28 (0, 0)) (by (with_reducible repeat (first | refine blk_drewN ?_ _ | refine blk_drew ?_ | refine blk_alloc ?_ _)); exact BK102.out) hb); have n2_ := Aside0.mk (blk_below (g := gb103) (o := .cells #[.bool false, .slice none 0 0, .slice none 0 0] 28 (0, 0)) (by (with_reducible repeat (first | refine blk_drewN ?_ _ | refine blk_drew ?_ | refine blk_alloc ?_ _)); exact BK103.out) hb); have n3_ := Aside0.mk (below_step (by repeat (first | (with_reducible first | exact HB.out | apply below_alloc | apply pw_below_drewN | apply below_drew1 | refine below_set ?_ GE101.out | refine below_set ?_ GE102.out | refine below_set ?_ GE103.out) | exact HB.out)) hb); clear BK101; clear BK102; clear BK103; clear HB; have BK101 := n0_; have BK102 := n1_; have BK103 := n2_; have HB := n3_; clear n0_ n1_ n2_ n3_; (try clear hb); (try clear hb2); (try clear hk); (try clear hi)))
      go_meet
      case rel => exact ⟨_, (!t105), (by first | rfl | (simp; done) | (simp [*]; done)), H', ⟨by first | omega | exact Nat.le_refl _⟩, ⟨by (with_reducible repeat (first | refine blk_drewN ?_ _ | refine blk_drew ?_ | refine blk_alloc ?_ _)); exact BK101.out⟩, ⟨by (with_reducible repeat (first | refine blk_drewN ?_ _ | refine blk_drew ?_ | refine blk_alloc ?_ _)); exact BK102.out⟩, ⟨by (with_reducible repeat (first | refine blk_drewN ?_ _ | refine blk_drew ?_ | refine blk_alloc ?_ _)); exact BK103.out⟩, ⟨by repeat (first | (with_reducible first | exact HB.out | apply below_alloc | apply pw_below_drewN | apply below_drew1 | refine below_set ?_ GE101.out | refine below_set ?_ GE102.out | refine below_set ?_ GE103.out) | exact HB.out)⟩⟩
    · replace c9 := Bool.eq_false_iff.mpr c9
      subst c9
      have H1 : (spec_Rotate.j0 k a2 true a0_0 l0_1 l0_2 a1_0 l1_1 l1_2) = some (r1, r2, r3, r4) := by rw [if_neg (show ¬ (false = true) by decide)] at H; exact H
      clear H
      have H := H1
      clear H1
      have H' := Aside0.mk H
      clear H
      have hnb18 := NB101_102.out
      have hnc18 := NB102_101.out
      have hnb19 := NB101_103.out
      have hnc19 := NB103_101.out
      have hcz20_0 : w7.cell? ⟨gb101, 0, none⟩ = some (.bool a0_0) := (blk_cell BK101.out 0).trans rfl
      have hcz20_1 : w7.cell? ⟨gb101, 1, none⟩ = some (.slice A0_1 l0_1.length c0_1) := (blk_cell BK101.out 1).trans rfl
      have hcz20_2 : w7.cell? ⟨gb101, 2, none⟩ = some (.slice A0_2 l0_2.length c0_2) := (blk_cell BK101.out 2).trans rfl
      have hfz20_0 := blk_frozen BK101.out 0
      have hfz20_1 := blk_frozen BK101.out 1
      have hfz20_2 := blk_frozen BK101.out 2
      go_wp2_with (first | ((with_reducible refine gate_callee (f := 47) rfl ?_); refine goesL_ (some 18) rfl rfl Try.func47 (by kernel_rfl) rfl #[.agg #[.bool a0_0, .slice A0_1 l0_1.length c0_1, .slice A0_2 l0_2.length c0_2]] rfl (by (try simp only [List.map_toArray, List.map_cons, List.map_nil]); first | done | rfl | (simp only [List.length_drop, List.length_take]; rfl)) ?_; (with_reducible refine (spec_ArrayOk.calls k a0_0 _ _ l0_1 _ _ l0_2 false _ ?side1 ?side2 ?side3 ?side4 A8.out).mono ?_); (case side1 => repeat (first | exact (Kd.C_below HR0_1.out HB.out) | (with_reducible refine Kd.C_alloc ?_ _) | (with_reducible refine Kd.C_drewN ?_ _) | (with_reducible refine Kd.C_drew ?_))); (case side2 => exact HC0_1.out); (case side3 => repeat (first | exact (Kd.C_below HR0_2.out HB.out) | (with_reducible refine Kd.C_alloc ?_ _) | (with_reducible refine Kd.C_drewN ?_ _) | (with_reducible refine Kd.C_drew ?_))); (case side4 => exact HC0_2.out); rintro e w21 ⟨rfl, hb⟩; refine ⟨_, rfl, ?_⟩; have n0_ := Aside0.mk (blk_below (g := gb101) (o := .cells #[.bool a0_0, .slice A0_1 l0_1.length c0_1, .slice A0_2 l0_2.length c0_2] 28 (0, 0)) (by (with_reducible repeat (first | refine blk_drewN ?_ _ | refine blk_drew ?_ | refine blk_alloc ?_ _)); exact BK101.out) hb); have n1_ := Aside0.mk (blk_below (g := gb102) (o := .cells #[.bool a1_0, .slice A1_1 l1_1.length c1_1, .slice A1_2 l1_2.length c1_2] 28 (0, 0)) (by (with_reducible repeat (first | refine blk_drewN ?_ _ | refine blk_drew ?_ | refine blk_alloc ?_ _)); exact BK102.out) hb); have n2_ := Aside0.mk (blk_below (g := gb103) (o := .cells #[.bool false, .slice none 0 0, .slice none 0 0] 28 (0, 0)) (by (with_reducible repeat (first | refine blk_drewN ?_ _ | refine blk_drew ?_ | refine blk_alloc ?_ _)); exact BK103.out) hb); have n3_ := Aside0.mk (below_step (by repeat (first | (with_reducible first | exact HB.out | apply below_alloc | apply pw_below_drewN | apply below_drew1 | refine below_set ?_ GE101.out | refine below_set ?_ GE102.out | refine below_set ?_ GE103.out) | exact HB.out)) hb); clear BK101; clear BK102; clear BK103; clear HB; have BK101 := n0_; have BK102 := n1_; have BK103 := n2_; have HB := n3_; clear n0_ n1_ n2_ n3_; (try clear hb); (try clear hb2); (try clear hk); (try clear hi)))
      go_meet
      case rel => exact ⟨_, (true), (by first | rfl | (simp; done) | (simp [*]; done)), H', ⟨by first | omega | exact Nat.le_refl _⟩, ⟨by (with_reducible repeat (first | refine blk_drewN ?_ _ | refine blk_drew ?_ | refine blk_alloc ?_ _)); exact BK101.out⟩, ⟨by (with_reducible repeat (first | refine blk_drewN ?_ _ | refine blk_drew ?_ | refine blk_alloc ?_ _)); exact BK102.out⟩, ⟨by (with_reducible repeat (first | refine blk_drewN ?_ _ | refine blk_drew ?_ | refine blk_alloc ?_ _)); exact BK103.out⟩, ⟨by repeat (first | (with_reducible first | exact HB.out | apply below_alloc | apply pw_below_drewN | apply below_drew1 | refine below_set ?_ GE101.out | refine below_set ?_ GE102.out | refine below_set ?_ GE103.out) | exact HB.out)⟩⟩
  case rest =>
    clear HC4
    try clear c1
    try clear p2
    try clear c3
    try clear c4
    try clear c9
    try clear c11
    try clear c12
    try clear c15
    try clear c18
    try clear c19
    try clear hcz13_0
    try clear hcz13_1
    try clear hcz13_2
    try clear hcz16_0
    try clear hcz16_1
    try clear hcz16_2
    try clear hcz20_0
    try clear hcz20_1
    try clear hcz20_2
    try clear hfz13_0
    try clear hfz13_1
    try clear hfz13_2
    try clear hfz16_0
    try clear hfz16_1
    try clear hfz16_2
    try clear hfz20_0
    try clear hfz20_1
    try clear hfz20_2
    obtain ⟨kq, x24_3, rfl, HA, HJ3, BK101, BK102, BK103, HB⟩ := hcut
    cases kq with
    | zero => exact absurd HA.out (by simp [spec_Rotate.j0])
    | succ kj3 =>
      have H := HA.out
      clear HA
      simp only [spec_Rotate.j0] at H
      by_cases c22 : x24_3 = true
      · subst c22
        have H1 : ((spec_l4None.f).bind fun bt106 => (some (bt106.1, bt106.2.1, bt106.2.2, 3))) = some (r1, r2, r3, r4) := by rw [if_pos rfl] at H; exact H
        clear H
        have H := H1
        clear H1
        replace H := Option.bind_eq_some_iff.mp H
        obtain ⟨⟨t106, t107, t110⟩, A230, H⟩ := H
        replace H : (some (t106, t107, t110, 3)) = some (r1, r2, r3, r4) := H
        have A23 := Aside0.mk A230
        clear A230
        simp only [Option.some.injEq, Prod.mk.injEq] at H
        obtain ⟨rfl, rfl, rfl, rfl⟩ := H
        go_wp2_with (first | ((with_reducible refine gate_callee (f := 53) rfl ?_); refine goesL_ (some 25) rfl rfl Try.func53 (by kernel_rfl) rfl #[] rfl (by (try simp only [List.map_toArray, List.map_cons, List.map_nil]); first | done | rfl | (simp only [List.length_drop, List.length_take]; rfl)) ?_; (with_reducible refine (spec_l4None.calls  t106 t107 t110 _ A23.out).mono ?_); rintro e w24 ⟨v108, v111, rfl, ho0, ho1, hb⟩; refine ⟨_, rfl, ?_⟩; have n0_ := Aside0.mk (Kd.R_lower ho0 (below_size (by repeat (first | (with_reducible first | exact HB.out | apply below_alloc | apply pw_below_drewN | apply below_drew1 | refine below_set ?_ GE101.out | refine below_set ?_ GE102.out | refine below_set ?_ GE103.out) | exact HB.out)))); have n1_ := Aside0.mk (Kd.R_lower ho1 (below_size (by repeat (first | (with_reducible first | exact HB.out | apply below_alloc | apply pw_below_drewN | apply below_drew1 | refine below_set ?_ GE101.out | refine below_set ?_ GE102.out | refine below_set ?_ GE103.out) | exact HB.out)))); have n2_ := Aside0.mk (blk_below (g := gb101) (o := .cells #[.bool a0_0, .slice A0_1 l0_1.length c0_1, .slice A0_2 l0_2.length c0_2] 28 (0, 0)) (by (with_reducible repeat (first | refine blk_drewN ?_ _ | refine blk_drew ?_ | refine blk_alloc ?_ _)); exact BK101.out) hb); have n3_ := Aside0.mk (blk_below (g := gb102) (o := .cells #[.bool a1_0, .slice A1_1 l1_1.length c1_1, .slice A1_2 l1_2.length c1_2] 28 (0, 0)) (by (with_reducible repeat (first | refine blk_drewN ?_ _ | refine blk_drew ?_ | refine blk_alloc ?_ _)); exact BK102.out) hb); have n4_ := Aside0.mk (blk_below (g := gb103) (o := .cells #[.bool false, .slice none 0 0, .slice none 0 0] 28 (0, 0)) (by (with_reducible repeat (first | refine blk_drewN ?_ _ | refine blk_drew ?_ | refine blk_alloc ?_ _)); exact BK103.out) hb); have n5_ := Aside0.mk (below_step (by repeat (first | (with_reducible first | exact HB.out | apply below_alloc | apply pw_below_drewN | apply below_drew1 | refine below_set ?_ GE101.out | refine below_set ?_ GE102.out | refine below_set ?_ GE103.out) | exact HB.out)) hb); clear BK101; clear BK102; clear BK103; clear HB; have HO109 := n0_; have HO112 := n1_; have BK101 := n2_; have BK102 := n3_; have BK103 := n4_; have HB := n5_; clear n0_ n1_ n2_ n3_ n4_ n5_; (try clear hb); (try clear hb2); (try clear hk); (try clear hi); (try clear ho0); (try clear ho1); have hnb25 := NB103_101.out; have hnc25 := NB101_103.out; have hnb26 := NB103_102.out; have hnc26 := NB102_103.out; have hcz27_0 : w24.cell? ⟨gb103, 0, none⟩ = some (.bool false) := (blk_cell BK103.out 0).trans rfl; have hcz27_1 : w24.cell? ⟨gb103, 1, none⟩ = some (.slice none 0 0) := (blk_cell BK103.out 1).trans rfl; have hcz27_2 : w24.cell? ⟨gb103, 2, none⟩ = some (.slice none 0 0) := (blk_cell BK103.out 2).trans rfl; have hfz27_0 := blk_frozen BK103.out 0; have hfz27_1 := blk_frozen BK103.out 1; have hfz27_2 := blk_frozen BK103.out 2; obtain ⟨Ao28, co28, eo28⟩ := Kd.R_slice HO109.out; subst eo28; obtain ⟨Ao29, co29, eo29⟩ := Kd.R_slice HO112.out; subst eo29))
        refine bodyPost_ret (results_ct rfl _ _ gb103 28 #[.bool t106, .slice Ao28 t107.length co28, .slice Ao29 t110.length co29] (0, 0) _ rfl (by (with_reducible repeat (first | refine blk_drewN ?_ _ | refine blk_drew ?_ | refine blk_alloc ?_ _)); refine blk_put (cs := #[.bool t106, .slice Ao28 t107.length co28, .slice none 0 0]) ?_ 2 _ rfl; (with_reducible repeat (first | refine blk_drewN ?_ _ | refine blk_drew ?_ | refine blk_alloc ?_ _)); refine blk_put (cs := #[.bool t106, .slice none 0 0, .slice none 0 0]) ?_ 1 _ rfl; (with_reducible repeat (first | refine blk_drewN ?_ _ | refine blk_drew ?_ | refine blk_alloc ?_ _)); refine blk_put (cs := #[.bool false, .slice none 0 0, .slice none 0 0]) ?_ 0 _ rfl; (with_reducible repeat (first | refine blk_drewN ?_ _ | refine blk_drew ?_ | refine blk_alloc ?_ _)); exact BK103.out) Try.underlying28 rfl (by kernel_rfl)) rfl ?_
        exact ⟨_, _, by first | rfl | (simp [errW_none, errW_some] <;> rfl) | (simp [*, errW_none, errW_some] <;> rfl), by (with_reducible repeat (first | apply Kd.R_alloc | apply Kd.R_drewN | apply Kd.R_drew)); exact Kd.R_mono (Kd.R_far (p := ⟨gb103, 2, none⟩) (Kd.R_far (p := ⟨gb103, 1, none⟩) (Kd.R_far (p := ⟨gb103, 0, none⟩) (Kd.R_types HO109.out BK103.out (by decide)) (fun _ hk => hk.2) (.bool t106)) (fun _ hk => hk.2) (.slice Ao28 t107.length co28)) (fun _ hk => hk.2) (.slice Ao29 t110.length co29)) (fun _ hk => hk.1), by (with_reducible repeat (first | apply Kd.R_alloc | apply Kd.R_drewN | apply Kd.R_drew)); exact Kd.R_mono (Kd.R_far (p := ⟨gb103, 2, none⟩) (Kd.R_far (p := ⟨gb103, 1, none⟩) (Kd.R_far (p := ⟨gb103, 0, none⟩) (Kd.R_types HO112.out BK103.out (by decide)) (fun _ hk => hk.2) (.bool t106)) (fun _ hk => hk.2) (.slice Ao28 t107.length co28)) (fun _ hk => hk.2) (.slice Ao29 t110.length co29)) (fun _ hk => hk.1), by repeat (first | (with_reducible first | exact HB.out | apply below_alloc | apply pw_below_drewN | apply below_drew1 | refine below_set ?_ GE101.out | refine below_set ?_ GE102.out | refine below_set ?_ GE103.out) | exact HB.out)⟩
      · replace c22 := Bool.eq_false_iff.mpr c22
        subst c22
        have H1 : ((spec_l5Single.f a0_0 l0_1 l0_2).bind fun t113 => (if t113 = 0 then ((spec_l3Copy.f a1_0 l1_1 l1_2).bind fun bt121 => (if (l1_1.length : Int) = 0 then (spec_Rotate.j1 kj3 a2 true a0_0 l0_1 l0_2 a1_0 l1_1 l1_2 bt121.1 bt121.2.1 bt121.2.2) else (spec_Rotate.j1 kj3 a2 ((l1_2.length : Int) == 0) a0_0 l0_1 l0_2 a1_0 l1_1 l1_2 bt121.1 bt121.2.1 bt121.2.2))) else ((spec_l4None.f).bind fun bt114 => (some (bt114.1, bt114.2.1, bt114.2.2, t113))))) = some (r1, r2, r3, r4) := by rw [if_neg (show ¬ (false = true) by decide)] at H; exact H
        clear H
        have H := H1
        clear H1
        replace H := Option.bind_eq_some_iff.mp H
        obtain ⟨t113, A300, H⟩ := H
        replace H : (if t113 = 0 then ((spec_l3Copy.f a1_0 l1_1 l1_2).bind fun bt121 => (if (l1_1.length : Int) = 0 then (spec_Rotate.j1 kj3 a2 true a0_0 l0_1 l0_2 a1_0 l1_1 l1_2 bt121.1 bt121.2.1 bt121.2.2) else (spec_Rotate.j1 kj3 a2 ((l1_2.length : Int) == 0) a0_0 l0_1 l0_2 a1_0 l1_1 l1_2 bt121.1 bt121.2.1 bt121.2.2))) else ((spec_l4None.f).bind fun bt114 => (some (bt114.1, bt114.2.1, bt114.2.2, t113)))) = some (r1, r2, r3, r4) := H
        have A30 := Aside0.mk A300
        clear A300
        by_cases c31 : t113 = 0
        · rw [if_pos c31] at H
          have c31b0 : (t113 == 0) = true := beq_iff_eq.mpr c31
          have c31b1 : (t113 != 0) = false := bne_eq_false_iff_eq.mpr c31
          clear c31
          replace H := Option.bind_eq_some_iff.mp H
          obtain ⟨⟨t121, t122, t125⟩, A320, H⟩ := H
          replace H : (if (l1_1.length : Int) = 0 then (spec_Rotate.j1 kj3 a2 true a0_0 l0_1 l0_2 a1_0 l1_1 l1_2 t121 t122 t125) else (spec_Rotate.j1 kj3 a2 ((l1_2.length : Int) == 0) a0_0 l0_1 l0_2 a1_0 l1_1 l1_2 t121 t122 t125)) = some (r1, r2, r3, r4) := H
          have A32 := Aside0.mk A320
          clear A320
          have HC33 := Aside0.mk H
          clear H
          have hnb34 := NB101_102.out
          have hnc34 := NB102_101.out
          have hnb35 := NB101_103.out
          have hnc35 := NB103_101.out
          have hcz36_0 : wc.cell? ⟨gb101, 0, none⟩ = some (.bool a0_0) := (blk_cell BK101.out 0).trans rfl
          have hcz36_1 : wc.cell? ⟨gb101, 1, none⟩ = some (.slice A0_1 l0_1.length c0_1) := (blk_cell BK101.out 1).trans rfl
          have hcz36_2 : wc.cell? ⟨gb101, 2, none⟩ = some (.slice A0_2 l0_2.length c0_2) := (blk_cell BK101.out 2).trans rfl
          have hfz36_0 := blk_frozen BK101.out 0
          have hfz36_1 := blk_frozen BK101.out 1
          have hfz36_2 := blk_frozen BK101.out 2
          go_upto_region 7 with (first | ((with_reducible refine gate_callee (f := 80) rfl ?_); refine goesL_ (some 27) rfl rfl Try.func80 (by kernel_rfl) rfl #[.agg #[.bool a0_0, .slice A0_1 l0_1.length c0_1, .slice A0_2 l0_2.length c0_2]] rfl (by (try simp only [List.map_toArray, List.map_cons, List.map_nil]); first | done | rfl | (simp only [List.length_drop, List.length_take]; rfl)) ?_; (with_reducible refine (spec_l5Single.calls a0_0 _ _ l0_1 _ _ l0_2 t113 _ ?side1 ?side2 ?side3 ?side4 A30.out).mono ?_); (case side1 => repeat (first | exact (Kd.C_below HR0_1.out HB.out) | (with_reducible refine Kd.C_alloc ?_ _) | (with_reducible refine Kd.C_drewN ?_ _) | (with_reducible refine Kd.C_drew ?_))); (case side2 => exact HC0_1.out); (case side3 => repeat (first | exact (Kd.C_below HR0_2.out HB.out) | (with_reducible refine Kd.C_alloc ?_ _) | (with_reducible refine Kd.C_drewN ?_ _) | (with_reducible refine Kd.C_drew ?_))); (case side4 => exact HC0_2.out); rintro e w37 ⟨rfl, hb⟩; refine ⟨_, rfl, ?_⟩; have n0_ := Aside0.mk (blk_below (g := gb101) (o := .cells #[.bool a0_0, .slice A0_1 l0_1.length c0_1, .slice A0_2 l0_2.length c0_2] 28 (0, 0)) (by (with_reducible repeat (first | refine blk_drewN ?_ _ | refine blk_drew ?_ | refine blk_alloc ?_ _)); exact BK101.out) hb); have n1_ := Aside0.mk (blk_below (g := gb102) (o := .cells #[.bool a1_0, .slice A1_1 l1_1.length c1_1, .slice A1_2 l1_2.length c1_2] 28 (0, 0)) (by (with_reducible repeat (first | refine blk_drewN ?_ _ | refine blk_drew ?_ | refine blk_alloc ?_ _)); exact BK102.out) hb); have n2_ := Aside0.mk (blk_below (g := gb103) (o := .cells #[.bool false, .slice none 0 0, .slice none 0 0] 28 (0, 0)) (by (with_reducible repeat (first | refine blk_drewN ?_ _ | refine blk_drew ?_ | refine blk_alloc ?_ _)); exact BK103.out) hb); have n3_ := Aside0.mk (below_step (by repeat (first | (with_reducible first | exact HB.out | apply below_alloc | apply pw_below_drewN | apply below_drew1 | refine below_set ?_ GE101.out | refine below_set ?_ GE102.out | refine below_set ?_ GE103.out) | exact HB.out)) hb); clear BK101; clear BK102; clear BK103; clear HB; have BK101 := n0_; have BK102 := n1_; have BK103 := n2_; have HB := n3_; clear n0_ n1_ n2_ n3_; (try clear hb); (try clear hb2); (try clear hk); (try clear hi); have hnb38 := NB102_103.out; have hnc38 := NB103_102.out; have hcz39_0 : w37.cell? ⟨gb102, 0, none⟩ = some (.bool a1_0) := (blk_cell BK102.out 0).trans rfl; have hcz39_1 : w37.cell? ⟨gb102, 1, none⟩ = some (.slice A1_1 l1_1.length c1_1) := (blk_cell BK102.out 1).trans rfl; have hcz39_2 : w37.cell? ⟨gb102, 2, none⟩ = some (.slice A1_2 l1_2.length c1_2) := (blk_cell BK102.out 2).trans rfl; have hfz39_0 := blk_frozen BK102.out 0; have hfz39_1 := blk_frozen BK102.out 1; have hfz39_2 := blk_frozen BK102.out 2) | ((with_reducible refine gate_callee (f := 81) rfl ?_); refine goesL_ (some 33) rfl rfl Try.func81 (by kernel_rfl) rfl #[.agg #[.bool a1_0, .slice A1_1 l1_1.length c1_1, .slice A1_2 l1_2.length c1_2]] rfl (by (try simp only [List.map_toArray, List.map_cons, List.map_nil]); first | done | rfl | (simp only [List.length_drop, List.length_take]; rfl)) ?_; (with_reducible refine (spec_l3Copy.calls a1_0 _ _ l1_1 _ _ l1_2 t121 t122 t125 _ ?side1 ?side2 ?side3 ?side4 A32.out).mono ?_); (case side1 => repeat (first | exact (Kd.C_below HR1_1.out HB.out) | (with_reducible refine Kd.C_alloc ?_ _) | (with_reducible refine Kd.C_drewN ?_ _) | (with_reducible refine Kd.C_drew ?_))); (case side2 => exact HC1_1.out); (case side3 => repeat (first | exact (Kd.C_below HR1_2.out HB.out) | (with_reducible refine Kd.C_alloc ?_ _) | (with_reducible refine Kd.C_drewN ?_ _) | (with_reducible refine Kd.C_drew ?_))); (case side4 => exact HC1_2.out); rintro e w40 ⟨v123, v126, rfl, ho0, ho1, hb⟩; refine ⟨_, rfl, ?_⟩; have n0_ := Aside0.mk (Kd.R_lower ho0 (below_size (by repeat (first | (with_reducible first | exact HB.out | apply below_alloc | apply pw_below_drewN | apply below_drew1 | refine below_set ?_ GE101.out | refine below_set ?_ GE102.out | refine below_set ?_ GE103.out) | exact HB.out)))); have n1_ := Aside0.mk (Kd.R_lower ho1 (below_size (by repeat (first | (with_reducible first | exact HB.out | apply below_alloc | apply pw_below_drewN | apply below_drew1 | refine below_set ?_ GE101.out | refine below_set ?_ GE102.out | refine below_set ?_ GE103.out) | exact HB.out)))); have n2_ := Aside0.mk (blk_below (g := gb101) (o := .cells #[.bool a0_0, .slice A0_1 l0_1.length c0_1, .slice A0_2 l0_2.length c0_2] 28 (0, 0)) (by (with_reducible repeat (first | refine blk_drewN ?_ _ | refine blk_drew ?_ | refine blk_alloc ?_ _)); exact BK101.out) hb); have n3_ := Aside0.mk (blk_below (g := gb102) (o := .cells #[.bool a1_0, .slice A1_1 l1_1.length c1_1, .slice A1_2 l1_2.length c1_2] 28 (0, 0)) (by (with_reducible repeat (first | refine blk_drewN ?_ _ | refine blk_drew ?_ | refine blk_alloc ?_ _)); exact BK102.out) hb); have n4_ := Aside0.mk (blk_below (g := gb103) (o := .cells #[.bool false, .slice none 0 0, .slice none 0 0] 28 (0, 0)) (by (with_reducible repeat (first | refine blk_drewN ?_ _ | refine blk_drew ?_ | refine blk_alloc ?_ _)); exact BK103.out) hb); have n5_ := Aside0.mk (below_step (by repeat (first | (with_reducible first | exact HB.out | apply below_alloc | apply pw_below_drewN | apply below_drew1 | refine below_set ?_ GE101.out | refine below_set ?_ GE102.out | refine below_set ?_ GE103.out) | exact HB.out)) hb); clear BK101; clear BK102; clear BK103; clear HB; have HO124 := n0_; have HO127 := n1_; have BK101 := n2_; have BK102 := n3_; have BK103 := n4_; have HB := n5_; clear n0_ n1_ n2_ n3_ n4_ n5_; (try clear hb); (try clear hb2); (try clear hk); (try clear hi); (try clear ho0); (try clear ho1)) | ((with_reducible refine gate_dst (N := 9) rfl ?_); (try (refine gate_guard (by rfl) ?_; dsimp only)); refine box_event ?hg (N := 9) ?hd (cs := #[.bool false, .slice none 0 0, .slice none 0 0]) (t := 28) ?hr ?_; (case hd => rfl); (case hg => rfl); (case hr => first | (go_simp; done) | (go_simp; rfl)); intro gb128 hg w41 hbox hb; have n0_ := Aside0.mk (Kd.R_below (by (with_reducible repeat (first | apply Kd.R_alloc | apply Kd.R_drewN | apply Kd.R_drew)); exact HO124.out) hb); have n1_ := Aside0.mk (Kd.R_below (by (with_reducible repeat (first | apply Kd.R_alloc | apply Kd.R_drewN | apply Kd.R_drew)); exact HO127.out) hb); have n2_ := Aside0.mk (blk_below (g := gb101) (o := .cells #[.bool a0_0, .slice A0_1 l0_1.length c0_1, .slice A0_2 l0_2.length c0_2] 28 (0, 0)) (by (with_reducible repeat (first | refine blk_drewN ?_ _ | refine blk_drew ?_ | refine blk_alloc ?_ _)); exact BK101.out) hb); have n3_ := Aside0.mk (blk_below (g := gb102) (o := .cells #[.bool a1_0, .slice A1_1 l1_1.length c1_1, .slice A1_2 l1_2.length c1_2] 28 (0, 0)) (by (with_reducible repeat (first | refine blk_drewN ?_ _ | refine blk_drew ?_ | refine blk_alloc ?_ _)); exact BK102.out) hb); have n4_ := Aside0.mk (blk_below (g := gb103) (o := .cells #[.bool false, .slice none 0 0, .slice none 0 0] 28 (0, 0)) (by (with_reducible repeat (first | refine blk_drewN ?_ _ | refine blk_drew ?_ | refine blk_alloc ?_ _)); exact BK103.out) hb); have n5_ := Aside0.mk (below_step (by repeat (first | (with_reducible first | exact HB.out | apply below_alloc | apply pw_below_drewN | apply below_drew1 | refine below_set ?_ GE101.out | refine below_set ?_ GE102.out | refine below_set ?_ GE103.out) | exact HB.out)) hb); have n6_ := Aside0.mk (hbox); have n7_ := Aside0.mk ((by rw [hg]; exact (below_size (by repeat (first | (with_reducible first | exact HB.out | apply below_alloc | apply pw_below_drewN | apply below_drew1 | refine below_set ?_ GE101.out | refine below_set ?_ GE102.out | refine below_set ?_ GE103.out) | exact HB.out))) : w.heap.size ≤ gb128)); have n8_ := Aside0.mk ((by rw [hg]; exact (below_size (by repeat (first | (with_reducible first | exact HB.out | apply below_alloc | apply pw_below_drewN | apply below_drew1 | refine below_set ?_ GE101.out | refine below_set ?_ GE102.out | refine below_set ?_ GE103.out) | exact HB.out))) : w.heap.size ≤ gb128)); have n9_ := Aside0.mk ((by rw [hg]; exact Nat.ne_of_lt (blk_lt (g := gb101) (o := .cells #[.bool a0_0, .slice A0_1 l0_1.length c0_1, .slice A0_2 l0_2.length c0_2] 28 (0, 0)) (by (with_reducible repeat (first | refine blk_drewN ?_ _ | refine blk_drew ?_ | refine blk_alloc ?_ _)); exact BK101.out)) : gb101 ≠ gb128)); have n10_ := Aside0.mk ((by rw [hg]; exact Nat.ne_of_gt (blk_lt (g := gb101) (o := .cells #[.bool a0_0, .slice A0_1 l0_1.length c0_1, .slice A0_2 l0_2.length c0_2] 28 (0, 0)) (by (with_reducible repeat (first | refine blk_drewN ?_ _ | refine blk_drew ?_ | refine blk_alloc ?_ _)); exact BK101.out)) : gb128 ≠ gb101)); have n11_ := Aside0.mk ((by rw [hg]; exact Nat.ne_of_lt (blk_lt (g := gb102) (o := .cells #[.bool a1_0, .slice A1_1 l1_1.length c1_1, .slice A1_2 l1_2.length c1_2] 28 (0, 0)) (by (with_reducible repeat (first | refine blk_drewN ?_ _ | refine blk_drew ?_ | refine blk_alloc ?_ _)); exact BK102.out)) : gb102 ≠ gb128)); have n12_ := Aside0.mk ((by rw [hg]; exact Nat.ne_of_gt (blk_lt (g := gb102) (o := .cells #[.bool a1_0, .slice A1_1 l1_1.length c1_1, .slice A1_2 l1_2.length c1_2] 28 (0, 0)) (by (with_reducible repeat (first | refine blk_drewN ?_ _ | refine blk_drew ?_ | refine blk_alloc ?_ _)); exact BK102.out)) : gb128 ≠ gb102)); have n13_ := Aside0.mk ((by rw [hg]; exact Nat.ne_of_lt (blk_lt (g := gb103) (o := .cells #[.bool false, .slice none 0 0, .slice none 0 0] 28 (0, 0)) (by (with_reducible repeat (first | refine blk_drewN ?_ _ | refine blk_drew ?_ | refine blk_alloc ?_ _)); exact BK103.out)) : gb103 ≠ gb128)); have n14_ := Aside0.mk ((by rw [hg]; exact Nat.ne_of_gt (blk_lt (g := gb103) (o := .cells #[.bool false, .slice none 0 0, .slice none 0 0] 28 (0, 0)) (by (with_reducible repeat (first | refine blk_drewN ?_ _ | refine blk_drew ?_ | refine blk_alloc ?_ _)); exact BK103.out)) : gb128 ≠ gb103)); clear HO124; clear HO127; clear BK101; clear BK102; clear BK103; clear HB; have HO124 := n0_; have HO127 := n1_; have BK101 := n2_; have BK102 := n3_; have BK103 := n4_; have HB := n5_; have BK128 := n6_; have GW128 := n7_; have GE128 := n8_; have NB101_128 := n9_; have NB128_101 := n10_; have NB102_128 := n11_; have NB128_102 := n12_; have NB103_128 := n13_; have NB128_103 := n14_; clear n0_ n1_ n2_ n3_ n4_ n5_ n6_ n7_ n8_ n9_ n10_ n11_ n12_ n13_ n14_; clear hb hbox hg; have hnb42 := NB128_101.out; have hnc42 := NB101_128.out; have hnb43 := NB128_102.out; have hnc43 := NB102_128.out; have hnb44 := NB128_103.out; have hnc44 := NB103_128.out; have hcz45_0 : w41.cell? ⟨gb128, 0, none⟩ = some (.bool false) := (blk_cell BK128.out 0).trans rfl; have hcz45_1 : w41.cell? ⟨gb128, 1, none⟩ = some (.slice none 0 0) := (blk_cell BK128.out 1).trans rfl; have hcz45_2 : w41.cell? ⟨gb128, 2, none⟩ = some (.slice none 0 0) := (blk_cell BK128.out 2).trans rfl; have hfz45_0 := blk_frozen BK128.out 0; have hfz45_1 := blk_frozen BK128.out 1; have hfz45_2 := blk_frozen BK128.out 2; obtain ⟨Ao46, co46, eo46⟩ := Kd.R_slice HO124.out; subst eo46; obtain ⟨Ao47, co47, eo47⟩ := Kd.R_slice HO127.out; subst eo47))
          (try simp only [Act.put, List.setIfInBounds_toArray, List.set_cons_zero, List.set_cons_succ])
          go_cut [43] (fun v43 wc => ∃ (kq : Nat) (x43_32 : Bool), v43 = .bool x43_32 ∧ Aside0 (spec_Rotate.j1 kq a2 x43_32 a0_0 l0_1 l0_2 a1_0 l1_1 l1_2 t121 t122 t125 = some (r1, r2, r3, r4)) ∧ Aside0 (kq ≤ kj3) ∧ Aside0 (Kd.R (Kd.int .i64) 3 wc w.heap.size (fun k_ => some k_ ≠ ((.slice Ao47 t125.length co47) : Value).ownBlock) (.slice Ao46 t122.length co46) t122) ∧ Aside0 (Kd.R (Kd.int .i64) 3 wc w.heap.size (fun k_ => some k_ ≠ ((.slice Ao46 t122.length co46) : Value).ownBlock) (.slice Ao47 t125.length co47) t125) ∧ Aside0 (wc.heap[gb101]? = some (.cells #[.bool a0_0, (.slice A0_1 l0_1.length c0_1), (.slice A0_2 l0_2.length c0_2)] 28 (0, 0))) ∧ Aside0 (wc.heap[gb102]? = some (.cells #[.bool a1_0, (.slice A1_1 l1_1.length c1_1), (.slice A1_2 l1_2.length c1_2)] 28 (0, 0))) ∧ Aside0 (wc.heap[gb103]? = some (.cells #[.bool false, (.slice none 0 0), (.slice none 0 0)] 28 (0, 0))) ∧ Aside0 (wc.heap[gb128]? = some (.cells #[.bool t121, (.slice Ao46 t122.length co46), (.slice Ao47 t125.length co47)] 28 (0, 0))) ∧ Aside0 (Below w.heap.size w wc))
          case first =>
            have H := HC33.out
            clear HC33
            by_cases c48 : (l1_1.length : Int) = 0
            · rw [if_pos c48] at H
              have c48b0 : ((l1_1.length : Int) == 0) = true := beq_iff_eq.mpr c48
              have c48b1 : ((l1_1.length : Int) != 0) = false := bne_eq_false_iff_eq.mpr c48
              clear c48
              (first | rw [c48b0] | (simp only [i64_w, i32_w]; rw [c48b0]) | skip)
              have H' := Aside0.mk H
              clear H
              have hnb49 := NB102_101.out
              have hnc49 := NB101_102.out
              have hnb50 := NB102_103.out
              have hnc50 := NB103_102.out
              have hnb51 := NB102_128.out
              have hnc51 := NB128_102.out
              have hcz52_0 : w41.cell? ⟨gb102, 0, none⟩ = some (.bool a1_0) := (blk_cell BK102.out 0).trans rfl
              have hcz52_1 : w41.cell? ⟨gb102, 1, none⟩ = some (.slice A1_1 l1_1.length c1_1) := (blk_cell BK102.out 1).trans rfl
              have hcz52_2 : w41.cell? ⟨gb102, 2, none⟩ = some (.slice A1_2 l1_2.length c1_2) := (blk_cell BK102.out 2).trans rfl
              have hfz52_0 := blk_frozen BK102.out 0
              have hfz52_1 := blk_frozen BK102.out 1
              have hfz52_2 := blk_frozen BK102.out 2
              go_wp2
              go_meet
              case rel => exact ⟨_, (true), (by first | rfl | (simp; done) | (simp [*]; done)), H', ⟨by have := HJ3.out; first | omega | exact Nat.le_refl _⟩, ⟨by (with_reducible repeat (first | apply Kd.R_alloc | apply Kd.R_drewN | apply Kd.R_drew)); exact Kd.R_mono (Kd.R_far (p := ⟨gb128, 2, none⟩) (Kd.R_far (p := ⟨gb128, 1, none⟩) (Kd.R_far (p := ⟨gb128, 0, none⟩) (Kd.R_types HO124.out BK128.out (by decide)) (fun _ hk => hk.2) (.bool t121)) (fun _ hk => hk.2) (.slice Ao46 t122.length co46)) (fun _ hk => hk.2) (.slice Ao47 t125.length co47)) (fun _ hk => hk.1)⟩, ⟨by (with_reducible repeat (first | apply Kd.R_alloc | apply Kd.R_drewN | apply Kd.R_drew)); exact Kd.R_mono (Kd.R_far (p := ⟨gb128, 2, none⟩) (Kd.R_far (p := ⟨gb128, 1, none⟩) (Kd.R_far (p := ⟨gb128, 0, none⟩) (Kd.R_types HO127.out BK128.out (by decide)) (fun _ hk => hk.2) (.bool t121)) (fun _ hk => hk.2) (.slice Ao46 t122.length co46)) (fun _ hk => hk.2) (.slice Ao47 t125.length co47)) (fun _ hk => hk.1)⟩, ⟨by (with_reducible repeat (first | refine blk_drewN ?_ _ | refine blk_drew ?_ | refine blk_alloc ?_ _)); refine blk_far ?_ NB101_128.out _; (with_reducible repeat (first | refine blk_drewN ?_ _ | refine blk_drew ?_ | refine blk_alloc ?_ _)); refine blk_far ?_ NB101_128.out _; (with_reducible repeat (first | refine blk_drewN ?_ _ | refine blk_drew ?_ | refine blk_alloc ?_ _)); refine blk_far ?_ NB101_128.out _; (with_reducible repeat (first | refine blk_drewN ?_ _ | refine blk_drew ?_ | refine blk_alloc ?_ _)); exact BK101.out⟩, ⟨by (with_reducible repeat (first | refine blk_drewN ?_ _ | refine blk_drew ?_ | refine blk_alloc ?_ _)); refine blk_far ?_ NB102_128.out _; (with_reducible repeat (first | refine blk_drewN ?_ _ | refine blk_drew ?_ | refine blk_alloc ?_ _)); refine blk_far ?_ NB102_128.out _; (with_reducible repeat (first | refine blk_drewN ?_ _ | refine blk_drew ?_ | refine blk_alloc ?_ _)); refine blk_far ?_ NB102_128.out _; (with_reducible repeat (first | refine blk_drewN ?_ _ | refine blk_drew ?_ | refine blk_alloc ?_ _)); exact BK102.out⟩, ⟨by (with_reducible repeat (first | refine blk_drewN ?_ _ | refine blk_drew ?_ | refine blk_alloc ?_ _)); refine blk_far ?_ NB103_128.out _; (with_reducible repeat (first | refine blk_drewN ?_ _ | refine blk_drew ?_ | refine blk_alloc ?_ _)); refine blk_far ?_ NB103_128.out _; (with_reducible repeat (first | refine blk_drewN ?_ _ | refine blk_drew ?_ | refine blk_alloc ?_ _)); refine blk_far ?_ NB103_128.out _; (with_reducible repeat (first | refine blk_drewN ?_ _ | refine blk_drew ?_ | refine blk_alloc ?_ _)); exact BK103.out⟩, ⟨by (with_reducible repeat (first | refine blk_drewN ?_ _ | refine blk_drew ?_ | refine blk_alloc ?_ _)); refine blk_put (cs := #[.bool t121, .slice Ao46 t122.length co46, .slice none 0 0]) ?_ 2 _ rfl; (with_reducible repeat (first | refine blk_drewN ?_ _ | refine blk_drew ?_ | refine blk_alloc ?_ _)); refine blk_put (cs := #[.bool t121, .slice none 0 0, .slice none 0 0]) ?_ 1 _ rfl; (with_reducible repeat (first | refine blk_drewN ?_ _ | refine blk_drew ?_ | refine blk_alloc ?_ _)); refine blk_put (cs := #[.bool false, .slice none 0 0, .slice none 0 0]) ?_ 0 _ rfl; (with_reducible repeat (first | refine blk_drewN ?_ _ | refine blk_drew ?_ | refine blk_alloc ?_ _)); exact BK128.out⟩, ⟨by repeat (first | (with_reducible first | exact HB.out | apply below_alloc | apply pw_below_drewN | apply below_drew1 | refine below_set ?_ GE101.out | refine below_set ?_ GE102.out | refine below_set ?_ GE103.out | refine below_set ?_ GE128.out) | exact HB.out)⟩⟩
            · rw [if_neg c48] at H
              have c48b0 : ((l1_1.length : Int) == 0) = false := beq_eq_false_iff_ne.mpr c48
              have c48b1 : ((l1_1.length : Int) != 0) = true := bne_iff_ne.mpr c48
              have c48b2 : ¬ (l1_1 = []) := fun h_ => c48 (by rw [h_]; rfl)
              (first | rw [c48b0] | (simp only [i64_w, i32_w]; rw [c48b0]) | skip)
              have H' := Aside0.mk H
              clear H
              have hnb53 := NB102_101.out
              have hnc53 := NB101_102.out
              have hnb54 := NB102_103.out
              have hnc54 := NB103_102.out
              have hnb55 := NB102_128.out
              have hnc55 := NB128_102.out
              have hcz56_0 : w41.cell? ⟨gb102, 0, none⟩ = some (.bool a1_0) := (blk_cell BK102.out 0).trans rfl
              have hcz56_1 : w41.cell? ⟨gb102, 1, none⟩ = some (.slice A1_1 l1_1.length c1_1) := (blk_cell BK102.out 1).trans rfl
              have hcz56_2 : w41.cell? ⟨gb102, 2, none⟩ = some (.slice A1_2 l1_2.length c1_2) := (blk_cell BK102.out 2).trans rfl
              have hfz56_0 := blk_frozen BK102.out 0
              have hfz56_1 := blk_frozen BK102.out 1
              have hfz56_2 := blk_frozen BK102.out 2
              go_wp2
              go_meet
              case rel => exact ⟨_, (((l1_2.length : Int) == 0)), (by first | rfl | (simp; done) | (simp [*]; done)), H', ⟨by have := HJ3.out; first | omega | exact Nat.le_refl _⟩, ⟨by (with_reducible repeat (first | apply Kd.R_alloc | apply Kd.R_drewN | apply Kd.R_drew)); exact Kd.R_mono (Kd.R_far (p := ⟨gb128, 2, none⟩) (Kd.R_far (p := ⟨gb128, 1, none⟩) (Kd.R_far (p := ⟨gb128, 0, none⟩) (Kd.R_types HO124.out BK128.out (by decide)) (fun _ hk => hk.2) (.bool t121)) (fun _ hk => hk.2) (.slice Ao46 t122.length co46)) (fun _ hk => hk.2) (.slice Ao47 t125.length co47)) (fun _ hk => hk.1)⟩, ⟨by (with_reducible repeat (first | apply Kd.R_alloc | apply Kd.R_drewN | apply Kd.R_drew)); exact Kd.R_mono (Kd.R_far (p := ⟨gb128, 2, none⟩) (Kd.R_far (p := ⟨gb128, 1, none⟩) (Kd.R_far (p := ⟨gb128, 0, none⟩) (Kd.R_types HO127.out BK128.out (by decide)) (fun _ hk => hk.2) (.bool t121)) (fun _ hk => hk.2) (.slice Ao46 t122.length co46)) (fun _ hk => hk.2) (.slice Ao47 t125.length co47)) (fun _ hk => hk.1)⟩, ⟨by (with_reducible repeat (first | refine blk_drewN ?_ _ | refine blk_drew ?_ | refine blk_alloc ?_ _)); refine blk_far ?_ NB101_128.out _; (with_reducible repeat (first | refine blk_drewN ?_ _ | refine blk_drew ?_ | refine blk_alloc ?_ _)); refine blk_far ?_ NB101_128.out _; (with_reducible repeat (first | refine blk_drewN ?_ _ | refine blk_drew ?_ | refine blk_alloc ?_ _)); refine blk_far ?_ NB101_128.out _; (with_reducible repeat (first | refine blk_drewN ?_ _ | refine blk_drew ?_ | refine blk_alloc ?_ _)); exact BK101.out⟩, ⟨by (with_reducible repeat (first | refine blk_drewN ?_ _ | refine blk_drew ?_ | refine blk_alloc ?_ _)); refine blk_far ?_ NB102_128.out _; (with_reducible repeat (first | refine blk_drewN ?_ _ | refine blk_drew ?_ | refine blk_alloc ?_ _)); refine blk_far ?_ NB102_128.out _; (with_reducible repeat (first | refine blk_drewN ?_ _ | refine blk_drew ?_ | refine blk_alloc ?_ _)); refine blk_far ?_ NB102_128.out _; (with_reducible repeat (first | refine blk_drewN ?_ _ | refine blk_drew ?_ | refine blk_alloc ?_ _)); exact BK102.out⟩, ⟨by (with_reducible repeat (first | refine blk_drewN ?_ _ | refine blk_drew ?_ | refine blk_alloc ?_ _)); refine blk_far ?_ NB103_128.out _; (with_reducible repeat (first | refine blk_drewN ?_ _ | refine blk_drew ?_ | refine blk_alloc ?_ _)); refine blk_far ?_ NB103_128.out _; (with_reducible repeat (first | refine blk_drewN ?_ _ | refine blk_drew ?_ | refine blk_alloc ?_ _)); refine blk_far ?_ NB103_128.out _; (with_reducible repeat (first | refine blk_drewN ?_ _ | refine blk_drew ?_ | refine blk_alloc ?_ _)); exact BK103.out⟩, ⟨by (with_reducible repeat (first | refine blk_drewN ?_ _ | refine blk_drew ?_ | refine blk_alloc ?_ _)); refine blk_put (cs := #[.bool t121, .slice Ao46 t122.length co46, .slice none 0 0]) ?_ 2 _ rfl; (with_reducible repeat (first | refine blk_drewN ?_ _ | refine blk_drew ?_ | refine blk_alloc ?_ _)); refine blk_put (cs := #[.bool t121, .slice none 0 0, .slice none 0 0]) ?_ 1 _ rfl; (with_reducible repeat (first | refine blk_drewN ?_ _ | refine blk_drew ?_ | refine blk_alloc ?_ _)); refine blk_put (cs := #[.bool false, .slice none 0 0, .slice none 0 0]) ?_ 0 _ rfl; (with_reducible repeat (first | refine blk_drewN ?_ _ | refine blk_drew ?_ | refine blk_alloc ?_ _)); exact BK128.out⟩, ⟨by repeat (first | (with_reducible first | exact HB.out | apply below_alloc | apply pw_below_drewN | apply below_drew1 | refine below_set ?_ GE101.out | refine below_set ?_ GE102.out | refine below_set ?_ GE103.out | refine below_set ?_ GE128.out) | exact HB.out)⟩⟩
          case rest =>
            clear HC33
            try clear c1
            try clear c2
            try clear p2
            try clear c3
            try clear c4
            try clear c5
            try clear c8
            try clear c9
            try clear c11
            try clear c12
            try clear c15
            try clear c18
            try clear c19
            try clear c22
            try clear c25
            try clear c26
            try clear c31
            try clear c31b0
            try clear c31b1
            try clear c34
            try clear c35
            try clear c38
            try clear c42
            try clear c43
            try clear c44
            try clear c47
            try clear c48
            try clear c48b0
            try clear c48b1
            try clear c48b2
            try clear c49
            try clear c50
            try clear c51
            try clear c53
            try clear c54
            try clear c55
            try clear hcz13_0
            try clear hcz13_1
            try clear hcz13_2
            try clear hcz16_0
            try clear hcz16_1
            try clear hcz16_2
            try clear hcz20_0
            try clear hcz20_1
            try clear hcz20_2
            try clear hcz27_0
            try clear hcz27_1
            try clear hcz27_2
            try clear hcz36_0
            try clear hcz36_1
            try clear hcz36_2
            try clear hcz39_0
            try clear hcz39_1
            try clear hcz39_2
            try clear hcz45_0
            try clear hcz45_1
            try clear hcz45_2
            try clear hcz52_0
            try clear hcz52_1
            try clear hcz52_2
            try clear hcz56_0
            try clear hcz56_1
            try clear hcz56_2
            try clear hfz13_0
            try clear hfz13_1
            try clear hfz13_2
            try clear hfz16_0
            try clear hfz16_1
            try clear hfz16_2
            try clear hfz20_0
            try clear hfz20_1
            try clear hfz20_2
            try clear hfz27_0
            try clear hfz27_1
            try clear hfz27_2
            try clear hfz36_0
            try clear hfz36_1
            try clear hfz36_2
            try clear hfz39_0
            try clear hfz39_1
            try clear hfz39_2
            try clear hfz45_0
            try clear hfz45_1
            try clear hfz45_2
            try clear hfz52_0
            try clear hfz52_1
            try clear hfz52_2
            try clear hfz56_0
            try clear hfz56_1
            try clear hfz56_2
            try clear p2
            obtain ⟨kq, x43_32, rfl, HA, HJ32, HO_129001, HO_129002, BK101, BK102, BK103, BK128, HB⟩ := hcut
            cases kq with
            | zero => exact absurd HA.out (by simp [spec_Rotate.j1])
            | succ kj32 =>
              have H := HA.out
              clear HA
              simp only [spec_Rotate.j1] at H
              by_cases c57 : x43_32 = true
              · subst c57
                have H1 : (some (t121, t122, t125, 0)) = some (r1, r2, r3, r4) := by rw [if_pos rfl] at H; exact H
                clear H
                have H := H1
                clear H1
                simp only [Option.some.injEq, Prod.mk.injEq] at H
                obtain ⟨rfl, rfl, rfl, rfl⟩ := H
                have hnb58 := NB128_101.out
                have hnc58 := NB101_128.out
                have hnb59 := NB128_102.out
                have hnc59 := NB102_128.out
                have hnb60 := NB128_103.out
                have hnc60 := NB103_128.out
                have hcz61_0 : wc.cell? ⟨gb128, 0, none⟩ = some (.bool t121) := (blk_cell BK128.out 0).trans rfl
                have hcz61_1 : wc.cell? ⟨gb128, 1, none⟩ = some (.slice Ao46 t122.length co46) := (blk_cell BK128.out 1).trans rfl
                have hcz61_2 : wc.cell? ⟨gb128, 2, none⟩ = some (.slice Ao47 t125.length co47) := (blk_cell BK128.out 2).trans rfl
                have hfz61_0 := blk_frozen BK128.out 0
                have hfz61_1 := blk_frozen BK128.out 1
                have hfz61_2 := blk_frozen BK128.out 2
                have hnb62 := NB103_101.out
                have hnc62 := NB101_103.out
                have hnb63 := NB103_102.out
                have hnc63 := NB102_103.out
                have hcz64_0 : wc.cell? ⟨gb103, 0, none⟩ = some (.bool false) := (blk_cell BK103.out 0).trans rfl
                have hcz64_1 : wc.cell? ⟨gb103, 1, none⟩ = some (.slice none 0 0) := (blk_cell BK103.out 1).trans rfl
                have hcz64_2 : wc.cell? ⟨gb103, 2, none⟩ = some (.slice none 0 0) := (blk_cell BK103.out 2).trans rfl
                have hfz64_0 := blk_frozen BK103.out 0
                have hfz64_1 := blk_frozen BK103.out 1
                have hfz64_2 := blk_frozen BK103.out 2
                go_wp2
                refine bodyPost_ret (results_ct rfl _ _ gb103 28 #[.bool t121, .slice Ao46 t122.length co46, .slice Ao47 t125.length co47] (0, 0) _ rfl (by (with_reducible repeat (first | refine blk_drewN ?_ _ | refine blk_drew ?_ | refine blk_alloc ?_ _)); refine blk_put (cs := #[.bool t121, .slice Ao46 t122.length co46, .slice none 0 0]) ?_ 2 _ rfl; (with_reducible repeat (first | refine blk_drewN ?_ _ | refine blk_drew ?_ | refine blk_alloc ?_ _)); refine blk_put (cs := #[.bool t121, .slice none 0 0, .slice none 0 0]) ?_ 1 _ rfl; (with_reducible repeat (first | refine blk_drewN ?_ _ | refine blk_drew ?_ | refine blk_alloc ?_ _)); refine blk_put (cs := #[.bool false, .slice none 0 0, .slice none 0 0]) ?_ 0 _ rfl; (with_reducible repeat (first | refine blk_drewN ?_ _ | refine blk_drew ?_ | refine blk_alloc ?_ _)); exact BK103.out) Try.underlying28 rfl (by kernel_rfl)) rfl ?_
                exact ⟨_, _, by first | rfl | (simp [errW_none, errW_some] <;> rfl) | (simp [*, errW_none, errW_some] <;> rfl), by (with_reducible repeat (first | apply Kd.R_alloc | apply Kd.R_drewN | apply Kd.R_drew)); exact Kd.R_mono (Kd.R_far (p := ⟨gb103, 2, none⟩) (Kd.R_far (p := ⟨gb103, 1, none⟩) (Kd.R_far (p := ⟨gb103, 0, none⟩) (Kd.R_types HO_129001.out BK103.out (by decide)) (fun _ hk => hk.2) (.bool t121)) (fun _ hk => hk.2) (.slice Ao46 t122.length co46)) (fun _ hk => hk.2) (.slice Ao47 t125.length co47)) (fun _ hk => hk.1), by (with_reducible repeat (first | apply Kd.R_alloc | apply Kd.R_drewN | apply Kd.R_drew)); exact Kd.R_mono (Kd.R_far (p := ⟨gb103, 2, none⟩) (Kd.R_far (p := ⟨gb103, 1, none⟩) (Kd.R_far (p := ⟨gb103, 0, none⟩) (Kd.R_types HO_129002.out BK103.out (by decide)) (fun _ hk => hk.2) (.bool t121)) (fun _ hk => hk.2) (.slice Ao46 t122.length co46)) (fun _ hk => hk.2) (.slice Ao47 t125.length co47)) (fun _ hk => hk.1), by repeat (first | (with_reducible first | exact HB.out | apply below_alloc | apply pw_below_drewN | apply below_drew1 | refine below_set ?_ GE101.out | refine below_set ?_ GE102.out | refine below_set ?_ GE103.out | refine below_set ?_ GE128.out) | exact HB.out)⟩
              · replace c57 := Bool.eq_false_iff.mpr c57
                subst c57
                have H1 : ((spec_l4Axis.f kj32 l1_1 a2).bind fun bt129 => (if 0 < (l0_2.length : Int) then ((spec_l4Mod.f bt129.2.1 (rd l0_2 0)).bind fun t133 => (spec_Rotate.l0 kj32 bt129.1 bt129.2.1 bt129.2.2 t133 0 a1_0 l1_1 l1_2 t121 t122 t125)) else (none))) = some (r1, r2, r3, r4) := by rw [if_neg (show ¬ (false = true) by decide)] at H; exact H
                clear H
                have H := H1
                clear H1
                replace H := Option.bind_eq_some_iff.mp H
                obtain ⟨⟨t129, t130, t131⟩, A650, H⟩ := H
                replace H : (if 0 < (l0_2.length : Int) then ((spec_l4Mod.f t130 (rd l0_2 0)).bind fun t133 => (spec_Rotate.l0 kj32 t129 t130 t131 t133 0 a1_0 l1_1 l1_2 t121 t122 t125)) else (none)) = some (r1, r2, r3, r4) := H
                have A65 := Aside0.mk A650
                clear A650
                by_cases c66 : 0 < (l0_2.length : Int)
                · rw [if_pos c66] at H
                  have c66b0 : decide (0 < (l0_2.length : Int)) = true := decide_eq_true c66
                  have c66b1 : decide (0 < l0_2.length) = true := decide_eq_true (by omega)
                  clear c66
                  replace H := Option.bind_eq_some_iff.mp H
                  obtain ⟨t133, A670, H⟩ := H
                  replace H : (spec_Rotate.l0 kj32 t129 t130 t131 t133 0 a1_0 l1_1 l1_2 t121 t122 t125) = some (r1, r2, r3, r4) := H
                  have A67 := Aside0.mk A670
                  clear A670
                  have H' := Aside0.mk H
                  clear H
                  have hnb68 := NB102_101.out
                  have hnc68 := NB101_102.out
                  have hnb69 := NB102_103.out
                  have hnc69 := NB103_102.out
                  have hnb70 := NB102_128.out
                  have hnc70 := NB128_102.out
                  have hcz71_0 : wc.cell? ⟨gb102, 0, none⟩ = some (.bool a1_0) := (blk_cell BK102.out 0).trans rfl
                  have hcz71_1 : wc.cell? ⟨gb102, 1, none⟩ = some (.slice A1_1 l1_1.length c1_1) := (blk_cell BK102.out 1).trans rfl
                  have hcz71_2 : wc.cell? ⟨gb102, 2, none⟩ = some (.slice A1_2 l1_2.length c1_2) := (blk_cell BK102.out 2).trans rfl
                  have hfz71_0 := blk_frozen BK102.out 0
                  have hfz71_1 := blk_frozen BK102.out 1
                  have hfz71_2 := blk_frozen BK102.out 2
                  go_wp2_with (first | ((with_reducible refine gate_callee (f := 82) rfl ?_); refine goesL_ (some 49) rfl rfl Try.func82 (by kernel_rfl) rfl #[.slice A1_1 l1_1.length c1_1, .bool a2] rfl (by (try simp only [List.map_toArray, List.map_cons, List.map_nil]); first | done | rfl | (simp only [List.length_drop, List.length_take]; rfl)) ?_; (with_reducible refine (spec_l4Axis.calls kj32 _ _ l1_1 a2 t129 t130 t131 _ ?side1 ?side2 A65.out).mono ?_); (case side1 => repeat (first | exact (Kd.C_below HR1_1.out HB.out) | (with_reducible refine Kd.C_alloc ?_ _) | (with_reducible refine Kd.C_drewN ?_ _) | (with_reducible refine Kd.C_drew ?_))); (case side2 => exact HC1_1.out); rintro e w' ⟨rfl, ⟨nd, rfl⟩⟩; refine ⟨_, rfl, ?_⟩; have hnb72 := NB101_103.out; have hnc72 := NB103_101.out; have hnb73 := NB101_128.out; have hnc73 := NB128_101.out; have hcz74_0 : wc.cell? ⟨gb101, 0, none⟩ = some (.bool a0_0) := (blk_cell BK101.out 0).trans rfl; have hcz74_1 : wc.cell? ⟨gb101, 1, none⟩ = some (.slice A0_1 l0_1.length c0_1) := (blk_cell BK101.out 1).trans rfl; have hcz74_2 : wc.cell? ⟨gb101, 2, none⟩ = some (.slice A0_2 l0_2.length c0_2) := (blk_cell BK101.out 2).trans rfl; have hfz74_0 := blk_frozen BK101.out 0; have hfz74_1 := blk_frozen BK101.out 1; have hfz74_2 := blk_frozen BK101.out 2; have p132 : 0 ≤ (0 : Int) := (by omega); have q132 : 0 < (l0_2.length : Int) := of_decide_eq_true (by first | (with_reducible assumption) | assumption); obtain ⟨ad132, e132, hx132_0⟩ := Kd.at_int HR0_2.out 0 p132 q132; cases e132; have qi132 : (0 < l0_2.length) = True := eq_true (by omega); (try rw [show ((0 : Int)).toNat = 0 from rfl] at hx132_0); (try rw [Addr.add_zero'] at hx132_0); replace hx132_0 := (HB.out.cell (World.block_lt_of_cell? w _ hx132_0)).trans hx132_0; replace p132 := eq_true p132; replace q132 := eq_true q132) | ((with_reducible refine gate_callee (f := 83) rfl ?_); refine goesL_ (some 58) rfl rfl Try.func83 (by kernel_rfl) rfl #[.int .i64 t130, .int .i64 (rd l0_2 0)] rfl (by (try simp only [List.map_toArray, List.map_cons, List.map_nil]); first | done | rfl | (simp only [List.length_drop, List.length_take]; rfl)) ?_; (with_reducible refine (spec_l4Mod.calls t130 (rd l0_2 0) t133 _ A67.out).mono ?_); rintro e w' ⟨rfl, ⟨nd, rfl⟩⟩; refine ⟨_, rfl, ?_⟩))
                  go_loopg [14] kj32 (fun kq v14 w' => ∃ (x14_3 : Int) (x129001_3 : List Int) (x129002_3 : List Int) (u129001 : Value) (u129002 : Value), v14 = .int .i64 x14_3 ∧ Aside0 (spec_Rotate.l0 kq t129 t130 t131 t133 x14_3 a1_0 l1_1 l1_2 t121 x129001_3 x129002_3 = some (r1, r2, r3, r4)) ∧ Aside0 (kq ≤ kj32) ∧ Aside0 (Kd.R (Kd.int .i64) 3 w' w.heap.size (fun k_ => some k_ ≠ (u129002 : Value).ownBlock) u129001 x129001_3) ∧ Aside0 (Kd.R (Kd.int .i64) 3 w' w.heap.size (fun k_ => some k_ ≠ (u129001 : Value).ownBlock) u129002 x129002_3) ∧ Aside0 (w'.heap[gb101]? = some (.cells #[.bool a0_0, (.slice A0_1 l0_1.length c0_1), (.slice (some ad132) l0_2.length c0_2)] 28 (0, 0))) ∧ Aside0 (w'.heap[gb102]? = some (.cells #[.bool a1_0, (.slice A1_1 l1_1.length c1_1), (.slice A1_2 l1_2.length c1_2)] 28 (0, 0))) ∧ Aside0 (w'.heap[gb103]? = some (.cells #[.bool false, (.slice none 0 0), (.slice none 0 0)] 28 (0, 0))) ∧ Aside0 (w'.heap[gb128]? = some (.cells #[.bool t121, u129001, u129002] 28 (0, 0))) ∧ Aside0 (Below w.heap.size w w'))
                  case atStart => exact ⟨(0), (t122), (t125), (.slice Ao46 t122.length co46), (.slice Ao47 t125.length co47), (by first | rfl | (simp; done) | (simp [*]; done)), H', ⟨Nat.le_refl _⟩, ⟨by (with_reducible repeat (first | apply Kd.R_alloc | apply Kd.R_drewN | apply Kd.R_drew)); exact HO_129001.out⟩, ⟨by (with_reducible repeat (first | apply Kd.R_alloc | apply Kd.R_drewN | apply Kd.R_drew)); exact HO_129002.out⟩, ⟨by (with_reducible repeat (first | refine blk_drewN ?_ _ | refine blk_drew ?_ | refine blk_alloc ?_ _)); exact BK101.out⟩, ⟨by (with_reducible repeat (first | refine blk_drewN ?_ _ | refine blk_drew ?_ | refine blk_alloc ?_ _)); exact BK102.out⟩, ⟨by (with_reducible repeat (first | refine blk_drewN ?_ _ | refine blk_drew ?_ | refine blk_alloc ?_ _)); exact BK103.out⟩, ⟨by (with_reducible repeat (first | refine blk_drewN ?_ _ | refine blk_drew ?_ | refine blk_alloc ?_ _)); exact BK128.out⟩, ⟨by repeat (first | (with_reducible first | exact HB.out | apply below_alloc | apply pw_below_drewN | apply below_drew1 | refine below_set ?_ GE101.out | refine below_set ?_ GE102.out | refine below_set ?_ GE103.out | refine below_set ?_ GE128.out) | exact HB.out)⟩⟩
                  case round =>
                    clear H'
                    try clear c1
                    try clear p1
                    try clear q1
                    try clear hx1
                    try clear qi1
                    try clear c2
                    try clear p2
                    try clear c3
                    try clear c4
                    try clear c5
                    try clear c6
                    try clear c7
                    try clear c8
                    try clear c9
                    try clear c11
                    try clear c12
                    try clear p13
                    try clear q13
                    try clear hx13
                    try clear qi13
                    try clear c15
                    try clear c18
                    try clear c19
                    try clear c22
                    try clear c25
                    try clear c26
                    try clear c31
                    try clear c31b0
                    try clear c31b1
                    try clear c34
                    try clear c35
                    try clear c38
                    try clear c42
                    try clear c43
                    try clear c44
                    try clear c47
                    try clear c48
                    try clear c48b0
                    try clear c48b1
                    try clear c48b2
                    try clear c49
                    try clear c50
                    try clear c51
                    try clear c53
                    try clear c54
                    try clear c55
                    try clear c57
                    try clear c58
                    try clear c59
                    try clear c60
                    try clear c62
                    try clear c63
                    try clear c66
                    try clear c66b0
                    try clear c66b1
                    try clear c68
                    try clear c69
                    try clear c70
                    try clear c72
                    try clear c73
                    try clear hcz13_0
                    try clear hcz13_1
                    try clear hcz13_2
                    try clear hcz16_0
                    try clear hcz16_1
                    try clear hcz16_2
                    try clear hcz20_0
                    try clear hcz20_1
                    try clear hcz20_2
                    try clear hcz27_0
                    try clear hcz27_1
                    try clear hcz27_2
                    try clear hcz36_0
                    try clear hcz36_1
                    try clear hcz36_2
                    try clear hcz39_0
                    try clear hcz39_1
                    try clear hcz39_2
                    try clear hcz45_0
                    try clear hcz45_1
                    try clear hcz45_2
                    try clear hcz52_0
                    try clear hcz52_1
                    try clear hcz52_2
                    try clear hcz56_0
                    try clear hcz56_1
                    try clear hcz56_2
                    try clear hcz61_0
                    try clear hcz61_1
                    try clear hcz61_2
                    try clear hcz64_0
                    try clear hcz64_1
                    try clear hcz64_2
                    try clear hcz71_0
                    try clear hcz71_1
                    try clear hcz71_2
                    try clear hcz74_0
                    try clear hcz74_1
                    try clear hcz74_2
                    try clear hfz13_0
                    try clear hfz13_1
                    try clear hfz13_2
                    try clear hfz16_0
                    try clear hfz16_1
                    try clear hfz16_2
                    try clear hfz20_0
                    try clear hfz20_1
                    try clear hfz20_2
                    try clear hfz27_0
                    try clear hfz27_1
                    try clear hfz27_2
                    try clear hfz36_0
                    try clear hfz36_1
                    try clear hfz36_2
                    try clear hfz39_0
                    try clear hfz39_1
                    try clear hfz39_2
                    try clear hfz45_0
                    try clear hfz45_1
                    try clear hfz45_2
                    try clear hfz52_0
                    try clear hfz52_1
                    try clear hfz52_2
                    try clear hfz56_0
                    try clear hfz56_1
                    try clear hfz56_2
                    try clear hfz61_0
                    try clear hfz61_1
                    try clear hfz61_2
                    try clear hfz64_0
                    try clear hfz64_1
                    try clear hfz64_2
                    try clear hfz71_0
                    try clear hfz71_1
                    try clear hfz71_2
                    try clear hfz74_0
                    try clear hfz74_1
                    try clear hfz74_2
                    try clear hx132_0
                    try clear p132
                    try clear p2
                    try clear q132
                    obtain ⟨x14_3, x129001_3, x129002_3, u129001, u129002, rfl, HA, HK3, HO_129001, HO_129002, BK101, BK102, BK103, BK128, HB⟩ := hrel
                    cases gk with
                    | zero => exact absurd HA.out (by simp [spec_Rotate.l0])
                    | succ k3 =>
                      have H := HA.out
                      clear HA
                      simp only [spec_Rotate.l0] at H
                      by_cases c75 : x14_3 < t129
                      · rw [if_pos c75] at H
                        have c75b0 : decide (x14_3 < t129) = true := decide_eq_true c75
                        clear c75
                        have H' := Aside0.mk H
                        clear H
                        go_wp2
                        go_loopg [15] k3 (fun kq v15 w' => ∃ (x15_4 : Int) (x129001_4 : List Int) (x129002_4 : List Int) (u129001 : Value) (u129002 : Value), v15 = .int .i64 x15_4 ∧ Aside0 (spec_Rotate.l1 kq t129 t130 t131 t133 x14_3 x15_4 a1_0 l1_1 l1_2 t121 x129001_4 x129002_4 = some (r1, r2, r3, r4)) ∧ Aside0 (kq ≤ k3) ∧ Aside0 (Kd.R (Kd.int .i64) 3 w' w.heap.size (fun k_ => some k_ ≠ (u129002 : Value).ownBlock) u129001 x129001_4) ∧ Aside0 (Kd.R (Kd.int .i64) 3 w' w.heap.size (fun k_ => some k_ ≠ (u129001 : Value).ownBlock) u129002 x129002_4) ∧ Aside0 (w'.heap[gb101]? = some (.cells #[.bool a0_0, (.slice A0_1 l0_1.length c0_1), (.slice (some ad132) l0_2.length c0_2)] 28 (0, 0))) ∧ Aside0 (w'.heap[gb102]? = some (.cells #[.bool a1_0, (.slice A1_1 l1_1.length c1_1), (.slice A1_2 l1_2.length c1_2)] 28 (0, 0))) ∧ Aside0 (w'.heap[gb103]? = some (.cells #[.bool false, (.slice none 0 0), (.slice none 0 0)] 28 (0, 0))) ∧ Aside0 (w'.heap[gb128]? = some (.cells #[.bool t121, u129001, u129002] 28 (0, 0))) ∧ Aside0 (Below w.heap.size w w'))
                        case atStart => exact ⟨(0), (x129001_3), (x129002_3), (u129001), (u129002), (by first | rfl | (simp; done) | (simp [*]; done)), H', ⟨Nat.le_refl _⟩, ⟨by (with_reducible repeat (first | apply Kd.R_alloc | apply Kd.R_drewN | apply Kd.R_drew)); exact HO_129001.out⟩, ⟨by (with_reducible repeat (first | apply Kd.R_alloc | apply Kd.R_drewN | apply Kd.R_drew)); exact HO_129002.out⟩, ⟨by (with_reducible repeat (first | refine blk_drewN ?_ _ | refine blk_drew ?_ | refine blk_alloc ?_ _)); exact BK101.out⟩, ⟨by (with_reducible repeat (first | refine blk_drewN ?_ _ | refine blk_drew ?_ | refine blk_alloc ?_ _)); exact BK102.out⟩, ⟨by (with_reducible repeat (first | refine blk_drewN ?_ _ | refine blk_drew ?_ | refine blk_alloc ?_ _)); exact BK103.out⟩, ⟨by (with_reducible repeat (first | refine blk_drewN ?_ _ | refine blk_drew ?_ | refine blk_alloc ?_ _)); exact BK128.out⟩, ⟨by repeat (first | (with_reducible first | exact HB.out | apply below_alloc | apply pw_below_drewN | apply below_drew1 | refine below_set ?_ GE101.out | refine below_set ?_ GE102.out | refine below_set ?_ GE103.out | refine below_set ?_ GE128.out) | exact HB.out)⟩⟩
                        case round =>
                          clear H'
                          try clear c1
                          try clear p1
                          try clear q1
                          try clear hx1
                          try clear qi1
                          try clear c2
                          try clear p2
                          try clear c3
                          try clear c4
                          try clear c5
                          try clear c6
                          try clear c7
                          try clear c8
                          try clear c9
                          try clear c11
                          try clear c12
                          try clear p13
                          try clear q13
                          try clear hx13
                          try clear qi13
                          try clear c15
                          try clear c18
                          try clear c19
                          try clear c22
                          try clear c25
                          try clear c26
                          try clear c31
                          try clear c31b0
                          try clear c31b1
                          try clear c34
                          try clear c35
                          try clear c38
                          try clear c42
                          try clear c43
                          try clear c44
                          try clear c47
                          try clear c48
                          try clear c48b0
                          try clear c48b1
                          try clear c48b2
                          try clear c49
                          try clear c50
                          try clear c51
                          try clear c53
                          try clear c54
                          try clear c55
                          try clear c57
                          try clear c58
                          try clear c59
                          try clear c60
                          try clear c62
                          try clear c63
                          try clear c66
                          try clear c66b0
                          try clear c66b1
                          try clear c68
                          try clear c69
                          try clear c70
                          try clear c72
                          try clear c73
                          try clear c75
                          try clear c75b0
                          try clear hcz13_0
                          try clear hcz13_1
                          try clear hcz13_2
                          try clear hcz16_0
                          try clear hcz16_1
                          try clear hcz16_2
                          try clear hcz20_0
                          try clear hcz20_1
                          try clear hcz20_2
                          try clear hcz27_0
                          try clear hcz27_1
                          try clear hcz27_2
                          try clear hcz36_0
                          try clear hcz36_1
                          try clear hcz36_2
                          try clear hcz39_0
                          try clear hcz39_1
                          try clear hcz39_2
                          try clear hcz45_0
                          try clear hcz45_1
                          try clear hcz45_2
                          try clear hcz52_0
                          try clear hcz52_1
                          try clear hcz52_2
                          try clear hcz56_0
                          try clear hcz56_1
                          try clear hcz56_2
                          try clear hcz61_0
                          try clear hcz61_1
                          try clear hcz61_2
                          try clear hcz64_0
                          try clear hcz64_1
                          try clear hcz64_2
                          try clear hcz71_0
                          try clear hcz71_1
                          try clear hcz71_2
                          try clear hcz74_0
                          try clear hcz74_1
                          try clear hcz74_2
                          try clear hfz13_0
                          try clear hfz13_1
                          try clear hfz13_2
                          try clear hfz16_0
                          try clear hfz16_1
                          try clear hfz16_2
                          try clear hfz20_0
                          try clear hfz20_1
                          try clear hfz20_2
                          try clear hfz27_0
                          try clear hfz27_1
                          try clear hfz27_2
                          try clear hfz36_0
                          try clear hfz36_1
                          try clear hfz36_2
                          try clear hfz39_0
                          try clear hfz39_1
                          try clear hfz39_2
                          try clear hfz45_0
                          try clear hfz45_1
                          try clear hfz45_2
                          try clear hfz52_0
                          try clear hfz52_1
                          try clear hfz52_2
                          try clear hfz56_0
                          try clear hfz56_1
                          try clear hfz56_2
                          try clear hfz61_0
                          try clear hfz61_1
                          try clear hfz61_2
                          try clear hfz64_0
                          try clear hfz64_1
                          try clear hfz64_2
                          try clear hfz71_0
                          try clear hfz71_1
                          try clear hfz71_2
                          try clear hfz74_0
                          try clear hfz74_1
                          try clear hfz74_2
                          try clear hx132_0
                          try clear p1
                          try clear p13
                          try clear p132
                          try clear p2
                          try clear q1
                          try clear q13
                          try clear q132
                          obtain ⟨x15_4, x129001_4, x129002_4, u129001, u129002, rfl, HA, HK4, HO_129001, HO_129002, BK101, BK102, BK103, BK128, HB⟩ := hrel
                          cases gk with
                          | zero => exact absurd HA.out (by simp [spec_Rotate.l1])
                          | succ k4 =>
                            have H := HA.out
                            clear HA
                            simp only [spec_Rotate.l1] at H
                            by_cases c76 : x15_4 < t130
                            · rw [if_pos c76] at H
                              have c76b0 : decide (x15_4 < t130) = true := decide_eq_true c76
                              clear c76
                              have H' := Aside0.mk H
                              clear H
                              go_wp2
                              go_loopg [16] k4 (fun kq v16 w' => ∃ (x16_5 : Int) (x129001_5 : List Int) (x129002_5 : List Int) (u129001 : Value) (u129002 : Value), v16 = .int .i64 x16_5 ∧ Aside0 (spec_Rotate.l2 kq t129 t130 t131 t133 x14_3 x15_4 x16_5 a1_0 l1_1 l1_2 t121 x129001_5 x129002_5 = some (r1, r2, r3, r4)) ∧ Aside0 (kq ≤ k4) ∧ Aside0 (Kd.R (Kd.int .i64) 3 w' w.heap.size (fun k_ => some k_ ≠ (u129002 : Value).ownBlock) u129001 x129001_5) ∧ Aside0 (Kd.R (Kd.int .i64) 3 w' w.heap.size (fun k_ => some k_ ≠ (u129001 : Value).ownBlock) u129002 x129002_5) ∧ Aside0 (w'.heap[gb101]? = some (.cells #[.bool a0_0, (.slice A0_1 l0_1.length c0_1), (.slice (some ad132) l0_2.length c0_2)] 28 (0, 0))) ∧ Aside0 (w'.heap[gb102]? = some (.cells #[.bool a1_0, (.slice A1_1 l1_1.length c1_1), (.slice A1_2 l1_2.length c1_2)] 28 (0, 0))) ∧ Aside0 (w'.heap[gb103]? = some (.cells #[.bool false, (.slice none 0 0), (.slice none 0 0)] 28 (0, 0))) ∧ Aside0 (w'.heap[gb128]? = some (.cells #[.bool t121, u129001, u129002] 28 (0, 0))) ∧ Aside0 (Below w.heap.size w w'))
                              case atStart => exact ⟨(0), (x129001_4), (x129002_4), (u129001), (u129002), (by first | rfl | (simp; done) | (simp [*]; done)), H', ⟨Nat.le_refl _⟩, ⟨by (with_reducible repeat (first | apply Kd.R_alloc | apply Kd.R_drewN | apply Kd.R_drew)); exact HO_129001.out⟩, ⟨by (with_reducible repeat (first | apply Kd.R_alloc | apply Kd.R_drewN | apply Kd.R_drew)); exact HO_129002.out⟩, ⟨by (with_reducible repeat (first | refine blk_drewN ?_ _ | refine blk_drew ?_ | refine blk_alloc ?_ _)); exact BK101.out⟩, ⟨by (with_reducible repeat (first | refine blk_drewN ?_ _ | refine blk_drew ?_ | refine blk_alloc ?_ _)); exact BK102.out⟩, ⟨by (with_reducible repeat (first | refine blk_drewN ?_ _ | refine blk_drew ?_ | refine blk_alloc ?_ _)); exact BK103.out⟩, ⟨by (with_reducible repeat (first | refine blk_drewN ?_ _ | refine blk_drew ?_ | refine blk_alloc ?_ _)); exact BK128.out⟩, ⟨by repeat (first | (with_reducible first | exact HB.out | apply below_alloc | apply pw_below_drewN | apply below_drew1 | refine below_set ?_ GE101.out | refine below_set ?_ GE102.out | refine below_set ?_ GE103.out | refine below_set ?_ GE128.out) | exact HB.out)⟩⟩
                              case round =>
                                clear H'
                                try clear c1
                                try clear p1
                                try clear q1
                                try clear hx1
                                try clear qi1
                                try clear c2
                                try clear p2
                                try clear c3
                                try clear c4
                                try clear c5
                                try clear c6
                                try clear c7
                                try clear c8
                                try clear c9
                                try clear c11
                                try clear c12
                                try clear p13
                                try clear q13
                                try clear hx13
                                try clear qi13
                                try clear c15
                                try clear c18
                                try clear c19
                                try clear c22
                                try clear c25
                                try clear c26
                                try clear c31
                                try clear c31b0
                                try clear c31b1
                                try clear c34
                                try clear c35
                                try clear c38
                                try clear c42
                                try clear c43
                                try clear c44
                                try clear c47
                                try clear c48
                                try clear c48b0
                                try clear c48b1
                                try clear c48b2
                                try clear c49
                                try clear c50
                                try clear c51
                                try clear c53
                                try clear c54
                                try clear c55
                                try clear c57
                                try clear c58
                                try clear c59
                                try clear c60
                                try clear c62
                                try clear c63
                                try clear c66
                                try clear c66b0
                                try clear c66b1
                                try clear c68
                                try clear c69
                                try clear c70
                                try clear c72
                                try clear c73
                                try clear c75
                                try clear c75b0
                                try clear c76
                                try clear c76b0
                                try clear hcz13_0
                                try clear hcz13_1
                                try clear hcz13_2
                                try clear hcz16_0
                                try clear hcz16_1
                                try clear hcz16_2
                                try clear hcz20_0
                                try clear hcz20_1
                                try clear hcz20_2
                                try clear hcz27_0
                                try clear hcz27_1
                                try clear hcz27_2
                                try clear hcz36_0
                                try clear hcz36_1
                                try clear hcz36_2
                                try clear hcz39_0
                                try clear hcz39_1
                                try clear hcz39_2
                                try clear hcz45_0
                                try clear hcz45_1
                                try clear hcz45_2
                                try clear hcz52_0
                                try clear hcz52_1
                                try clear hcz52_2
                                try clear hcz56_0
                                try clear hcz56_1
                                try clear hcz56_2
                                try clear hcz61_0
                                try clear hcz61_1
                                try clear hcz61_2
                                try clear hcz64_0
                                try clear hcz64_1
                                try clear hcz64_2
                                try clear hcz71_0
                                try clear hcz71_1
                                try clear hcz71_2
                                try clear hcz74_0
                                try clear hcz74_1
                                try clear hcz74_2
                                try clear hfz13_0
                                try clear hfz13_1
                                try clear hfz13_2
                                try clear hfz16_0
                                try clear hfz16_1
                                try clear hfz16_2
                                try clear hfz20_0
                                try clear hfz20_1
                                try clear hfz20_2
                                try clear hfz27_0
                                try clear hfz27_1
                                try clear hfz27_2
                                try clear hfz36_0
                                try clear hfz36_1
                                try clear hfz36_2
                                try clear hfz39_0
                                try clear hfz39_1
                                try clear hfz39_2
                                try clear hfz45_0
                                try clear hfz45_1
                                try clear hfz45_2
                                try clear hfz52_0
                                try clear hfz52_1
                                try clear hfz52_2
                                try clear hfz56_0
                                try clear hfz56_1
                                try clear hfz56_2
                                try clear hfz61_0
                                try clear hfz61_1
                                try clear hfz61_2
                                try clear hfz64_0
                                try clear hfz64_1
                                try clear hfz64_2
                                try clear hfz71_0
                                try clear hfz71_1
                                try clear hfz71_2
                                try clear hfz74_0
                                try clear hfz74_1
                                try clear hfz74_2
                                try clear hx132_0
                                try clear p1
                                try clear p13
                                try clear p132
                                try clear p2
                                try clear q1
                                try clear q13
                                try clear q132
                                obtain ⟨x16_5, x129001_5, x129002_5, u129001, u129002, rfl, HA, HK5, HO_129001, HO_129002, BK101, BK102, BK103, BK128, HB⟩ := hrel
                                cases gk with
                                | zero => exact absurd HA.out (by simp [spec_Rotate.l2])
                                | succ k5 =>
                                  have H := HA.out
                                  clear HA
                                  simp only [spec_Rotate.l2] at H
                                  by_cases c77 : x16_5 < t131
                                  · rw [if_pos c77] at H
                                    have c77b0 : decide (x16_5 < t131) = true := decide_eq_true c77
                                    clear c77
                                    by_cases c78 : t130 = 0
                                    · rw [if_pos c78] at H
                                      exact absurd H (by simp)
                                    · rw [if_neg c78] at H
                                      have c78b0 : (t130 == 0) = false := beq_eq_false_iff_ne.mpr c78
                                      have c78b1 : (t130 != 0) = true := bne_iff_ne.mpr c78
                                      obtain ⟨ji79, hji79⟩ : ∃ j_ : Int, (wrap64 ((wrap64 ((wrap64 ((wrap64 (x14_3 * t130)) + (Int.tmod (wrap64 (x15_4 + t133)) t130))) * t131)) + x16_5)) = j_ := ⟨_, rfl⟩
                                      replace H : (if 0 ≤ (ji79) then (if (ji79) < (l1_2.length : Int) then (if 0 ≤ (wrap64 ((wrap64 ((wrap64 ((wrap64 (x14_3 * t130)) + x15_4)) * t131)) + x16_5)) then (if (wrap64 ((wrap64 ((wrap64 ((wrap64 (x14_3 * t130)) + x15_4)) * t131)) + x16_5)) < (x129002_5.length : Int) then (spec_Rotate.l2 k5 t129 t130 t131 t133 x14_3 x15_4 (wrap64 (x16_5 + 1)) a1_0 l1_1 l1_2 t121 x129001_5 (x129002_5.set ((wrap64 ((wrap64 ((wrap64 ((wrap64 (x14_3 * t130)) + x15_4)) * t131)) + x16_5)) : Int).toNat (rd l1_2 (ji79)))) else (none)) else (none)) else (none)) else (none)) = some (r1, r2, r3, r4) := by first | (rw [hji79] at H; exact H) | (simp only [hji79] at H ⊢; exact H)
                                      have hji79w : (IntKind.i64.wrap ((wrap64 ((wrap64 ((wrap64 (x14_3 * t130)) + (Int.tmod (wrap64 (x15_4 + t133)) t130))) * t131)) + x16_5)) = ji79 := (i64_w _).trans hji79
                                      by_cases c80 : 0 ≤ (ji79)
                                      · rw [if_pos c80] at H
                                        have c80b0 : decide (0 ≤ (ji79)) = true := decide_eq_true c80
                                        clear c80
                                        by_cases c81 : (ji79) < (l1_2.length : Int)
                                        · rw [if_pos c81] at H
                                          have c81b0 : decide ((ji79) < (l1_2.length : Int)) = true := decide_eq_true c81
                                          clear c81
                                          obtain ⟨ji82, hji82⟩ : ∃ j_ : Int, (wrap64 ((wrap64 ((wrap64 ((wrap64 (x14_3 * t130)) + x15_4)) * t131)) + x16_5)) = j_ := ⟨_, rfl⟩
                                          replace H : (if 0 ≤ (ji82) then (if (ji82) < (x129002_5.length : Int) then (spec_Rotate.l2 k5 t129 t130 t131 t133 x14_3 x15_4 (wrap64 (x16_5 + 1)) a1_0 l1_1 l1_2 t121 x129001_5 (x129002_5.set ((ji82) : Int).toNat (rd l1_2 (ji79)))) else (none)) else (none)) = some (r1, r2, r3, r4) := by first | (rw [hji82] at H; exact H) | (simp only [hji82] at H ⊢; exact H)
                                          have hji82w : (IntKind.i64.wrap ((wrap64 ((wrap64 ((wrap64 (x14_3 * t130)) + x15_4)) * t131)) + x16_5)) = ji82 := (i64_w _).trans hji82
                                          by_cases c83 : 0 ≤ (ji82)
                                          · rw [if_pos c83] at H
                                            have c83b0 : decide (0 ≤ (ji82)) = true := decide_eq_true c83
                                            clear c83
                                            by_cases c84 : (ji82) < (x129002_5.length : Int)
                                            · rw [if_pos c84] at H
                                              have c84b0 : decide ((ji82) < (x129002_5.length : Int)) = true := decide_eq_true c84
                                              clear c84
                                              obtain ⟨y135, hy135⟩ : ∃ y_ : List Int, y_ = (x129002_5.set ((ji82) : Int).toNat (rd l1_2 (ji79))) := ⟨_, rfl⟩
                                              replace H : (spec_Rotate.l2 k5 t129 t130 t131 t133 x14_3 x15_4 (wrap64 (x16_5 + 1)) a1_0 l1_1 l1_2 t121 x129001_5 y135) = some (r1, r2, r3, r4) := by first | (rw [hy135]; with_reducible exact H) | (have H2_ := (Option.bind_some _ _).symm.trans H; rw [hy135]; with_reducible exact H2_) | (have H2_ := (Option.bind_some _ _).symm.trans H; with_reducible exact H2_) | with_reducible exact H | (rw [hy135]; exact H) | exact H
                                              have Ny135 := Aside0.mk hy135
                                              clear hy135
                                              have H' := Aside0.mk H
                                              clear H
                                              try go_wp2
                                              have n0_ := Aside0.mk (Kd.R_drew HO_129001.out)
                                              have n1_ := Aside0.mk (Kd.R_drew HO_129002.out)
                                              have n2_ := Aside0.mk (blk_drew BK101.out)
                                              have n3_ := Aside0.mk (blk_drew BK102.out)
                                              have n4_ := Aside0.mk (blk_drew BK103.out)
                                              have n5_ := Aside0.mk (blk_drew BK128.out)
                                              have n6_ := Aside0.mk (below_drew1 HB.out)
                                              clear HO_129001
                                              clear HO_129002
                                              clear BK101
                                              clear BK102
                                              clear BK103
                                              clear BK128
                                              clear HB
                                              have HO_129001 := n0_
                                              have HO_129002 := n1_
                                              have BK101 := n2_
                                              have BK102 := n3_
                                              have BK103 := n4_
                                              have BK128 := n5_
                                              have HB := n6_
                                              clear n0_ n1_ n2_ n3_ n4_ n5_ n6_
                                              have p134 : 0 ≤ ((ji79) : Int) := of_decide_eq_true (by first | (with_reducible assumption) | assumption)
                                              have q134 : (ji79) < (l1_2.length : Int) := of_decide_eq_true (by first | (with_reducible assumption) | assumption)
                                              obtain ⟨ad134, e134, hx134_0⟩ := Kd.at_int HR1_2.out (ji79) p134 q134
                                              have hw134_0 := hx134_0
                                              cases e134
                                              replace hx134_0 := (HB.out.cell (World.block_lt_of_cell? w _ hx134_0)).trans hx134_0
                                              replace p134 := eq_true p134
                                              replace q134 := eq_true q134
                                              have p85 : 0 ≤ ((ji82) : Int) := of_decide_eq_true (by first | (with_reducible assumption) | assumption)
                                              have q85 : ((ji82) : Int) < ((x129002_5.length : Int) : Int) := of_decide_eq_true (by first | (with_reducible assumption) | assumption)
                                              obtain ⟨go85, co85, eo85, gb85, gl85, cl85, HG85⟩ := Kd.R_form HO_129002.out (by omega)
                                              (first | cases eo85 | (injection eo85 with ea_ en_ ec_; (first | subst ea_ | (injection ea_ with ea_; subst ea_)); subst ec_; clear en_))
                                              have GB85 := Aside0.mk gb85
                                              have GG85 := Aside0.mk HG85
                                              clear gb85 gl85 HG85
                                              obtain ⟨hx85_0, hf85_0⟩ := Kd.R_celln 0 HO_129002.out ((ji82) : Int) p85 q85
                                              replace p85 := eq_true p85
                                              replace q85 := eq_true q85
                                              have HP87 := Kd.R_putn HO_129002.out ((ji82) : Int) (rd l1_2 (ji79))
                                              rw [← Ny135.out] at HP87
                                              have HQ87 := Aside0.mk HP87
                                              clear HP87
                                              refine start_ (n := 30) (S := fun w' => w'.cell? ⟨gb128, 0, none⟩ = some (.bool t121) ∧ w'.cell? ⟨gb128, 1, none⟩ = some (u129001) ∧ w'.cell? ⟨gb128, 2, none⟩ = some (.slice (some ⟨go85, 0, none⟩) x129002_5.length co85) ∧ w'.cell? ⟨gb102, 0, none⟩ = some (.bool a1_0) ∧ w'.cell? ⟨gb102, 1, none⟩ = some (.slice A1_1 l1_1.length c1_1) ∧ w'.cell? ⟨gb102, 2, none⟩ = some (.slice (some ad134) l1_2.length c1_2) ∧ w'.cell? (ad134.add ((ji79)).toNat) = some (.int .i64 (rd l1_2 (ji79)))) (ds := [29]) #[false, false, false, false, false, false, false, false, false, false, false, false, false, false, false, false, false, false, false, false, false, false, false, false, false, false, false, false, false, false] (by kernel_rfl) rfl rfl ⟨(blk_cell BK128.out 0).trans rfl, (blk_cell BK128.out 1).trans rfl, (blk_cell BK128.out 2).trans rfl, (blk_cell BK102.out 0).trans rfl, (blk_cell BK102.out 1).trans rfl, (blk_cell BK102.out 2).trans rfl, ((HB.out.cell (World.block_lt_of_cell? w _ hw134_0)).trans hw134_0)⟩ (fun hHeld => ?_); refine with_tabW spec_Rotate.tab20 spec_Rotate.bits20 (fun HT_ HW_ => ?_)
                                              generalize wr.drew = w86 at HO_129001 HO_129002 BK101 BK102 BK103 BK128 HB GG85 HQ87 hf85_0 hx134_0 hx85_0 hHeld ⊢
                                              refine pure_ (i := 0) (N := some 74) (v := ?_) (a' := ?_) #[true, false, false, false, false, false, false, false, false, false, false, false, false, false, false, false, false, false, false, false, false, false, false, false, false, false, false, false, false, false] rfl rfl (any_of HT_.out (by kernel_rfl)) (fun _ _ _ h => h) (Or.inl ⟨by rfl, ?_⟩) ?_ ?_
                                              rotate_left
                                              · intro w'
                                                go_simp
                                                with_reducible rfl
                                              rotate_left
                                              · simp only [Act.put, List.setIfInBounds_toArray, List.set_cons_zero, List.set_cons_succ, i64_w, i32_w]
                                                rfl
                                              refine pure_ (i := 2) (N := some 76) (v := ?_) (a' := ?_) #[true, false, true, false, false, false, false, false, false, false, false, false, false, false, false, false, false, false, false, false, false, false, false, false, false, false, false, false, false, false] rfl rfl (any_of HT_.out (by kernel_rfl)) (fun _ _ _ h => h) (Or.inl ⟨by rfl, ?_⟩) ?_ ?_
                                              rotate_left
                                              · intro w'
                                                go_simp
                                                with_reducible rfl
                                              rotate_left
                                              · simp only [Act.put, List.setIfInBounds_toArray, List.set_cons_zero, List.set_cons_succ, i64_w, i32_w]
                                                rfl
                                              refine pure_ (i := 3) (N := some 77) (v := ?_) (a' := ?_) #[true, false, true, true, false, false, false, false, false, false, false, false, false, false, false, false, false, false, false, false, false, false, false, false, false, false, false, false, false, false] rfl rfl (any_of HT_.out (by kernel_rfl)) (fun _ _ _ h => h) (Or.inl ⟨by rfl, ?_⟩) ?_ ?_
                                              rotate_left
                                              · intro w'
                                                go_simp
                                                with_reducible rfl
                                              rotate_left
                                              · simp only [Act.put, List.setIfInBounds_toArray, List.set_cons_zero, List.set_cons_succ, i64_w, i32_w]
                                                rfl
                                              refine pure_ (i := 4) (N := some 78) (v := ?_) (a' := ?_) #[true, false, true, true, true, false, false, false, false, false, false, false, false, false, false, false, false, false, false, false, false, false, false, false, false, false, false, false, false, false] rfl rfl (any_of HT_.out (by kernel_rfl)) (fun _ _ _ h => h) (Or.inl ⟨by rfl, ?_⟩) ?_ ?_
                                              rotate_left
                                              · intro w'
                                                go_simp
                                                with_reducible rfl
                                              rotate_left
                                              · simp only [Act.put, List.setIfInBounds_toArray, List.set_cons_zero, List.set_cons_succ, i64_w, i32_w]
                                                rfl
                                              refine pure_ (i := 5) (N := some 79) (v := ?_) (a' := ?_) #[true, false, true, true, true, true, false, false, false, false, false, false, false, false, false, false, false, false, false, false, false, false, false, false, false, false, false, false, false, false] rfl rfl (any_of HT_.out (by kernel_rfl)) (fun _ _ _ h => h) (Or.inl ⟨by rfl, ?_⟩) ?_ ?_
                                              rotate_left
                                              · intro w'
                                                go_simp
                                                with_reducible rfl
                                              rotate_left
                                              · simp only [Act.put, List.setIfInBounds_toArray, List.set_cons_zero, List.set_cons_succ, i64_w, i32_w]
                                                rfl
                                              refine pure_ (i := 6) (N := some 80) (v := ?_) (a' := ?_) #[true, false, true, true, true, true, true, false, false, false, false, false, false, false, false, false, false, false, false, false, false, false, false, false, false, false, false, false, false, false] rfl rfl (any_of HT_.out (by kernel_rfl)) (fun _ _ _ h => h) (Or.inl ⟨by rfl, ?_⟩) ?_ ?_
                                              rotate_left
                                              · intro w'
                                                go_simp
                                                with_reducible rfl
                                              rotate_left
                                              · simp only [Act.put, List.setIfInBounds_toArray, List.set_cons_zero, List.set_cons_succ, i64_w, i32_w]
                                                rfl
                                              refine pure_ (i := 7) (N := some 81) (v := ?_) (a' := ?_) #[true, false, true, true, true, true, true, true, false, false, false, false, false, false, false, false, false, false, false, false, false, false, false, false, false, false, false, false, false, false] rfl rfl (any_of HT_.out (by kernel_rfl)) (fun _ _ _ h => h) (Or.inl ⟨by rfl, ?_⟩) ?_ ?_
                                              rotate_left
                                              · intro w'
                                                go_simp
                                                with_reducible rfl
                                              rotate_left
                                              · simp only [Act.put, List.setIfInBounds_toArray, List.set_cons_zero, List.set_cons_succ, i64_w, i32_w]
                                                rfl
                                              refine pure_ (i := 8) (N := some 82) (v := ?_) (a' := ?_) #[true, false, true, true, true, true, true, true, true, false, false, false, false, false, false, false, false, false, false, false, false, false, false, false, false, false, false, false, false, false] rfl rfl (any_of HT_.out (by kernel_rfl)) (fun _ _ _ h => h) (Or.inl ⟨by rfl, ?_⟩) ?_ ?_
                                              rotate_left
                                              · intro w'
                                                go_simp
                                                with_reducible rfl
                                              rotate_left
                                              · simp only [Act.put, List.setIfInBounds_toArray, List.set_cons_zero, List.set_cons_succ, i64_w, i32_w]
                                                rfl
                                              refine pure_ (i := 9) (N := some 83) (v := ?_) (a' := ?_) #[true, false, true, true, true, true, true, true, true, true, false, false, false, false, false, false, false, false, false, false, false, false, false, false, false, false, false, false, false, false] rfl rfl (any_of HT_.out (by kernel_rfl)) (fun _ _ _ h => h) (Or.inl ⟨by rfl, ?_⟩) ?_ ?_
                                              rotate_left
                                              · intro w'
                                                go_simp
                                                with_reducible rfl
                                              rotate_left
                                              · simp only [Act.put, List.setIfInBounds_toArray, List.set_cons_zero, List.set_cons_succ, i64_w, i32_w]
                                                rfl
                                              refine pure_ (i := 10) (N := some 84) (v := ?_) (a' := ?_) #[true, false, true, true, true, true, true, true, true, true, true, false, false, false, false, false, false, false, false, false, false, false, false, false, false, false, false, false, false, false] rfl rfl (any_of HT_.out (by kernel_rfl)) (fun _ _ _ h => h) (Or.inl ⟨by rfl, ?_⟩) ?_ ?_
                                              rotate_left
                                              · intro w'
                                                go_simp
                                                with_reducible rfl
                                              rotate_left
                                              · simp only [Act.put, List.setIfInBounds_toArray, List.set_cons_zero, List.set_cons_succ, i64_w, i32_w]
                                                rfl
                                              refine pure_ (i := 11) (N := some 85) (v := ?_) (a' := ?_) #[true, false, true, true, true, true, true, true, true, true, true, true, false, false, false, false, false, false, false, false, false, false, false, false, false, false, false, false, false, false] rfl rfl (any_of HT_.out (by kernel_rfl)) (fun _ _ _ h => h) (Or.inl ⟨by rfl, ?_⟩) ?_ ?_
                                              rotate_left
                                              · intro w'
                                                go_simp
                                                with_reducible rfl
                                              rotate_left
                                              · simp only [Act.put, List.setIfInBounds_toArray, List.set_cons_zero, List.set_cons_succ, i64_w, i32_w]
                                                rfl
                                              refine pure_ (i := 13) (N := some 87) (v := ?_) (a' := ?_) #[true, false, true, true, true, true, true, true, true, true, true, true, false, true, false, false, false, false, false, false, false, false, false, false, false, false, false, false, false, false] rfl rfl (any_of HT_.out (by kernel_rfl)) (fun _ _ _ h => h) (Or.inl ⟨by rfl, ?_⟩) ?_ ?_
                                              rotate_left
                                              · intro w'
                                                go_simp
                                                with_reducible rfl
                                              rotate_left
                                              · simp only [Act.put, List.setIfInBounds_toArray, List.set_cons_zero, List.set_cons_succ, i64_w, i32_w]
                                                rfl
                                              refine pure_ (i := 14) (N := some 88) (v := ?_) (a' := ?_) #[true, false, true, true, true, true, true, true, true, true, true, true, false, true, true, false, false, false, false, false, false, false, false, false, false, false, false, false, false, false] rfl rfl (any_of HT_.out (by kernel_rfl)) (fun _ _ _ h => h) (Or.inl ⟨by rfl, ?_⟩) ?_ ?_
                                              rotate_left
                                              · intro w'
                                                go_simp
                                                with_reducible rfl
                                              rotate_left
                                              · simp only [Act.put, List.setIfInBounds_toArray, List.set_cons_zero, List.set_cons_succ, i64_w, i32_w]
                                                rfl
                                              refine pure_ (i := 15) (N := some 89) (v := ?_) (a' := ?_) #[true, false, true, true, true, true, true, true, true, true, true, true, false, true, true, true, false, false, false, false, false, false, false, false, false, false, false, false, false, false] rfl rfl (any_of HT_.out (by kernel_rfl)) (fun _ _ _ h => h) (Or.inl ⟨by rfl, ?_⟩) ?_ ?_
                                              rotate_left
                                              · intro w'
                                                go_simp
                                                with_reducible rfl
                                              rotate_left
                                              · simp only [Act.put, List.setIfInBounds_toArray, List.set_cons_zero, List.set_cons_succ, i64_w, i32_w]
                                                rfl
                                              refine pure_ (i := 16) (N := some 90) (v := ?_) (a' := ?_) #[true, false, true, true, true, true, true, true, true, true, true, true, false, true, true, true, true, false, false, false, false, false, false, false, false, false, false, false, false, false] rfl rfl (any_of HT_.out (by kernel_rfl)) (fun _ _ _ h => h) (Or.inl ⟨by rfl, ?_⟩) ?_ ?_
                                              rotate_left
                                              · intro w'
                                                go_simp
                                                with_reducible rfl
                                              rotate_left
                                              · simp only [Act.put, List.setIfInBounds_toArray, List.set_cons_zero, List.set_cons_succ, i64_w, i32_w]
                                                rfl
                                              refine pure_ (i := 17) (N := some 91) (v := ?_) (a' := ?_) #[true, false, true, true, true, true, true, true, true, true, true, true, false, true, true, true, true, true, false, false, false, false, false, false, false, false, false, false, false, false] rfl rfl (any_of HT_.out (by kernel_rfl)) (fun _ _ _ h => h) (Or.inl ⟨by rfl, ?_⟩) ?_ ?_
                                              rotate_left
                                              · intro w'
                                                go_simp
                                                with_reducible rfl
                                              rotate_left
                                              · simp only [Act.put, List.setIfInBounds_toArray, List.set_cons_zero, List.set_cons_succ, i64_w, i32_w]
                                                rfl
                                              refine pure_ (i := 18) (N := some 92) (v := ?_) (a' := ?_) #[true, false, true, true, true, true, true, true, true, true, true, true, false, true, true, true, true, true, true, false, false, false, false, false, false, false, false, false, false, false] rfl rfl (any_of HT_.out (by kernel_rfl)) (fun _ _ _ h => h) (Or.inl ⟨by rfl, ?_⟩) ?_ ?_
                                              rotate_left
                                              · intro w'
                                                go_simp
                                                with_reducible rfl
                                              rotate_left
                                              · simp only [Act.put, List.setIfInBounds_toArray, List.set_cons_zero, List.set_cons_succ, i64_w, i32_w]
                                                rfl
                                              refine pure_ (i := 19) (N := some 93) (v := ?_) (a' := ?_) #[true, false, true, true, true, true, true, true, true, true, true, true, false, true, true, true, true, true, true, true, false, false, false, false, false, false, false, false, false, false] rfl rfl (any_of HT_.out (by kernel_rfl)) (fun _ _ _ h => h) (Or.inl ⟨by rfl, ?_⟩) ?_ ?_
                                              rotate_left
                                              · intro w'
                                                go_simp
                                                with_reducible rfl
                                              rotate_left
                                              · simp only [Act.put, List.setIfInBounds_toArray, List.set_cons_zero, List.set_cons_succ, i64_w, i32_w]
                                                rfl
                                              refine pure_ (i := 20) (N := some 94) (v := ?_) (a' := ?_) #[true, false, true, true, true, true, true, true, true, true, true, true, false, true, true, true, true, true, true, true, true, false, false, false, false, false, false, false, false, false] rfl rfl (any_of HT_.out (by kernel_rfl)) (fun _ _ _ h => h) (Or.inl ⟨by rfl, ?_⟩) ?_ ?_
                                              rotate_left
                                              · intro w'
                                                go_simp
                                                with_reducible rfl
                                              rotate_left
                                              · simp only [Act.put, List.setIfInBounds_toArray, List.set_cons_zero, List.set_cons_succ, i64_w, i32_w]
                                                rfl
                                              refine pure_ (i := 21) (N := some 95) (v := ?_) (a' := ?_) #[true, false, true, true, true, true, true, true, true, true, true, true, false, true, true, true, true, true, true, true, true, true, false, false, false, false, false, false, false, false] rfl rfl (any_of HT_.out (by kernel_rfl)) (fun _ _ _ h => h) (Or.inl ⟨by rfl, ?_⟩) ?_ ?_
                                              rotate_left
                                              · intro w'
                                                go_simp
                                                with_reducible rfl
                                              rotate_left
                                              · simp only [Act.put, List.setIfInBounds_toArray, List.set_cons_zero, List.set_cons_succ, i64_w, i32_w]
                                                rfl
                                              refine pure_ (i := 22) (N := some 96) (v := ?_) (a' := ?_) #[true, false, true, true, true, true, true, true, true, true, true, true, false, true, true, true, true, true, true, true, true, true, true, false, false, false, false, false, false, false] rfl rfl (any_of HT_.out (by kernel_rfl)) (fun _ _ _ h => h) (Or.inl ⟨by rfl, ?_⟩) ?_ ?_
                                              rotate_left
                                              · intro w'
                                                go_simp
                                                with_reducible rfl
                                              rotate_left
                                              · simp only [Act.put, List.setIfInBounds_toArray, List.set_cons_zero, List.set_cons_succ, i64_w, i32_w]
                                                rfl
                                              refine pure_ (i := 23) (N := some 97) (v := ?_) (a' := ?_) #[true, false, true, true, true, true, true, true, true, true, true, true, false, true, true, true, true, true, true, true, true, true, true, true, false, false, false, false, false, false] rfl rfl (any_of HT_.out (by kernel_rfl)) (fun _ _ _ h => h) (Or.inl ⟨by rfl, ?_⟩) ?_ ?_
                                              rotate_left
                                              · intro w'
                                                go_simp
                                                with_reducible rfl
                                              rotate_left
                                              · simp only [Act.put, List.setIfInBounds_toArray, List.set_cons_zero, List.set_cons_succ, i64_w, i32_w]
                                                rfl
                                              refine pure_ (i := 24) (N := some 98) (v := ?_) (a' := ?_) #[true, false, true, true, true, true, true, true, true, true, true, true, false, true, true, true, true, true, true, true, true, true, true, true, true, false, false, false, false, false] rfl rfl (any_of HT_.out (by kernel_rfl)) (fun _ _ _ h => h) (Or.inl ⟨by rfl, ?_⟩) ?_ ?_
                                              rotate_left
                                              · intro w'
                                                go_simp
                                                with_reducible rfl
                                              rotate_left
                                              · simp only [Act.put, List.setIfInBounds_toArray, List.set_cons_zero, List.set_cons_succ, i64_w, i32_w]
                                                rfl
                                              refine pure_ (i := 25) (N := some 99) (v := ?_) (a' := ?_) #[true, false, true, true, true, true, true, true, true, true, true, true, false, true, true, true, true, true, true, true, true, true, true, true, true, true, false, false, false, false] rfl rfl (any_of HT_.out (by kernel_rfl)) (fun _ _ _ h => h) (Or.inl ⟨by rfl, ?_⟩) ?_ ?_
                                              rotate_left
                                              · intro w'
                                                go_simp
                                                with_reducible rfl
                                              rotate_left
                                              · simp only [Act.put, List.setIfInBounds_toArray, List.set_cons_zero, List.set_cons_succ, i64_w, i32_w]
                                                rfl
                                              refine take_ (i := 1) (N := some 75) (v := ?_) (a' := ?_) #[true, true, true, true, true, true, true, true, true, true, true, true, false, true, true, true, true, true, true, true, true, true, true, true, true, true, false, false, false, false] rfl rfl (take_ofW HT_.out HW_.out (by kernel_rfl)) (fun _ _ _ h => h) (Or.inl ⟨by rfl, ?_⟩) hHeld ?_ ?_
                                              rotate_left
                                              · rintro w' ⟨s0, s1, s2, s3, s4, s5, s6⟩
                                                go_simp
                                                with_reducible rfl
                                              rotate_left
                                              · simp only [Act.put, List.setIfInBounds_toArray, List.set_cons_zero, List.set_cons_succ, i64_w, i32_w]
                                                rfl
                                              refine take_ (i := 12) (N := some 86) (v := ?_) (a' := ?_) #[true, true, true, true, true, true, true, true, true, true, true, true, true, true, true, true, true, true, true, true, true, true, true, true, true, true, false, false, false, false] rfl rfl (take_ofW HT_.out HW_.out (by kernel_rfl)) (fun _ _ _ h => h) (Or.inl ⟨by rfl, ?_⟩) hHeld ?_ ?_
                                              rotate_left
                                              · rintro w' ⟨s0, s1, s2, s3, s4, s5, s6⟩
                                                go_simp
                                                with_reducible rfl
                                              rotate_left
                                              · simp only [Act.put, List.setIfInBounds_toArray, List.set_cons_zero, List.set_cons_succ, i64_w, i32_w]
                                                rfl
                                              refine pure_ (i := 26) (N := some 100) (v := ?_) (a' := ?_) #[true, true, true, true, true, true, true, true, true, true, true, true, true, true, true, true, true, true, true, true, true, true, true, true, true, true, true, false, false, false] rfl rfl (any_of HT_.out (by kernel_rfl)) (fun _ _ _ h => h) (Or.inl ⟨by rfl, ?_⟩) ?_ ?_
                                              rotate_left
                                              · intro w'
                                                go_simp
                                                with_reducible rfl
                                              rotate_left
                                              · simp only [Act.put, List.setIfInBounds_toArray, List.set_cons_zero, List.set_cons_succ, i64_w, i32_w]
                                                rfl
                                              refine take_ (i := 27) (N := some 101) (v := ?_) (a' := ?_) #[true, true, true, true, true, true, true, true, true, true, true, true, true, true, true, true, true, true, true, true, true, true, true, true, true, true, true, true, false, false] rfl rfl (take_ofW HT_.out HW_.out (by kernel_rfl)) (fun _ _ _ h => h) (Or.inl ⟨by rfl, ?_⟩) hHeld ?_ ?_
                                              rotate_left
                                              · rintro w' ⟨s0, s1, s2, s3, s4, s5, s6⟩
                                                go_simp
                                                with_reducible rfl
                                              rotate_left
                                              · simp only [Act.put, List.setIfInBounds_toArray, List.set_cons_zero, List.set_cons_succ, i64_w, i32_w]
                                                rfl
                                              refine pure_ (i := 28) (N := some 102) (v := ?_) (a' := ?_) #[true, true, true, true, true, true, true, true, true, true, true, true, true, true, true, true, true, true, true, true, true, true, true, true, true, true, true, true, true, false] rfl rfl (any_of HT_.out (by kernel_rfl)) (fun _ _ _ h => h) (Or.inl ⟨by rfl, ?_⟩) ?_ ?_
                                              rotate_left
                                              · intro w'
                                                go_simp
                                                with_reducible rfl
                                              rotate_left
                                              · simp only [Act.put, List.setIfInBounds_toArray, List.set_cons_zero, List.set_cons_succ, i64_w, i32_w]
                                                rfl
                                              refine last_ (i := 29) (N := none) #[true, true, true, true, true, true, true, true, true, true, true, true, true, true, true, true, true, true, true, true, true, true, true, true, true, true, true, true, true, true] rfl rfl (one_of HT_.out (by kernel_rfl)) (by decide) (fun K hK => ?_)
                                              refine skip_ (w1 := ?_) (by rfl) rfl ?_ ?_
                                              rotate_left
                                              · go_simp
                                                rfl
                                              refine hK.out _ _ ?_
                                              clear hK K
                                              refine done_ (done_of HT_.out (by kernel_rfl)) ?_
                                              try go_wp2
                                              go_roundg k5
                                              case measure => have := HJ3.out; have := HJ32.out; have := HK3.out; have := HK4.out; have := HK5.out; omega
                                              case rel => exact ⟨(wrap64 (x16_5 + 1)), (x129001_5), (y135), (u129001), (.slice (some ⟨go85, 0, none⟩) x129002_5.length co85), (by first | rfl | (simp; done) | (simp [*]; done)), H', ⟨by have := HJ3.out; have := HJ32.out; have := HK3.out; have := HK4.out; have := HK5.out; omega⟩, ⟨by (with_reducible repeat (first | apply Kd.R_alloc | apply Kd.R_drewN | apply Kd.R_drew)); exact Kd.R_mono (Kd.R_far (p := ⟨go85, ((ji82) : Int).toNat, none⟩) (Kd.R_mono HO_129001.out (fun k_ hk => (⟨hk, fun e_ => hk (by rw [e_]; rfl)⟩ : _ ∧ k_ ≠ go85))) (fun _ hk => hk.2) (.int .i64 (rd l1_2 (ji79)))) (fun _ hk => hk.1)⟩, ⟨by (with_reducible repeat (first | apply Kd.R_alloc | apply Kd.R_drewN | apply Kd.R_drew)); exact HQ87.out⟩, ⟨by (with_reducible repeat (first | refine blk_drewN ?_ _ | refine blk_drew ?_ | refine blk_alloc ?_ _)); refine blk_far ?_ (by have h_ := Kd.R_ne HO_129002.out BK101.out (by decide); intro e_; exact h_ (by rw [e_]; rfl)) _; (with_reducible repeat (first | refine blk_drewN ?_ _ | refine blk_drew ?_ | refine blk_alloc ?_ _)); exact BK101.out⟩, ⟨by (with_reducible repeat (first | refine blk_drewN ?_ _ | refine blk_drew ?_ | refine blk_alloc ?_ _)); refine blk_far ?_ (by have h_ := Kd.R_ne HO_129002.out BK102.out (by decide); intro e_; exact h_ (by rw [e_]; rfl)) _; (with_reducible repeat (first | refine blk_drewN ?_ _ | refine blk_drew ?_ | refine blk_alloc ?_ _)); exact BK102.out⟩, ⟨by (with_reducible repeat (first | refine blk_drewN ?_ _ | refine blk_drew ?_ | refine blk_alloc ?_ _)); refine blk_far ?_ (by have h_ := Kd.R_ne HO_129002.out BK103.out (by decide); intro e_; exact h_ (by rw [e_]; rfl)) _; (with_reducible repeat (first | refine blk_drewN ?_ _ | refine blk_drew ?_ | refine blk_alloc ?_ _)); exact BK103.out⟩, ⟨by (with_reducible repeat (first | refine blk_drewN ?_ _ | refine blk_drew ?_ | refine blk_alloc ?_ _)); refine blk_far ?_ (by have h_ := Kd.R_ne HO_129002.out BK128.out (by decide); intro e_; exact h_ (by rw [e_]; rfl)) _; (with_reducible repeat (first | refine blk_drewN ?_ _ | refine blk_drew ?_ | refine blk_alloc ?_ _)); exact BK128.out⟩, ⟨by repeat (first | (with_reducible first | exact HB.out | apply below_alloc | apply pw_below_drewN | apply below_drew1 | refine below_set ?_ GB85.out | refine below_set ?_ GE101.out | refine below_set ?_ GE102.out | refine below_set ?_ GE103.out | refine below_set ?_ GE128.out) | exact HB.out)⟩⟩
                                            · rw [if_neg c84] at H
                                              exact absurd H (by simp)
                                          · rw [if_neg c83] at H
                                            exact absurd H (by simp)
                                        · rw [if_neg c81] at H
                                          exact absurd H (by simp)
                                      · rw [if_neg c80] at H
                                        exact absurd H (by simp)
                                  · rw [if_neg c77] at H
                                    have c77b0 : decide (x16_5 < t131) = false := decide_eq_false c77
                                    clear c77
                                    have H' := Aside0.mk H
                                    clear H
                                    go_wp2
                                    go_roundg k5
                                    case measure => have := HJ3.out; have := HJ32.out; have := HK3.out; have := HK4.out; have := HK5.out; omega
                                    case rel => exact ⟨(wrap64 (x15_4 + 1)), (x129001_5), (x129002_5), (u129001), (u129002), (by first | rfl | (simp; done) | (simp [*]; done)), H', ⟨by have := HJ3.out; have := HJ32.out; have := HK3.out; have := HK4.out; have := HK5.out; omega⟩, ⟨by (with_reducible repeat (first | apply Kd.R_alloc | apply Kd.R_drewN | apply Kd.R_drew)); exact HO_129001.out⟩, ⟨by (with_reducible repeat (first | apply Kd.R_alloc | apply Kd.R_drewN | apply Kd.R_drew)); exact HO_129002.out⟩, ⟨by (with_reducible repeat (first | refine blk_drewN ?_ _ | refine blk_drew ?_ | refine blk_alloc ?_ _)); exact BK101.out⟩, ⟨by (with_reducible repeat (first | refine blk_drewN ?_ _ | refine blk_drew ?_ | refine blk_alloc ?_ _)); exact BK102.out⟩, ⟨by (with_reducible repeat (first | refine blk_drewN ?_ _ | refine blk_drew ?_ | refine blk_alloc ?_ _)); exact BK103.out⟩, ⟨by (with_reducible repeat (first | refine blk_drewN ?_ _ | refine blk_drew ?_ | refine blk_alloc ?_ _)); exact BK128.out⟩, ⟨by repeat (first | (with_reducible first | exact HB.out | apply below_alloc | apply pw_below_drewN | apply below_drew1 | refine below_set ?_ GE101.out | refine below_set ?_ GE102.out | refine below_set ?_ GE103.out | refine below_set ?_ GE128.out) | exact HB.out)⟩⟩
                            · rw [if_neg c76] at H
                              have c76b0 : decide (x15_4 < t130) = false := decide_eq_false c76
                              clear c76
                              have H' := Aside0.mk H
                              clear H
                              go_wp2
                              go_roundg k4
                              case measure => have := HJ3.out; have := HJ32.out; have := HK3.out; have := HK4.out; omega
                              case rel => exact ⟨(wrap64 (x14_3 + 1)), (x129001_4), (x129002_4), (u129001), (u129002), (by first | rfl | (simp; done) | (simp [*]; done)), H', ⟨by have := HJ3.out; have := HJ32.out; have := HK3.out; have := HK4.out; omega⟩, ⟨by (with_reducible repeat (first | apply Kd.R_alloc | apply Kd.R_drewN | apply Kd.R_drew)); exact HO_129001.out⟩, ⟨by (with_reducible repeat (first | apply Kd.R_alloc | apply Kd.R_drewN | apply Kd.R_drew)); exact HO_129002.out⟩, ⟨by (with_reducible repeat (first | refine blk_drewN ?_ _ | refine blk_drew ?_ | refine blk_alloc ?_ _)); exact BK101.out⟩, ⟨by (with_reducible repeat (first | refine blk_drewN ?_ _ | refine blk_drew ?_ | refine blk_alloc ?_ _)); exact BK102.out⟩, ⟨by (with_reducible repeat (first | refine blk_drewN ?_ _ | refine blk_drew ?_ | refine blk_alloc ?_ _)); exact BK103.out⟩, ⟨by (with_reducible repeat (first | refine blk_drewN ?_ _ | refine blk_drew ?_ | refine blk_alloc ?_ _)); exact BK128.out⟩, ⟨by repeat (first | (with_reducible first | exact HB.out | apply below_alloc | apply pw_below_drewN | apply below_drew1 | refine below_set ?_ GE101.out | refine below_set ?_ GE102.out | refine below_set ?_ GE103.out | refine below_set ?_ GE128.out) | exact HB.out)⟩⟩
                      · rw [if_neg c75] at H
                        have c75b0 : decide (x14_3 < t129) = false := decide_eq_false c75
                        clear c75
                        simp only [Option.some.injEq, Prod.mk.injEq] at H
                        obtain ⟨rfl, rfl, rfl, rfl⟩ := H
                        have hnb88 := NB128_101.out
                        have hnc88 := NB101_128.out
                        have hnb89 := NB128_102.out
                        have hnc89 := NB102_128.out
                        have hnb90 := NB128_103.out
                        have hnc90 := NB103_128.out
                        have hcz91_0 : wr.cell? ⟨gb128, 0, none⟩ = some (.bool t121) := (blk_cell BK128.out 0).trans rfl
                        have hcz91_1 : wr.cell? ⟨gb128, 1, none⟩ = some (u129001) := (blk_cell BK128.out 1).trans rfl
                        have hcz91_2 : wr.cell? ⟨gb128, 2, none⟩ = some (u129002) := (blk_cell BK128.out 2).trans rfl
                        have hfz91_0 := blk_frozen BK128.out 0
                        have hfz91_1 := blk_frozen BK128.out 1
                        have hfz91_2 := blk_frozen BK128.out 2
                        have hnb92 := NB103_101.out
                        have hnc92 := NB101_103.out
                        have hnb93 := NB103_102.out
                        have hnc93 := NB102_103.out
                        have hcz94_0 : wr.cell? ⟨gb103, 0, none⟩ = some (.bool false) := (blk_cell BK103.out 0).trans rfl
                        have hcz94_1 : wr.cell? ⟨gb103, 1, none⟩ = some (.slice none 0 0) := (blk_cell BK103.out 1).trans rfl
                        have hcz94_2 : wr.cell? ⟨gb103, 2, none⟩ = some (.slice none 0 0) := (blk_cell BK103.out 2).trans rfl
                        have hfz94_0 := blk_frozen BK103.out 0
                        have hfz94_1 := blk_frozen BK103.out 1
                        have hfz94_2 := blk_frozen BK103.out 2
                        obtain ⟨Ao95, co95, eo95⟩ := Kd.R_slice HO_129001.out
                        subst eo95
                        obtain ⟨Ao96, co96, eo96⟩ := Kd.R_slice HO_129002.out
                        subst eo96
                        go_wp2
                        refine bodyPost_ret (results_ct rfl _ _ gb103 28 #[.bool t121, .slice Ao95 x129001_3.length co95, .slice Ao96 x129002_3.length co96] (0, 0) _ rfl (by (with_reducible repeat (first | refine blk_drewN ?_ _ | refine blk_drew ?_ | refine blk_alloc ?_ _)); refine blk_put (cs := #[.bool t121, .slice Ao95 x129001_3.length co95, .slice none 0 0]) ?_ 2 _ rfl; (with_reducible repeat (first | refine blk_drewN ?_ _ | refine blk_drew ?_ | refine blk_alloc ?_ _)); refine blk_put (cs := #[.bool t121, .slice none 0 0, .slice none 0 0]) ?_ 1 _ rfl; (with_reducible repeat (first | refine blk_drewN ?_ _ | refine blk_drew ?_ | refine blk_alloc ?_ _)); refine blk_put (cs := #[.bool false, .slice none 0 0, .slice none 0 0]) ?_ 0 _ rfl; (with_reducible repeat (first | refine blk_drewN ?_ _ | refine blk_drew ?_ | refine blk_alloc ?_ _)); exact BK103.out) Try.underlying28 rfl (by kernel_rfl)) rfl ?_
                        exact ⟨_, _, by first | rfl | (simp [errW_none, errW_some] <;> rfl) | (simp [*, errW_none, errW_some] <;> rfl), by (with_reducible repeat (first | apply Kd.R_alloc | apply Kd.R_drewN | apply Kd.R_drew)); exact Kd.R_mono (Kd.R_far (p := ⟨gb103, 2, none⟩) (Kd.R_far (p := ⟨gb103, 1, none⟩) (Kd.R_far (p := ⟨gb103, 0, none⟩) (Kd.R_types HO_129001.out BK103.out (by decide)) (fun _ hk => hk.2) (.bool t121)) (fun _ hk => hk.2) (.slice Ao95 x129001_3.length co95)) (fun _ hk => hk.2) (.slice Ao96 x129002_3.length co96)) (fun _ hk => hk.1), by (with_reducible repeat (first | apply Kd.R_alloc | apply Kd.R_drewN | apply Kd.R_drew)); exact Kd.R_mono (Kd.R_far (p := ⟨gb103, 2, none⟩) (Kd.R_far (p := ⟨gb103, 1, none⟩) (Kd.R_far (p := ⟨gb103, 0, none⟩) (Kd.R_types HO_129002.out BK103.out (by decide)) (fun _ hk => hk.2) (.bool t121)) (fun _ hk => hk.2) (.slice Ao95 x129001_3.length co95)) (fun _ hk => hk.2) (.slice Ao96 x129002_3.length co96)) (fun _ hk => hk.1), by repeat (first | (with_reducible first | exact HB.out | apply below_alloc | apply pw_below_drewN | apply below_drew1 | refine below_set ?_ GE101.out | refine below_set ?_ GE102.out | refine below_set ?_ GE103.out | refine below_set ?_ GE128.out) | exact HB.out)⟩
                · rw [if_neg c66] at H
                  exact absurd H (by simp)
        · rw [if_neg c31] at H
          have c31b0 : (t113 == 0) = false := beq_eq_false_iff_ne.mpr c31
          have c31b1 : (t113 != 0) = true := bne_iff_ne.mpr c31
          replace H := Option.bind_eq_some_iff.mp H
          obtain ⟨⟨t114, t115, t118⟩, A970, H⟩ := H
          replace H : (some (t114, t115, t118, t113)) = some (r1, r2, r3, r4) := H
          have A97 := Aside0.mk A970
          clear A970
          simp only [Option.some.injEq, Prod.mk.injEq] at H
          obtain ⟨rfl, rfl, rfl, rfl⟩ := H
          have hnb98 := NB101_102.out
          have hnc98 := NB102_101.out
          have hnb99 := NB101_103.out
          have hnc99 := NB103_101.out
          have hcz100_0 : wc.cell? ⟨gb101, 0, none⟩ = some (.bool a0_0) := (blk_cell BK101.out 0).trans rfl
          have hcz100_1 : wc.cell? ⟨gb101, 1, none⟩ = some (.slice A0_1 l0_1.length c0_1) := (blk_cell BK101.out 1).trans rfl
          have hcz100_2 : wc.cell? ⟨gb101, 2, none⟩ = some (.slice A0_2 l0_2.length c0_2) := (blk_cell BK101.out 2).trans rfl
          have hfz100_0 := blk_frozen BK101.out 0
          have hfz100_1 := blk_frozen BK101.out 1
          have hfz100_2 := blk_frozen BK101.out 2
          go_wp2_with (first | ((with_reducible refine gate_callee (f := 80) rfl ?_); refine goesL_ (some 27) rfl rfl Try.func80 (by kernel_rfl) rfl #[.agg #[.bool a0_0, .slice A0_1 l0_1.length c0_1, .slice A0_2 l0_2.length c0_2]] rfl (by (try simp only [List.map_toArray, List.map_cons, List.map_nil]); first | done | rfl | (simp only [List.length_drop, List.length_take]; rfl)) ?_; (with_reducible refine (spec_l5Single.calls a0_0 _ _ l0_1 _ _ l0_2 t113 _ ?side1 ?side2 ?side3 ?side4 A30.out).mono ?_); (case side1 => repeat (first | exact (Kd.C_below HR0_1.out HB.out) | (with_reducible refine Kd.C_alloc ?_ _) | (with_reducible refine Kd.C_drewN ?_ _) | (with_reducible refine Kd.C_drew ?_))); (case side2 => exact HC0_1.out); (case side3 => repeat (first | exact (Kd.C_below HR0_2.out HB.out) | (with_reducible refine Kd.C_alloc ?_ _) | (with_reducible refine Kd.C_drewN ?_ _) | (with_reducible refine Kd.C_drew ?_))); (case side4 => exact HC0_2.out); rintro e w101 ⟨rfl, hb⟩; refine ⟨_, rfl, ?_⟩; have n0_ := Aside0.mk (blk_below (g := gb101) (o := .cells #[.bool a0_0, .slice A0_1 l0_1.length c0_1, .slice A0_2 l0_2.length c0_2] 28 (0, 0)) (by (with_reducible repeat (first | refine blk_drewN ?_ _ | refine blk_drew ?_ | refine blk_alloc ?_ _)); exact BK101.out) hb); have n1_ := Aside0.mk (blk_below (g := gb102) (o := .cells #[.bool a1_0, .slice A1_1 l1_1.length c1_1, .slice A1_2 l1_2.length c1_2] 28 (0, 0)) (by (with_reducible repeat (first | refine blk_drewN ?_ _ | refine blk_drew ?_ | refine blk_alloc ?_ _)); exact BK102.out) hb); have n2_ := Aside0.mk (blk_below (g := gb103) (o := .cells #[.bool false, .slice none 0 0, .slice none 0 0] 28 (0, 0)) (by (with_reducible repeat (first | refine blk_drewN ?_ _ | refine blk_drew ?_ | refine blk_alloc ?_ _)); exact BK103.out) hb); have n3_ := Aside0.mk (below_step (by repeat (first | (with_reducible first | exact HB.out | apply below_alloc | apply pw_below_drewN | apply below_drew1 | refine below_set ?_ GE101.out | refine below_set ?_ GE102.out | refine below_set ?_ GE103.out) | exact HB.out)) hb); clear BK101; clear BK102; clear BK103; clear HB; have BK101 := n0_; have BK102 := n1_; have BK103 := n2_; have HB := n3_; clear n0_ n1_ n2_ n3_; (try clear hb); (try clear hb2); (try clear hk); (try clear hi)) | ((with_reducible refine gate_callee (f := 53) rfl ?_); refine goesL_ (some 30) rfl rfl Try.func53 (by kernel_rfl) rfl #[] rfl (by (try simp only [List.map_toArray, List.map_cons, List.map_nil]); first | done | rfl | (simp only [List.length_drop, List.length_take]; rfl)) ?_; (with_reducible refine (spec_l4None.calls  t114 t115 t118 _ A97.out).mono ?_); rintro e w102 ⟨v116, v119, rfl, ho0, ho1, hb⟩; refine ⟨_, rfl, ?_⟩; have n0_ := Aside0.mk (Kd.R_lower ho0 (below_size (by repeat (first | (with_reducible first | exact HB.out | apply below_alloc | apply pw_below_drewN | apply below_drew1 | refine below_set ?_ GE101.out | refine below_set ?_ GE102.out | refine below_set ?_ GE103.out) | exact HB.out)))); have n1_ := Aside0.mk (Kd.R_lower ho1 (below_size (by repeat (first | (with_reducible first | exact HB.out | apply below_alloc | apply pw_below_drewN | apply below_drew1 | refine below_set ?_ GE101.out | refine below_set ?_ GE102.out | refine below_set ?_ GE103.out) | exact HB.out)))); have n2_ := Aside0.mk (blk_below (g := gb101) (o := .cells #[.bool a0_0, .slice A0_1 l0_1.length c0_1, .slice A0_2 l0_2.length c0_2] 28 (0, 0)) (by (with_reducible repeat (first | refine blk_drewN ?_ _ | refine blk_drew ?_ | refine blk_alloc ?_ _)); exact BK101.out) hb); have n3_ := Aside0.mk (blk_below (g := gb102) (o := .cells #[.bool a1_0, .slice A1_1 l1_1.length c1_1, .slice A1_2 l1_2.length c1_2] 28 (0, 0)) (by (with_reducible repeat (first | refine blk_drewN ?_ _ | refine blk_drew ?_ | refine blk_alloc ?_ _)); exact BK102.out) hb); have n4_ := Aside0.mk (blk_below (g := gb103) (o := .cells #[.bool false, .slice none 0 0, .slice none 0 0] 28 (0, 0)) (by (with_reducible repeat (first | refine blk_drewN ?_ _ | refine blk_drew ?_ | refine blk_alloc ?_ _)); exact BK103.out) hb); have n5_ := Aside0.mk (below_step (by repeat (first | (with_reducible first | exact HB.out | apply below_alloc | apply pw_below_drewN | apply below_drew1 | refine below_set ?_ GE101.out | refine below_set ?_ GE102.out | refine below_set ?_ GE103.out) | exact HB.out)) hb); clear BK101; clear BK102; clear BK103; clear HB; have HO117 := n0_; have HO120 := n1_; have BK101 := n2_; have BK102 := n3_; have BK103 := n4_; have HB := n5_; clear n0_ n1_ n2_ n3_ n4_ n5_; (try clear hb); (try clear hb2); (try clear hk); (try clear hi); (try clear ho0); (try clear ho1); have hnb103 := NB103_102.out; have hnc103 := NB102_103.out; have hcz104_0 : w102.cell? ⟨gb103, 0, none⟩ = some (.bool false) := (blk_cell BK103.out 0).trans rfl; have hcz104_1 : w102.cell? ⟨gb103, 1, none⟩ = some (.slice none 0 0) := (blk_cell BK103.out 1).trans rfl; have hcz104_2 : w102.cell? ⟨gb103, 2, none⟩ = some (.slice none 0 0) := (blk_cell BK103.out 2).trans rfl; have hfz104_0 := blk_frozen BK103.out 0; have hfz104_1 := blk_frozen BK103.out 1; have hfz104_2 := blk_frozen BK103.out 2; obtain ⟨Ao105, co105, eo105⟩ := Kd.R_slice HO117.out; subst eo105; obtain ⟨Ao106, co106, eo106⟩ := Kd.R_slice HO120.out; subst eo106))
          refine bodyPost_ret (results_ct rfl _ _ gb103 28 #[.bool t114, .slice Ao105 t115.length co105, .slice Ao106 t118.length co106] (0, 0) _ rfl (by (with_reducible repeat (first | refine blk_drewN ?_ _ | refine blk_drew ?_ | refine blk_alloc ?_ _)); refine blk_put (cs := #[.bool t114, .slice Ao105 t115.length co105, .slice none 0 0]) ?_ 2 _ rfl; (with_reducible repeat (first | refine blk_drewN ?_ _ | refine blk_drew ?_ | refine blk_alloc ?_ _)); refine blk_put (cs := #[.bool t114, .slice none 0 0, .slice none 0 0]) ?_ 1 _ rfl; (with_reducible repeat (first | refine blk_drewN ?_ _ | refine blk_drew ?_ | refine blk_alloc ?_ _)); refine blk_put (cs := #[.bool false, .slice none 0 0, .slice none 0 0]) ?_ 0 _ rfl; (with_reducible repeat (first | refine blk_drewN ?_ _ | refine blk_drew ?_ | refine blk_alloc ?_ _)); exact BK103.out) Try.underlying28 rfl (by kernel_rfl)) rfl ?_
          exact ⟨_, _, by first | rfl | (simp [errW_none, errW_some] <;> rfl) | (simp [*, errW_none, errW_some] <;> rfl), by (with_reducible repeat (first | apply Kd.R_alloc | apply Kd.R_drewN | apply Kd.R_drew)); exact Kd.R_mono (Kd.R_far (p := ⟨gb103, 2, none⟩) (Kd.R_far (p := ⟨gb103, 1, none⟩) (Kd.R_far (p := ⟨gb103, 0, none⟩) (Kd.R_types HO117.out BK103.out (by decide)) (fun _ hk => hk.2) (.bool t114)) (fun _ hk => hk.2) (.slice Ao105 t115.length co105)) (fun _ hk => hk.2) (.slice Ao106 t118.length co106)) (fun _ hk => hk.1), by (with_reducible repeat (first | apply Kd.R_alloc | apply Kd.R_drewN | apply Kd.R_drew)); exact Kd.R_mono (Kd.R_far (p := ⟨gb103, 2, none⟩) (Kd.R_far (p := ⟨gb103, 1, none⟩) (Kd.R_far (p := ⟨gb103, 0, none⟩) (Kd.R_types HO120.out BK103.out (by decide)) (fun _ hk => hk.2) (.bool t114)) (fun _ hk => hk.2) (.slice Ao105 t115.length co105)) (fun _ hk => hk.2) (.slice Ao106 t118.length co106)) (fun _ hk => hk.1), by repeat (first | (with_reducible first | exact HB.out | apply below_alloc | apply pw_below_drewN | apply below_drew1 | refine below_set ?_ GE101.out | refine below_set ?_ GE102.out | refine below_set ?_ GE103.out) | exact HB.out)⟩

end Go.Proofs.Ytehfcnndjhjkoaa.PA

namespace Go.Proofs.Ytehfcnndjhjkoaa.PA
open Go.RowKit Go.Proofs.YtehfcnndjhjkoaaW.PrintWords Go.Proofs.YtehfcnndjhjkoaaW.PrintLast Go.Proofs.YtehfcnndjhjkoaaW.PrintMore
set_option linter.unusedVariables false
set_option linter.unusedSimpArgs false
set_option maxHeartbeats 2000000 in
set_option maxRecDepth 100000 in
theorem Rotate_no (k0 : Nat) (v : Int) (a : Bool) (Aa1 : Option Addr) (ca1 : Nat) (la1 : List Int) (Aa2 : Option Addr) (ca2 : Nat) (la2 : List Int) (b : Bool) (Ab1 : Option Addr) (cb1 : Nat) (lb1 : List Int) (Ab2 : Option Addr) (cb2 : Nat) (lb2 : List Int) (first : Bool) (w : World) (ha1 : Kd.C (Kd.int .i64) w Aa1 la1.length la1) (ka1 : la1.length ≤ ca1) (ha2 : Kd.C (Kd.int .i64) w Aa2 la2.length la2) (ka2 : la2.length ≤ ca2) (hb1 : Kd.C (Kd.int .i64) w Ab1 lb1.length lb1) (kb1 : lb1.length ≤ cb1) (hb2 : Kd.C (Kd.int .i64) w Ab2 lb2.length lb2) (kb2 : lb2.length ≤ cb2) (hv : impl_valid.f k0 [⟨a, la1, la2⟩, ⟨b, lb1, lb2⟩] = some v) (hv0 : v ≠ 0) :
    Calls Try.prog 36 #[.agg #[.bool a, .slice Aa1 la1.length ca1, .slice Aa2 la2.length ca2], .agg #[.bool b, .slice Ab1 lb1.length cb1, .slice Ab2 lb2.length cb2], .bool first] w fun e w' => ∃ v1_ v2_ : Value, e = .returned (.tuple #[.agg #[.bool false, v1_, v2_], .int .i64 v]) ∧ Kd.R (Kd.int .i64) 3 w' w.heap.size (fun k_ => some k_ ≠ (v2_ : Value).ownBlock) v1_ [] ∧ Kd.R (Kd.int .i64) 3 w' w.heap.size (fun k_ => some k_ ≠ (v1_ : Value).ownBlock) v2_ [] ∧ Below w.heap.size w w' := by
  have HA1 := Aside0.mk ha1
  have HA2 := Aside0.mk ha2
  have KA1 := Aside0.mk ka1
  have KA2 := Aside0.mk ka2
  have HB1 := Aside0.mk hb1
  have HB2 := Aside0.mk hb2
  have KB1 := Aside0.mk kb1
  have KB2 := Aside0.mk kb2
  have HV := Aside0.mk hv
  have HB := Aside0.mk (Below.refl w.heap.size w)
  clear ha1 ha2 ka1 ka2 hb1 hb2 kb1 kb2 hv
  have c0 : (v == 0) = false := beq_eq_false_iff_ne.mpr hv0
  have c1 : (v != 0) = true := bne_iff_ne.mpr hv0
  clear hv0
  go_enter Try.func36, Try.ntmps36
  go_wp2_with (first | ((with_reducible refine gate_dst (N := 3) rfl ?_); refine box_event ?hg (N := 3) ?hd (cs := #[.bool a, .slice Aa1 la1.length ca1, .slice Aa2 la2.length ca2]) (t := 28) ?hr ?_; (case hd => rfl); (case hg => rfl); (case hr => first | (go_simp; done) | (go_simp; rfl)); intro g1 hg1 w1 hb1 hB1; have GEHB_g1 := Aside0.mk (show w.heap.size ≤ g1 from hg1 ▸ HB.out.size); have BK1 := Aside0.mk hb1; clear hg1 hb1; have nHB := Aside0.mk (below_step HB.out hB1); clear HB; have HB := nHB; clear nHB; clear hB1) | ((with_reducible refine gate_dst (N := 4) rfl ?_); refine box_event ?hg (N := 4) ?hd (cs := #[.bool b, .slice Ab1 lb1.length cb1, .slice Ab2 lb2.length cb2]) (t := 28) ?hr ?_; (case hd => rfl); (case hg => rfl); (case hr => first | (go_simp; done) | (go_simp; rfl)); intro g2 hg2 w2 hb2 hB2; have GEHB_g2 := Aside0.mk (show w.heap.size ≤ g2 from hg2 ▸ HB.out.size); have NEg1_g2 := Aside0.mk (show g1 ≠ g2 from Nat.ne_of_lt (hg2 ▸ blk_lt BK1.out)); have BK2 := Aside0.mk hb2; clear hg2 hb2; have nBK1 := Aside0.mk (blk_below (g := g1) (o := .cells #[.bool a, .slice Aa1 la1.length ca1, .slice Aa2 la2.length ca2] 28 (0, 0)) BK1.out hB2); have nHB := Aside0.mk (below_step HB.out hB2); clear BK1 HB; have BK1 := nBK1; have HB := nHB; clear nBK1 nHB; clear hB2) | ((with_reducible refine gate_dst (N := 6) rfl ?_); refine box_event ?hg (N := 6) ?hd (cs := #[.bool false, .slice none 0 0, .slice none 0 0]) (t := 28) ?hr ?_; (case hd => rfl); (case hg => rfl); (case hr => first | (go_simp; done) | (go_simp; rfl)); intro g3 hg3 w3 hb3 hB3; have GEHB_g3 := Aside0.mk (show w.heap.size ≤ g3 from hg3 ▸ HB.out.size); have NEg1_g3 := Aside0.mk (show g1 ≠ g3 from Nat.ne_of_lt (hg3 ▸ blk_lt BK1.out)); have NEg2_g3 := Aside0.mk (show g2 ≠ g3 from Nat.ne_of_lt (hg3 ▸ blk_lt BK2.out)); have BK3 := Aside0.mk hb3; clear hg3 hb3; have nBK1 := Aside0.mk (blk_below (g := g1) (o := .cells #[.bool a, .slice Aa1 la1.length ca1, .slice Aa2 la2.length ca2] 28 (0, 0)) BK1.out hB3); have nBK2 := Aside0.mk (blk_below (g := g2) (o := .cells #[.bool b, .slice Ab1 lb1.length cb1, .slice Ab2 lb2.length cb2] 28 (0, 0)) BK2.out hB3); have nHB := Aside0.mk (below_step HB.out hB3); clear BK1 BK2 HB; have BK1 := nBK1; have BK2 := nBK2; have HB := nHB; clear nBK1 nBK2 nHB; clear hB3) | ((with_reducible refine gate_dst (N := 11) rfl ?_); refine wpList_load_row rfl 28 (.tmp 3) rfl g1 rfl 28 #[.bool a, .slice Aa1 la1.length ca1, .slice Aa2 la2.length ca2] (0, 0) _ BK1.out Try.underlying28 rfl (by kernel_rfl) ?_) | ((with_reducible refine gate_dst (N := 12) rfl ?_); refine wpList_load_row rfl 28 (.tmp 4) rfl g2 rfl 28 #[.bool b, .slice Ab1 lb1.length cb1, .slice Ab2 lb2.length cb2] (0, 0) _ BK2.out Try.underlying28 rfl (by kernel_rfl) ?_) | ((with_reducible refine gate_dst (N := 13) rfl ?_); refine lit_event ?hg (N := 13) ?hd (cs := #[.bool a, .slice Aa1 la1.length ca1, .slice Aa2 la2.length ca2, .bool b, .slice Ab1 lb1.length cb1, .slice Ab2 lb2.length cb2]) (t := 28) (n := 2) ?hr ?_; (case hd => rfl); (case hg => rfl); (case hr => first | (go_simp; done) | (go_simp; rfl)); intro g4 hg4 w4 hb4 hB4; have GEHB_g4 := Aside0.mk (show w.heap.size ≤ g4 from hg4 ▸ HB.out.size); have NEg1_g4 := Aside0.mk (show g1 ≠ g4 from Nat.ne_of_lt (hg4 ▸ blk_lt BK1.out)); have NEg2_g4 := Aside0.mk (show g2 ≠ g4 from Nat.ne_of_lt (hg4 ▸ blk_lt BK2.out)); have NEg3_g4 := Aside0.mk (show g3 ≠ g4 from Nat.ne_of_lt (hg4 ▸ blk_lt BK3.out)); have BK4 := Aside0.mk hb4; clear hg4 hb4; have nBK1 := Aside0.mk (blk_below (g := g1) (o := .cells #[.bool a, .slice Aa1 la1.length ca1, .slice Aa2 la2.length ca2] 28 (0, 0)) BK1.out hB4); have nBK2 := Aside0.mk (blk_below (g := g2) (o := .cells #[.bool b, .slice Ab1 lb1.length cb1, .slice Ab2 lb2.length cb2] 28 (0, 0)) BK2.out hB4); have nBK3 := Aside0.mk (blk_below (g := g3) (o := .cells #[.bool false, .slice none 0 0, .slice none 0 0] 28 (0, 0)) BK3.out hB4); have nHB := Aside0.mk (below_step HB.out hB4); clear BK1 BK2 BK3 HB; have BK1 := nBK1; have BK2 := nBK2; have BK3 := nBK3; have HB := nHB; clear nBK1 nBK2 nBK3 nHB; clear hB4) | (go_at_call 58; refine (impl_valid.calls k0 _ 2 [⟨a, la1, la2⟩, ⟨b, lb1, lb2⟩] v _ (pair_C BK4.out (Kd.C_below HA1.out HB.out) KA1.out (Kd.C_below HA2.out HB.out) KA2.out (Kd.C_below HB1.out HB.out) KB1.out (Kd.C_below HB2.out HB.out) KB2.out) (Nat.le_refl _) HV.out).mono ?_; rintro e w5 ⟨rfl, hB5⟩; have nBK1 := Aside0.mk (blk_below (g := g1) (o := .cells #[.bool a, .slice Aa1 la1.length ca1, .slice Aa2 la2.length ca2] 28 (0, 0)) BK1.out hB5); have nBK2 := Aside0.mk (blk_below (g := g2) (o := .cells #[.bool b, .slice Ab1 lb1.length cb1, .slice Ab2 lb2.length cb2] 28 (0, 0)) BK2.out hB5); have nBK3 := Aside0.mk (blk_below (g := g3) (o := .cells #[.bool false, .slice none 0 0, .slice none 0 0] 28 (0, 0)) BK3.out hB5); have nBK4 := Aside0.mk (blk_below (g := g4) (o := .cells #[.bool a, .slice Aa1 la1.length ca1, .slice Aa2 la2.length ca2, .bool b, .slice Ab1 lb1.length cb1, .slice Ab2 lb2.length cb2] 28 (0, 0)) BK4.out hB5); have nHB := Aside0.mk (below_step HB.out hB5); clear BK1 BK2 BK3 BK4 HB; have BK1 := nBK1; have BK2 := nBK2; have BK3 := nBK3; have BK4 := nBK4; have HB := nHB; clear nBK1 nBK2 nBK3 nBK4 nHB; clear hB5) | ((with_reducible refine gate_store rfl ?_); refine store_named rfl 28 (.tmp 6) (.tmp 17) rfl g3 #[.bool false, .slice none 0 0, .slice none 0 0] rfl rfl 28 #[.bool false, .slice none 0 0, .slice none 0 0] BK3.out (by kernel_rfl) rfl (by simp [Value.oneCell']) ?_; intro w6 hs6 hb6; have nBK1 := Aside0.mk (hb6.blk BK1.out NEg1_g3.out); have nBK2 := Aside0.mk (hb6.blk BK2.out NEg2_g3.out); have nBK4 := Aside0.mk (hb6.blk BK4.out (fun e => NEg3_g4.out e.symm)); have nHB := Aside0.mk (HB.out.trans (hb6.below _ GEHB_g3.out)); clear BK1 BK2 BK4 HB; clear BK3 hb6; have BK3 := Aside0.mk hs6; clear hs6; have BK1 := nBK1; have BK2 := nBK2; have BK4 := nBK4; have HB := nHB; clear nBK1 nBK2 nBK4 nHB))
  refine bodyPost_ret (results_ct rfl _ _ g3 28 #[.bool false, .slice none 0 0, .slice none 0 0] (0, 0) _ rfl BK3.out Try.underlying28 rfl (by kernel_rfl)) rfl ?_
  exact ⟨_, _, rfl, Kd.R_nil _ _ _ _ _, Kd.R_nil _ _ _ _ _, HB.out⟩
set_option maxHeartbeats 2000000 in
set_option maxRecDepth 100000 in
theorem Rotate_yes (k0 k1 : Nat) (a : Bool) (Aa1 : Option Addr) (ca1 : Nat) (la1 : List Int) (Aa2 : Option Addr) (ca2 : Nat) (la2 : List Int) (b : Bool) (Ab1 : Option Addr) (cb1 : Nat) (lb1 : List Int) (Ab2 : Option Addr) (cb2 : Nat) (lb2 : List Int) (first : Bool) (w : World) (ha1 : Kd.C (Kd.int .i64) w Aa1 la1.length la1) (ka1 : la1.length ≤ ca1) (ha2 : Kd.C (Kd.int .i64) w Aa2 la2.length la2) (ka2 : la2.length ≤ ca2) (hb1 : Kd.C (Kd.int .i64) w Ab1 lb1.length lb1) (kb1 : lb1.length ≤ cb1) (hb2 : Kd.C (Kd.int .i64) w Ab2 lb2.length lb2) (kb2 : lb2.length ≤ cb2) (hv : impl_valid.f k0 [⟨a, la1, la2⟩, ⟨b, lb1, lb2⟩] = some 0) (sh fr : List Int) (cd : Int) (r1 : Bool) (r2 r3 : List Int) (r4 : Int)
    (hm : ∀ W, Below w.heap.size w W → Calls Try.prog 84 #[.agg #[.bool a, .slice Aa1 la1.length ca1, .slice Aa2 la2.length ca2], .agg #[.bool b, .slice Ab1 lb1.length cb1, .slice Ab2 lb2.length cb2], .bool first] W fun e w' => ∃ A1 c1 A2 c2, e = .returned (.tuple #[.agg #[.slice A1 sh.length c1, .slice A2 fr.length c2], .int .i64 cd]) ∧ Kd.C (Kd.int .i64) w' A1 sh.length sh ∧ sh.length ≤ c1 ∧ Kd.C (Kd.int .i64) w' A2 fr.length fr ∧ fr.length ≤ c2 ∧ Below W.heap.size W w')
    (hk : impl_made.f k1 b lb1 lb2 sh fr cd = some (r1, r2, r3, r4)) :
    Calls Try.prog 36 #[.agg #[.bool a, .slice Aa1 la1.length ca1, .slice Aa2 la2.length ca2], .agg #[.bool b, .slice Ab1 lb1.length cb1, .slice Ab2 lb2.length cb2], .bool first] w fun e w' => ∃ v1_ v2_ : Value, e = .returned (.tuple #[.agg #[.bool r1, v1_, v2_], .int .i64 r4]) ∧ Kd.R (Kd.int .i64) 3 w' w.heap.size (fun k_ => some k_ ≠ (v2_ : Value).ownBlock) v1_ r2 ∧ Kd.R (Kd.int .i64) 3 w' w.heap.size (fun k_ => some k_ ≠ (v1_ : Value).ownBlock) v2_ r3 ∧ Below w.heap.size w w' := by
  have HA1 := Aside0.mk ha1
  have HA2 := Aside0.mk ha2
  have KA1 := Aside0.mk ka1
  have KA2 := Aside0.mk ka2
  have HB1 := Aside0.mk hb1
  have HB2 := Aside0.mk hb2
  have KB1 := Aside0.mk kb1
  have KB2 := Aside0.mk kb2
  have HV := Aside0.mk hv
  have HB := Aside0.mk (Below.refl w.heap.size w)
  clear ha1 ha2 ka1 ka2 hb1 hb2 kb1 kb2 hv
  have HM := Aside0.mk hm
  have HK := Aside0.mk hk
  clear hm hk
  go_enter Try.func36, Try.ntmps36
  go_wp2_with (first | ((with_reducible refine gate_dst (N := 3) rfl ?_); refine box_event ?hg (N := 3) ?hd (cs := #[.bool a, .slice Aa1 la1.length ca1, .slice Aa2 la2.length ca2]) (t := 28) ?hr ?_; (case hd => rfl); (case hg => rfl); (case hr => first | (go_simp; done) | (go_simp; rfl)); intro g1 hg1 w1 hb1 hB1; have GEHB_g1 := Aside0.mk (show w.heap.size ≤ g1 from hg1 ▸ HB.out.size); have BK1 := Aside0.mk hb1; clear hg1 hb1; have nHB := Aside0.mk (below_step HB.out hB1); clear HB; have HB := nHB; clear nHB; clear hB1) | ((with_reducible refine gate_dst (N := 4) rfl ?_); refine box_event ?hg (N := 4) ?hd (cs := #[.bool b, .slice Ab1 lb1.length cb1, .slice Ab2 lb2.length cb2]) (t := 28) ?hr ?_; (case hd => rfl); (case hg => rfl); (case hr => first | (go_simp; done) | (go_simp; rfl)); intro g2 hg2 w2 hb2 hB2; have GEHB_g2 := Aside0.mk (show w.heap.size ≤ g2 from hg2 ▸ HB.out.size); have NEg1_g2 := Aside0.mk (show g1 ≠ g2 from Nat.ne_of_lt (hg2 ▸ blk_lt BK1.out)); have BK2 := Aside0.mk hb2; clear hg2 hb2; have nBK1 := Aside0.mk (blk_below (g := g1) (o := .cells #[.bool a, .slice Aa1 la1.length ca1, .slice Aa2 la2.length ca2] 28 (0, 0)) BK1.out hB2); have nHB := Aside0.mk (below_step HB.out hB2); clear BK1 HB; have BK1 := nBK1; have HB := nHB; clear nBK1 nHB; clear hB2) | ((with_reducible refine gate_dst (N := 6) rfl ?_); refine box_event ?hg (N := 6) ?hd (cs := #[.bool false, .slice none 0 0, .slice none 0 0]) (t := 28) ?hr ?_; (case hd => rfl); (case hg => rfl); (case hr => first | (go_simp; done) | (go_simp; rfl)); intro g3 hg3 w3 hb3 hB3; have GEHB_g3 := Aside0.mk (show w.heap.size ≤ g3 from hg3 ▸ HB.out.size); have NEg1_g3 := Aside0.mk (show g1 ≠ g3 from Nat.ne_of_lt (hg3 ▸ blk_lt BK1.out)); have NEg2_g3 := Aside0.mk (show g2 ≠ g3 from Nat.ne_of_lt (hg3 ▸ blk_lt BK2.out)); have BK3 := Aside0.mk hb3; clear hg3 hb3; have nBK1 := Aside0.mk (blk_below (g := g1) (o := .cells #[.bool a, .slice Aa1 la1.length ca1, .slice Aa2 la2.length ca2] 28 (0, 0)) BK1.out hB3); have nBK2 := Aside0.mk (blk_below (g := g2) (o := .cells #[.bool b, .slice Ab1 lb1.length cb1, .slice Ab2 lb2.length cb2] 28 (0, 0)) BK2.out hB3); have nHB := Aside0.mk (below_step HB.out hB3); clear BK1 BK2 HB; have BK1 := nBK1; have BK2 := nBK2; have HB := nHB; clear nBK1 nBK2 nHB; clear hB3) | ((with_reducible refine gate_dst (N := 11) rfl ?_); refine wpList_load_row rfl 28 (.tmp 3) rfl g1 rfl 28 #[.bool a, .slice Aa1 la1.length ca1, .slice Aa2 la2.length ca2] (0, 0) _ BK1.out Try.underlying28 rfl (by kernel_rfl) ?_) | ((with_reducible refine gate_dst (N := 12) rfl ?_); refine wpList_load_row rfl 28 (.tmp 4) rfl g2 rfl 28 #[.bool b, .slice Ab1 lb1.length cb1, .slice Ab2 lb2.length cb2] (0, 0) _ BK2.out Try.underlying28 rfl (by kernel_rfl) ?_) | ((with_reducible refine gate_dst (N := 13) rfl ?_); refine lit_event ?hg (N := 13) ?hd (cs := #[.bool a, .slice Aa1 la1.length ca1, .slice Aa2 la2.length ca2, .bool b, .slice Ab1 lb1.length cb1, .slice Ab2 lb2.length cb2]) (t := 28) (n := 2) ?hr ?_; (case hd => rfl); (case hg => rfl); (case hr => first | (go_simp; done) | (go_simp; rfl)); intro g4 hg4 w4 hb4 hB4; have GEHB_g4 := Aside0.mk (show w.heap.size ≤ g4 from hg4 ▸ HB.out.size); have NEg1_g4 := Aside0.mk (show g1 ≠ g4 from Nat.ne_of_lt (hg4 ▸ blk_lt BK1.out)); have NEg2_g4 := Aside0.mk (show g2 ≠ g4 from Nat.ne_of_lt (hg4 ▸ blk_lt BK2.out)); have NEg3_g4 := Aside0.mk (show g3 ≠ g4 from Nat.ne_of_lt (hg4 ▸ blk_lt BK3.out)); have BK4 := Aside0.mk hb4; clear hg4 hb4; have nBK1 := Aside0.mk (blk_below (g := g1) (o := .cells #[.bool a, .slice Aa1 la1.length ca1, .slice Aa2 la2.length ca2] 28 (0, 0)) BK1.out hB4); have nBK2 := Aside0.mk (blk_below (g := g2) (o := .cells #[.bool b, .slice Ab1 lb1.length cb1, .slice Ab2 lb2.length cb2] 28 (0, 0)) BK2.out hB4); have nBK3 := Aside0.mk (blk_below (g := g3) (o := .cells #[.bool false, .slice none 0 0, .slice none 0 0] 28 (0, 0)) BK3.out hB4); have nHB := Aside0.mk (below_step HB.out hB4); clear BK1 BK2 BK3 HB; have BK1 := nBK1; have BK2 := nBK2; have BK3 := nBK3; have HB := nHB; clear nBK1 nBK2 nBK3 nHB; clear hB4) | (go_at_call 58; refine (impl_valid.calls k0 _ 2 [⟨a, la1, la2⟩, ⟨b, lb1, lb2⟩] 0 _ (pair_C BK4.out (Kd.C_below HA1.out HB.out) KA1.out (Kd.C_below HA2.out HB.out) KA2.out (Kd.C_below HB1.out HB.out) KB1.out (Kd.C_below HB2.out HB.out) KB2.out) (Nat.le_refl _) HV.out).mono ?_; rintro e w5 ⟨rfl, hB5⟩; have nBK1 := Aside0.mk (blk_below (g := g1) (o := .cells #[.bool a, .slice Aa1 la1.length ca1, .slice Aa2 la2.length ca2] 28 (0, 0)) BK1.out hB5); have nBK2 := Aside0.mk (blk_below (g := g2) (o := .cells #[.bool b, .slice Ab1 lb1.length cb1, .slice Ab2 lb2.length cb2] 28 (0, 0)) BK2.out hB5); have nBK3 := Aside0.mk (blk_below (g := g3) (o := .cells #[.bool false, .slice none 0 0, .slice none 0 0] 28 (0, 0)) BK3.out hB5); have nBK4 := Aside0.mk (blk_below (g := g4) (o := .cells #[.bool a, .slice Aa1 la1.length ca1, .slice Aa2 la2.length ca2, .bool b, .slice Ab1 lb1.length cb1, .slice Ab2 lb2.length cb2] 28 (0, 0)) BK4.out hB5); have nHB := Aside0.mk (below_step HB.out hB5); clear BK1 BK2 BK3 BK4 HB; have BK1 := nBK1; have BK2 := nBK2; have BK3 := nBK3; have BK4 := nBK4; have HB := nHB; clear nBK1 nBK2 nBK3 nBK4 nHB; clear hB5) | ((with_reducible refine gate_dst (N := 20) rfl ?_); refine wpList_load_row rfl 28 (.tmp 3) rfl g1 rfl 28 #[.bool a, .slice Aa1 la1.length ca1, .slice Aa2 la2.length ca2] (0, 0) _ BK1.out Try.underlying28 rfl (by kernel_rfl) ?_) | ((with_reducible refine gate_dst (N := 21) rfl ?_); refine wpList_load_row rfl 28 (.tmp 4) rfl g2 rfl 28 #[.bool b, .slice Ab1 lb1.length cb1, .slice Ab2 lb2.length cb2] (0, 0) _ BK2.out Try.underlying28 rfl (by kernel_rfl) ?_) | (go_at_call 84; refine (HM.out _ HB.out).mono ?_; rintro e w6 ⟨Am1, cm1, Am2, cm2, rfl, hm1, km1, hm2, km2, hB6⟩; have HM1 := Aside0.mk hm1; have KM1 := Aside0.mk km1; have HM2 := Aside0.mk hm2; have KM2 := Aside0.mk km2; clear hm1 km1 hm2 km2; have nBK1 := Aside0.mk (blk_below (g := g1) (o := .cells #[.bool a, .slice Aa1 la1.length ca1, .slice Aa2 la2.length ca2] 28 (0, 0)) BK1.out hB6); have nBK2 := Aside0.mk (blk_below (g := g2) (o := .cells #[.bool b, .slice Ab1 lb1.length cb1, .slice Ab2 lb2.length cb2] 28 (0, 0)) BK2.out hB6); have nBK3 := Aside0.mk (blk_below (g := g3) (o := .cells #[.bool false, .slice none 0 0, .slice none 0 0] 28 (0, 0)) BK3.out hB6); have nBK4 := Aside0.mk (blk_below (g := g4) (o := .cells #[.bool a, .slice Aa1 la1.length ca1, .slice Aa2 la2.length ca2, .bool b, .slice Ab1 lb1.length cb1, .slice Ab2 lb2.length cb2] 28 (0, 0)) BK4.out hB6); have nHB := Aside0.mk (below_step HB.out hB6); clear BK1 BK2 BK3 BK4 HB; have BK1 := nBK1; have BK2 := nBK2; have BK3 := nBK3; have BK4 := nBK4; have HB := nHB; clear nBK1 nBK2 nBK3 nBK4 nHB; clear hB6; have HBm := Aside0.mk (Below.refl w6.heap.size w6)) | ((with_reducible refine gate_dst (N := 9) rfl ?_); refine box_event ?hg (N := 9) ?hd (cs := #[.slice none 0 0, .slice none 0 0]) (t := 70) ?hr ?_; (case hd => rfl); (case hg => rfl); (case hr => first | (go_simp; done) | (go_simp; rfl)); intro g7 hg7 w7 hb7 hB7; have GEHB_g7 := Aside0.mk (show w.heap.size ≤ g7 from hg7 ▸ HB.out.size); have GEHBm_g7 := Aside0.mk (show w6.heap.size ≤ g7 from hg7 ▸ HBm.out.size); have NEg1_g7 := Aside0.mk (show g1 ≠ g7 from Nat.ne_of_lt (hg7 ▸ blk_lt BK1.out)); have NEg2_g7 := Aside0.mk (show g2 ≠ g7 from Nat.ne_of_lt (hg7 ▸ blk_lt BK2.out)); have NEg3_g7 := Aside0.mk (show g3 ≠ g7 from Nat.ne_of_lt (hg7 ▸ blk_lt BK3.out)); have NEg4_g7 := Aside0.mk (show g4 ≠ g7 from Nat.ne_of_lt (hg7 ▸ blk_lt BK4.out)); have BK7 := Aside0.mk hb7; clear hg7 hb7; have nBK1 := Aside0.mk (blk_below (g := g1) (o := .cells #[.bool a, .slice Aa1 la1.length ca1, .slice Aa2 la2.length ca2] 28 (0, 0)) BK1.out hB7); have nBK2 := Aside0.mk (blk_below (g := g2) (o := .cells #[.bool b, .slice Ab1 lb1.length cb1, .slice Ab2 lb2.length cb2] 28 (0, 0)) BK2.out hB7); have nBK3 := Aside0.mk (blk_below (g := g3) (o := .cells #[.bool false, .slice none 0 0, .slice none 0 0] 28 (0, 0)) BK3.out hB7); have nBK4 := Aside0.mk (blk_below (g := g4) (o := .cells #[.bool a, .slice Aa1 la1.length ca1, .slice Aa2 la2.length ca2, .bool b, .slice Ab1 lb1.length cb1, .slice Ab2 lb2.length cb2] 28 (0, 0)) BK4.out hB7); have nHB := Aside0.mk (below_step HB.out hB7); have nHBm := Aside0.mk (below_step HBm.out hB7); clear BK1 BK2 BK3 BK4 HB HBm; have BK1 := nBK1; have BK2 := nBK2; have BK3 := nBK3; have BK4 := nBK4; have HB := nHB; have HBm := nHBm; clear nBK1 nBK2 nBK3 nBK4 nHB nHBm; clear hB7) | ((with_reducible refine gate_store rfl ?_); refine store_named rfl 70 (.tmp 9) (.tmp 24) rfl g7 #[.slice Am1 sh.length cm1, .slice Am2 fr.length cm2] rfl rfl 70 #[.slice none 0 0, .slice none 0 0] BK7.out (by kernel_rfl) rfl (by simp [Value.oneCell']) ?_; intro w8 hs8 hb8; have nBK1 := Aside0.mk (hb8.blk BK1.out NEg1_g7.out); have nBK2 := Aside0.mk (hb8.blk BK2.out NEg2_g7.out); have nBK3 := Aside0.mk (hb8.blk BK3.out NEg3_g7.out); have nBK4 := Aside0.mk (hb8.blk BK4.out NEg4_g7.out); have nHB := Aside0.mk (HB.out.trans (hb8.below _ GEHB_g7.out)); have nHBm := Aside0.mk (HBm.out.trans (hb8.below _ GEHBm_g7.out)); clear BK1 BK2 BK3 BK4 HB HBm; clear BK7 hb8; have BK7 := Aside0.mk hs8; clear hs8; have BK1 := nBK1; have BK2 := nBK2; have BK3 := nBK3; have BK4 := nBK4; have HB := nHB; have HBm := nHBm; clear nBK1 nBK2 nBK3 nBK4 nHB nHBm) | ((with_reducible refine gate_dst (N := 26) rfl ?_); refine wpList_load_row rfl 28 (.tmp 4) rfl g2 rfl 28 #[.bool b, .slice Ab1 lb1.length cb1, .slice Ab2 lb2.length cb2] (0, 0) _ BK2.out Try.underlying28 rfl (by kernel_rfl) ?_) | ((with_reducible refine gate_dst (N := 27) rfl ?_); refine wpList_load_row rfl 70 (.tmp 9) rfl g7 rfl 70 #[.slice Am1 sh.length cm1, .slice Am2 fr.length cm2] (0, 0) _ BK7.out Try.underlying70 rfl (by kernel_rfl) ?_) | (go_at_call 70; refine (impl_made.calls k1 b Ab1 cb1 lb1 Ab2 cb2 lb2 Am1 cm1 sh Am2 cm2 fr cd r1 r2 r3 r4 _ (Kd.C_below HB1.out HB.out) KB1.out (Kd.C_below HB2.out HB.out) KB2.out (Kd.C_below HM1.out HBm.out) KM1.out (Kd.C_below HM2.out HBm.out) KM2.out HK.out).mono ?_; rintro e w9 ⟨v1, v2, rfl, ho1, ho2, hB9⟩; obtain ⟨Ax, cx, rfl⟩ := Kd.R_slice ho1; obtain ⟨Ay, cy, rfl⟩ := Kd.R_slice ho2; have HO1 := Aside0.mk (Kd.R_lower ho1 (below_size HB.out)); have HO2 := Aside0.mk (Kd.R_lower ho2 (below_size HB.out)); clear ho1 ho2; have nBK1 := Aside0.mk (blk_below (g := g1) (o := .cells #[.bool a, .slice Aa1 la1.length ca1, .slice Aa2 la2.length ca2] 28 (0, 0)) BK1.out hB9); have nBK2 := Aside0.mk (blk_below (g := g2) (o := .cells #[.bool b, .slice Ab1 lb1.length cb1, .slice Ab2 lb2.length cb2] 28 (0, 0)) BK2.out hB9); have nBK3 := Aside0.mk (blk_below (g := g3) (o := .cells #[.bool false, .slice none 0 0, .slice none 0 0] 28 (0, 0)) BK3.out hB9); have nBK4 := Aside0.mk (blk_below (g := g4) (o := .cells #[.bool a, .slice Aa1 la1.length ca1, .slice Aa2 la2.length ca2, .bool b, .slice Ab1 lb1.length cb1, .slice Ab2 lb2.length cb2] 28 (0, 0)) BK4.out hB9); have nBK7 := Aside0.mk (blk_below (g := g7) (o := .cells #[.slice Am1 sh.length cm1, .slice Am2 fr.length cm2] 70 (0, 0)) BK7.out hB9); have nHB := Aside0.mk (below_step HB.out hB9); have nHBm := Aside0.mk (below_step HBm.out hB9); clear BK1 BK2 BK3 BK4 BK7 HB HBm; have BK1 := nBK1; have BK2 := nBK2; have BK3 := nBK3; have BK4 := nBK4; have BK7 := nBK7; have HB := nHB; have HBm := nHBm; clear nBK1 nBK2 nBK3 nBK4 nBK7 nHB nHBm; clear hB9) | ((with_reducible refine gate_store rfl ?_); refine store_named rfl 28 (.tmp 6) (.tmp 30) rfl g3 #[.bool r1, .slice Ax r2.length cx, .slice Ay r3.length cy] rfl rfl 28 #[.bool false, .slice none 0 0, .slice none 0 0] BK3.out (by kernel_rfl) rfl (by simp [Value.oneCell']) ?_; intro w10 hs10 hb10; have nBK1 := Aside0.mk (hb10.blk BK1.out NEg1_g3.out); have nBK2 := Aside0.mk (hb10.blk BK2.out NEg2_g3.out); have nBK4 := Aside0.mk (hb10.blk BK4.out (fun e => NEg3_g4.out e.symm)); have nBK7 := Aside0.mk (hb10.blk BK7.out (fun e => NEg3_g7.out e.symm)); have nHB := Aside0.mk (HB.out.trans (hb10.below _ GEHB_g3.out)); have nHO1 := Aside0.mk (hb10.row HO1.out BK3.out (by decide)); have nHO2 := Aside0.mk (hb10.row HO2.out BK3.out (by decide)); clear BK1 BK2 BK4 BK7 HB HO1 HO2; clear BK3 hb10; have BK3 := Aside0.mk hs10; clear hs10; have BK1 := nBK1; have BK2 := nBK2; have BK4 := nBK4; have BK7 := nBK7; have HB := nHB; have HO1 := nHO1; have HO2 := nHO2; clear nBK1 nBK2 nBK4 nBK7 nHB nHO1 nHO2))
  refine bodyPost_ret (results_ct rfl _ _ g3 28 #[.bool r1, .slice Ax r2.length cx, .slice Ay r3.length cy] (0, 0) _ rfl BK3.out Try.underlying28 rfl (by kernel_rfl)) rfl ?_
  exact ⟨_, _, rfl, HO1.out, HO2.out, HB.out⟩
end Go.Proofs.Ytehfcnndjhjkoaa.PA

namespace Go.Proofs.Ytehfcnndjhjkoaa.PA
open Go.RowKit Go.Proofs.YtehfcnndjhjkoaaW.PrintWords Go.Proofs.YtehfcnndjhjkoaaW.PrintLast Go.Proofs.YtehfcnndjhjkoaaW.PrintMore
set_option linter.unusedVariables false
set_option linter.unusedSimpArgs false
def rotFr (m1 : List Int) (d : Int) (first : Bool) : List Int := fromL m1 m1 (rotF m1 (turnI first m1) d) (prod m1).toNat
def rotateV (b : Bool) (l1 l2 : List Int) (c : Bool) (m1 m2 : List Int) (first : Bool) : ArrAns :=
  if arrOk b l1 l2 && arrOk c m1 m2 then
    (if singleC b l2 = 0 then (c, m1, ofL c m2 (rotFr m1 (rd l2 0) first), 0) else noArr (singleC b l2))
  else noArr 3
theorem hrg_of {s : List Int} (hs : shOk s = true) : ∀ (t : Nat), t < (prod s).toNat → ∀ k : Nat, k < s.length → 0 ≤ rd (idxL s t) (k : Int) ∧ rd (idxL s t) (k : Int) < rd s (k : Int) := by
  intro t ht k hk
  have hr := shOk_range hs
  rw [idxL_of hr (by omega)]
  exact digs_range s.length s t rfl (pos_of_prod (fun x hx => (hr x hx).1) (by omega)) (by omega) k hk
theorem fromL_map (sh s : List Int) (f : Nat → Int → Int) : ∀ t, fromL sh s f t = (List.range t).map (fun i => fromOne sh f (idxL s i))
  | 0 => rfl
  | t + 1 => by rw [fromL, fromL_map sh s f t, List.range_succ]; simp
/-- The element that stands at place t when axis n is turned by d. -/
def rotT (n a : Nat) (d : Int) (t : Nat) : Int := ((t : Int) / a / n * n + ((t : Int) / a % n + d) % n) * a + (t : Int) % a
theorem rot_from (P Q : List Int) (n a : Nat) (d turn : Int) (hs : shOk (P ++ [(n : Int)] ++ Q) = true) (ha : (a : Int) = prod Q) (ht : turn = P.length) (t : Nat) (hN : (t : Int) < prod (P ++ [(n : Int)] ++ Q)) :
    fromOne (P ++ [(n : Int)] ++ Q) (rotF (P ++ [(n : Int)] ++ Q) turn d) (idxL (P ++ [(n : Int)] ++ Q) t) = rotT n a d t := by
  have hr := shOk_range hs
  have hp := shOk_prod hs
  have hn := hr (n : Int) (by simp)
  have h := from_one P Q n n (rotF (P ++ [(n : Int)] ++ Q) turn d) (fun i => (i + d) % n) hr hp.2 hn.2
    (fun i h0 h1 => ⟨Int.emod_nonneg _ (by omega), Int.emod_lt_of_pos _ (by omega)⟩)
    (fun k i => by
      unfold rotF; subst ht
      have e : rd (P ++ [(n : Int)] ++ Q) (P.length : Int) = n := by rw [show P ++ [(n : Int)] ++ Q = P ++ (n : Int) :: Q by simp]; exact rd_last P Q n _ rfl
      rw [e]
      by_cases hk : k = P.length
      · rw [if_pos (by omega), if_pos hk]
      · rw [if_neg (by omega), if_neg hk]) t hN
  rw [h, ← ha]; rfl
theorem rotT_range (b n a : Nat) (d : Int) (t : Nat) (ht : t < b * n * a) : 0 ≤ rotT n a d t ∧ rotT n a d t < ((b * n * a : Nat) : Int) := by
  have ha : 0 < a := Nat.pos_of_ne_zero (by rintro rfl; simp at ht)
  have hn : 0 < n := Nat.pos_of_ne_zero (by rintro rfl; simp at ht)
  have j0 := Int.emod_nonneg ((t : Int) / a % n + d) (show (n : Int) ≠ 0 by omega)
  have j1 := Int.emod_lt_of_pos ((t : Int) / a % n + d) (show (0 : Int) < n by omega)
  unfold rotT
  obtain ⟨j, hj⟩ := Int.eq_ofNat_of_zero_le j0
  rw [hj] at j1 ⊢
  have e1 : (t : Int) / a / n = ((t / a / n : Nat) : Int) := by simp
  have e2 : (t : Int) % a = ((t % a : Nat) : Int) := by simp
  have hp : t / a / n < b := by rw [Nat.div_div_eq_div_mul, Nat.div_lt_iff_lt_mul (Nat.mul_pos ha hn)]; rwa [show b * (a * n) = b * n * a by rw [Nat.mul_assoc, Nat.mul_comm n a]]
  have h := lin_lt (p := t / a / n) (b := b) (i := j) (n := n) (q := t % a) (a := a) hp (by omega) (Nat.mod_lt _ ha)
  rw [e1, e2]
  constructor
  · exact_mod_cast Nat.zero_le _
  · exact_mod_cast h
theorem rotT_at (n a p i q : Nat) (d : Int) (hi : i < n) (hq : q < a) : rotT n a d ((p * n + i) * a + q) = ((p : Int) * n + ((i : Int) + d) % n) * a + q := by
  have e1 : ((p * n + i) * a + q) / a = p * n + i := by rw [Nat.add_comm, Nat.add_mul_div_right _ _ (by omega), Nat.div_eq_of_lt hq, Nat.zero_add]
  have e2 : ((p * n + i) * a + q) % a = q := by rw [Nat.add_comm, Nat.add_mul_mod_self_right, Nat.mod_eq_of_lt hq]
  have e3 : (p * n + i) / n = p := by rw [Nat.add_comm, Nat.add_mul_div_right _ _ (by omega), Nat.div_eq_of_lt hi, Nat.zero_add]
  have e4 : (p * n + i) % n = i := by rw [Nat.add_comm, Nat.add_mul_mod_self_right, Nat.mod_eq_of_lt hi]
  have f1 : ((((p * n + i) * a + q : Nat) : Int)) / a = ((p * n + i : Nat) : Int) := by rw [← Int.natCast_ediv, e1]
  have f2 : ((((p * n + i) * a + q : Nat) : Int)) % a = (q : Int) := by rw [← Int.natCast_emod, e2]
  have f3 : (((p * n + i : Nat) : Int)) / n = (p : Int) := by rw [← Int.natCast_ediv, e3]
  have f4 : (((p * n + i : Nat) : Int)) % n = (i : Int) := by rw [← Int.natCast_emod, e4]
  unfold rotT
  rw [f1, f2, f3, f4]
def rotY (m2 : List Int) (n a : Nat) (d : Int) (N : Nat) : List Int := (List.range N).map (fun t => rd m2 (rotT n a d t))
theorem rotY_len (m2 : List Int) (n a : Nat) (d : Int) (N : Nat) : (rotY m2 n a d N).length = N := by simp [rotY]
section
variable (c : Bool) (m1 m2 : List Int) (b n a : Nat) (d e : Int) (hN : b * n * a = m2.length) (hL : m2.length ≤ 10000) (h0 : 0 < m2.length) (he : e = d % n)
include hN hL h0 he
theorem rot_l2 (p i : Nat) (hp : p < b) (hi : i < n) (R : ArrAns) (hnext : Ev (fun k => spec_Rotate.l1 k b n a e p ((i + 1 : Nat) : Int) c m1 m2 c m1 ((rotY m2 n a d m2.length).take ((p * n + (i + 1)) * a) ++ m2.drop ((p * n + (i + 1)) * a))) R) : ∀ (r q : Nat), q + r = a →
    Ev (fun k => spec_Rotate.l2 k b n a e p i q c m1 m2 c m1 ((rotY m2 n a d m2.length).take ((p * n + i) * a + q) ++ m2.drop ((p * n + i) * a + q))) R
  | 0, q, hr => by
    obtain rfl : q = a := by omega
    have e1 : (p * n + i) * q + q = (p * n + (i + 1)) * q := by rw [← Nat.add_assoc, Nat.add_mul _ 1, Nat.one_mul]
    rw [e1]
    have hb := bounds3 hN h0
    refine evRound hnext fun k => ?_
    simp only [spec_Rotate.l2]
    rw [if_neg (by omega), w64 (by omega) (by omega)]
    push_cast; rfl
  | r + 1, q, hr => by
    have hq : q < a := by omega
    have hlt := lin_lt hp hi hq
    have ih := rot_l2 p i hp hi R hnext r (q + 1) (by omega)
    rw [show ((q + 1 : Nat) : Int) = (q : Int) + 1 from rfl, show (p * n + i) * a + (q + 1) = (p * n + i) * a + q + 1 from rfl] at ih
    refine evRound ih fun k => ?_
    have hnz : ¬ (n : Int) = 0 := by omega
    have j0 := Int.emod_nonneg ((i : Int) + d) hnz
    have j1 := Int.emod_lt_of_pos ((i : Int) + d) (show (0 : Int) < n by omega)
    have k0 := Int.emod_nonneg d hnz
    have k1 := Int.emod_lt_of_pos d (show (0 : Int) < n by omega)
    have hb := bounds3 hN h0
    obtain ⟨j, hj⟩ := Int.eq_ofNat_of_zero_le j0
    have hjn : j < n := by omega
    have hlj := lin_lt hp hjn hq
    rw [hN] at hlt hlj
    have emod : Int.tmod (wrap64 ((i : Int) + e)) n = j := by
      rw [w64 (by omega) (by omega), Int.tmod_eq_emod_of_nonneg (by omega), he, Int.add_emod_emod, hj]
    have hqa : (q : Int) < a := by omega
    have hw1 : wrap64 ((q : Int) + 1) = (q : Int) + 1 := w64 (by omega) (by omega)
    have w5 := lin_wrap p j q n a hb.2.2.1 (Nat.lt_of_lt_of_le hlj (Nat.le_trans hL (by decide)))
    have v5 := lin_wrap p i q n a hb.2.2.1 (Nat.lt_of_lt_of_le hlt (Nat.le_trans hL (by decide)))
    have y5 := rotT_at n a p i q d hi hq
    rw [hj] at y5
    have y6 : (rotY m2 n a d m2.length)[(p * n + i) * a + q]? = some (rd m2 (((p * n + j) * a + q : Nat) : Int)) := by
      simp only [rotY, List.getElem?_map, List.getElem?_range hlt, Option.map_some, y5]
      push_cast; rfl
    have z5 := fill_step (rotY m2 n a d m2.length) m2 _ _ (rotY_len _ _ _ _ _) (by rw [rotY_len]; exact hlt) y6
    have lt5 : (((p * n + i) * a + q : Nat) : Int) < (((rotY m2 n a d m2.length).take ((p * n + i) * a + q) ++ m2.drop ((p * n + i) * a + q)).length : Int) := by
      rw [List.length_append, List.length_take, List.length_drop, rotY_len]
      generalize (p * n + i) * a + q = z at hlt ⊢
      omega
    simp only [spec_Rotate.l2]
    rw [if_pos hqa, if_neg hnz, emod, w5, v5, if_pos (Int.natCast_nonneg _), if_pos (Int.ofNat_lt.2 hlj), if_pos (Int.natCast_nonneg _), if_pos lt5, hw1, Int.toNat_natCast, z5]
theorem rot_l1 (p : Nat) (hp : p < b) (R : ArrAns) (hnext : Ev (fun k => spec_Rotate.l0 k b n a e ((p + 1 : Nat) : Int) c m1 m2 c m1 ((rotY m2 n a d m2.length).take ((p + 1) * n * a) ++ m2.drop ((p + 1) * n * a))) R) : ∀ (r i : Nat), i + r = n →
    Ev (fun k => spec_Rotate.l1 k b n a e p i c m1 m2 c m1 ((rotY m2 n a d m2.length).take ((p * n + i) * a) ++ m2.drop ((p * n + i) * a))) R
  | 0, i, hr => by
    obtain rfl : i = n := by omega
    have e1 : p * i + i = (p + 1) * i := by rw [Nat.add_mul, Nat.one_mul]
    rw [e1]
    have hb := bounds3 hN h0
    refine evRound hnext fun k => ?_
    simp only [spec_Rotate.l1]
    rw [if_neg (by omega), w64 (by omega) (by omega)]
    push_cast; rfl
  | r + 1, i, hr => by
    have ih := rot_l1 p hp R hnext r (i + 1) (by omega)
    have := rot_l2 c m1 m2 b n a d e hN hL h0 he p i hp (by omega) R ih a 0 (by omega)
    rw [Nat.add_zero] at this
    refine evRound this fun k => ?_
    simp only [spec_Rotate.l1]
    rw [if_pos (by omega)]
    rfl
theorem rot_l0 : ∀ (r p : Nat), p + r = b →
    Ev (fun k => spec_Rotate.l0 k b n a e p c m1 m2 c m1 ((rotY m2 n a d m2.length).take (p * n * a) ++ m2.drop (p * n * a))) (c, m1, rotY m2 n a d m2.length, 0)
  | 0, p, hr => by
    obtain rfl : p = b := by omega
    refine evVal (evRound (Ev.now _) fun k => ?_) rfl
    simp only [spec_Rotate.l0]
    rw [if_neg (by omega), hN, List.take_of_length_le (by rw [rotY_len]; exact Nat.le_refl _), List.drop_eq_nil_of_le (Nat.le_refl _), List.append_nil]
  | r + 1, p, hr => by
    have ih := rot_l0 r (p + 1) (by omega)
    have := rot_l1 c m1 m2 b n a d e hN hL h0 he p (by omega) _ ih n 0 (by omega)
    rw [Nat.add_zero] at this
    refine evRound this fun k => ?_
    simp only [spec_Rotate.l0]
    rw [if_pos (by omega)]
    rfl
end
theorem rotFr_Y (c : Bool) (m1 m2 P Q : List Int) (b n a : Nat) (d : Int) (first : Bool) (hm : m1 = P ++ [(n : Int)] ++ Q) (hs : shOk m1 = true) (hp : prod m1 = m2.length) (ha : (a : Int) = prod Q) (hb : (b : Int) = prod P) (ht : turnI first m1 = P.length) :
    b * n * a = m2.length ∧ ofL c m2 (rotFr m1 d first) = rotY m2 n a d m2.length := by
  have hN : b * n * a = m2.length := by
    have h := hp
    rw [hm, prod_app, prod_snoc, ← ha, ← hb] at h
    exact_mod_cast h
  refine ⟨hN, ?_⟩
  unfold ofL rotFr rotY
  rw [fromL_map, List.map_map, hp, Int.toNat_natCast]
  refine List.map_congr_left fun t ht' => ?_
  rw [List.mem_range] at ht'
  simp only [Function.comp]
  have hlt : (t : Int) < prod (P ++ [(n : Int)] ++ Q) := by rw [← hm, hp]; omega
  have h1 := rot_from P Q n a d (turnI first m1) (hm ▸ hs) ha ht t hlt
  rw [← hm] at h1
  rw [h1]
  unfold ofV
  rw [if_pos (rotT_range b n a d t (by rw [hN]; exact ht')).1]
theorem specRotate_ev (b : Bool) (l1 l2 : List Int) (c : Bool) (m1 m2 : List Int) (first : Bool) (h1 : l1.length ≤ 35184372088832) (h2 : l2.length ≤ 35184372088832) (h3 : m1.length ≤ 35184372088832) (h4 : m2.length ≤ 35184372088832) : Ev (fun k => spec_Rotate.f k b l1 l2 c m1 m2 first) (rotateV b l1 l2 c m1 m2 first) := by
  simp only [spec_Rotate.f, rotateV]
  refine Ev.bind (specArrayOk_ev b l1 l2 h1 h2) ?_
  have no : Ev (fun k => spec_Rotate.j0 k first true b l1 l2 c m1 m2) (noArr 3) := evRound (Ev.now _) fun k => by simp only [spec_Rotate.j0, if_true, spec_l4None.f, Option.bind_some, noArr]
  by_cases ha : arrOk b l1 l2 = true
  · simp only [ha, if_true, Bool.true_and]
    refine Ev.bind (specArrayOk_ev c m1 m2 h3 h4) ?_
    by_cases hb : arrOk c m1 m2 = true
    · simp only [hb, if_true, Bool.not_true]
      have k1 := arrOk_len ha
      have k2 := arrOk_len hb
      have hs := arrOk_sh hb
      have hp := arrOk_prod hb
      by_cases h0 : singleC b l2 = 0
      · simp only [h0, if_true]
        have hl2 : l2.length = 1 := by unfold singleC at h0; split at h0; assumption; omega
        refine evRound (f := fun k => if (m1.length : Int) = 0 then spec_Rotate.j1 k first true b l1 l2 c m1 m2 c m1 m2 else spec_Rotate.j1 k first ((m2.length : Int) == 0) b l1 l2 c m1 m2 c m1 m2) ?_ fun k => by
          simp only [spec_Rotate.j0, Bool.false_eq_true, if_false, l5Single_eq, Option.bind_some, h0, if_true, l3Copy_eq c m1 m2 (by omega) (by omega)]
        by_cases hz : (m1.length : Int) = 0
        · simp only [hz, if_true]
          obtain rfl : m1 = [] := List.eq_nil_of_length_eq_zero (by omega)
          refine evVal (evRound (Ev.now _) fun k => by simp only [spec_Rotate.j1, if_true]; rfl) ?_
          have hm : m2.length = 1 := by simp only [prod] at hp; omega
          obtain ⟨x, rfl⟩ := List.length_eq_one_iff.1 hm
          simp [rotFr, prod, fromL, fromOne, idxL, thrGo, numGo, srcGo, ofL, ofV, rd]
        · simp only [hz, if_false]
          by_cases hz2 : m2.length = 0
          · obtain rfl : m2 = [] := List.eq_nil_of_length_eq_zero hz2
            refine evVal (evRound (Ev.now _) fun k => by simp only [spec_Rotate.j1, List.length_nil, Int.natCast_zero, beq_self_eq_true, if_true]; rfl) ?_
            simp [rotFr, hp, fromL, ofL]
          · have hz3 : ((m2.length : Int) == 0) = false := beq_eq_false_iff_ne.mpr (by omega)
            have go : ∀ (P Q : List Int) (x : Int), m1 = P ++ [x] ++ Q → turnI first m1 = P.length → Ev (fun k => spec_l4Axis.f k m1 first) (prod P, x, prod Q) → Ev (fun k => spec_Rotate.j1 k first ((m2.length : Int) == 0) b l1 l2 c m1 m2 c m1 m2) (c, m1, ofL c m2 (rotFr m1 (rd l2 0) first), 0) := by
              intro P Q x hm ht hax
              have hr := shOk_range hs
              have hx := hr x (by rw [hm]; simp)
              have hpp := shOk_part (P := P) (Q := [x] ++ Q) (by rw [← List.append_assoc, ← hm]; exact hs)
              have hqq := shOk_part (P := P ++ [x]) (Q := Q) (by rw [← hm]; exact hs)
              obtain ⟨n, rfl⟩ := Int.eq_ofNat_of_zero_le hx.1
              obtain ⟨a, hae⟩ := Int.eq_ofNat_of_zero_le hqq.2.1
              obtain ⟨b', hbe⟩ := Int.eq_ofNat_of_zero_le hpp.1.1
              obtain ⟨hN, hY⟩ := rotFr_Y c m1 m2 P Q b' n a (rd l2 0) first hm hs hp hae.symm hbe.symm ht
              have hb3 := bounds3 hN (by omega)
              rw [hY]
              refine evRound (f := fun k => (spec_l4Axis.f k m1 first).bind fun bt129 => (if 0 < (l2.length : Int) then ((spec_l4Mod.f bt129.2.1 (rd l2 0)).bind fun t133 => (spec_Rotate.l0 k bt129.1 bt129.2.1 bt129.2.2 t133 0 c m1 m2 c m1 m2)) else none)) ?_ fun k => by
                simp only [spec_Rotate.j1, hz3, Bool.false_eq_true, if_false]
              refine Ev.bind hax ?_
              simp only [show 0 < (l2.length : Int) by omega, if_true, l4Mod_eq (n : Int) (rd l2 0) (by omega) (by omega), Option.bind_some, hae, hbe]
              have := rot_l0 c m1 m2 b' n a (rd l2 0) (rd l2 0 % n) hN (by omega) (by omega) rfl b' 0 (by omega)
              simp only [Nat.zero_mul, List.take_zero, List.nil_append, List.drop_zero] at this
              exact this
            cases first
            · obtain ⟨P, x, hm, -⟩ := snocI (p := m1) (n := m1.length - 1) (by omega)
              refine go P [] x (by simpa using hm) ?_ ?_
              · unfold turnI; rw [hm]; simp
              · rw [hm]; exact l4Axis_last P x (hm ▸ hs)
            · cases hm : m1 with
              | nil => rw [hm] at hz; simp at hz
              | cons x Q =>
                rw [← hm]
                refine go [] Q x (by simpa using hm) rfl ?_
                rw [hm]; exact l4Axis_first x Q (hm ▸ hs)
      · simp only [h0, if_false]
        refine evRound (Ev.now _) fun k => ?_
        simp only [spec_Rotate.j0, Bool.false_eq_true, if_false, l5Single_eq, Option.bind_some, h0, spec_l4None.f, noArr]
    · simp only [(Bool.not_eq_true _).mp hb, Bool.not_false, Bool.false_eq_true, if_false]; exact no
  · simp only [(Bool.not_eq_true _).mp ha, Bool.false_and, Bool.false_eq_true, if_false]; exact no
theorem rotateV_len (b : Bool) (l1 l2 : List Int) (c : Bool) (m1 m2 : List Int) (first : Bool) : (rotateV b l1 l2 c m1 m2 first).2.1.length ≤ 10000 ∧ (rotateV b l1 l2 c m1 m2 first).2.2.1.length ≤ 10000 := by
  unfold rotateV noArr
  split
  · rename_i h
    simp only [Bool.and_eq_true] at h
    have hp := shOk_prod (arrOk_sh h.2)
    have hl := arrOk_len h.2
    split
    · simp only [ofL, rotFr, List.length_map, fromL_len]; omega
    · simp
  · simp
def impl_Rotate.f (b : Bool) (l1 l2 : List Int) (c : Bool) (m1 m2 : List Int) (first : Bool) : Option ArrAns := if okLens l1 l2 m1 m2 then some (rotateV b l1 l2 c m1 m2 first) else none
theorem fromOne_lt (c : Bool) (m1 m2 : List Int) (d : Int) (first : Bool) (h : arrOk c m1 m2 = true) : ∀ x ∈ rotFr m1 d first, x < m2.length := by
  have hs := arrOk_sh h
  have hp := arrOk_prod h
  intro x hx
  unfold rotFr at hx
  rw [fromL_map, List.mem_map] at hx
  obtain ⟨t, ht, rfl⟩ := hx
  rw [List.mem_range] at ht
  have go : ∀ (P Q : List Int) (y : Int), m1 = P ++ [y] ++ Q → turnI first m1 = P.length → fromOne m1 (rotF m1 (turnI first m1) d) (idxL m1 t) < m2.length := by
    intro P Q y hm htu
    have hr := shOk_range hs
    have hy := hr y (by rw [hm]; simp)
    have hpp := shOk_part (P := P) (Q := [y] ++ Q) (by rw [← List.append_assoc, ← hm]; exact hs)
    have hqq := shOk_part (P := P ++ [y]) (Q := Q) (by rw [← hm]; exact hs)
    obtain ⟨n, rfl⟩ := Int.eq_ofNat_of_zero_le hy.1
    obtain ⟨a, hae⟩ := Int.eq_ofNat_of_zero_le hqq.2.1
    obtain ⟨b', hbe⟩ := Int.eq_ofNat_of_zero_le hpp.1.1
    have hN : b' * n * a = m2.length := by
      have h := hp
      rw [hm, prod_app, prod_snoc, hae, hbe] at h
      exact_mod_cast h
    have h1 := rot_from P Q n a d (turnI first m1) (hm ▸ hs) hae.symm htu t (by rw [← hm]; omega)
    rw [← hm] at h1
    rw [h1, ← hN]
    exact (rotT_range b' n a d t (by rw [hN]; omega)).2
  cases hm : m1 with
  | nil =>
    subst hm
    simp only [prod] at hp ht
    obtain rfl : t = 0 := by omega
    simp [fromOne, idxL, thrGo, numGo, srcGo]; omega
  | cons x Q =>
    rw [← hm]
    cases first
    · obtain ⟨P, y, hm', -⟩ := snocI (p := m1) (n := m1.length - 1) (by rw [hm]; simp)
      exact go P [] y (by simpa using hm') (by unfold turnI; rw [hm']; simp)
    · exact go [] Q x (by simpa using hm) rfl
theorem impl_Rotate.calls (a : Bool) (Aa1 : Option Addr) (ca1 : Nat) (la1 : List Int) (Aa2 : Option Addr) (ca2 : Nat) (la2 : List Int) (b : Bool) (Ab1 : Option Addr) (cb1 : Nat) (lb1 : List Int) (Ab2 : Option Addr) (cb2 : Nat) (lb2 : List Int) (first : Bool) (r1 : Bool) (r2 r3 : List Int) (r4 : Int) (w : World) (ha1 : Kd.C (Kd.int .i64) w Aa1 la1.length la1) (ka1 : la1.length ≤ ca1) (ha2 : Kd.C (Kd.int .i64) w Aa2 la2.length la2) (ka2 : la2.length ≤ ca2) (hb1' : Kd.C (Kd.int .i64) w Ab1 lb1.length lb1) (kb1 : lb1.length ≤ cb1) (hb2 : Kd.C (Kd.int .i64) w Ab2 lb2.length lb2) (kb2 : lb2.length ≤ cb2) (h : impl_Rotate.f a la1 la2 b lb1 lb2 first = some (r1, r2, r3, r4)) :
    Calls Try.prog 36 #[.agg #[.bool a, .slice Aa1 la1.length ca1, .slice Aa2 la2.length ca2], .agg #[.bool b, .slice Ab1 lb1.length cb1, .slice Ab2 lb2.length cb2], .bool first] w fun e w' => ∃ v1_ v2_ : Value, e = .returned (.tuple #[.agg #[.bool r1, v1_, v2_], .int .i64 r4]) ∧ Kd.R (Kd.int .i64) 3 w' w.heap.size (fun k_ => some k_ ≠ (v2_ : Value).ownBlock) v1_ r2 ∧ Kd.R (Kd.int .i64) 3 w' w.heap.size (fun k_ => some k_ ≠ (v1_ : Value).ownBlock) v2_ r3 ∧ Below w.heap.size w w' := by
  unfold impl_Rotate.f at h
  split at h
  · rename_i hl
    have h := Option.some.inj h
    simp only [okLens, Bool.and_eq_true, decide_eq_true_eq] at hl
    obtain ⟨k0, hk0⟩ := (valid_ev2 a la1 la2 b lb1 lb2 (by omega) (by omega)).rounds
    by_cases hv : (arrOk a la1 la2 && arrOk b lb1 lb2) = true
    · rw [if_pos hv] at hk0
      have hv' := hv
      simp only [Bool.and_eq_true] at hv'
      have k1 := arrOk_len hv'.1
      have k2 := arrOk_len hv'.2
      have hs := arrOk_sh hv'.2
      have hpr := shOk_prod hs
      have hcells := arrOk_cells hv'.1
      unfold rotateV at h
      rw [if_pos hv] at h
      by_cases hl2 : la2.length = 1
      · have hb1 : -1000000000000000 ≤ rd la2 0 ∧ rd la2 0 ≤ 1000000000000000 := hcells _ (rd_mem la2 0 (by omega))
        cases a with
        | true =>
          rw [if_neg (by unfold singleC; rw [if_pos hl2, if_pos rfl]; decide), show singleC true la2 = 3 by unfold singleC; rw [if_pos hl2, if_pos rfl]] at h
          obtain ⟨k1, hk1⟩ := (made_no b lb1 lb2 [] [] 3 (by decide)).rounds
          rw [show ((false, [], [], 3) : ArrAns) = noArr 3 from rfl, h] at hk1
          exact Rotate_yes k0 k1 true Aa1 ca1 la1 Aa2 ca2 la2 b Ab1 cb1 lb1 Ab2 cb2 lb2 first w ha1 ka1 ha2 ka2 hb1' kb1 hb2 kb2 hk0 [] [] 3 r1 r2 r3 r4 (fun W hW => rotateMove_char true Aa1 ca1 la1 Aa2 ca2 la2 b Ab1 cb1 lb1 Ab2 cb2 lb2 first W (Kd.C_below ha1 hW) ka1 (Kd.C_below ha2 hW) ka2 (Kd.C_below hb1' hW) kb1 (Kd.C_below hb2 hW) kb2 hl2 rfl) hk1
        | false =>
          rw [if_pos (by unfold singleC; rw [if_pos hl2]; rfl)] at h
          obtain ⟨ks, hks⟩ := (shapeOk_yes hs).rounds
          obtain ⟨k1, hk1⟩ := (made_ev b lb1 lb2 lb1 (rotFr lb1 (rd la2 0) first) (by omega) (by unfold rotFr; rw [fromL_len]; omega) (fromOne_lt b lb1 lb2 _ first hv'.2)).rounds
          rw [h] at hk1
          exact Rotate_yes k0 k1 false Aa1 ca1 la1 Aa2 ca2 la2 b Ab1 cb1 lb1 Ab2 cb2 lb2 first w ha1 ka1 ha2 ka2 hb1' kb1 hb2 kb2 hk0 lb1 (rotFr lb1 (rd la2 0) first) 0 r1 r2 r3 r4 (fun W hW => rotateMove_ok ks false Aa1 ca1 la1 Aa2 ca2 la2 b Ab1 cb1 lb1 Ab2 cb2 lb2 first W (Kd.C_below ha1 hW) ka1 (Kd.C_below ha2 hW) ka2 (Kd.C_below hb1' hW) kb1 (Kd.C_below hb2 hW) kb2 hl2 rfl k2.1 hpr hks (shOk_range hs) hb1 (hrg_of hs)) hk1
      · rw [if_neg (by unfold singleC; rw [if_neg hl2]; decide), show singleC a la2 = 5 by unfold singleC; rw [if_neg hl2]] at h
        obtain ⟨k1, hk1⟩ := (made_no b lb1 lb2 [] [] 5 (by decide)).rounds
        rw [show ((false, [], [], 5) : ArrAns) = noArr 5 from rfl, h] at hk1
        exact Rotate_yes k0 k1 a Aa1 ca1 la1 Aa2 ca2 la2 b Ab1 cb1 lb1 Ab2 cb2 lb2 first w ha1 ka1 ha2 ka2 hb1' kb1 hb2 kb2 hk0 [] [] 5 r1 r2 r3 r4 (fun W hW => rotateMove_len a Aa1 ca1 la1 Aa2 ca2 la2 b Ab1 cb1 lb1 Ab2 cb2 lb2 first W (Kd.C_below ha1 hW) ka1 (Kd.C_below ha2 hW) ka2 (Kd.C_below hb1' hW) kb1 (Kd.C_below hb2 hW) kb2 hl2) hk1
    · rw [if_neg hv] at hk0
      unfold rotateV at h
      rw [if_neg hv] at h
      simp only [noArr, Prod.mk.injEq] at h
      obtain ⟨rfl, rfl, rfl, rfl⟩ := h
      exact Rotate_no k0 3 a Aa1 ca1 la1 Aa2 ca2 la2 b Ab1 cb1 lb1 Ab2 cb2 lb2 first w ha1 ka1 ha2 ka2 hb1' kb1 hb2 kb2 hk0 (by decide)
  · cases h
end Go.Proofs.Ytehfcnndjhjkoaa.PA

namespace Go.Proofs.Ytehfcnndjhjkoaa.PA
open Go.RowKit Go.Proofs.YtehfcnndjhjkoaaW.PrintWords Go.Proofs.YtehfcnndjhjkoaaW.PrintLast Go.Proofs.YtehfcnndjhjkoaaW.PrintMore
set_option linter.unusedVariables false
set_option linter.unusedSimpArgs false
/-- A pair of rows of numbers, made between two sizes of the heap. -/
structure PrD where
  lo : Nat
  hi : Nat
  v1 : Value
  v2 : Value
  l1 : List Int
  l2 : List Int
def Pr (W : World) (d : PrD) : Prop := Kd.R (Kd.int .i64) 3 W d.lo (fun k => k < d.hi ∧ some k ≠ d.v2.ownBlock) d.v1 d.l1 ∧ Kd.R (Kd.int .i64) 3 W d.lo (fun k => k < d.hi ∧ some k ≠ d.v1.ownBlock) d.v2 d.l2
abbrev Bk := Nat × Array Value × TypeId
structure St (w W : World) (bl : List Bk) (ps : List PrD) : Prop where
  below : Below w.heap.size w W
  blk : ∀ p ∈ bl, W.heap[p.1]? = some (.cells p.2.1 p.2.2 (0, 0)) ∧ w.heap.size ≤ p.1 ∧ p.2.2 ≠ 3
  nod : bl.Pairwise (fun p q => p.1 ≠ q.1)
  pr : ∀ d ∈ ps, Pr W d ∧ w.heap.size ≤ d.lo ∧ d.hi ≤ W.heap.size
  far : ps.Pairwise (fun d e => e.hi ≤ d.lo)
theorem St.start (w : World) : St w w [] [] := ⟨Below.refl _ _, (fun _ h => nomatch h), .nil, (fun _ h => nomatch h), .nil⟩
theorem Pr.step {W W' : World} {d : PrD} (h : Pr W d) (hb : Below W.heap.size W W') : Pr W' d := ⟨Kd.R_below h.1 hb, Kd.R_below h.2 hb⟩
theorem St.step {w W W' : World} {bl : List Bk} {ps : List PrD} (h : St w W bl ps) (hb : Below W.heap.size W W') : St w W' bl ps :=
  ⟨below_step h.below hb, fun p hp => ⟨blk_below (h.blk p hp).1 hb, (h.blk p hp).2⟩, h.nod, fun d hd => ⟨(h.pr d hd).1.step hb, (h.pr d hd).2.1, Nat.le_trans (h.pr d hd).2.2 hb.size⟩, h.far⟩
theorem St.at {w W : World} {bl : List Bk} {ps : List PrD} (h : St w W bl ps) {g : Nat} {cs : Array Value} {t : TypeId} (hm : (g, cs, t) ∈ bl) : W.heap[g]? = some (.cells cs t (0, 0)) := (h.blk _ hm).1
theorem St.box {w W W' : World} {bl : List Bk} {ps : List PrD} (h : St w W bl ps) {g : Nat} {cs : Array Value} {t : TypeId} (hg : g = W.heap.size) (hB : W'.heap[g]? = some (.cells cs t (0, 0))) (hb : Below W.heap.size W W') (ht : t ≠ 3) : St w W' ((g, cs, t) :: bl) ps := by
  have h' := h.step hb
  refine ⟨h'.below, fun p hp => ?_, .cons (fun p hp e => ?_) h.nod, h'.pr, h.far⟩
  · rcases List.mem_cons.1 hp with rfl | hp
    · exact ⟨hB, hg ▸ h.below.size, ht⟩
    · exact h'.blk p hp
  · have := blk_lt (h.blk p hp).1
    simp only at e; omega
theorem St.alloc {w W : World} {bl : List Bk} {ps : List PrD} (h : St w W bl ps) (cs : Array Value) (t : TypeId) (ht : t ≠ 3) : St w (W.alloc (.cells cs t)) ((W.heap.size, cs, t) :: bl) ps := h.box rfl (blk_new W _) (below_alloc (Below.refl _ _) _) ht
theorem St.drew {w W : World} {bl : List Bk} {ps : List PrD} (h : St w W bl ps) : St w W.drew bl ps := h.step (below_drew (Below.refl _ _))
theorem St.drewN {w W : World} {bl : List Bk} {ps : List PrD} (h : St w W bl ps) (n : Nat) : St w (W.drewN n) bl ps := h.step (pw_below_drewN (Below.refl _ _) n)
theorem St.put {w W w1 : World} {bl : List Bk} {ps : List PrD} (h : St w W bl ps) (i : Nat) {g : Nat} {cs cs1 : Array Value} {t : TypeId} (hi : bl[i]? = some (g, cs, t)) (hs : w1.heap[g]? = some (.cells cs1 t (0, 0))) (hk : But1 g W w1) : St w w1 (bl.set i (g, cs1, t)) ps := by
  obtain ⟨hlt, hie⟩ := List.getElem?_eq_some_iff.1 hi
  have hm : (g, cs, t) ∈ bl := List.mem_of_getElem? hi
  have hg := h.blk _ hm
  have hnod := List.pairwise_iff_getElem.1 h.nod
  have hoth : ∀ (j : Nat) (hj : j < bl.length), j ≠ i → (bl[j]).1 ≠ g := fun j hj hne => by
    rcases Nat.lt_or_gt_of_ne hne with hl | hl
    · have := hnod j i hj hlt hl; rw [hie] at this; exact this
    · have := hnod i j hlt hj hl; rw [hie] at this; exact fun e => this e.symm
  refine ⟨h.below.trans (hk.below _ hg.2.1), fun p hp => ?_, ?_, fun d hd => ⟨?_, (h.pr d hd).2.1, ?_⟩, h.far⟩
  · obtain ⟨j, hj, e⟩ := List.getElem_of_mem hp
    rw [List.length_set] at hj
    rw [List.getElem_set] at e
    split at e
    · subst e; exact ⟨hs, hg.2⟩
    · rename_i hne
      have hp' := h.blk p (e ▸ List.getElem_mem hj)
      exact ⟨hk.blk hp'.1 (e ▸ hoth j hj (fun e => hne e.symm)), hp'.2⟩
  · refine List.pairwise_iff_getElem.2 fun a b ha hb hab => ?_
    rw [List.length_set] at ha hb
    rw [List.getElem_set, List.getElem_set]
    split
    · rename_i e1
      split
      · rename_i e2; omega
      · rename_i e2; exact fun e => hoth b hb (fun e => e2 e.symm) e.symm
    · rename_i e1
      split
      · exact hoth a ha (fun e => e1 e.symm)
      · exact hnod a b ha hb hab
  · exact ⟨hk.row (h.pr d hd).1.1 hg.1 (fun e => hg.2.2 e.symm), hk.row (h.pr d hd).1.2 hg.1 (fun e => hg.2.2 e.symm)⟩
  · exact Nat.le_trans (h.pr d hd).2.2 (hk.below _ hg.2.1).size
theorem Pr.ne {W : World} {d : PrD} (h : Pr W d) : ∀ k, some k = d.v1.ownBlock → ¬ some k = d.v2.ownBlock := fun k hk => (h.1.1 k hk.symm).2
theorem Pr.in1 {W : World} {d : PrD} (h : Pr W d) : ∀ k, some k = d.v1.ownBlock → d.lo ≤ k ∧ k < d.hi := fun k hk => ⟨Kd.R_base h.1 k hk.symm, (h.1.1 k hk.symm).1⟩
theorem Pr.in2 {W : World} {d : PrD} (h : Pr W d) : ∀ k, some k = d.v2.ownBlock → d.lo ≤ k ∧ k < d.hi := fun k hk => ⟨Kd.R_base h.2 k hk.symm, (h.2.1 k hk.symm).1⟩
theorem St.add {w W W' : World} {bl : List Bk} {ps : List PrD} (h : St w W bl ps) (hb : Below W.heap.size W W') {B : Nat} (hle : W.heap.size ≤ B) {v1 v2 : Value} {l1 l2 : List Int} {ok2 : Nat → Prop}
    (R1 : Kd.R (Kd.int .i64) 3 W' B (fun k => some k ≠ v2.ownBlock) v1 l1) (R2 : Kd.R (Kd.int .i64) 3 W' B ok2 v2 l2) : St w W' bl (⟨W.heap.size, W'.heap.size, v1, v2, l1, l2⟩ :: ps) := by
  have h' := h.step hb
  refine ⟨h'.below, h'.blk, h'.nod, fun d hd => ?_, .cons (fun d hd => (h.pr d hd).2.2) h.far⟩
  rcases List.mem_cons.1 hd with rfl | hd
  · refine ⟨⟨Kd.R_reok rfl (Kd.R_lower R1 hle) (fun k hk => ⟨Kd.R_lt R1 k hk, R1.1 k hk⟩), Kd.R_reok rfl (Kd.R_lower R2 hle) (fun k hk => ⟨Kd.R_lt R2 k hk, fun e => R1.1 k e.symm hk.symm⟩)⟩, h.below.size, Nat.le_refl _⟩
  · exact h'.pr d hd
theorem St.prAt {w W : World} {bl : List Bk} {ps : List PrD} (h : St w W bl ps) {d : PrD} (hd : d ∈ ps) : Pr W d := (h.pr d hd).1
theorem St.idx {w W : World} {bl : List Bk} {ps : List PrD} (h : St w W bl ps) (i : Nat) {g : Nat} {cs : Array Value} {t : TypeId} (hi : bl[i]? = some (g, cs, t)) : W.heap[g]? = some (.cells cs t (0, 0)) := (h.blk _ (List.mem_of_getElem? hi)).1
theorem St.nth {w W : World} {bl : List Bk} {ps : List PrD} (h : St w W bl ps) (j : Nat) {d : PrD} (hj : ps[j]? = some d) : Pr W d := h.prAt (List.mem_of_getElem? hj)
theorem St.sub {w W : World} {bl : List Bk} {ps ps' : List PrD} (h : St w W bl ps) (hs : ps'.Sublist ps) : St w W bl ps' := ⟨h.below, h.blk, h.nod, fun d hd => h.pr d (hs.subset hd), h.far.sublist hs⟩
theorem Pr.c1 {W : World} {lo hi n c : Nat} {A : Option Addr} {v2 : Value} {l1 l2 : List Int} (h : Pr W ⟨lo, hi, .slice A n c, v2, l1, l2⟩) : n = l1.length ∧ Kd.C (Kd.int .i64) W A l1.length l1 ∧ l1.length ≤ c :=
  by obtain ⟨e, k, c⟩ := Kd.R_reads' h.1; exact ⟨e, c, e ▸ k⟩
theorem Pr.c2 {W : World} {lo hi n c : Nat} {A : Option Addr} {v1 : Value} {l1 l2 : List Int} (h : Pr W ⟨lo, hi, v1, .slice A n c, l1, l2⟩) : n = l2.length ∧ Kd.C (Kd.int .i64) W A l2.length l2 ∧ l2.length ≤ c :=
  by obtain ⟨e, k, c⟩ := Kd.R_reads' h.2; exact ⟨e, c, e ▸ k⟩
theorem St.mark {w W W' : World} {bl : List Bk} {ps : List PrD} (h : St w W bl ps) (i : Nat) {d : PrD} (hi : ps[i]? = some d) {m1 m2 : List Int} {ok1 ok2 : Nat → Prop} (hk : Kept W W' (fun k => some k = d.v1.ownBlock ∨ some k = d.v2.ownBlock))
    (R1 : Kd.R (Kd.int .i64) 3 W' w.heap.size ok1 d.v1 m1) (R2 : Kd.R (Kd.int .i64) 3 W' w.heap.size ok2 d.v2 m2) (hb : Below w.heap.size w W') : St w W' bl (ps.set i ⟨d.lo, d.hi, d.v1, d.v2, m1, m2⟩) := by
  obtain ⟨hlt, hie⟩ := List.getElem?_eq_some_iff.1 hi
  have hd : d ∈ ps := List.mem_of_getElem? hi
  have hp := h.pr d hd
  have hfar := List.pairwise_iff_getElem.1 h.far
  have hin : ∀ k, (some k = d.v1.ownBlock ∨ some k = d.v2.ownBlock) → d.lo ≤ k ∧ k < d.hi := fun k hk => by
    rcases hk with hk | hk
    · exact hp.1.in1 k hk
    · exact hp.1.in2 k hk
  refine ⟨hb, fun p hp' => ⟨?_, (h.blk p hp').2⟩, h.nod, fun e he => ?_, ?_⟩
  · refine blk_kept (h.blk p hp').1 hk fun hs => ?_
    have hb' := (h.blk p hp').1
    rcases hs with hs | hs
    · obtain ⟨cells, hc⟩ := own_typed (Kd.own_of_R hp.1.1) p.1 hs.symm
      rw [hc] at hb'; injection hb' with hb'; injection hb' with _ hb'; exact (h.blk p hp').2.2 hb'.symm
    · obtain ⟨cells, hc⟩ := own_typed (Kd.own_of_R hp.1.2) p.1 hs.symm
      rw [hc] at hb'; injection hb' with hb'; injection hb' with _ hb'; exact (h.blk p hp').2.2 hb'.symm
  · obtain ⟨j, hj, ej⟩ := List.getElem_of_mem he
    rw [List.length_set] at hj
    rw [List.getElem_set] at ej
    split at ej
    · subst ej
      refine ⟨⟨?_, ?_⟩, hp.2.1, Nat.le_trans hp.2.2 hk.1⟩
      · exact Kd.R_of_own (Kd.own_raise (Kd.own_of_R R1) (fun k hk => (hp.1.in1 k hk.symm).1)) (fun k hk => ⟨(hp.1.in1 k hk.symm).2, hp.1.ne k hk.symm⟩)
      · exact Kd.R_of_own (Kd.own_raise (Kd.own_of_R R2) (fun k hk => (hp.1.in2 k hk.symm).1)) (fun k hk => ⟨(hp.1.in2 k hk.symm).2, fun e => hp.1.ne k e hk.symm⟩)
    · rename_i hne
      have he' : e ∈ ps := ej ▸ List.getElem_mem hj
      have hq := h.pr e he'
      have hdis : ∀ k, e.lo ≤ k → k < e.hi → ¬ (some k = d.v1.ownBlock ∨ some k = d.v2.ownBlock) := fun k h1 h2 hs => by
        have h3 := hin k hs
        rcases Nat.lt_or_gt_of_ne hne with hl | hl
        · have := hfar i j hlt hj hl; rw [hie, ej] at this; omega
        · have := hfar j i hj hlt hl; rw [hie, ej] at this; omega
      refine ⟨⟨?_, ?_⟩, hq.2.1, Nat.le_trans hq.2.2 hk.1⟩
      · exact Kd.R_mono (Kd.R_step (Kd.R_bound hq.1.1) (fun k hok hlt' => hk.2 k hlt' (hdis k hok.2.1 hok.1.1))) (fun k hok => hok.1)
      · exact Kd.R_mono (Kd.R_step (Kd.R_bound hq.1.2) (fun k hok hlt' => hk.2 k hlt' (hdis k hok.2.1 hok.1.1))) (fun k hok => hok.1)
  · refine List.pairwise_iff_getElem.2 fun a b ha hb' hab => ?_
    rw [List.length_set] at ha hb'
    have hab' := hfar a b ha hb' hab
    have ea : ((ps.set i ⟨d.lo, d.hi, d.v1, d.v2, m1, m2⟩)[a]'(by rw [List.length_set]; exact ha)).lo = (ps[a]).lo := by
      rw [List.getElem_set]; split
      · rename_i e; subst e; rw [hie]
      · rfl
    have eb : ((ps.set i ⟨d.lo, d.hi, d.v1, d.v2, m1, m2⟩)[b]'(by rw [List.length_set]; exact hb')).hi = (ps[b]).hi := by
      rw [List.getElem_set]; split
      · rename_i e; subst e; rw [hie]
      · rfl
    rw [ea, eb]; exact hab'
theorem cells3 {W : World} {g : Nat} {t : TypeId} {x y z : Value} (h : W.heap[g]? = some (.cells #[x, y, z] t (0, 0))) : W.cell? ⟨g, 0, none⟩ = some x ∧ W.cell? ⟨g, 1, none⟩ = some y ∧ W.cell? ⟨g, 2, none⟩ = some z :=
  ⟨(blk_cell h 0).trans rfl, (blk_cell h 1).trans rfl, (blk_cell h 2).trans rfl⟩
theorem St.cells2 {w W : World} {bl : List Bk} {ps : List PrD} {g1 g2 : Nat} {x1 y1 z1 x2 y2 z2 : Value} {t1 t2 : TypeId} (h : St w W bl ps) (m1 : (g1, #[x1, y1, z1], t1) ∈ bl) (m2 : (g2, #[x2, y2, z2], t2) ∈ bl) :
    W.cell? ⟨g1, 0, none⟩ = some x1 ∧ W.cell? ⟨g1, 1, none⟩ = some y1 ∧ W.cell? ⟨g1, 2, none⟩ = some z1 ∧ W.cell? ⟨g2, 0, none⟩ = some x2 ∧ W.cell? ⟨g2, 1, none⟩ = some y2 ∧ W.cell? ⟨g2, 2, none⟩ = some z2 :=
  ⟨(cells3 (h.at m1)).1, (cells3 (h.at m1)).2.1, (cells3 (h.at m1)).2.2, cells3 (h.at m2)⟩
theorem But1.set3 {W : World} {g : Nat} (x y z : Value) : But1 g W (((W.setCell ⟨g, 0, none⟩ x).setCell ⟨g, 1, none⟩ y).setCell ⟨g, 2, none⟩ z) :=
  ⟨fun k hk => (Below.heap_setCell _ _ _ k hk).trans ((Below.heap_setCell _ _ _ k hk).trans (Below.heap_setCell _ _ _ k hk)), fun B hB => (((Below.refl B W).setCell (p := ⟨g, 0, none⟩) hB x).setCell (p := ⟨g, 1, none⟩) hB y).setCell (p := ⟨g, 2, none⟩) hB z⟩
theorem St.set3 {w W : World} {bl : List Bk} {ps : List PrD} {g : Nat} {a b c : Value} {t : TypeId} (h : St w W ((g, #[a, b, c], t) :: bl) ps) (x y z : Value) :
    St w (((W.setCell ⟨g, 0, none⟩ x).setCell ⟨g, 1, none⟩ y).setCell ⟨g, 2, none⟩ z) ((g, #[x, y, z], t) :: bl) ps := by
  have s := blk_set (blk_set (blk_set (h.at (g := g) (cs := #[a, b, c]) (t := t) List.mem_cons_self) 0 x) 1 y) 2 z
  exact h.put 0 rfl (by simpa using s) (But1.set3 x y z)
/-- What a call that gives an array and a code leaves, its answer laid in a box. -/
def Got (w : World) (bl : List Bk) (ps : List PrD) (t : TypeId) (b : Bool) (l1 l2 : List Int) (cd : Int) (v6 v7 : Value) (W : World) : Prop :=
  ∃ g A1 c1 A2 c2 lo hi, v6 = .pointer (some ⟨g, 0, none⟩) ∧ v7 = .int .i64 cd ∧ St w W ((g, #[.bool b, .slice A1 l1.length c1, .slice A2 l2.length c2], t) :: bl) (⟨lo, hi, .slice A1 l1.length c1, .slice A2 l2.length c2, l1, l2⟩ :: ps)
theorem gotA {w W : World} {bl : List Bk} {ps ps' : List PrD} {t : TypeId} {b : Bool} {l1 l2 : List Int} {cd : Int} {A1 A2 : Option Addr} {c1 c2 lo hi : Nat} (h : St w W bl (⟨lo, hi, .slice A1 l1.length c1, .slice A2 l2.length c2, l1, l2⟩ :: ps')) (hs : ps.Sublist ps') (ht : t ≠ 3) :
    Got w bl ps t b l1 l2 cd (.pointer (some ⟨W.heap.size, 0, none⟩)) (.int .i64 cd) (W.alloc (.cells #[.bool b, .slice A1 l1.length c1, .slice A2 l2.length c2] t)) :=
  ⟨_, A1, c1, A2, c2, lo, hi, rfl, rfl, (h.alloc _ t ht).sub (hs.cons_cons _)⟩
theorem gotB {w W : World} {bl : List Bk} {ps ps' : List PrD} {t : TypeId} {b : Bool} {l1 l2 : List Int} {cd : Int} {A1 A2 : Option Addr} {c1 c2 lo hi g : Nat} {x y z : Value} (h : St w W ((g, #[x, y, z], t) :: bl) (⟨lo, hi, .slice A1 l1.length c1, .slice A2 l2.length c2, l1, l2⟩ :: ps')) (hs : ps.Sublist ps') :
    Got w bl ps t b l1 l2 cd (.pointer (some ⟨g, 0, none⟩)) (.int .i64 cd) (((W.setCell ⟨g, 0, none⟩ (.bool b)).setCell ⟨g, 1, none⟩ (.slice A1 l1.length c1)).setCell ⟨g, 2, none⟩ (.slice A2 l2.length c2)) :=
  ⟨g, A1, c1, A2, c2, lo, hi, rfl, rfl, (h.set3 _ _ _).sub (hs.cons_cons _)⟩
theorem Got.drew {w W : World} {bl : List Bk} {ps : List PrD} {t : TypeId} {b : Bool} {l1 l2 : List Int} {cd : Int} {v6 v7 : Value} (h : Got w bl ps t b l1 l2 cd v6 v7 W) : Got w bl ps t b l1 l2 cd v6 v7 W.drew := by
  obtain ⟨g, A1, c1, A2, c2, lo, hi, e1, e2, hs⟩ := h
  exact ⟨g, A1, c1, A2, c2, lo, hi, e1, e2, hs.drew⟩
/-- A pair that is marked: what the law's function asks. -/
theorem St.ready {w W : World} {bl : List Bk} {ps : List PrD} (h : St w W bl ps) {d : PrD} (hd : d ∈ ps) :
    Kd.R (Kd.int .i64) 3 W w.heap.size (fun k => some k = d.v1.ownBlock) d.v1 d.l1 ∧ (∀ k, some k = d.v1.ownBlock → ¬ some k = d.v2.ownBlock) ∧ Kd.R (Kd.int .i64) 3 W w.heap.size (fun k => some k = d.v2.ownBlock) d.v2 d.l2 ∧ (∀ k, some k = d.v2.ownBlock → ¬ some k = d.v1.ownBlock) :=
  ⟨Kd.R_tight rfl (Kd.R_lower (h.prAt hd).1 (h.pr d hd).2.1), (h.prAt hd).ne, Kd.R_tight rfl (Kd.R_lower (h.prAt hd).2 (h.pr d hd).2.1), fun k h2 h1 => (h.prAt hd).ne k h1 h2⟩
theorem St.ready' {w W : World} {bl : List Bk} {ps : List PrD} (h : St w W bl ps) (j : Nat) {d : PrD} (hj : ps[j]? = some d) :
    Kd.R (Kd.int .i64) 3 W w.heap.size (fun k => some k = d.v1.ownBlock) d.v1 d.l1 ∧ (∀ k, some k = d.v1.ownBlock → ¬ some k = d.v2.ownBlock) ∧ Kd.R (Kd.int .i64) 3 W w.heap.size (fun k => some k = d.v2.ownBlock) d.v2 d.l2 ∧ (∀ k, some k = d.v2.ownBlock → ¬ some k = d.v1.ownBlock) := h.ready (List.mem_of_getElem? hj)
/-- 'held' at rows whose lengths are written another way. -/
theorem held_n (k : Nat) (b : Bool) (A1 A2 : Option Addr) (n1 n2 c1 c2 : Nat) (l1 l2 : List Int) (a r : Int) (w : World) (e1 : n1 = l1.length) (e2 : n2 = l2.length) (h1 : Kd.C (Kd.int .i64) w A1 l1.length l1) (k1 : l1.length ≤ c1) (h2 : Kd.C (Kd.int .i64) w A2 l2.length l2) (k2 : l2.length ≤ c2)
    (h : laws_heldArray.f k b l1 l2 a = some r) : Calls Try.prog 25 #[.agg #[.bool b, .slice A1 n1 c1, .slice A2 n2 c2], .int .i64 a] w fun e w' => e = .returned (.int .i64 r) ∧ Below w.heap.size w w' := by
  subst e1 e2
  exact laws_heldArray.calls k b A1 c1 l1 A2 c2 l2 a r w h1 k1 h2 k2 h
end Go.Proofs.Ytehfcnndjhjkoaa.PA

namespace Go.Proofs.Ytehfcnndjhjkoaa.PA
open Go.RowKit Go.Proofs.YtehfcnndjhjkoaaW.PrintWords Go.Proofs.YtehfcnndjhjkoaaW.PrintLast Go.Proofs.YtehfcnndjhjkoaaW.PrintMore
set_option linter.unusedVariables false
set_option linter.unusedSimpArgs false
set_option maxHeartbeats 8000000 in
set_option maxRecDepth 100000 in
theorem lawRotate_y (kta ktb kea keb ks kev kh kk1 kk2 kk3 : Nat) (a : Bool) (Aa1 : Option Addr) (ca1 : Nat) (la1 : List Int) (Aa2 : Option Addr) (ca2 : Nat) (la2 : List Int) (b : Bool) (Ab1 : Option Addr) (cb1 : Nat) (lb1 : List Int) (Ab2 : Option Addr) (cb2 : Nat) (lb2 : List Int) (c : Bool) (v1 : Bool) (v2 v3 : List Int) (v4 : Int) (s1 : Int) (s2 : Int) (k1 : Int) (m11 m12 : List Int) (k2 : Int) (m21 m22 : List Int) (k3 : Int) (m31 m32 : List Int) (w : World) (ha1 : Kd.C (Kd.int .i64) w Aa1 la1.length la1) (ka1 : la1.length ≤ ca1) (ha2 : Kd.C (Kd.int .i64) w Aa2 la2.length la2) (ka2 : la2.length ≤ ca2) (hb1 : Kd.C (Kd.int .i64) w Ab1 lb1.length lb1) (kb1 : lb1.length ≤ cb1) (hb2 : Kd.C (Kd.int .i64) w Ab2 lb2.length lb2) (kb2 : lb2.length ≤ cb2)
    (hta : laws_toArray.f kta a la1 la2 = some (a, la1, la2))
    (hea : laws_eqArray.f kea a la1 la2 a la1 la2 = some true)
    (htb : laws_toArray.f ktb b lb1 lb2 = some (b, lb1, lb2))
    (heb : laws_eqArray.f keb b lb1 lb2 b lb1 lb2 = some true)
    (hsp : spec_Rotate.f ks a la1 la2 b lb1 lb2 c = some (v1, v2, v3, v4))
    (him : impl_Rotate.f a la1 la2 b lb1 lb2 c = some (v1, v2, v3, v4))
    (hev : laws_eqArray.f kev v1 v2 v3 v1 v2 v3 = some true)
    (hz1 : laws_szArray.f a la1 la2 1048576 = some s1)
    (pz1 : 0 ≤ s1)
    (hz2 : laws_szArray.f b lb1 lb2 s1 = some s2)
    (pz2 : 0 ≤ s2)
    (hm1 : laws_markArray.f kk1 a la1 la2 1 = some (k1, m11, m12))
    (pm1 : 0 ≤ k1)
    (lm11 : la1.length = m11.length)
    (lm12 : la2.length = m12.length)
    (hm2 : laws_markArray.f kk2 b lb1 lb2 k1 = some (k2, m21, m22))
    (pm2 : 0 ≤ k2)
    (lm21 : lb1.length = m21.length)
    (lm22 : lb2.length = m22.length)
    (hm3 : laws_markArray.f kk3 v1 v2 v3 1 = some (k3, m31, m32))
    (pm3 : 0 ≤ k3)
    (lm31 : v2.length = m31.length)
    (lm32 : v3.length = m32.length)
    (hhG : laws_heldArray.f kh v1 m31 m32 1 = some k3) :
    Calls Try.prog 7 #[.agg #[.bool a, .slice Aa1 la1.length ca1, .slice Aa2 la2.length ca2], .agg #[.bool b, .slice Ab1 lb1.length cb1, .slice Ab2 lb2.length cb2], .bool c] w fun e w' => e = .returned (.bool true) ∧ Below w.heap.size w w' := by
  have Ha1 := Aside0.mk ha1
  have Ka1 := Aside0.mk ka1
  have Ha2 := Aside0.mk ha2
  have Ka2 := Aside0.mk ka2
  have Hb1 := Aside0.mk hb1
  have Kb1 := Aside0.mk kb1
  have Hb2 := Aside0.mk hb2
  have Kb2 := Aside0.mk kb2
  replace hta := Aside0.mk hta
  replace hea := Aside0.mk hea
  replace htb := Aside0.mk htb
  replace heb := Aside0.mk heb
  replace hsp := Aside0.mk hsp
  replace him := Aside0.mk him
  replace hev := Aside0.mk hev
  replace hz1 := Aside0.mk hz1
  replace hz2 := Aside0.mk hz2
  replace hm1 := Aside0.mk hm1
  replace lm11 := Aside0.mk lm11
  replace lm12 := Aside0.mk lm12
  replace hm2 := Aside0.mk hm2
  replace lm21 := Aside0.mk lm21
  replace lm22 := Aside0.mk lm22
  replace hm3 := Aside0.mk hm3
  replace lm31 := Aside0.mk lm31
  replace lm32 := Aside0.mk lm32
  replace hhG := Aside0.mk hhG
  clear ha1 ka1 ha2 ka2 hb1 kb1 hb2 kb2
  have qpz1 : decide (s1 < 0) = false := decide_eq_false (by omega)
  have qpz2 : decide (s2 < 0) = false := decide_eq_false (by omega)
  have qpm1 : decide (k1 < 0) = false := decide_eq_false (by omega)
  have qpm2 : decide (k2 < 0) = false := decide_eq_false (by omega)
  have qpm3 : decide (k3 < 0) = false := decide_eq_false (by omega)
  have HS := Aside0.mk (St.start w)
  go_enter Try.func7, Try.ntmps7
  go_upto_region 1 with (first | ((with_reducible refine gate_dst (N := 3) rfl ?_); refine box_event ?hg (N := 3) ?hd (cs := #[.bool a, .slice Aa1 la1.length ca1, .slice Aa2 la2.length ca2]) (t := 24) ?hr ?_; (case hd => rfl); (case hg => rfl); (case hr => first | (go_simp; done) | (go_simp; rfl)); intro g1 hg1 w1 hx1 hb1; have nS := Aside0.mk (HS.out.box hg1 hx1 hb1 (by decide)); clear HS; have HS := nS; clear nS hg1 hx1 hb1) | ((with_reducible refine gate_dst (N := 4) rfl ?_); refine box_event ?hg (N := 4) ?hd (cs := #[.bool b, .slice Ab1 lb1.length cb1, .slice Ab2 lb2.length cb2]) (t := 24) ?hr ?_; (case hd => rfl); (case hg => rfl); (case hr => first | (go_simp; done) | (go_simp; rfl)); intro g2 hg2 w2 hx2 hb2; have nS := Aside0.mk (HS.out.box hg2 hx2 hb2 (by decide)); clear HS; have HS := nS; clear nS hg2 hx2 hb2))
  go_upto_region 2 with (fail)
  go_upto_region 3 with (first | ((with_reducible refine gate_dst (N := 19) rfl ?_); refine wpList_load_row rfl 24 (.tmp 3) rfl g1 rfl 24 #[.bool a, .slice Aa1 la1.length ca1, .slice Aa2 la2.length ca2] (0, 0) _ (HS.out.idx 1 rfl) Try.underlying24 rfl (by kernel_rfl) ?_) | (go_at_call 15; refine (laws_szArray.calls a _ _ la1 _ _ la2 1048576 s1 _ (by (with_reducible repeat (first | refine Kd.C_drew ?_ | refine Kd.C_drewN ?_ _ | refine Kd.C_alloc ?_ _)); exact (Kd.C_below Ha1.out HS.out.below)) Ka1.out (by (with_reducible repeat (first | refine Kd.C_drew ?_ | refine Kd.C_drewN ?_ _ | refine Kd.C_alloc ?_ _)); exact (Kd.C_below Ha2.out HS.out.below)) Ka2.out hz1.out).mono ?_; rintro e w3 ⟨rfl, hb3⟩; have nS := Aside0.mk (St.step (by repeat (first | (with_reducible exact HS.out) | (with_reducible apply St.drew) | (with_reducible apply St.drewN) | (with_reducible apply St.alloc) | decide)) hb3); clear HS; have HS := nS; clear nS hb3))
  go_upto_region 5 with (fail)
  go_upto_region 6 with (first | ((with_reducible refine gate_dst (N := 24) rfl ?_); refine wpList_load_row rfl 24 (.tmp 4) rfl g2 rfl 24 #[.bool b, .slice Ab1 lb1.length cb1, .slice Ab2 lb2.length cb2] (0, 0) _ (HS.out.idx 0 rfl) Try.underlying24 rfl (by kernel_rfl) ?_) | (go_at_call 15; refine (laws_szArray.calls b _ _ lb1 _ _ lb2 s1 s2 _ (by (with_reducible repeat (first | refine Kd.C_drew ?_ | refine Kd.C_drewN ?_ _ | refine Kd.C_alloc ?_ _)); exact (Kd.C_below Hb1.out HS.out.below)) Kb1.out (by (with_reducible repeat (first | refine Kd.C_drew ?_ | refine Kd.C_drewN ?_ _ | refine Kd.C_alloc ?_ _)); exact (Kd.C_below Hb2.out HS.out.below)) Kb2.out hz2.out).mono ?_; rintro e w4 ⟨rfl, hb4⟩; have nS := Aside0.mk (St.step (by repeat (first | (with_reducible exact HS.out) | (with_reducible apply St.drew) | (with_reducible apply St.drewN) | (with_reducible apply St.alloc) | decide)) hb4); clear HS; have HS := nS; clear nS hb4))
  go_upto_region 8 with (fail)
  go_cut [8, 9] (fun v6 v7 wc => Got w [(g2, #[.bool b, .slice Ab1 lb1.length cb1, .slice Ab2 lb2.length cb2], 24), (g1, #[.bool a, .slice Aa1 la1.length ca1, .slice Aa2 la2.length ca2], 24)] ([] : List PrD) 28 v1 v2 v3 v4 v6 v7 wc)
  case first =>
    go_region_held3 (fun w' => w'.cell? ⟨g1, 0, none⟩ = some (.bool a) ∧ w'.cell? ⟨g1, 1, none⟩ = some (.slice Aa1 la1.length ca1) ∧ w'.cell? ⟨g1, 2, none⟩ = some (.slice Aa2 la2.length ca2) ∧ w'.cell? ⟨g2, 0, none⟩ = some (.bool b) ∧ w'.cell? ⟨g2, 1, none⟩ = some (.slice Ab1 lb1.length cb1) ∧ w'.cell? ⟨g2, 2, none⟩ = some (.slice Ab2 lb2.length cb2)) ((apply St.cells2 (w := w) (t1 := 24) (t2 := 24); (repeat (first | (with_reducible exact HS.out) | (with_reducible apply St.drew) | (with_reducible apply St.drewN) | (with_reducible apply St.alloc) | (with_reducible apply St.set3) | decide)); all_goals simp)) (first | (go_at_call_of 18 (Value.agg #[Value.bool a, Value.slice Aa1 la1.length ca1, Value.slice Aa2 la2.length ca2]); refine (laws_toArray.calls kta a _ _ la1 _ _ la2 a la1 la2 _ (by (with_reducible repeat (first | refine Kd.C_drew ?_ | refine Kd.C_drewN ?_ _ | refine Kd.C_alloc ?_ _)); exact (Kd.C_below Ha1.out HS.out.below)) Ka1.out (by (with_reducible repeat (first | refine Kd.C_drew ?_ | refine Kd.C_drewN ?_ _ | refine Kd.C_alloc ?_ _)); exact (Kd.C_below Ha2.out HS.out.below)) Ka2.out hta.out).mono ?_; rintro e w5 ⟨x5, y5, rfl, hx5, hy5, hb5⟩; obtain ⟨Ax5, cx5, rfl⟩ := Kd.R_slice hx5; obtain ⟨Ay5, cy5, rfl⟩ := Kd.R_slice hy5; have nS := Aside0.mk (St.add (by repeat (first | (with_reducible exact HS.out) | (with_reducible apply St.drew) | (with_reducible apply St.drewN) | (with_reducible apply St.alloc) | decide)) hb5 (Nat.le_refl _) hx5 hy5); clear HS; have HS := nS; clear nS hb5 hx5 hy5) | (go_at_call_of 18 (Value.agg #[Value.bool b, Value.slice Ab1 lb1.length cb1, Value.slice Ab2 lb2.length cb2]); refine (laws_toArray.calls ktb b _ _ lb1 _ _ lb2 b lb1 lb2 _ (by (with_reducible repeat (first | refine Kd.C_drew ?_ | refine Kd.C_drewN ?_ _ | refine Kd.C_alloc ?_ _)); exact (Kd.C_below Hb1.out HS.out.below)) Kb1.out (by (with_reducible repeat (first | refine Kd.C_drew ?_ | refine Kd.C_drewN ?_ _ | refine Kd.C_alloc ?_ _)); exact (Kd.C_below Hb2.out HS.out.below)) Kb2.out htb.out).mono ?_; rintro e w6 ⟨x6, y6, rfl, hx6, hy6, hb6⟩; obtain ⟨Ax6, cx6, rfl⟩ := Kd.R_slice hx6; obtain ⟨Ay6, cy6, rfl⟩ := Kd.R_slice hy6; have nS := Aside0.mk (St.add (by repeat (first | (with_reducible exact HS.out) | (with_reducible apply St.drew) | (with_reducible apply St.drewN) | (with_reducible apply St.alloc) | decide)) hb6 (Nat.le_refl _) hx6 hy6); clear HS; have HS := nS; clear nS hb6 hx6 hy6) | (go_at_call 35; refine (spec_Rotate.calls ks a Ax5 cx5 la1 Ay5 cy5 la2 b Ax6 cx6 lb1 Ay6 cy6 lb2 c v1 v2 v3 v4 _ (by (with_reducible repeat (first | refine Kd.C_drew ?_ | refine Kd.C_drewN ?_ _ | refine Kd.C_alloc ?_ _)); exact (HS.out.nth 1 rfl).c1.2.1) (HS.out.nth 1 rfl).c1.2.2 (by (with_reducible repeat (first | refine Kd.C_drew ?_ | refine Kd.C_drewN ?_ _ | refine Kd.C_alloc ?_ _)); exact (HS.out.nth 1 rfl).c2.2.1) (HS.out.nth 1 rfl).c2.2.2 (by (with_reducible repeat (first | refine Kd.C_drew ?_ | refine Kd.C_drewN ?_ _ | refine Kd.C_alloc ?_ _)); exact (HS.out.nth 0 rfl).c1.2.1) (HS.out.nth 0 rfl).c1.2.2 (by (with_reducible repeat (first | refine Kd.C_drew ?_ | refine Kd.C_drewN ?_ _ | refine Kd.C_alloc ?_ _)); exact (HS.out.nth 0 rfl).c2.2.1) (HS.out.nth 0 rfl).c2.2.2 hsp.out).mono ?_; rintro e w7 ⟨x7, y7, rfl, hx7, hy7, hb7⟩; obtain ⟨Ax7, cx7, rfl⟩ := Kd.R_slice hx7; obtain ⟨Ay7, cy7, rfl⟩ := Kd.R_slice hy7; have nS := Aside0.mk (St.add (by repeat (first | (with_reducible exact HS.out) | (with_reducible apply St.drew) | (with_reducible apply St.drewN) | (with_reducible apply St.alloc) | decide)) hb7 (Nat.le_refl _) hx7 hy7); clear HS; have HS := nS; clear nS hb7 hx7 hy7; have hz_ := Aside0.mk (HS.out.idx 0 rfl); have hx0_ := (cells3 hz_.out).1; have hx1_ := (cells3 hz_.out).2.1; have hx2_ := (cells3 hz_.out).2.2; have hy0_ := blk_frozen hz_.out 0; have hy1_ := blk_frozen hz_.out 1; have hy2_ := blk_frozen hz_.out 2))
    all_goals
      go_wp2_with fail
      go_meet
      case rel =>
        (try (with_reducible refine Got.drew ?_))
        first | (with_reducible refine gotB HS.out ?_) | (with_reducible refine gotA HS.out ?_ (show 28 ≠ 3 by decide))
        repeat (first | (with_reducible exact List.Sublist.refl _) | (with_reducible exact List.nil_sublist _) | (with_reducible apply List.Sublist.cons_cons) | (with_reducible apply List.Sublist.cons))
  case rest =>
    obtain ⟨g8, Az8, cz8, Bz8, dz8, lo8, hi8, rfl, rfl, hs8⟩ := hcut; have HS := Aside0.mk hs8; clear hs8
    go_upto_region 10 with (first | ((with_reducible refine gate_dst (N := 38) rfl ?_); refine wpList_load_row rfl 24 (.tmp 3) rfl g1 rfl 24 #[.bool a, .slice Aa1 la1.length ca1, .slice Aa2 la2.length ca2] (0, 0) _ (HS.out.idx 2 rfl) Try.underlying24 rfl (by kernel_rfl) ?_) | (go_at_call_of 18 (Value.agg #[Value.bool a, Value.slice Aa1 la1.length ca1, Value.slice Aa2 la2.length ca2]); refine (laws_toArray.calls kta a _ _ la1 _ _ la2 a la1 la2 _ (by (with_reducible repeat (first | refine Kd.C_drew ?_ | refine Kd.C_drewN ?_ _ | refine Kd.C_alloc ?_ _)); exact (Kd.C_below Ha1.out HS.out.below)) Ka1.out (by (with_reducible repeat (first | refine Kd.C_drew ?_ | refine Kd.C_drewN ?_ _ | refine Kd.C_alloc ?_ _)); exact (Kd.C_below Ha2.out HS.out.below)) Ka2.out hta.out).mono ?_; rintro e w9 ⟨x9, y9, rfl, hx9, hy9, hb9⟩; obtain ⟨Ax9, cx9, rfl⟩ := Kd.R_slice hx9; obtain ⟨Ay9, cy9, rfl⟩ := Kd.R_slice hy9; have nS := Aside0.mk (St.add (by repeat (first | (with_reducible exact HS.out) | (with_reducible apply St.drew) | (with_reducible apply St.drewN) | (with_reducible apply St.alloc) | decide)) hb9 (Nat.le_refl _) hx9 hy9); clear HS; have HS := nS; clear nS hb9 hx9 hy9) | ((with_reducible refine gate_dst (N := 10) rfl ?_); refine box_event ?hg (N := 10) ?hd (cs := #[.bool false, .slice none 0 0, .slice none 0 0]) (t := 28) ?hr ?_; (case hd => rfl); (case hg => rfl); (case hr => first | (go_simp; done) | (go_simp; rfl)); intro g10 hg10 w10 hx10 hb10; have nS := Aside0.mk (HS.out.box hg10 hx10 hb10 (by decide)); clear HS; have HS := nS; clear nS hg10 hx10 hb10) | ((with_reducible refine gate_store rfl ?_); refine store_named rfl 28 (.tmp 10) (.tmp 39) rfl g10 #[.bool a, .slice Ax9 la1.length cx9, .slice Ay9 la2.length cy9] rfl rfl 28 #[.bool false, .slice none 0 0, .slice none 0 0] (HS.out.idx 0 rfl) (by kernel_rfl) rfl (by simp [Value.oneCell']) ?_; intro w11 hx11 hb11; have nS := Aside0.mk (HS.out.put 0 rfl hx11 hb11); simp only [List.set_cons_zero, List.set_cons_succ] at nS; clear HS; have HS := nS; clear nS hx11 hb11))
    go_upto_region 11 with (first | ((with_reducible refine gate_dst (N := 40) rfl ?_); refine wpList_load_row rfl 24 (.tmp 4) rfl g2 rfl 24 #[.bool b, .slice Ab1 lb1.length cb1, .slice Ab2 lb2.length cb2] (0, 0) _ (HS.out.idx 2 rfl) Try.underlying24 rfl (by kernel_rfl) ?_) | (go_at_call_of 18 (Value.agg #[Value.bool b, Value.slice Ab1 lb1.length cb1, Value.slice Ab2 lb2.length cb2]); refine (laws_toArray.calls ktb b _ _ lb1 _ _ lb2 b lb1 lb2 _ (by (with_reducible repeat (first | refine Kd.C_drew ?_ | refine Kd.C_drewN ?_ _ | refine Kd.C_alloc ?_ _)); exact (Kd.C_below Hb1.out HS.out.below)) Kb1.out (by (with_reducible repeat (first | refine Kd.C_drew ?_ | refine Kd.C_drewN ?_ _ | refine Kd.C_alloc ?_ _)); exact (Kd.C_below Hb2.out HS.out.below)) Kb2.out htb.out).mono ?_; rintro e w12 ⟨x12, y12, rfl, hx12, hy12, hb12⟩; obtain ⟨Ax12, cx12, rfl⟩ := Kd.R_slice hx12; obtain ⟨Ay12, cy12, rfl⟩ := Kd.R_slice hy12; have nS := Aside0.mk (St.add (by repeat (first | (with_reducible exact HS.out) | (with_reducible apply St.drew) | (with_reducible apply St.drewN) | (with_reducible apply St.alloc) | decide)) hb12 (Nat.le_refl _) hx12 hy12); clear HS; have HS := nS; clear nS hb12 hx12 hy12) | ((with_reducible refine gate_dst (N := 11) rfl ?_); refine box_event ?hg (N := 11) ?hd (cs := #[.bool false, .slice none 0 0, .slice none 0 0]) (t := 28) ?hr ?_; (case hd => rfl); (case hg => rfl); (case hr => first | (go_simp; done) | (go_simp; rfl)); intro g13 hg13 w13 hx13 hb13; have nS := Aside0.mk (HS.out.box hg13 hx13 hb13 (by decide)); clear HS; have HS := nS; clear nS hg13 hx13 hb13) | ((with_reducible refine gate_store rfl ?_); refine store_named rfl 28 (.tmp 11) (.tmp 41) rfl g13 #[.bool b, .slice Ax12 lb1.length cx12, .slice Ay12 lb2.length cy12] rfl rfl 28 #[.bool false, .slice none 0 0, .slice none 0 0] (HS.out.idx 0 rfl) (by kernel_rfl) rfl (by simp [Value.oneCell']) ?_; intro w14 hx14 hb14; have nS := Aside0.mk (HS.out.put 0 rfl hx14 hb14); simp only [List.set_cons_zero, List.set_cons_succ] at nS; clear HS; have HS := nS; clear nS hx14 hb14))
    go_upto_region 12 with (first | ((with_reducible refine gate_dst (N := 43) rfl ?_); refine wpList_load_row rfl 28 (.tmp 10) rfl g10 rfl 28 #[.bool a, .slice Ax9 la1.length cx9, .slice Ay9 la2.length cy9] (0, 0) _ (HS.out.idx 1 rfl) Try.underlying28 rfl (by kernel_rfl) ?_) | ((with_reducible refine gate_dst (N := 44) rfl ?_); refine wpList_load_row rfl 28 (.tmp 11) rfl g13 rfl 28 #[.bool b, .slice Ax12 lb1.length cx12, .slice Ay12 lb2.length cy12] (0, 0) _ (HS.out.idx 0 rfl) Try.underlying28 rfl (by kernel_rfl) ?_) | (go_at_call 36; refine (impl_Rotate.calls a Ax9 cx9 la1 Ay9 cy9 la2 b Ax12 cx12 lb1 Ay12 cy12 lb2 c v1 v2 v3 v4 _ (by (with_reducible repeat (first | refine Kd.C_drew ?_ | refine Kd.C_drewN ?_ _ | refine Kd.C_alloc ?_ _)); exact (HS.out.nth 1 rfl).c1.2.1) (HS.out.nth 1 rfl).c1.2.2 (by (with_reducible repeat (first | refine Kd.C_drew ?_ | refine Kd.C_drewN ?_ _ | refine Kd.C_alloc ?_ _)); exact (HS.out.nth 1 rfl).c2.2.1) (HS.out.nth 1 rfl).c2.2.2 (by (with_reducible repeat (first | refine Kd.C_drew ?_ | refine Kd.C_drewN ?_ _ | refine Kd.C_alloc ?_ _)); exact (HS.out.nth 0 rfl).c1.2.1) (HS.out.nth 0 rfl).c1.2.2 (by (with_reducible repeat (first | refine Kd.C_drew ?_ | refine Kd.C_drewN ?_ _ | refine Kd.C_alloc ?_ _)); exact (HS.out.nth 0 rfl).c2.2.1) (HS.out.nth 0 rfl).c2.2.2 him.out).mono ?_; rintro e w15 ⟨x15, y15, rfl, hx15, hy15, hb15⟩; obtain ⟨Ax15, cx15, rfl⟩ := Kd.R_slice hx15; obtain ⟨Ay15, cy15, rfl⟩ := Kd.R_slice hy15; have nS := Aside0.mk (St.add (by repeat (first | (with_reducible exact HS.out) | (with_reducible apply St.drew) | (with_reducible apply St.drewN) | (with_reducible apply St.alloc) | decide)) hb15 (Nat.le_refl _) hx15 hy15); clear HS; have HS := nS; clear nS hb15 hx15 hy15) | ((with_reducible refine gate_dst (N := 12) rfl ?_); refine box_event ?hg (N := 12) ?hd (cs := #[.bool false, .slice none 0 0, .slice none 0 0]) (t := 28) ?hr ?_; (case hd => rfl); (case hg => rfl); (case hr => first | (go_simp; done) | (go_simp; rfl)); intro g16 hg16 w16 hx16 hb16; have nS := Aside0.mk (HS.out.box hg16 hx16 hb16 (by decide)); clear HS; have HS := nS; clear nS hg16 hx16 hb16) | ((with_reducible refine gate_store rfl ?_); refine store_named rfl 28 (.tmp 12) (.tmp 47) rfl g16 #[.bool v1, .slice Ax15 v2.length cx15, .slice Ay15 v3.length cy15] rfl rfl 28 #[.bool false, .slice none 0 0, .slice none 0 0] (HS.out.idx 0 rfl) (by kernel_rfl) rfl (by simp [Value.oneCell']) ?_; intro w17 hx17 hb17; have nS := Aside0.mk (HS.out.put 0 rfl hx17 hb17); simp only [List.set_cons_zero, List.set_cons_succ] at nS; clear HS; have HS := nS; clear nS hx17 hb17))
    go_upto_region 14 with (first | ((with_reducible refine gate_dst (N := 49) rfl ?_); refine wpList_load_row rfl 28 (.tmp 12) rfl g16 rfl 28 #[.bool v1, .slice Ax15 v2.length cx15, .slice Ay15 v3.length cy15] (0, 0) _ (HS.out.idx 0 rfl) Try.underlying28 rfl (by kernel_rfl) ?_) | ((with_reducible refine gate_dst (N := 50) rfl ?_); refine wpList_load_row rfl 28 (.tmp 8) rfl g8 rfl 28 #[.bool v1, .slice Az8 v2.length cz8, .slice Bz8 v3.length dz8] (0, 0) _ (HS.out.idx 3 rfl) Try.underlying28 rfl (by kernel_rfl) ?_) | (go_at_call 21; refine (laws_eqArray.calls kev v1 Ax15 cx15 v2 Ay15 cy15 v3 v1 Az8 cz8 v2 Bz8 dz8 v3 true _ (by (with_reducible repeat (first | refine Kd.C_drew ?_ | refine Kd.C_drewN ?_ _ | refine Kd.C_alloc ?_ _)); exact (HS.out.nth 0 rfl).c1.2.1) (HS.out.nth 0 rfl).c1.2.2 (by (with_reducible repeat (first | refine Kd.C_drew ?_ | refine Kd.C_drewN ?_ _ | refine Kd.C_alloc ?_ _)); exact (HS.out.nth 0 rfl).c2.2.1) (HS.out.nth 0 rfl).c2.2.2 (by (with_reducible repeat (first | refine Kd.C_drew ?_ | refine Kd.C_drewN ?_ _ | refine Kd.C_alloc ?_ _)); exact (HS.out.nth 3 rfl).c1.2.1) (HS.out.nth 3 rfl).c1.2.2 (by (with_reducible repeat (first | refine Kd.C_drew ?_ | refine Kd.C_drewN ?_ _ | refine Kd.C_alloc ?_ _)); exact (HS.out.nth 3 rfl).c2.2.1) (HS.out.nth 3 rfl).c2.2.2 hev.out).mono ?_; rintro e w18 ⟨rfl, hb18⟩; have nS := Aside0.mk (St.step (by repeat (first | (with_reducible exact HS.out) | (with_reducible apply St.drew) | (with_reducible apply St.drewN) | (with_reducible apply St.alloc) | decide)) hb18); clear HS; have HS := nS; clear nS hb18))
    go_region_held3 (fun w' => w'.cell? ⟨g10, 0, none⟩ = some (.bool a) ∧ w'.cell? ⟨g10, 1, none⟩ = some (.slice Ax9 la1.length cx9) ∧ w'.cell? ⟨g10, 2, none⟩ = some (.slice Ay9 la2.length cy9) ∧ w'.cell? ⟨g1, 0, none⟩ = some (.bool a) ∧ w'.cell? ⟨g1, 1, none⟩ = some (.slice Aa1 la1.length ca1) ∧ w'.cell? ⟨g1, 2, none⟩ = some (.slice Aa2 la2.length ca2)) ((apply St.cells2 (w := w) (t1 := 28) (t2 := 24); (repeat (first | (with_reducible exact HS.out) | (with_reducible apply St.drew) | (with_reducible apply St.drewN) | (with_reducible apply St.alloc) | (with_reducible apply St.set3) | decide)); all_goals simp)) (first | (go_at_call_of 18 (Value.agg #[Value.bool a, Value.slice Aa1 la1.length ca1, Value.slice Aa2 la2.length ca2]); refine (laws_toArray.calls kta a _ _ la1 _ _ la2 a la1 la2 _ (by (with_reducible repeat (first | refine Kd.C_drew ?_ | refine Kd.C_drewN ?_ _ | refine Kd.C_alloc ?_ _)); exact (Kd.C_below Ha1.out HS.out.below)) Ka1.out (by (with_reducible repeat (first | refine Kd.C_drew ?_ | refine Kd.C_drewN ?_ _ | refine Kd.C_alloc ?_ _)); exact (Kd.C_below Ha2.out HS.out.below)) Ka2.out hta.out).mono ?_; rintro e w19 ⟨x19, y19, rfl, hx19, hy19, hb19⟩; obtain ⟨Ax19, cx19, rfl⟩ := Kd.R_slice hx19; obtain ⟨Ay19, cy19, rfl⟩ := Kd.R_slice hy19; have nS := Aside0.mk (St.add (by repeat (first | (with_reducible exact HS.out) | (with_reducible apply St.drew) | (with_reducible apply St.drewN) | (with_reducible apply St.alloc) | decide)) hb19 (Nat.le_refl _) hx19 hy19); clear HS; have HS := nS; clear nS hb19 hx19 hy19) | (go_at_call 21; refine (laws_eqArray.calls kea a Ax9 cx9 la1 Ay9 cy9 la2 a Ax19 cx19 la1 Ay19 cy19 la2 true _ (by (with_reducible repeat (first | refine Kd.C_drew ?_ | refine Kd.C_drewN ?_ _ | refine Kd.C_alloc ?_ _)); exact (HS.out.nth 3 rfl).c1.2.1) (HS.out.nth 3 rfl).c1.2.2 (by (with_reducible repeat (first | refine Kd.C_drew ?_ | refine Kd.C_drewN ?_ _ | refine Kd.C_alloc ?_ _)); exact (HS.out.nth 3 rfl).c2.2.1) (HS.out.nth 3 rfl).c2.2.2 (by (with_reducible repeat (first | refine Kd.C_drew ?_ | refine Kd.C_drewN ?_ _ | refine Kd.C_alloc ?_ _)); exact (HS.out.nth 0 rfl).c1.2.1) (HS.out.nth 0 rfl).c1.2.2 (by (with_reducible repeat (first | refine Kd.C_drew ?_ | refine Kd.C_drewN ?_ _ | refine Kd.C_alloc ?_ _)); exact (HS.out.nth 0 rfl).c2.2.1) (HS.out.nth 0 rfl).c2.2.2 hea.out).mono ?_; rintro e w20 ⟨rfl, hb20⟩; have nS := Aside0.mk (St.step (by repeat (first | (with_reducible exact HS.out) | (with_reducible apply St.drew) | (with_reducible apply St.drewN) | (with_reducible apply St.alloc) | decide)) hb20); clear HS; have HS := nS; clear nS hb20))
    go_upto_region 16 with (fail)
    go_region_held3 (fun w' => w'.cell? ⟨g13, 0, none⟩ = some (.bool b) ∧ w'.cell? ⟨g13, 1, none⟩ = some (.slice Ax12 lb1.length cx12) ∧ w'.cell? ⟨g13, 2, none⟩ = some (.slice Ay12 lb2.length cy12) ∧ w'.cell? ⟨g2, 0, none⟩ = some (.bool b) ∧ w'.cell? ⟨g2, 1, none⟩ = some (.slice Ab1 lb1.length cb1) ∧ w'.cell? ⟨g2, 2, none⟩ = some (.slice Ab2 lb2.length cb2)) ((apply St.cells2 (w := w) (t1 := 28) (t2 := 24); (repeat (first | (with_reducible exact HS.out) | (with_reducible apply St.drew) | (with_reducible apply St.drewN) | (with_reducible apply St.alloc) | (with_reducible apply St.set3) | decide)); all_goals simp)) (first | (go_at_call_of 18 (Value.agg #[Value.bool b, Value.slice Ab1 lb1.length cb1, Value.slice Ab2 lb2.length cb2]); refine (laws_toArray.calls ktb b _ _ lb1 _ _ lb2 b lb1 lb2 _ (by (with_reducible repeat (first | refine Kd.C_drew ?_ | refine Kd.C_drewN ?_ _ | refine Kd.C_alloc ?_ _)); exact (Kd.C_below Hb1.out HS.out.below)) Kb1.out (by (with_reducible repeat (first | refine Kd.C_drew ?_ | refine Kd.C_drewN ?_ _ | refine Kd.C_alloc ?_ _)); exact (Kd.C_below Hb2.out HS.out.below)) Kb2.out htb.out).mono ?_; rintro e w21 ⟨x21, y21, rfl, hx21, hy21, hb21⟩; obtain ⟨Ax21, cx21, rfl⟩ := Kd.R_slice hx21; obtain ⟨Ay21, cy21, rfl⟩ := Kd.R_slice hy21; have nS := Aside0.mk (St.add (by repeat (first | (with_reducible exact HS.out) | (with_reducible apply St.drew) | (with_reducible apply St.drewN) | (with_reducible apply St.alloc) | decide)) hb21 (Nat.le_refl _) hx21 hy21); clear HS; have HS := nS; clear nS hb21 hx21 hy21) | (go_at_call 21; refine (laws_eqArray.calls keb b Ax12 cx12 lb1 Ay12 cy12 lb2 b Ax21 cx21 lb1 Ay21 cy21 lb2 true _ (by (with_reducible repeat (first | refine Kd.C_drew ?_ | refine Kd.C_drewN ?_ _ | refine Kd.C_alloc ?_ _)); exact (HS.out.nth 3 rfl).c1.2.1) (HS.out.nth 3 rfl).c1.2.2 (by (with_reducible repeat (first | refine Kd.C_drew ?_ | refine Kd.C_drewN ?_ _ | refine Kd.C_alloc ?_ _)); exact (HS.out.nth 3 rfl).c2.2.1) (HS.out.nth 3 rfl).c2.2.2 (by (with_reducible repeat (first | refine Kd.C_drew ?_ | refine Kd.C_drewN ?_ _ | refine Kd.C_alloc ?_ _)); exact (HS.out.nth 0 rfl).c1.2.1) (HS.out.nth 0 rfl).c1.2.2 (by (with_reducible repeat (first | refine Kd.C_drew ?_ | refine Kd.C_drewN ?_ _ | refine Kd.C_alloc ?_ _)); exact (HS.out.nth 0 rfl).c2.2.1) (HS.out.nth 0 rfl).c2.2.2 heb.out).mono ?_; rintro e w22 ⟨rfl, hb22⟩; have nS := Aside0.mk (St.step (by repeat (first | (with_reducible exact HS.out) | (with_reducible apply St.drew) | (with_reducible apply St.drewN) | (with_reducible apply St.alloc) | decide)) hb22); clear HS; have HS := nS; clear nS hb22))
    go_upto_region 18 with (fail)
    go_upto_region 19 with (fail)
    go_upto_region 20 with (first | ((with_reducible refine gate_dst (N := 68) rfl ?_); refine wpList_load_row rfl 28 (.tmp 10) rfl g10 rfl 28 #[.bool a, .slice Ax9 la1.length cx9, .slice Ay9 la2.length cy9] (0, 0) _ (HS.out.idx 2 rfl) Try.underlying28 rfl (by kernel_rfl) ?_) | (go_at_call 23; have hr_ := HS.out.ready' 4 rfl; refine (laws_markArray.calls kk1 a (fun k => some k = ((.slice Ax9 la1.length cx9) : Value).ownBlock) (.slice Ax9 la1.length cx9) la1 (fun k => some k = ((.slice Ay9 la2.length cy9) : Value).ownBlock) (.slice Ay9 la2.length cy9) la2 1 k1 m11 m12 w w22 HS.out.below hr_.1 hr_.2.1 hr_.2.2.1 hr_.2.2.2 hm1.out).mono ?_; clear hr_; rintro e w23 ⟨rfl, hx23, hy23, hb23, hk23⟩; have nS := Aside0.mk (HS.out.mark 4 rfl hk23 hx23 hy23 hb23); simp only [List.set_cons_zero, List.set_cons_succ] at nS; clear HS; have HS := nS; clear nS hk23 hx23 hy23 hb23))
    go_upto_region 21 with (first | ((with_reducible refine gate_dst (N := 71) rfl ?_); refine wpList_load_row rfl 28 (.tmp 11) rfl g13 rfl 28 #[.bool b, .slice Ax12 lb1.length cx12, .slice Ay12 lb2.length cy12] (0, 0) _ (HS.out.idx 1 rfl) Try.underlying28 rfl (by kernel_rfl) ?_) | (go_at_call 23; have hr_ := HS.out.ready' 3 rfl; refine (laws_markArray.calls kk2 b (fun k => some k = ((.slice Ax12 lb1.length cx12) : Value).ownBlock) (.slice Ax12 lb1.length cx12) lb1 (fun k => some k = ((.slice Ay12 lb2.length cy12) : Value).ownBlock) (.slice Ay12 lb2.length cy12) lb2 k1 k2 m21 m22 w w23 HS.out.below hr_.1 hr_.2.1 hr_.2.2.1 hr_.2.2.2 hm2.out).mono ?_; clear hr_; rintro e w24 ⟨rfl, hx24, hy24, hb24, hk24⟩; have nS := Aside0.mk (HS.out.mark 3 rfl hk24 hx24 hy24 hb24); simp only [List.set_cons_zero, List.set_cons_succ] at nS; clear HS; have HS := nS; clear nS hk24 hx24 hy24 hb24))
    have gc0_ := cells3 (HS.out.idx 0 rfl); have gd0_ := gc0_.2; replace gc0_ := gc0_.1; have ge0_ := gd0_.2; replace gd0_ := gd0_.1
    have gc1_ := cells3 (HS.out.idx 3 rfl); have gd1_ := gc1_.2; replace gc1_ := gc1_.1; have ge1_ := gd1_.2; replace gd1_ := gd1_.1
    go_upto_region 23 with (first | (go_at_call 21; refine (laws_eqArray.calls kev v1 Ax15 cx15 v2 Ay15 cy15 v3 v1 Az8 cz8 v2 Bz8 dz8 v3 true _ (by (with_reducible repeat (first | refine Kd.C_drew ?_ | refine Kd.C_drewN ?_ _ | refine Kd.C_alloc ?_ _)); exact (HS.out.nth 2 rfl).c1.2.1) (HS.out.nth 2 rfl).c1.2.2 (by (with_reducible repeat (first | refine Kd.C_drew ?_ | refine Kd.C_drewN ?_ _ | refine Kd.C_alloc ?_ _)); exact (HS.out.nth 2 rfl).c2.2.1) (HS.out.nth 2 rfl).c2.2.2 (by (with_reducible repeat (first | refine Kd.C_drew ?_ | refine Kd.C_drewN ?_ _ | refine Kd.C_alloc ?_ _)); exact (HS.out.nth 5 rfl).c1.2.1) (HS.out.nth 5 rfl).c1.2.2 (by (with_reducible repeat (first | refine Kd.C_drew ?_ | refine Kd.C_drewN ?_ _ | refine Kd.C_alloc ?_ _)); exact (HS.out.nth 5 rfl).c2.2.1) (HS.out.nth 5 rfl).c2.2.2 hev.out).mono ?_; rintro e w25 ⟨rfl, hb25⟩; have nS := Aside0.mk (St.step (by repeat (first | (with_reducible exact HS.out) | (with_reducible apply St.drew) | (with_reducible apply St.drewN) | (with_reducible apply St.alloc) | decide)) hb25); clear HS; have HS := nS; clear nS hb25))
    clear gc0_ gd0_ ge0_ gc1_ gd1_ ge1_
    go_upto_region 24 with (fail)
    go_upto_region 25 with (first | ((with_reducible refine gate_dst (N := 87) rfl ?_); refine wpList_load_row rfl 28 (.tmp 12) rfl g16 rfl 28 #[.bool v1, .slice Ax15 v2.length cx15, .slice Ay15 v3.length cy15] (0, 0) _ (HS.out.idx 0 rfl) Try.underlying28 rfl (by kernel_rfl) ?_) | (go_at_call 23; have hr_ := HS.out.ready' 2 rfl; refine (laws_markArray.calls kk3 v1 (fun k => some k = ((.slice Ax15 v2.length cx15) : Value).ownBlock) (.slice Ax15 v2.length cx15) v2 (fun k => some k = ((.slice Ay15 v3.length cy15) : Value).ownBlock) (.slice Ay15 v3.length cy15) v3 1 k3 m31 m32 w w25 HS.out.below hr_.1 hr_.2.1 hr_.2.2.1 hr_.2.2.2 hm3.out).mono ?_; clear hr_; rintro e w26 ⟨rfl, hx26, hy26, hb26, hk26⟩; have nS := Aside0.mk (HS.out.mark 2 rfl hk26 hx26 hy26 hb26); simp only [List.set_cons_zero, List.set_cons_succ] at nS; clear HS; have HS := nS; clear nS hk26 hx26 hy26 hb26))
    go_upto_region 26 with (fail)
    go_upto_region 27 with (first | ((with_reducible refine gate_dst (N := 90) rfl ?_); refine wpList_load_row rfl 28 (.tmp 12) rfl g16 rfl 28 #[.bool v1, .slice Ax15 v2.length cx15, .slice Ay15 v3.length cy15] (0, 0) _ (HS.out.idx 0 rfl) Try.underlying28 rfl (by kernel_rfl) ?_) | (go_at_call 25; refine (held_n kh v1 Ax15 Ay15 _ _ cx15 cy15 m31 m32 1 k3 _ lm31.out lm32.out (by (with_reducible repeat (first | refine Kd.C_drew ?_ | refine Kd.C_drewN ?_ _ | refine Kd.C_alloc ?_ _)); exact (HS.out.nth 2 rfl).c1.2.1) (HS.out.nth 2 rfl).c1.2.2 (by (with_reducible repeat (first | refine Kd.C_drew ?_ | refine Kd.C_drewN ?_ _ | refine Kd.C_alloc ?_ _)); exact (HS.out.nth 2 rfl).c2.2.1) (HS.out.nth 2 rfl).c2.2.2 hhG.out).mono ?_; rintro e w27 ⟨rfl, hb27⟩; have nS := Aside0.mk (St.step (by repeat (first | (with_reducible exact HS.out) | (with_reducible apply St.drew) | (with_reducible apply St.drewN) | (with_reducible apply St.alloc) | decide)) hb27); clear HS; have HS := nS; clear nS hb27))
    go_upto_region 29 with (fail)
    go_upto_region 31 with (fail)
    go_cut [17, 18] (fun v6 v7 wc => Got w [(g16, #[.bool v1, .slice Ax15 v2.length cx15, .slice Ay15 v3.length cy15], 28), (g13, #[.bool b, .slice Ax12 lb1.length cx12, .slice Ay12 lb2.length cy12], 28), (g10, #[.bool a, .slice Ax9 la1.length cx9, .slice Ay9 la2.length cy9], 28), (g8, #[.bool v1, .slice Az8 v2.length cz8, .slice Bz8 v3.length dz8], 28), (g2, #[.bool b, .slice Ab1 lb1.length cb1, .slice Ab2 lb2.length cb2], 24), (g1, #[.bool a, .slice Aa1 la1.length ca1, .slice Aa2 la2.length ca2], 24)] ([⟨w14.heap.size, w15.heap.size, .slice Ax15 v2.length cx15, .slice Ay15 v3.length cy15, m31, m32⟩, ⟨lo8, hi8, .slice Az8 v2.length cz8, .slice Bz8 v3.length dz8, v2, v3⟩] : List PrD) 28 v1 v2 v3 v4 v6 v7 wc)
    case first =>
      go_region_held3 (fun w' => w'.cell? ⟨g1, 0, none⟩ = some (.bool a) ∧ w'.cell? ⟨g1, 1, none⟩ = some (.slice Aa1 la1.length ca1) ∧ w'.cell? ⟨g1, 2, none⟩ = some (.slice Aa2 la2.length ca2) ∧ w'.cell? ⟨g2, 0, none⟩ = some (.bool b) ∧ w'.cell? ⟨g2, 1, none⟩ = some (.slice Ab1 lb1.length cb1) ∧ w'.cell? ⟨g2, 2, none⟩ = some (.slice Ab2 lb2.length cb2)) ((apply St.cells2 (w := w) (t1 := 24) (t2 := 24); (repeat (first | (with_reducible exact HS.out) | (with_reducible apply St.drew) | (with_reducible apply St.drewN) | (with_reducible apply St.alloc) | (with_reducible apply St.set3) | decide)); all_goals simp)) (first | (go_at_call_of 18 (Value.agg #[Value.bool a, Value.slice Aa1 la1.length ca1, Value.slice Aa2 la2.length ca2]); refine (laws_toArray.calls kta a _ _ la1 _ _ la2 a la1 la2 _ (by (with_reducible repeat (first | refine Kd.C_drew ?_ | refine Kd.C_drewN ?_ _ | refine Kd.C_alloc ?_ _)); exact (Kd.C_below Ha1.out HS.out.below)) Ka1.out (by (with_reducible repeat (first | refine Kd.C_drew ?_ | refine Kd.C_drewN ?_ _ | refine Kd.C_alloc ?_ _)); exact (Kd.C_below Ha2.out HS.out.below)) Ka2.out hta.out).mono ?_; rintro e w28 ⟨x28, y28, rfl, hx28, hy28, hb28⟩; obtain ⟨Ax28, cx28, rfl⟩ := Kd.R_slice hx28; obtain ⟨Ay28, cy28, rfl⟩ := Kd.R_slice hy28; have nS := Aside0.mk (St.add (by repeat (first | (with_reducible exact HS.out) | (with_reducible apply St.drew) | (with_reducible apply St.drewN) | (with_reducible apply St.alloc) | decide)) hb28 (Nat.le_refl _) hx28 hy28); clear HS; have HS := nS; clear nS hb28 hx28 hy28) | (go_at_call_of 18 (Value.agg #[Value.bool b, Value.slice Ab1 lb1.length cb1, Value.slice Ab2 lb2.length cb2]); refine (laws_toArray.calls ktb b _ _ lb1 _ _ lb2 b lb1 lb2 _ (by (with_reducible repeat (first | refine Kd.C_drew ?_ | refine Kd.C_drewN ?_ _ | refine Kd.C_alloc ?_ _)); exact (Kd.C_below Hb1.out HS.out.below)) Kb1.out (by (with_reducible repeat (first | refine Kd.C_drew ?_ | refine Kd.C_drewN ?_ _ | refine Kd.C_alloc ?_ _)); exact (Kd.C_below Hb2.out HS.out.below)) Kb2.out htb.out).mono ?_; rintro e w29 ⟨x29, y29, rfl, hx29, hy29, hb29⟩; obtain ⟨Ax29, cx29, rfl⟩ := Kd.R_slice hx29; obtain ⟨Ay29, cy29, rfl⟩ := Kd.R_slice hy29; have nS := Aside0.mk (St.add (by repeat (first | (with_reducible exact HS.out) | (with_reducible apply St.drew) | (with_reducible apply St.drewN) | (with_reducible apply St.alloc) | decide)) hb29 (Nat.le_refl _) hx29 hy29); clear HS; have HS := nS; clear nS hb29 hx29 hy29) | (go_at_call 36; refine (impl_Rotate.calls a Ax28 cx28 la1 Ay28 cy28 la2 b Ax29 cx29 lb1 Ay29 cy29 lb2 c v1 v2 v3 v4 _ (by (with_reducible repeat (first | refine Kd.C_drew ?_ | refine Kd.C_drewN ?_ _ | refine Kd.C_alloc ?_ _)); exact (HS.out.nth 1 rfl).c1.2.1) (HS.out.nth 1 rfl).c1.2.2 (by (with_reducible repeat (first | refine Kd.C_drew ?_ | refine Kd.C_drewN ?_ _ | refine Kd.C_alloc ?_ _)); exact (HS.out.nth 1 rfl).c2.2.1) (HS.out.nth 1 rfl).c2.2.2 (by (with_reducible repeat (first | refine Kd.C_drew ?_ | refine Kd.C_drewN ?_ _ | refine Kd.C_alloc ?_ _)); exact (HS.out.nth 0 rfl).c1.2.1) (HS.out.nth 0 rfl).c1.2.2 (by (with_reducible repeat (first | refine Kd.C_drew ?_ | refine Kd.C_drewN ?_ _ | refine Kd.C_alloc ?_ _)); exact (HS.out.nth 0 rfl).c2.2.1) (HS.out.nth 0 rfl).c2.2.2 him.out).mono ?_; rintro e w30 ⟨x30, y30, rfl, hx30, hy30, hb30⟩; obtain ⟨Ax30, cx30, rfl⟩ := Kd.R_slice hx30; obtain ⟨Ay30, cy30, rfl⟩ := Kd.R_slice hy30; have nS := Aside0.mk (St.add (by repeat (first | (with_reducible exact HS.out) | (with_reducible apply St.drew) | (with_reducible apply St.drewN) | (with_reducible apply St.alloc) | decide)) hb30 (Nat.le_refl _) hx30 hy30); clear HS; have HS := nS; clear nS hb30 hx30 hy30; have hz_ := Aside0.mk (HS.out.idx 0 rfl); have hx0_ := (cells3 hz_.out).1; have hx1_ := (cells3 hz_.out).2.1; have hx2_ := (cells3 hz_.out).2.2; have hy0_ := blk_frozen hz_.out 0; have hy1_ := blk_frozen hz_.out 1; have hy2_ := blk_frozen hz_.out 2))
      all_goals
        go_wp2_with fail
        go_meet
        case rel =>
          (try (with_reducible refine Got.drew ?_))
          first | (with_reducible refine gotB HS.out ?_) | (with_reducible refine gotA HS.out ?_ (show 28 ≠ 3 by decide))
          repeat (first | (with_reducible exact List.Sublist.refl _) | (with_reducible exact List.nil_sublist _) | (with_reducible apply List.Sublist.cons_cons) | (with_reducible apply List.Sublist.cons))
    case rest =>
      obtain ⟨g31, Az31, cz31, Bz31, dz31, lo31, hi31, rfl, rfl, hs31⟩ := hcut; have HS := Aside0.mk hs31; clear hs31
      go_upto_region 34 with (first | ((with_reducible refine gate_dst (N := 107) rfl ?_); refine wpList_load_row rfl 28 (.tmp 17) rfl g31 rfl 28 #[.bool v1, .slice Az31 v2.length cz31, .slice Bz31 v3.length dz31] (0, 0) _ (HS.out.idx 0 rfl) Try.underlying28 rfl (by kernel_rfl) ?_) | ((with_reducible refine gate_dst (N := 108) rfl ?_); refine wpList_load_row rfl 28 (.tmp 8) rfl g8 rfl 28 #[.bool v1, .slice Az8 v2.length cz8, .slice Bz8 v3.length dz8] (0, 0) _ (HS.out.idx 4 rfl) Try.underlying28 rfl (by kernel_rfl) ?_) | (go_at_call 21; refine (laws_eqArray.calls kev v1 Az31 cz31 v2 Bz31 dz31 v3 v1 Az8 cz8 v2 Bz8 dz8 v3 true _ (by (with_reducible repeat (first | refine Kd.C_drew ?_ | refine Kd.C_drewN ?_ _ | refine Kd.C_alloc ?_ _)); exact (HS.out.nth 0 rfl).c1.2.1) (HS.out.nth 0 rfl).c1.2.2 (by (with_reducible repeat (first | refine Kd.C_drew ?_ | refine Kd.C_drewN ?_ _ | refine Kd.C_alloc ?_ _)); exact (HS.out.nth 0 rfl).c2.2.1) (HS.out.nth 0 rfl).c2.2.2 (by (with_reducible repeat (first | refine Kd.C_drew ?_ | refine Kd.C_drewN ?_ _ | refine Kd.C_alloc ?_ _)); exact (HS.out.nth 2 rfl).c1.2.1) (HS.out.nth 2 rfl).c1.2.2 (by (with_reducible repeat (first | refine Kd.C_drew ?_ | refine Kd.C_drewN ?_ _ | refine Kd.C_alloc ?_ _)); exact (HS.out.nth 2 rfl).c2.2.1) (HS.out.nth 2 rfl).c2.2.2 hev.out).mono ?_; rintro e w32 ⟨rfl, hb32⟩; have nS := Aside0.mk (St.step (by repeat (first | (with_reducible exact HS.out) | (with_reducible apply St.drew) | (with_reducible apply St.drewN) | (with_reducible apply St.alloc) | decide)) hb32); clear HS; have HS := nS; clear nS hb32))
      go_upto_region 35 with (fail)
      go_upto_region 36 with (first | ((with_reducible refine gate_dst (N := 116) rfl ?_); refine wpList_load_row rfl 28 (.tmp 12) rfl g16 rfl 28 #[.bool v1, .slice Ax15 v2.length cx15, .slice Ay15 v3.length cy15] (0, 0) _ (HS.out.idx 1 rfl) Try.underlying28 rfl (by kernel_rfl) ?_) | (go_at_call 25; refine (held_n kh v1 Ax15 Ay15 _ _ cx15 cy15 m31 m32 1 k3 _ lm31.out lm32.out (by (with_reducible repeat (first | refine Kd.C_drew ?_ | refine Kd.C_drewN ?_ _ | refine Kd.C_alloc ?_ _)); exact (HS.out.nth 1 rfl).c1.2.1) (HS.out.nth 1 rfl).c1.2.2 (by (with_reducible repeat (first | refine Kd.C_drew ?_ | refine Kd.C_drewN ?_ _ | refine Kd.C_alloc ?_ _)); exact (HS.out.nth 1 rfl).c2.2.1) (HS.out.nth 1 rfl).c2.2.2 hhG.out).mono ?_; rintro e w33 ⟨rfl, hb33⟩; have nS := Aside0.mk (St.step (by repeat (first | (with_reducible exact HS.out) | (with_reducible apply St.drew) | (with_reducible apply St.drewN) | (with_reducible apply St.alloc) | decide)) hb33); clear HS; have HS := nS; clear nS hb33))
      go_upto_region 38 with (fail)
      go_upto_region 40 with (fail)
      go_wp2_with fail
      go_ret
      exact ⟨rfl, HS.out.below⟩
set_option maxHeartbeats 8000000 in
set_option maxRecDepth 100000 in
theorem lawRotate_n1 (a : Bool) (Aa1 : Option Addr) (ca1 : Nat) (la1 : List Int) (Aa2 : Option Addr) (ca2 : Nat) (la2 : List Int) (b : Bool) (Ab1 : Option Addr) (cb1 : Nat) (lb1 : List Int) (Ab2 : Option Addr) (cb2 : Nat) (lb2 : List Int) (c : Bool)  (w : World) (ha1 : Kd.C (Kd.int .i64) w Aa1 la1.length la1) (ka1 : la1.length ≤ ca1) (ha2 : Kd.C (Kd.int .i64) w Aa2 la2.length la2) (ka2 : la2.length ≤ ca2) (hb1 : Kd.C (Kd.int .i64) w Ab1 lb1.length lb1) (kb1 : lb1.length ≤ cb1) (hb2 : Kd.C (Kd.int .i64) w Ab2 lb2.length lb2) (kb2 : lb2.length ≤ cb2)
    (hz1 : laws_szArray.f a la1 la2 1048576 = some (-1)) :
    Calls Try.prog 7 #[.agg #[.bool a, .slice Aa1 la1.length ca1, .slice Aa2 la2.length ca2], .agg #[.bool b, .slice Ab1 lb1.length cb1, .slice Ab2 lb2.length cb2], .bool c] w fun e w' => e = .returned (.bool true) ∧ Below w.heap.size w w' := by
  have Ha1 := Aside0.mk ha1
  have Ka1 := Aside0.mk ka1
  have Ha2 := Aside0.mk ha2
  have Ka2 := Aside0.mk ka2
  have Hb1 := Aside0.mk hb1
  have Kb1 := Aside0.mk kb1
  have Hb2 := Aside0.mk hb2
  have Kb2 := Aside0.mk kb2
  replace hz1 := Aside0.mk hz1
  clear ha1 ka1 ha2 ka2 hb1 kb1 hb2 kb2
  have HS := Aside0.mk (St.start w)
  go_enter Try.func7, Try.ntmps7
  go_upto_region 1 with (first | ((with_reducible refine gate_dst (N := 3) rfl ?_); refine box_event ?hg (N := 3) ?hd (cs := #[.bool a, .slice Aa1 la1.length ca1, .slice Aa2 la2.length ca2]) (t := 24) ?hr ?_; (case hd => rfl); (case hg => rfl); (case hr => first | (go_simp; done) | (go_simp; rfl)); intro g1 hg1 w1 hx1 hb1; have nS := Aside0.mk (HS.out.box hg1 hx1 hb1 (by decide)); clear HS; have HS := nS; clear nS hg1 hx1 hb1) | ((with_reducible refine gate_dst (N := 4) rfl ?_); refine box_event ?hg (N := 4) ?hd (cs := #[.bool b, .slice Ab1 lb1.length cb1, .slice Ab2 lb2.length cb2]) (t := 24) ?hr ?_; (case hd => rfl); (case hg => rfl); (case hr => first | (go_simp; done) | (go_simp; rfl)); intro g2 hg2 w2 hx2 hb2; have nS := Aside0.mk (HS.out.box hg2 hx2 hb2 (by decide)); clear HS; have HS := nS; clear nS hg2 hx2 hb2))
  go_upto_region 2 with (fail)
  go_wp2_with (first | ((with_reducible refine gate_dst (N := 19) rfl ?_); refine wpList_load_row rfl 24 (.tmp 3) rfl g1 rfl 24 #[.bool a, .slice Aa1 la1.length ca1, .slice Aa2 la2.length ca2] (0, 0) _ (HS.out.idx 1 rfl) Try.underlying24 rfl (by kernel_rfl) ?_) | (go_at_call 15; refine (laws_szArray.calls a _ _ la1 _ _ la2 1048576 (-1) _ (by (with_reducible repeat (first | refine Kd.C_drew ?_ | refine Kd.C_drewN ?_ _ | refine Kd.C_alloc ?_ _)); exact (Kd.C_below Ha1.out HS.out.below)) Ka1.out (by (with_reducible repeat (first | refine Kd.C_drew ?_ | refine Kd.C_drewN ?_ _ | refine Kd.C_alloc ?_ _)); exact (Kd.C_below Ha2.out HS.out.below)) Ka2.out hz1.out).mono ?_; rintro e w3 ⟨rfl, hb3⟩; have nS := Aside0.mk (St.step (by repeat (first | (with_reducible exact HS.out) | (with_reducible apply St.drew) | (with_reducible apply St.drewN) | (with_reducible apply St.alloc) | decide)) hb3); clear HS; have HS := nS; clear nS hb3))
  go_ret
  exact ⟨rfl, HS.out.below⟩
set_option maxHeartbeats 8000000 in
set_option maxRecDepth 100000 in
theorem lawRotate_n2 (a : Bool) (Aa1 : Option Addr) (ca1 : Nat) (la1 : List Int) (Aa2 : Option Addr) (ca2 : Nat) (la2 : List Int) (b : Bool) (Ab1 : Option Addr) (cb1 : Nat) (lb1 : List Int) (Ab2 : Option Addr) (cb2 : Nat) (lb2 : List Int) (c : Bool) (s1 : Int) (w : World) (ha1 : Kd.C (Kd.int .i64) w Aa1 la1.length la1) (ka1 : la1.length ≤ ca1) (ha2 : Kd.C (Kd.int .i64) w Aa2 la2.length la2) (ka2 : la2.length ≤ ca2) (hb1 : Kd.C (Kd.int .i64) w Ab1 lb1.length lb1) (kb1 : lb1.length ≤ cb1) (hb2 : Kd.C (Kd.int .i64) w Ab2 lb2.length lb2) (kb2 : lb2.length ≤ cb2)
    (hz1 : laws_szArray.f a la1 la2 1048576 = some s1) (pz1 : 0 ≤ s1) (hz2 : laws_szArray.f b lb1 lb2 s1 = some (-1)) :
    Calls Try.prog 7 #[.agg #[.bool a, .slice Aa1 la1.length ca1, .slice Aa2 la2.length ca2], .agg #[.bool b, .slice Ab1 lb1.length cb1, .slice Ab2 lb2.length cb2], .bool c] w fun e w' => e = .returned (.bool true) ∧ Below w.heap.size w w' := by
  have Ha1 := Aside0.mk ha1
  have Ka1 := Aside0.mk ka1
  have Ha2 := Aside0.mk ha2
  have Ka2 := Aside0.mk ka2
  have Hb1 := Aside0.mk hb1
  have Kb1 := Aside0.mk kb1
  have Hb2 := Aside0.mk hb2
  have Kb2 := Aside0.mk kb2
  replace hz1 := Aside0.mk hz1
  replace hz2 := Aside0.mk hz2
  clear ha1 ka1 ha2 ka2 hb1 kb1 hb2 kb2
  have qpz1 : decide (s1 < 0) = false := decide_eq_false (by omega)
  have HS := Aside0.mk (St.start w)
  go_enter Try.func7, Try.ntmps7
  go_upto_region 1 with (first | ((with_reducible refine gate_dst (N := 3) rfl ?_); refine box_event ?hg (N := 3) ?hd (cs := #[.bool a, .slice Aa1 la1.length ca1, .slice Aa2 la2.length ca2]) (t := 24) ?hr ?_; (case hd => rfl); (case hg => rfl); (case hr => first | (go_simp; done) | (go_simp; rfl)); intro g1 hg1 w1 hx1 hb1; have nS := Aside0.mk (HS.out.box hg1 hx1 hb1 (by decide)); clear HS; have HS := nS; clear nS hg1 hx1 hb1) | ((with_reducible refine gate_dst (N := 4) rfl ?_); refine box_event ?hg (N := 4) ?hd (cs := #[.bool b, .slice Ab1 lb1.length cb1, .slice Ab2 lb2.length cb2]) (t := 24) ?hr ?_; (case hd => rfl); (case hg => rfl); (case hr => first | (go_simp; done) | (go_simp; rfl)); intro g2 hg2 w2 hx2 hb2; have nS := Aside0.mk (HS.out.box hg2 hx2 hb2 (by decide)); clear HS; have HS := nS; clear nS hg2 hx2 hb2))
  go_upto_region 2 with (fail)
  go_upto_region 3 with (first | ((with_reducible refine gate_dst (N := 19) rfl ?_); refine wpList_load_row rfl 24 (.tmp 3) rfl g1 rfl 24 #[.bool a, .slice Aa1 la1.length ca1, .slice Aa2 la2.length ca2] (0, 0) _ (HS.out.idx 1 rfl) Try.underlying24 rfl (by kernel_rfl) ?_) | (go_at_call 15; refine (laws_szArray.calls a _ _ la1 _ _ la2 1048576 s1 _ (by (with_reducible repeat (first | refine Kd.C_drew ?_ | refine Kd.C_drewN ?_ _ | refine Kd.C_alloc ?_ _)); exact (Kd.C_below Ha1.out HS.out.below)) Ka1.out (by (with_reducible repeat (first | refine Kd.C_drew ?_ | refine Kd.C_drewN ?_ _ | refine Kd.C_alloc ?_ _)); exact (Kd.C_below Ha2.out HS.out.below)) Ka2.out hz1.out).mono ?_; rintro e w3 ⟨rfl, hb3⟩; have nS := Aside0.mk (St.step (by repeat (first | (with_reducible exact HS.out) | (with_reducible apply St.drew) | (with_reducible apply St.drewN) | (with_reducible apply St.alloc) | decide)) hb3); clear HS; have HS := nS; clear nS hb3))
  go_upto_region 5 with (fail)
  go_wp2_with (first | ((with_reducible refine gate_dst (N := 24) rfl ?_); refine wpList_load_row rfl 24 (.tmp 4) rfl g2 rfl 24 #[.bool b, .slice Ab1 lb1.length cb1, .slice Ab2 lb2.length cb2] (0, 0) _ (HS.out.idx 0 rfl) Try.underlying24 rfl (by kernel_rfl) ?_) | (go_at_call 15; refine (laws_szArray.calls b _ _ lb1 _ _ lb2 s1 (-1) _ (by (with_reducible repeat (first | refine Kd.C_drew ?_ | refine Kd.C_drewN ?_ _ | refine Kd.C_alloc ?_ _)); exact (Kd.C_below Hb1.out HS.out.below)) Kb1.out (by (with_reducible repeat (first | refine Kd.C_drew ?_ | refine Kd.C_drewN ?_ _ | refine Kd.C_alloc ?_ _)); exact (Kd.C_below Hb2.out HS.out.below)) Kb2.out hz2.out).mono ?_; rintro e w4 ⟨rfl, hb4⟩; have nS := Aside0.mk (St.step (by repeat (first | (with_reducible exact HS.out) | (with_reducible apply St.drew) | (with_reducible apply St.drewN) | (with_reducible apply St.alloc) | decide)) hb4); clear HS; have HS := nS; clear nS hb4))
  go_ret
  exact ⟨rfl, HS.out.below⟩
theorem lawRotate (a : Bool) (Aa1 : Option Addr) (ca1 : Nat) (la1 : List Int) (Aa2 : Option Addr) (ca2 : Nat) (la2 : List Int) (b : Bool) (Ab1 : Option Addr) (cb1 : Nat) (lb1 : List Int) (Ab2 : Option Addr) (cb2 : Nat) (lb2 : List Int) (c : Bool) (w : World) (ha1 : Kd.C (Kd.int .i64) w Aa1 la1.length la1) (ka1 : la1.length ≤ ca1) (ha2 : Kd.C (Kd.int .i64) w Aa2 la2.length la2) (ka2 : la2.length ≤ ca2) (hb1 : Kd.C (Kd.int .i64) w Ab1 lb1.length lb1) (kb1 : lb1.length ≤ cb1) (hb2 : Kd.C (Kd.int .i64) w Ab2 lb2.length lb2) (kb2 : lb2.length ≤ cb2) (na1 : la1.length ≤ maxLen) (na2 : la2.length ≤ maxLen) (nb1 : lb1.length ≤ maxLen) (nb2 : lb2.length ≤ maxLen) :
    Calls Try.prog 7 #[.agg #[.bool a, .slice Aa1 la1.length ca1, .slice Aa2 la2.length ca2], .agg #[.bool b, .slice Ab1 lb1.length cb1, .slice Ab2 lb2.length cb2], .bool c] w fun e w' => e = .returned (.bool true) ∧ Below w.heap.size w w' := by
  by_cases z1 : (la1.length : Int) + la2.length ≤ (1048576 : Int)
  · have f1 : laws_szArray.f a la1 la2 ((1048576 : Int)) = some ((1048576 : Int) - la1.length - la2.length) := (szArray_eq a la1 la2 _ (by omega) (by omega) na1 na2).trans (by rw [if_pos z1])
    by_cases z2 : (lb1.length : Int) + lb2.length ≤ (1048576 : Int) - la1.length - la2.length
    · have f2 : laws_szArray.f b lb1 lb2 ((1048576 : Int) - la1.length - la2.length) = some ((1048576 : Int) - la1.length - la2.length - lb1.length - lb2.length) := (szArray_eq b lb1 lb2 _ (by omega) (by omega) nb1 nb2).trans (by rw [if_pos z2])
      obtain ⟨v1, v2, v3, v4, hv⟩ : ∃ v1 v2 v3 v4, rotateV a la1 la2 b lb1 lb2 c = (v1, v2, v3, v4) := ⟨_, _, _, _, rfl⟩
      have hs := specRotate_ev a la1 la2 b lb1 lb2 c (by omega) (by omega) (by omega) (by omega)
      have him : impl_Rotate.f a la1 la2 b lb1 lb2 c = some (rotateV a la1 la2 b lb1 lb2 c) := by unfold impl_Rotate.f; rw [if_pos (okLens_of (by omega) (by omega) (by omega) (by omega))]
      have hn := rotateV_len a la1 la2 b lb1 lb2 c
      rw [hv] at hs him hn
      simp only at hn
      obtain ⟨ks, hsp⟩ := hs.rounds
      obtain ⟨kta, hta⟩ := (toArray_ev a la1 la2 (by omega) (by omega)).rounds
      obtain ⟨kea, hea⟩ := (eqArray_self a la1 la2 (by omega) (by omega)).rounds
      obtain ⟨ktb, htb⟩ := (toArray_ev b lb1 lb2 (by omega) (by omega)).rounds
      obtain ⟨keb, heb⟩ := (eqArray_self b lb1 lb2 (by omega) (by omega)).rounds
      obtain ⟨kev, hev⟩ := (eqArray_self v1 v2 v3 (by omega) (by omega)).rounds
      obtain ⟨kk1, hm1⟩ := (markArray_ev a la1 la2 (1) (by omega) (by omega) (by omega) (by omega)).rounds
      obtain ⟨kk2, hm2⟩ := (markArray_ev b lb1 lb2 ((1 : Int) + la1.length + la2.length) (by omega) (by omega) (by omega) (by omega)).rounds
      obtain ⟨kk3, hm3⟩ := (markArray_ev v1 v2 v3 1 (by omega) (by omega) (by omega) (by omega)).rounds
      obtain ⟨kh, hh⟩ := (heldArray_ev v1 v2.length v3.length 1 (by omega) (by omega) (by omega) (by omega)).rounds
      exact lawRotate_y kta ktb kea keb ks kev kh kk1 kk2 kk3 a Aa1 ca1 la1 Aa2 ca2 la2 b Ab1 cb1 lb1 Ab2 cb2 lb2 c v1 v2 v3 v4 _ _ _ _ _ _ _ _ _ _ _ w ha1 ka1 ha2 ka2 hb1 kb1 hb2 kb2 hta hea htb heb hsp him hev f1 (by omega) f2 (by omega) hm1 (by omega) (upFrom_len _ _).symm (upFrom_len _ _).symm hm2 (by omega) (upFrom_len _ _).symm (upFrom_len _ _).symm hm3 (by omega) (upFrom_len _ _).symm (upFrom_len _ _).symm hh
    · exact lawRotate_n2 a Aa1 ca1 la1 Aa2 ca2 la2 b Ab1 cb1 lb1 Ab2 cb2 lb2 c _ w ha1 ka1 ha2 ka2 hb1 kb1 hb2 kb2 f1 (by omega) ((szArray_eq b lb1 lb2 _ (by omega) (by omega) nb1 nb2).trans (by rw [if_neg z2]))
  · exact lawRotate_n1 a Aa1 ca1 la1 Aa2 ca2 la2 b Ab1 cb1 lb1 Ab2 cb2 lb2 c  w ha1 ka1 ha2 ka2 hb1 kb1 hb2 kb2 ((szArray_eq a la1 la2 _ (by omega) (by omega) na1 na2).trans (by rw [if_neg z1]))
end Go.Proofs.Ytehfcnndjhjkoaa.PA

namespace Go.Proofs.Ytehfcnndjhjkoaa.PA
open Go.ChangeShapes Go.WideShapes Go.ChangeAt Go.RowKit Go.Deep Go.Proofs.YtehfcnndjhjkoaaW.PrintWords Go.Proofs.YtehfcnndjhjkoaaW.PrintLast Go.Proofs.YtehfcnndjhjkoaaW.PrintMore

/-- A slice of whole numbers that came in: what it reads as. -/
structure Sl (W : World) (A : Option Addr) (l : List Int) (c : Nat) : Prop where
  reads : ReadsInt W .i64 A l.length l
  max : l.length ≤ maxLen
  wf : ∀ x ∈ l, (Lit.int .i64 x).wf = true
  cap : l.length ≤ c

theorem slice_cell {H : Type} {enc : TypeId × Value → H} {P : Program} {W : World} {fuel : Nat} {t e : TypeId} {cs : List Value} {x : DataW H × List MemPlace}
    (ht : P.underlying t = some (.slice e)) (he : P.underlying e = some (.int .i64)) (hc : P.cellsOf e = 1)
    (hf : DataW.trod enc P W 0 (fun _ => true) true fuel t cs = some x) : ∃ A l c, cs = [.slice A l.length c] ∧ Sl W A l c := by
  rcases open_ints ht he hc hf with ⟨hcs, _⟩ | ⟨a, n, c, zs, hcs, _, hl, hm, hz, _, hcell, hwz⟩
  · obtain ⟨l, e1, h1, h2, h3, h4⟩ := ReadsInt.ofRowC (k := .i64) (w := W) (a := none) (len := 0) (cap := 0) (zs := []) (.inl ⟨rfl, rfl, rfl, rfl⟩)
    refine ⟨none, l, 0, ?_, h1, h2, h3, h4⟩
    rw [← e1]; exact hcs
  · obtain ⟨l, e1, h1, h2, h3, h4⟩ := ReadsInt.ofRowC (k := .i64) (w := W) (a := some a) (len := n) (cap := c) (zs := zs) (.inr ⟨a, rfl, hl, hm, by simpa using hz, hcell, hwz⟩)
    refine ⟨some a, l, c, ?_, h1, h2, h3, h4⟩
    rw [← e1]; exact hcs


theorem open_bss {H : Type} {enc : TypeId × Value → H} {P : Program} {W : World} {t e : TypeId} {f0 f1 f2 : Field} {v : Value} {d : DataW H} {p : List MemPlace} {r : Reach} {b0 : Nat}
    (hs : P.underlying t = some (.struct #[f0, f1, f2])) (hone : oneCellFields P #[f0, f1, f2] = true) (hC : P.cellsOf t = 3)
    (h0 : P.underlying f0.type = some .bool) (h1 : P.underlying f1.type = some (.slice e)) (h2 : P.underlying f2.type = some (.slice e)) (he : P.underlying e = some (.int .i64)) (hc : P.cellsOf e = 1)
    (hv : Value.okWide P W r b0 t v) (h : DataW.Trod enc P W 0 (fun _ => true) true t v d p) :
    ∃ (a : Bool) (A1 : Option Addr) (l1 : List Int) (c1 : Nat) (A2 : Option Addr) (l2 : List Int) (c2 : Nat), v = .agg #[.bool a, .slice A1 l1.length c1, .slice A2 l2.length c2] ∧ Sl W A1 l1 c1 ∧ Sl W A2 l2 c2 := by
  obtain ⟨v0, v1, v2, y0, y1, y2, n, rfl, _, _, k0, k1, k2⟩ := Go.Joins.open_agg3 hs hone hC hv h
  obtain ⟨A1, l1, c1, e1, s1⟩ := slice_cell h1 he hc k1
  obtain ⟨A2, l2, c2, e2, s2⟩ := slice_cell h2 he hc k2
  obtain ⟨a, e0, _⟩ := DataW.trod_bool h0 k0
  simp only [List.cons.injEq, and_true] at e0 e1 e2
  subst e0 e1 e2
  exact ⟨a, A1, l1, c1, A2, l2, c2, rfl, s1, s2⟩

end Go.Proofs.Ytehfcnndjhjkoaa.PA
