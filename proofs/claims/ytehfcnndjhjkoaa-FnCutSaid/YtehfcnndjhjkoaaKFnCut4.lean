import Derived.Test.YtehfcnndjhjkoaaKFnCut3
import Derived.StillTailTactics
import Derived.IntWalk
import Derived.Deep.RegionHeld3

-- By a program (prt.py, over the print of the kit), for this claim. Not trusted: Lean checks it.
namespace Go.Proofs.Ytehfcnndjhjkoaa.PA
open Go.RowKit Go.Proofs.YtehfcnndjhjkoaaW.PrintWords Go.Proofs.YtehfcnndjhjkoaaW.PrintLast Go.Proofs.YtehfcnndjhjkoaaW.PrintMore
attribute [local go_sem] max2_int min2_int max_two min_two max_three min_three max_four min_four   -- for this text's walks alone
set_option linter.unusedVariables false
set_option linter.unusedSimpArgs false

/-! ### impl_permutation: function 124 -/
def impl_permutation.l0 : Nat → List Int → List Bool → List Int → Int → Int → Option (Bool)
  | 0, _, _, _, _, _ => none
  | k + 1, x0, x3, x9, x10, x11 => if x11 < x10 then (if 0 ≤ x11 then (if x11 < (x9.length : Int) then ((impl_within.f (rd x9 x11) 1 (x0.length : Int)).bind fun t105 => (if t105 = true then (if 0 ≤ (wrap64 ((rd x9 x11) - 1)) then (if (wrap64 ((rd x9 x11) - 1)) < (x3.length : Int) then (if rdOf false x3 (wrap64 ((rd x9 x11) - 1)) = true then (some false) else (impl_permutation.l0 k x0 (x3.set ((wrap64 ((rd x9 x11) - 1)) : Int).toNat true) x9 x10 (wrap64 (x11 + 1)))) else (none)) else (none)) else (some false))) else (none)) else (none)) else (some true)
def impl_permutation.f (k : Nat) (l0 : List Int) : Option (Bool) := if 0 ≤ (l0.length : Int) then (if ((l0.length : Int) : Int).toNat ≤ 281474976710656 then (impl_permutation.l0 k l0 (List.replicate ((l0.length : Int) : Int).toNat false) l0 (l0.length : Int) 0) else (none)) else (none)
theorem impl_permutation.mono_l : ∀ k, (∀ y0 y1 y2 y3 y4, LeO (impl_permutation.l0 k y0 y1 y2 y3 y4) (impl_permutation.l0 (k + 1) y0 y1 y2 y3 y4))
  | 0 => fun _ _ _ _ _ r h => by simp [impl_permutation.l0] at h
  | k + 1 => by
    have ih0 := impl_permutation.mono_l k
    · intro y0 y1 y2 y3 y4
      unfold impl_permutation.l0
      repeat' first
      | (with_reducible exact ih0 _ _ _ _ _)
      | (with_reducible exact LeO.refl _)
      | (with_reducible exact LeO.none _)
      | (with_reducible refine LeO.ite ?_ ?_)
      | (with_reducible refine LeO.bind ?_ (fun _ => ?_))
      | exact ih0 _ _ _ _ _
      | exact LeO.none _
      | refine LeO.ite ?_ ?_
      | refine LeO.bind ?_ (fun _ => ?_)
theorem impl_permutation.mono : ∀ a0 k, LeO (impl_permutation.f k a0) (impl_permutation.f (k + 1) a0) := by
  intro a0 k
  have ih0 := impl_permutation.mono_l k
  unfold impl_permutation.f
  repeat' first
      | (with_reducible exact ih0 _ _ _ _ _)
      | (with_reducible exact LeO.refl _)
      | (with_reducible exact LeO.none _)
      | (with_reducible refine LeO.ite ?_ ?_)
      | (with_reducible refine LeO.bind ?_ (fun _ => ?_))
      | exact ih0 _ _ _ _ _
      | exact LeO.none _
      | refine LeO.ite ?_ ?_
      | refine LeO.bind ?_ (fun _ => ?_)

end Go.Proofs.Ytehfcnndjhjkoaa.PA

namespace Go.Proofs.Ytehfcnndjhjkoaa.PA
open Go.RowKit Go.Proofs.YtehfcnndjhjkoaaW.PrintWords Go.Proofs.YtehfcnndjhjkoaaW.PrintLast Go.Proofs.YtehfcnndjhjkoaaW.PrintMore
set_option linter.unusedVariables false
set_option linter.unusedSimpArgs false
def permGo (n : Nat) : List Bool → List Int → Bool
  | _, [] => true
  | seen, a :: t => if 1 ≤ a ∧ a ≤ (n : Int) then (if rdOf false seen (a - 1) = true then false else permGo n (seen.set (a - 1).toNat true) t) else false
def permB (p : List Int) : Bool := permGo p.length (List.replicate p.length false) p
/-- The list l put at the places that p names. -/
def turnS (l : List Int) : List Int → Nat → List Int → List Int
  | S, _, [] => S
  | S, i, n :: t => turnS l (S.set (n - 1).toNat (rd l (i : Int))) (i + 1) t
/-- The product of the numbers that are not 0. -/
def nz : List Int → Int
  | [] => 1
  | a :: t => (if a = 0 then 1 else a) * nz t
end Go.Proofs.Ytehfcnndjhjkoaa.PA

-- By a program (prt.py, over the print of the kit), for this claim. Not trusted: Lean checks it.
namespace Go.Proofs.Ytehfcnndjhjkoaa.PA
open Go.RowKit Go.Proofs.YtehfcnndjhjkoaaW.PrintWords Go.Proofs.YtehfcnndjhjkoaaW.PrintLast Go.Proofs.YtehfcnndjhjkoaaW.PrintMore
attribute [local go_sem] max2_int min2_int max_two min_two max_three min_three max_four min_four   -- for this text's walks alone
set_option linter.unusedVariables false
set_option linter.unusedSimpArgs false

/-! ### impl_firstAxis: function 102 -/
def impl_firstAxis.f (a0_0 : Bool) (l0_1 : List Int) (l0_2 : List Int) (a1 : Bool) : Option (Int) := if a1 = true then (some 0) else ((impl_Array_rank.f a0_0 l0_1 l0_2).bind fun t102 => (some (wrap64 (t102 - 1))))

end Go.Proofs.Ytehfcnndjhjkoaa.PA

namespace Go.Proofs.Ytehfcnndjhjkoaa.PA
open Go.RowKit Go.Proofs.YtehfcnndjhjkoaaW.PrintWords Go.Proofs.YtehfcnndjhjkoaaW.PrintLast Go.Proofs.YtehfcnndjhjkoaaW.PrintMore
set_option linter.unusedVariables false
set_option linter.unusedSimpArgs false
attribute [local go_sem] Oper.semAt_some
open Go.Shelf
def trSh (p s : List Int) : List Int := turnS s (List.replicate p.length 0) 0 p
def trOne (p s cur : List Int) : Int := numGo s 0 0 (p.map fun n => rd cur (n - 1))
def trL (p s : List Int) (N : Nat) : List Int := (List.range N).map fun t => trOne p s (idxL (trSh p s) t)
end Go.Proofs.Ytehfcnndjhjkoaa.PA

-- By a program (prt.py, over the print of the kit), for this claim. Not trusted: Lean checks it.
namespace Go.Proofs.Ytehfcnndjhjkoaa.PA
open Go.RowKit Go.Proofs.YtehfcnndjhjkoaaW.PrintWords Go.Proofs.YtehfcnndjhjkoaaW.PrintLast Go.Proofs.YtehfcnndjhjkoaaW.PrintMore
attribute [local go_sem] max2_int min2_int max_two min_two max_three min_three max_four min_four   -- for this text's walks alone
set_option linter.unusedVariables false
set_option linter.unusedSimpArgs false

/-! ### spec_Transpose: function 33 -/
mutual
def spec_Transpose.j0 : Nat → Bool → Bool → List Int → List Int → Bool → List Int → List Int → Option (Bool × List Int × List Int × Int)
  | 0, _, _, _, _, _, _, _ => none
  | k + 1, x23, x102000, x102001, x102002, x103000, x103001, x103002 => if x23 = true then ((spec_l4None.f).bind fun bt106 => (some (bt106.1, bt106.2.1, bt106.2.2, 3))) else ((spec_l5List.f x102000 x102001 x102002).bind fun t113 => (if t113 = 0 then (if (x102002.length : Int) = (x103001.length : Int) then (if 0 ≤ (x103001.length : Int) then (if ((x103001.length : Int) : Int).toNat ≤ 35184372088832 then (if ((x103001.length : Int) : Int).toNat ≤ 281474976710656 then (spec_Transpose.l0 k (x103001.length : Int) (List.replicate ((x103001.length : Int) : Int).toNat false) 0 x102000 x102001 x102002 x103000 x103001 x103002 x103000 (List.replicate ((x103001.length : Int) : Int).toNat 0) (([] : List Int))) else (none)) else (none)) else (none)) else ((spec_l4None.f).bind fun bt121 => (some (bt121.1, bt121.2.1, bt121.2.2, 5)))) else ((spec_l4None.f).bind fun bt114 => (some (bt114.1, bt114.2.1, bt114.2.2, t113)))))
def spec_Transpose.l0 : Nat → Int → List Bool → Int → Bool → List Int → List Int → Bool → List Int → List Int → Bool → List Int → List Int → Option (Bool × List Int × List Int × Int)
  | 0, _, _, _, _, _, _, _, _, _, _, _, _ => none
  | k + 1, x7, x9, x10, x102000, x102001, x102002, x103000, x103001, x103002, x135000, x135001, x135002 => if x10 < x7 then (if 0 ≤ x10 then (if x10 < (x102002.length : Int) then (if (wrap64 ((rd x102002 x10) - 1)) < 0 then ((spec_l4None.f).bind fun bt139 => (some (bt139.1, bt139.2.1, bt139.2.2, 3))) else (if (wrap64 ((rd x102002 x10) - 1)) ≥ x7 then ((spec_l4None.f).bind fun bt146 => (some (bt146.1, bt146.2.1, bt146.2.2, 3))) else (if 0 ≤ (wrap64 ((rd x102002 x10) - 1)) then (if (wrap64 ((rd x102002 x10) - 1)) < (x9.length : Int) then (if rdOf false x9 (wrap64 ((rd x102002 x10) - 1)) = true then ((spec_l4None.f).bind fun bt154 => (some (bt154.1, bt154.2.1, bt154.2.2, 3))) else (if x10 < (x103001.length : Int) then (if (wrap64 ((rd x102002 x10) - 1)) < (x135001.length : Int) then (spec_Transpose.l0 k x7 (x9.set ((wrap64 ((rd x102002 x10) - 1)) : Int).toNat true) (wrap64 (x10 + 1)) x102000 x102001 x102002 x103000 x103001 x103002 x135000 (x135001.set ((wrap64 ((rd x102002 x10) - 1)) : Int).toNat (rd x103001 x10)) x135002) else (none)) else (none))) else (none)) else (none)))) else (none)) else (none)) else (spec_Transpose.l1 k x7 0 x102000 x102001 x102002 x103000 x103001 x103002 x135000 x135001 x135002)
def spec_Transpose.l1 : Nat → Int → Int → Bool → List Int → List Int → Bool → List Int → List Int → Bool → List Int → List Int → Option (Bool × List Int × List Int × Int)
  | 0, _, _, _, _, _, _, _, _, _, _, _ => none
  | k + 1, x7, x12, x102000, x102001, x102002, x103000, x103001, x103002, x135000, x135001, x135002 => if x12 < (x103002.length : Int) then ((spec_l5Index.f k x135001 x12).bind fun t164 => (if 0 ≤ x7 then (if (x7 : Int).toNat ≤ 35184372088832 then (spec_Transpose.l2 k x7 x12 t164 (List.replicate (x7 : Int).toNat 0) 0 x102000 x102001 x102002 x103000 x103001 x103002 x135000 x135001 x135002) else (none)) else (none))) else (some (x135000, x135001, x135002, 0))
def spec_Transpose.l2 : Nat → Int → Int → List Int → List Int → Int → Bool → List Int → List Int → Bool → List Int → List Int → Bool → List Int → List Int → Option (Bool × List Int × List Int × Int)
  | 0, _, _, _, _, _, _, _, _, _, _, _, _, _, _ => none
  | k + 1, x7, x12, x13, x14, x15, x102000, x102001, x102002, x103000, x103001, x103002, x135000, x135001, x135002 => if x15 < x7 then (if 0 ≤ x15 then (if x15 < (x102002.length : Int) then (if 0 ≤ (wrap64 ((rd x102002 x15) - 1)) then (if (wrap64 ((rd x102002 x15) - 1)) < (x13.length : Int) then (if x15 < (x14.length : Int) then (spec_Transpose.l2 k x7 x12 x13 (x14.set (x15 : Int).toNat (rd x13 (wrap64 ((rd x102002 x15) - 1)))) (wrap64 (x15 + 1)) x102000 x102001 x102002 x103000 x103001 x103002 x135000 x135001 x135002) else (none)) else (none)) else (none)) else (none)) else (none)) else ((spec_l5At.f k x103001 x14).bind fun t173 => (if 0 ≤ t173 then (if t173 < (x103002.length : Int) then (if x135002.length < 17592186044416 then (spec_Transpose.l1 k x7 (wrap64 (x12 + 1)) x102000 x102001 x102002 x103000 x103001 x103002 x135000 x135001 (x135002 ++ [rd x103002 t173])) else (none)) else (none)) else (none)))
end
def spec_Transpose.f (k : Nat) (a0_0 : Bool) (l0_1 : List Int) (l0_2 : List Int) (a1_0 : Bool) (l1_1 : List Int) (l1_2 : List Int) : Option (Bool × List Int × List Int × Int) := (spec_ArrayOk.f k a0_0 l0_1 l0_2).bind fun t104 => (if t104 = true then ((spec_ArrayOk.f k a1_0 l1_1 l1_2).bind fun t105 => (spec_Transpose.j0 k (!t105) a0_0 l0_1 l0_2 a1_0 l1_1 l1_2)) else (spec_Transpose.j0 k true a0_0 l0_1 l0_2 a1_0 l1_1 l1_2))
theorem spec_Transpose.mono_l : ∀ k, (∀ y0 y1 y2 y3 y4 y5 y6, LeO (spec_Transpose.j0 k y0 y1 y2 y3 y4 y5 y6) (spec_Transpose.j0 (k + 1) y0 y1 y2 y3 y4 y5 y6)) ∧ (∀ y0 y1 y2 y3 y4 y5 y6 y7 y8 y9 y10 y11, LeO (spec_Transpose.l0 k y0 y1 y2 y3 y4 y5 y6 y7 y8 y9 y10 y11) (spec_Transpose.l0 (k + 1) y0 y1 y2 y3 y4 y5 y6 y7 y8 y9 y10 y11)) ∧ (∀ y0 y1 y2 y3 y4 y5 y6 y7 y8 y9 y10, LeO (spec_Transpose.l1 k y0 y1 y2 y3 y4 y5 y6 y7 y8 y9 y10) (spec_Transpose.l1 (k + 1) y0 y1 y2 y3 y4 y5 y6 y7 y8 y9 y10)) ∧ (∀ y0 y1 y2 y3 y4 y5 y6 y7 y8 y9 y10 y11 y12 y13, LeO (spec_Transpose.l2 k y0 y1 y2 y3 y4 y5 y6 y7 y8 y9 y10 y11 y12 y13) (spec_Transpose.l2 (k + 1) y0 y1 y2 y3 y4 y5 y6 y7 y8 y9 y10 y11 y12 y13))
  | 0 => ⟨fun _ _ _ _ _ _ _ r h => by simp [spec_Transpose.j0] at h, fun _ _ _ _ _ _ _ _ _ _ _ _ r h => by simp [spec_Transpose.l0] at h, fun _ _ _ _ _ _ _ _ _ _ _ r h => by simp [spec_Transpose.l1] at h, fun _ _ _ _ _ _ _ _ _ _ _ _ _ _ r h => by simp [spec_Transpose.l2] at h⟩
  | k + 1 => by
    obtain ⟨ih0, ih1, ih2, ih3⟩ := spec_Transpose.mono_l k
    refine ⟨?_, ?_, ?_, ?_⟩
    · intro y0 y1 y2 y3 y4 y5 y6
      unfold spec_Transpose.j0
      repeat' first
      | (with_reducible exact ih0 _ _ _ _ _ _ _)
      | (with_reducible exact ih1 _ _ _ _ _ _ _ _ _ _ _ _)
      | (with_reducible exact ih2 _ _ _ _ _ _ _ _ _ _ _)
      | (with_reducible exact ih3 _ _ _ _ _ _ _ _ _ _ _ _ _ _)
      | (with_reducible exact spec_ArrayOk.mono _ _ _ _)
      | (with_reducible exact spec_l5At.mono _ _ _)
      | (with_reducible exact spec_l5Index.mono _ _ _)
      | (with_reducible exact LeO.refl _)
      | (with_reducible exact LeO.none _)
      | (with_reducible refine LeO.ite ?_ ?_)
      | (with_reducible refine LeO.bind ?_ (fun _ => ?_))
      | exact ih0 _ _ _ _ _ _ _
      | exact ih1 _ _ _ _ _ _ _ _ _ _ _ _
      | exact ih2 _ _ _ _ _ _ _ _ _ _ _
      | exact ih3 _ _ _ _ _ _ _ _ _ _ _ _ _ _
      | exact spec_ArrayOk.mono _ _ _ _
      | exact spec_l5At.mono _ _ _
      | exact spec_l5Index.mono _ _ _
      | exact LeO.none _
      | refine LeO.ite ?_ ?_
      | refine LeO.bind ?_ (fun _ => ?_)
    · intro y0 y1 y2 y3 y4 y5 y6 y7 y8 y9 y10 y11
      unfold spec_Transpose.l0
      repeat' first
      | (with_reducible exact ih0 _ _ _ _ _ _ _)
      | (with_reducible exact ih1 _ _ _ _ _ _ _ _ _ _ _ _)
      | (with_reducible exact ih2 _ _ _ _ _ _ _ _ _ _ _)
      | (with_reducible exact ih3 _ _ _ _ _ _ _ _ _ _ _ _ _ _)
      | (with_reducible exact spec_ArrayOk.mono _ _ _ _)
      | (with_reducible exact spec_l5At.mono _ _ _)
      | (with_reducible exact spec_l5Index.mono _ _ _)
      | (with_reducible exact LeO.refl _)
      | (with_reducible exact LeO.none _)
      | (with_reducible refine LeO.ite ?_ ?_)
      | (with_reducible refine LeO.bind ?_ (fun _ => ?_))
      | exact ih0 _ _ _ _ _ _ _
      | exact ih1 _ _ _ _ _ _ _ _ _ _ _ _
      | exact ih2 _ _ _ _ _ _ _ _ _ _ _
      | exact ih3 _ _ _ _ _ _ _ _ _ _ _ _ _ _
      | exact spec_ArrayOk.mono _ _ _ _
      | exact spec_l5At.mono _ _ _
      | exact spec_l5Index.mono _ _ _
      | exact LeO.none _
      | refine LeO.ite ?_ ?_
      | refine LeO.bind ?_ (fun _ => ?_)
    · intro y0 y1 y2 y3 y4 y5 y6 y7 y8 y9 y10
      unfold spec_Transpose.l1
      repeat' first
      | (with_reducible exact ih0 _ _ _ _ _ _ _)
      | (with_reducible exact ih1 _ _ _ _ _ _ _ _ _ _ _ _)
      | (with_reducible exact ih2 _ _ _ _ _ _ _ _ _ _ _)
      | (with_reducible exact ih3 _ _ _ _ _ _ _ _ _ _ _ _ _ _)
      | (with_reducible exact spec_ArrayOk.mono _ _ _ _)
      | (with_reducible exact spec_l5At.mono _ _ _)
      | (with_reducible exact spec_l5Index.mono _ _ _)
      | (with_reducible exact LeO.refl _)
      | (with_reducible exact LeO.none _)
      | (with_reducible refine LeO.ite ?_ ?_)
      | (with_reducible refine LeO.bind ?_ (fun _ => ?_))
      | exact ih0 _ _ _ _ _ _ _
      | exact ih1 _ _ _ _ _ _ _ _ _ _ _ _
      | exact ih2 _ _ _ _ _ _ _ _ _ _ _
      | exact ih3 _ _ _ _ _ _ _ _ _ _ _ _ _ _
      | exact spec_ArrayOk.mono _ _ _ _
      | exact spec_l5At.mono _ _ _
      | exact spec_l5Index.mono _ _ _
      | exact LeO.none _
      | refine LeO.ite ?_ ?_
      | refine LeO.bind ?_ (fun _ => ?_)
    · intro y0 y1 y2 y3 y4 y5 y6 y7 y8 y9 y10 y11 y12 y13
      unfold spec_Transpose.l2
      repeat' first
      | (with_reducible exact ih0 _ _ _ _ _ _ _)
      | (with_reducible exact ih1 _ _ _ _ _ _ _ _ _ _ _ _)
      | (with_reducible exact ih2 _ _ _ _ _ _ _ _ _ _ _)
      | (with_reducible exact ih3 _ _ _ _ _ _ _ _ _ _ _ _ _ _)
      | (with_reducible exact spec_ArrayOk.mono _ _ _ _)
      | (with_reducible exact spec_l5At.mono _ _ _)
      | (with_reducible exact spec_l5Index.mono _ _ _)
      | (with_reducible exact LeO.refl _)
      | (with_reducible exact LeO.none _)
      | (with_reducible refine LeO.ite ?_ ?_)
      | (with_reducible refine LeO.bind ?_ (fun _ => ?_))
      | exact ih0 _ _ _ _ _ _ _
      | exact ih1 _ _ _ _ _ _ _ _ _ _ _ _
      | exact ih2 _ _ _ _ _ _ _ _ _ _ _
      | exact ih3 _ _ _ _ _ _ _ _ _ _ _ _ _ _
      | exact spec_ArrayOk.mono _ _ _ _
      | exact spec_l5At.mono _ _ _
      | exact spec_l5Index.mono _ _ _
      | exact LeO.none _
      | refine LeO.ite ?_ ?_
      | refine LeO.bind ?_ (fun _ => ?_)
theorem spec_Transpose.mono : ∀ a0 a1 a2 a3 a4 a5 k, LeO (spec_Transpose.f k a0 a1 a2 a3 a4 a5) (spec_Transpose.f (k + 1) a0 a1 a2 a3 a4 a5) := by
  intro a0 a1 a2 a3 a4 a5 k
  obtain ⟨ih0, ih1, ih2, ih3⟩ := spec_Transpose.mono_l k
  unfold spec_Transpose.f
  repeat' first
      | (with_reducible exact ih0 _ _ _ _ _ _ _)
      | (with_reducible exact ih1 _ _ _ _ _ _ _ _ _ _ _ _)
      | (with_reducible exact ih2 _ _ _ _ _ _ _ _ _ _ _)
      | (with_reducible exact ih3 _ _ _ _ _ _ _ _ _ _ _ _ _ _)
      | (with_reducible exact spec_ArrayOk.mono _ _ _ _)
      | (with_reducible exact spec_l5At.mono _ _ _)
      | (with_reducible exact spec_l5Index.mono _ _ _)
      | (with_reducible exact LeO.refl _)
      | (with_reducible exact LeO.none _)
      | (with_reducible refine LeO.ite ?_ ?_)
      | (with_reducible refine LeO.bind ?_ (fun _ => ?_))
      | exact ih0 _ _ _ _ _ _ _
      | exact ih1 _ _ _ _ _ _ _ _ _ _ _ _
      | exact ih2 _ _ _ _ _ _ _ _ _ _ _
      | exact ih3 _ _ _ _ _ _ _ _ _ _ _ _ _ _
      | exact spec_ArrayOk.mono _ _ _ _
      | exact spec_l5At.mono _ _ _
      | exact spec_l5Index.mono _ _ _
      | exact LeO.none _
      | refine LeO.ite ?_ ?_
      | refine LeO.bind ?_ (fun _ => ?_)

end Go.Proofs.Ytehfcnndjhjkoaa.PA

namespace Go.Proofs.Ytehfcnndjhjkoaa.PA
open Go.RowKit Go.Proofs.YtehfcnndjhjkoaaW.PrintWords Go.Proofs.YtehfcnndjhjkoaaW.PrintLast Go.Proofs.YtehfcnndjhjkoaaW.PrintMore
set_option linter.unusedVariables false
set_option linter.unusedSimpArgs false
def transposeV (b : Bool) (l1 l2 : List Int) (c : Bool) (m1 m2 : List Int) : ArrAns :=
  if arrOk b l1 l2 && arrOk c m1 m2 then
    (if listC b l1 = 0 then (if l2.length = m1.length then (if permB l2 = true then (c, trSh l2 m1, ofL c m2 (trL l2 m1 (prod (trSh l2 m1)).toNat), 0) else noArr 3) else noArr 5) else noArr (listC b l1))
  else noArr 3
theorem hrg_tr {s : List Int} (hs : shOk s = true) : ∀ (t : Nat), t < (prod s).toNat → ∀ k : Nat, k < s.length → 0 ≤ rd (idxL s t) (k : Int) ∧ rd (idxL s t) (k : Int) < rd s (k : Int) := by
  intro t ht k hk
  have hr := shOk_range hs
  rw [idxL_of hr (by omega)]
  exact digs_range s.length s t rfl (pos_of_prod (fun x hx => (hr x hx).1) (by omega)) (by omega) k hk
section
variable (b : Bool) (l1 l2 : List Int) (c : Bool) (m1 m2 : List Int) (hl : l2.length = m1.length) (h5 : l2.length ≤ 5) (hce : ∀ x ∈ l2, -1000000000000000 ≤ x ∧ x ≤ 1000000000000000)
include hl h5 hce
end
section
variable (b : Bool) (l1 l2 : List Int) (c : Bool) (m1 m2 : List Int) (hl : l2.length = m1.length) (h5 : l2.length ≤ 5)
include hl h5
end
def impl_Transpose.f (b : Bool) (l1 l2 : List Int) (c : Bool) (m1 m2 : List Int) : Option ArrAns := if okLens l1 l2 m1 m2 then some (transposeV b l1 l2 c m1 m2) else none
end Go.Proofs.Ytehfcnndjhjkoaa.PA

namespace Go.Proofs.Ytehfcnndjhjkoaa.PA
open Go.RowKit Go.Proofs.YtehfcnndjhjkoaaW.PrintWords Go.Proofs.YtehfcnndjhjkoaaW.PrintLast Go.Proofs.YtehfcnndjhjkoaaW.PrintMore
set_option linter.unusedVariables false
set_option linter.unusedSimpArgs false
/-- The shape that the numbers are held against. -/
def sOf (l2 m1 : List Int) : List Int := if m1.length = 0 then List.replicate l2.length 1 else m1
/-- The code of the numbers. -/
def cntC (a : Bool) (l1 l2 m1 : List Int) : Int := if listC a l1 = 0 then (if m1.length = 0 then (if l2.length ≤ 5 then 0 else 7) else if l2.length = m1.length then 0 else 5) else listC a l1
def takeV (a : Bool) (l1 l2 : List Int) (b : Bool) (m1 m2 : List Int) : ArrAns :=
  if (arrOk a l1 l2 && arrOk b m1 m2) = true then (if cntC a l1 l2 m1 = 0 then (if shOk (absL l2) = true then (b, absL l2, winL b (sOf l2 m1) m2 (absL l2) (stTake (sOf l2 m1) l2) (prod (absL l2)).toNat, 0) else noArr 7) else noArr (cntC a l1 l2 m1)) else noArr 3
theorem sOf_len {a : Bool} {l1 l2 m1 : List Int} (h : cntC a l1 l2 m1 = 0) : (sOf l2 m1).length = l2.length := by
  unfold cntC at h; unfold sOf
  by_cases h0 : listC a l1 = 0
  · rw [if_pos h0] at h
    by_cases hz : m1.length = 0
    · rw [if_pos hz, List.length_replicate]
    · rw [if_neg hz] at h ⊢
      by_cases hn : l2.length = m1.length
      · omega
      · rw [if_neg hn] at h; exact absurd h (by decide)
  · rw [if_neg h0] at h; exact absurd h h0
theorem cnt_five {a : Bool} {l1 l2 m1 : List Int} (h : cntC a l1 l2 m1 = 0) (h5 : m1.length ≤ 5) : l2.length ≤ 5 := by
  unfold cntC at h
  by_cases h0 : listC a l1 = 0
  · rw [if_pos h0] at h
    by_cases hz : m1.length = 0
    · rw [if_pos hz] at h
      by_cases h6 : l2.length ≤ 5
      · exact h6
      · rw [if_neg h6] at h; exact absurd h (by decide)
    · rw [if_neg hz] at h
      by_cases hn : l2.length = m1.length
      · omega
      · rw [if_neg hn] at h; exact absurd h (by decide)
  · rw [if_neg h0] at h; exact absurd h h0
theorem sOf_range {l2 m1 : List Int} (h : ∀ x ∈ m1, 0 ≤ x ∧ x ≤ 10000) : ∀ x ∈ sOf l2 m1, 0 ≤ x ∧ x ≤ 10000 := by
  unfold sOf
  split
  · intro x hx; have := List.eq_of_mem_replicate hx; omega
  · exact h
theorem prod_ones (n : Nat) : prod (List.replicate n 1) = 1 := by
  induction n with
  | zero => rfl
  | succ n ih => rw [List.replicate_succ]; simp [prod, ih]
theorem sOf_prod {a : Bool} {l1 l2 m1 : List Int} {N : Int} (h : cntC a l1 l2 m1 = 0) (hp : prod m1 = N) : prod (sOf l2 m1) = N := by
  unfold sOf
  split
  · rename_i hz
    rw [prod_ones, ← hp, List.eq_nil_of_length_eq_zero hz]; rfl
  · exact hp
def spec_Take.f (k : Nat) (a : Bool) (l1 l2 : List Int) (b : Bool) (m1 m2 : List Int) : Option ArrAns := if okLens l1 l2 m1 m2 then some (takeV a l1 l2 b m1 m2) else none
theorem one_lt {m1 m2 ls lt : List Int} (hl : m1.length = ls.length) (hs : ∀ x ∈ m1, 0 ≤ x ∧ x ≤ 10000) (hp : prod m1 = m2.length) (hn : m2.length ≤ 10000) (N : Nat) : ∀ x ∈ fromL m1 ls (winF lt) N, x < m2.length := by
  induction N with
  | zero => intro x hx; simp [fromL] at hx
  | succ t ih =>
    intro x hx
    simp only [fromL, List.mem_append, List.mem_singleton] at hx
    rcases hx with hx | rfl
    · exact ih x hx
    · unfold fromOne
      split
      · rename_i h
        have := one_range m1 (idxL ls t) (winF lt) (by rw [idxL_len, hl]) hs (by omega) h
        omega
      · omega
theorem absL_range {l : List Int} (h : shOk (absL l) = true) : ∀ x ∈ absL l, 0 ≤ x ∧ x ≤ 10000 := shOk_range h
def impl_Take.f (a : Bool) (l1 l2 : List Int) (b : Bool) (m1 m2 : List Int) : Option ArrAns := if okLens l1 l2 m1 m2 then some (takeV a l1 l2 b m1 m2) else none
end Go.Proofs.Ytehfcnndjhjkoaa.PA

namespace Go.Proofs.Ytehfcnndjhjkoaa.PA
open Go.RowKit Go.Shelf Go.Proofs.YtehfcnndjhjkoaaW.PrintWords Go.Proofs.YtehfcnndjhjkoaaW.PrintLast Go.Proofs.YtehfcnndjhjkoaaW.PrintMore
attribute [local go_sem] Oper.semAt_some
set_option linter.unusedVariables false
set_option linter.unusedSimpArgs false
set_option maxRecDepth 100000 in
set_option maxHeartbeats 4000000 in
theorem axisP_in (b : Bool) (A1 : Option Addr) (c1 : Nat) (l1 : List Int) (A2 : Option Addr) (c2 : Nat) (l2 : List Int) (As : Option Addr) (cs : Nat) (s : List Int) (g : Nat) (lb : Array Value) (f : Nat → Int → Int) (eg : ∀ args w, (callFunc g args).run Try.prog w = .ok (.enter g args) w) (w : World)
    (h1 : Kd.C (Kd.int .i64) w A1 l1.length l1) (k1 : l1.length ≤ c1) (hs : Kd.C (Kd.int .i64) w As s.length s) (ks : s.length ≤ cs) (hl : l1.length = s.length) (h5 : s.length ≤ 5) (hp : 0 ≤ prod s ∧ prod s ≤ 10000) (k : Nat) (hk : impl_shapeOk.f k s = some (prod s, true)) (hf : Gives2 g lb f s w) (hrg : ∀ (t : Nat), t < (prod s).toNat → ∀ k : Nat, k < s.length → 0 ≤ rd (idxL s t) (k : Int) ∧ rd (idxL s t) (k : Int) < rd s (k : Int)) :
    CallsIn Fence.wide 9 Try.prog 130 #[.agg #[.bool b, .slice A1 l1.length c1, .slice A2 l2.length c2], .slice As s.length cs, .func (.func g) #[] lb] w fun e w' => ∃ v, e = .returned (.agg #[.slice As s.length cs, v]) ∧ Kd.R (Kd.int .i64) 3 w' w.heap.size (fun _ => True) v (fromL l1 s f (prod s).toNat) ∧ Below w.heap.size w w' := by
  have H1 := Aside0.mk h1
  have HS := Aside0.mk hs
  have HL := Aside0.mk hl
  have HF := Aside0.mk hf
  have HK := Aside0.mk hk
  have HRG := Aside0.mk hrg
  clear hrg
  clear h1 hs hl hf hk
  have hmk := make_row s.length (by omega)
  refine callsIn_of_wp_marks Try.func130 rfl trivial ?_ rfl
  simp only [Try.ntmps130, List.size_toArray, List.length_cons, List.length_nil, Nat.reduceAdd, Nat.reduceSub, Array.replicate_succ, Array.replicate_zero, List.push_toArray, List.append_toArray, List.nil_append, List.cons_append]
  gi_wp2_with (first | (refine ⟨trivial, ?_⟩; gi_at_call 119; refine (indexes_in _ _ _ _ _).mono ?_; rintro e w' ⟨rfl, rfl⟩))
  obtain ⟨W0, hW0⟩ : ∃ W0, ((((((w.alloc (.cells #[.bool b, .slice A1 l1.length c1, .slice A2 l2.length c2] 28)).alloc (.cells #[.func (.func g) #[] lb] 133)).alloc (.cells #[.slice none 0 0, .slice none 0 0] 70)).alloc (.cells #[.slice As s.length cs, .slice none 0 0] 70)).alloc (.cells (rowI (List.replicate s.length 0)) 3)).alloc (.cells #[.slice (some ⟨w.heap.size + 1 + 1 + 1 + 1, 0, none⟩) s.length s.length] 22)).alloc (.cells #[.slice As s.length cs] 22) = W0 := ⟨_, rfl⟩
  obtain ⟨FA, FP, FR, FM, FS, FB, FX, hsz, hB0⟩ : (_ ∧ _ ∧ _ ∧ _ ∧ _ ∧ _ ∧ _ ∧ _ ∧ Below w.heap.size w W0) := hW0 ▸ alloc7 w _ _ _ _ _ _ _
  rw [hW0]
  have HSZ := Aside0.mk hsz
  clear hW0 hsz
  obtain ⟨gX, hgX⟩ : ∃ gX, gX = w.heap.size + 1 + 1 + 1 + 1 + 1 + 1 := ⟨_, rfl⟩
  rw [← hgX] at FX ⊢
  obtain ⟨gB, hgB⟩ : ∃ gB, gB = w.heap.size + 1 + 1 + 1 + 1 + 1 := ⟨_, rfl⟩
  rw [← hgB] at FB ⊢
  obtain ⟨gS, hgS⟩ : ∃ gS, gS = w.heap.size + 1 + 1 + 1 + 1 := ⟨_, rfl⟩
  rw [← hgS] at FS FB ⊢
  obtain ⟨gM, hgM⟩ : ∃ gM, gM = w.heap.size + 1 + 1 + 1 := ⟨_, rfl⟩
  rw [← hgM] at FM ⊢
  obtain ⟨gR, hgR⟩ : ∃ gR, gR = w.heap.size + 1 + 1 := ⟨_, rfl⟩
  rw [← hgR] at FR ⊢
  obtain ⟨gP, hgP⟩ : ∃ gP, gP = w.heap.size + 1 := ⟨_, rfl⟩
  rw [← hgP] at FP ⊢
  have HGX := Aside0.mk hgX
  have HGB := Aside0.mk hgB
  have HGS := Aside0.mk hgS
  have HGM := Aside0.mk hgM
  have HGR := Aside0.mk hgR
  have HGP := Aside0.mk hgP
  clear hgX hgB hgS hgM hgR hgP
  have gs : gX = w.heap.size + 6 ∧ gB = w.heap.size + 5 ∧ gS = w.heap.size + 4 ∧ gM = w.heap.size + 3 ∧ gR = w.heap.size + 2 ∧ gP = w.heap.size + 1 := by
    have := HGX.out; have := HGB.out; have := HGS.out; have := HGM.out; have := HGR.out; have := HGP.out; omega
  have GS := Aside0.mk gs
  clear gs HGX HGB HGS HGM HGR HGP
  obtain ⟨i0, hi, hz0, hz1, hz2⟩ := info_parts info3
  refine wpIn_rounds rfl (by omega) (gf := 137) (lb := #[.pointer (some ⟨gX, 0, none⟩)]) rfl trivial (enters_of Try.func137 (by kernel_rfl) rfl)
    (idx_rounds 8 (by omega) gX As cs s h5 hp.2 k HK.out W0 ((blk_cell FX 0).trans rfl) (Kd.C_below HS.out hB0) ks (fun ad e e0 => ?addr))
    (Below.refl _ _) ?mlt (fun G t A B h e => by unfold AtI at *; rw [e]; exact h) rfl
    (fun t W => W.heap[w.heap.size]? = some (.cells #[.bool b, .slice A1 l1.length c1, .slice A2 l2.length c2] 28 (0, 0)) ∧ W.heap[gP]? = some (.cells #[.func (.func g) #[] lb] 133 (0, 0)) ∧ W.heap[gR]? = some (.cells #[.slice none 0 0, .slice none 0 0] 70 (0, 0)) ∧
      W.heap[gB]? = some (.cells #[.slice (some ⟨gS, 0, none⟩) s.length s.length] 22 (0, 0)) ∧ (∃ src : List Int, src.length = s.length ∧ W.heap[gS]? = some (.cells (rowI src) 3 (0, 0))) ∧
      (∃ v, W.heap[gM]? = some (.cells #[.slice As s.length cs, v] 70 (0, 0)) ∧ W.ownsRow (w.heap.size + 10) 3 1 v t ((fromL l1 s f t).map (Value.int .i64))) ∧ Below w.heap.size w W)
    (fun _ _ _ => False)
    (fun t A B hI hS => ?inv)
    (fun _ _ _ _ h _ => h)
    ⟨FA, FP, FR, FB, ⟨_, by simp, FS⟩, ⟨_, FM, World.ownsRow_nil _ _ _ _⟩, hB0⟩
    ?a1 ?assign ?body ?done ?stop
  case addr =>
    obtain ⟨ad', e', hx⟩ := Kd.at_int (Kd.C_below HS.out hB0) 0 (by omega) (by omega)
    rw [e] at e'; cases e'
    have := World.block_lt_of_cell? W0 _ hx
    rwa [show (ad.add (0 : Int).toNat).block = ad.block by unfold Addr.add; split <;> rfl] at this
  case mlt =>
    intro k hk
    rcases hk with rfl | ⟨e0, hk⟩
    · exact blk_lt FX
    · obtain ⟨ad, hx, -⟩ := Kd.at_int (Kd.C_below HS.out hB0) 0 (by omega) (by omega)
      obtain ⟨ad', e', hx⟩ := Kd.at_int (Kd.C_below HS.out hB0) 0 (by omega) (by omega)
      rw [e'] at hk
      cases Option.some.inj hk
      have := World.block_lt_of_cell? W0 _ hx
      rwa [show (ad'.add (0 : Int).toNat).block = ad'.block by unfold Addr.add; split <;> rfl] at this
  case inv =>
    obtain ⟨q1, q2, q3, q4, ⟨src, q5, q6⟩, ⟨v, q7, q8⟩, q9⟩ := hI
    have := HSZ.out
    have := GS.out
    exact ⟨hS.blk q1 (by omega), hS.blk q2 (by omega), hS.blk q3 (by omega), hS.blk q4 (by omega), ⟨src, q5, hS.blk q6 (by omega)⟩, ⟨v, hS.blk q7 (by omega), hS.own q8 (fun k hk => by omega)⟩, q9.trans (hS.below (fun k hk => by omega) q9.size)⟩
  case assign =>
    intro lo W K hK
    gi_wp2
    exact hK
  case body =>
    rintro lo t W ⟨q1, q2, q3, q4, ⟨src, q5, q6⟩, ⟨v, q7, q8⟩, q9⟩ hlt hat hge
    have hlt' := Aside0.mk hlt
    have HAT := Aside0.mk hat
    have HGE := Aside0.mk hge
    have Q1 := Aside0.mk q1
    have Q2 := Aside0.mk q2
    have Q3 := Aside0.mk q3
    have Q4 := Aside0.mk q4
    have Q5 := Aside0.mk q5
    have Q6 := Aside0.mk q6
    have Q7 := Aside0.mk q7
    have HCI := Aside0.mk (idxL_len s t)
    have hrng : ∀ (t : Nat), t < (prod s).toNat → ∀ k : Nat, k < s.length → 0 ≤ rd (idxL s t) (k : Int) ∧ rd (idxL s t) (k : Int) < rd s (k : Int) := HRG.out
    clear hlt hat hge q1 q2 q3 q4 q5 q6 q7
    gi_wp2
    gi_loopw [10, 24] (fun th kk wr => ∃ (j : Nat) (q : Bool) (sr : List Int), kk = .int .i64 (j : Int) ∧ th = .bool q ∧ Aside0 (j ≤ s.length) ∧ Aside0 (sr.length = s.length) ∧ Aside0 (wr.heap[gS]? = some (.cells (rowI sr) 3 (0, 0))) ∧
        Aside0 (sr.take j ++ srcGo f j ((idxL s t).drop j) = srcGo f 0 (idxL s t)) ∧ Aside0 (thrGo l1 f j q ((idxL s t).drop j) = thrGo l1 f 0 true (idxL s t)) ∧ Aside0 (ButS (fun k => k = gS) W wr))
      (fun _ kk _ => s.length - (intOf kk).toNat)
    case atStart => exact ⟨0, true, src, rfl, rfl, ⟨Nat.zero_le _⟩, Q5, Q6, ⟨rfl⟩, ⟨rfl⟩, ⟨⟨Nat.le_refl _, fun _ _ _ => rfl, rfl, rfl, rfl⟩⟩⟩
    case round =>
      obtain ⟨j, q, sr, rfl, rfl, hj, hsl, hsr, htk, hth, hbs⟩ := hrel
      by_cases hjl : j < s.length
      · have p0 : 0 ≤ (j : Int) := by omega
        have p1 : (j : Int) < (s.length : Int) := by omega
        have hgs := GS.out
        have hx := rowI_cell (blk_of (hbs.out.blk HAT.out (by have := HSZ.out; omega))) j (by have := HCI.out; omega)
        have hB5 := blk_cell (hbs.out.blk Q4.out (by omega)) 0
        have hP5 := blk_cell (hbs.out.blk Q2.out (by omega)) 0
        have hbel := hbs.out.below (n := w.heap.size) (by rintro k rfl; omega) (by have := HSZ.out; have := HGE.out; omega)
        have HBE := Aside0.mk (q9.trans hbel)
        clear hgs hbel
        have hcg := rowI_cell hsr.out j (by have := hsl.out; omega)
        have hfz := blk_frozen hsr.out j
        have HR := Aside0.mk (hrng t hlt'.out j hjl)
        obtain ⟨x, hxe⟩ : ∃ x, x = rd (idxL s t) (j : Int) := ⟨_, rfl⟩
        rw [← hxe] at hx HR
        have HXE := Aside0.mk hxe
        clear hxe
        have hcall : ∀ (n : Nat) (W' : World), Below w.heap.size w W' → CallsIn Fence.wide n Try.prog g (#[.int .i64 (j : Int), .int .i64 x] ++ lb) W' fun e w' => e = .returned (.int .i64 (f j x)) ∧ ∃ q, w' = W'.drewN q := fun n W' hb => callsIn_wide.2 (HF.out W' j x hb hjl HR.out.1 HR.out.2)
        gi_wp2
        refine region_round (by kernel_rfl) (by kernel_rfl) ?_
        refine wpAnyIn_take (i := 1) (v := ?_) rfl rfl (by kernel_rfl) (by kernel_rfl) (by kernel_rfl) (fun _ _ _ h => h) ⟨Or.inl ⟨by rfl, ?_⟩, fun _ => rfl⟩ ?_
        rotate_left
        · intro w'; go_simp; try with_reducible rfl
        refine wpAnyIn_take (i := 3) (v := ?_) rfl rfl (by kernel_rfl) (by kernel_rfl) (by kernel_rfl) (fun _ _ _ h => h) ⟨Or.inl ⟨by rfl, ?_⟩, fun _ => rfl⟩ ?_
        rotate_left
        · intro w'; go_simp; try with_reducible rfl
        refine wpAnyIn_take (i := 4) (v := ?_) rfl rfl (by kernel_rfl) (by kernel_rfl) (by kernel_rfl) (fun _ _ _ h => h) ⟨Or.inl ⟨by rfl, ?_⟩, fun _ => rfl⟩ ?_
        rotate_left
        · intro w'; go_simp; try with_reducible rfl
        refine wpAnyIn_ready (rs := [0, 2]) (by kernel_rfl) (by simp) ?_
        refine AllReadyIn.cons rfl (fun K hK => ?_) ?_
        · go_simp
          refine hK _ _ ?_
          clear hK K
          refine wpAnyIn_ready (rs := [2]) (by kernel_rfl) (by simp) ?_
          refine AllReadyIn.cons rfl (fun K hK => ?_) ?_
          · go_simp
            refine hK _ _ ?_
            clear hK K
            refine wpAnyIn_ready (rs := [5]) (by kernel_rfl) (by simp) ?_
            refine AllReadyIn.cons rfl (fun K hK => ?_) ?_
            · go_simp
              refine ⟨trivial, (hcall _ _ (pw_below_drewN HBE.out 1)).mono ?_⟩
              rintro e w' ⟨rfl, q', rfl⟩
              refine hK _ _ ?_
              clear hK K
              refine wpAnyIn_take (i := 6) (v := ?_) rfl rfl (by kernel_rfl) (by kernel_rfl) (by kernel_rfl) (fun _ _ _ h => h) ⟨Or.inl ⟨by rfl, ?_⟩, fun _ => rfl⟩ ?_
              rotate_left
              · intro w'; go_simp; try with_reducible rfl
              refine wpAnyIn_ready (rs := [7]) (by kernel_rfl) (by simp) ?_
              refine AllReadyIn.cons rfl (fun K hK => ?_) ?_
              · go_simp
                refine hK _ _ ?_
                clear hK K
                refine wpAnyIn_done (by kernel_rfl) ?_ _
                gi_wp2
                obtain ⟨W2, hW2⟩ : ∃ W2, (World.drewN wr (1 + q')).setCell ⟨gS, j, none⟩ (.int .i64 (f j x)) = W2 := ⟨_, rfl⟩
                rw [hW2]
                have hS2 : ButS (fun k => k = gS) W W2 := hW2 ▸ butS_set (show ButS (fun k => k = gS) W (World.drewN wr (1 + q')) from ⟨hbs.out.size, hbs.out.same, hbs.out.os, hbs.out.tape, hbs.out.output⟩) rfl j _
                have hsr2 : W2.heap[gS]? = some (.cells (rowI (sr.set j (f j x))) 3 (0, 0)) := hW2 ▸ rowI_put (show (World.drewN wr (1 + q')).heap[gS]? = _ from hsr.out) j _
                have HS2 := Aside0.mk hS2
                have HSR2 := Aside0.mk hsr2
                have hgs := GS.out
                have hu1 := blk_cell (hS2.blk Q4.out (by omega)) 0
                have hu2 := blk_cell (hS2.blk Q1.out (by omega)) 1
                have hu3 := rowI_cell hsr2 j (by have := hsl.out; rw [List.length_set]; omega)
                rw [show rd (sr.set j (f j x)) (j : Int) = f j x from rd_set _ _ _ (by have := hsl.out; omega)] at hu3
                have hb2 : Below w.heap.size w W2 := q9.trans (hS2.below (by rintro k rfl; omega) (by have := HSZ.out; have := HGE.out; omega))
                obtain ⟨ad, rfl, hu4⟩ := Kd.at_int (Kd.C_below H1.out hb2) (j : Int) p0 (by have := HL.out; omega)
                rw [Int.toNat_natCast] at hu4
                have p2 : (j : Int) < (l1.length : Int) := by have := HL.out; omega
                clear hgs hS2 hsr2 hb2 hW2
                cases q with
                | true =>
                  have hwith : ∀ (n : Nat) (W' : World), CallsIn Fence.wide n Try.prog 118 #[.int .i64 (f j x), .int .i64 0, .int .i64 (wrap64 (rd l1 (j : Int) - 1))] W' fun e w' => e = .returned (.bool (decide (0 ≤ f j x ∧ f j x ≤ wrap64 (rd l1 (j : Int) - 1)))) ∧ ∃ m, w' = W'.drewN m := fun n W' => callsIn_wide.2 ((impl_within.calls (f j x) 0 (wrap64 (rd l1 (j : Int) - 1)) (decide (0 ≤ f j x ∧ f j x ≤ wrap64 (rd l1 (j : Int) - 1))) W' (within_ev _ _)).mono (fun _ _ h => ⟨h.1, h.2.out⟩))
                  refine quiet_round rfl (by kernel_rfl) (by kernel_rfl) (by kernel_rfl) ?_
                  repeat (gi_big_quiet_step (fail))
                  refine BigFrame.wpQuietIn_want (fun _ _ _ _ => trivial) rfl (fun K hK => ?_)
                  gi_big_quiet_op
                  apply Exists.intro
                  refine ⟨fun _ => ?_, ?_⟩
                  · refine CallsIn.quiet_of (hwith _ _)
                  refine hK _ ?_
                  clear hK K
                  repeat (gi_big_quiet_step (fail))
                  refine wpQuietIn_nil ?_
                  intro _ hw'
                  obtain ⟨nq, hw''⟩ := hw'
                  subst hw''
                  gi_wp2
                  refine ⟨⟨j + 1, _, sr.set j (f j x), by push_cast; rfl, rfl, ⟨hjl⟩, ⟨by rw [List.length_set]; exact hsl.out⟩, ⟨HSR2.out⟩, ⟨?_⟩, ⟨?_⟩, ⟨HS2.out.size, HS2.out.same, HS2.out.os, HS2.out.tape, HS2.out.output⟩⟩, by simp [intOf]; omega⟩
                  · rw [← htk.out, HXE.out]; exact src_step f sr _ j (by have := hsl.out; omega) (by have := HCI.out; omega)
                  · rw [← hth.out, thr_step l1 f _ j _ (by have := HCI.out; omega), ← HXE.out]; congr 1; simp [Bool.decide_and]
                | false =>
                  refine quiet_round rfl (by kernel_rfl) (by kernel_rfl) (by kernel_rfl) ?_
                  repeat (gi_big_quiet_step (fail))
                  refine BigFrame.wpQuietIn_skip (fun _ _ _ _ => trivial) rfl ?_
                  go_simp
                  repeat (gi_big_quiet_step (fail))
                  refine wpQuietIn_nil ?_
                  intro nq
                  gi_wp2
                  refine ⟨⟨j + 1, false, sr.set j (f j x), by push_cast; rfl, rfl, ⟨hjl⟩, ⟨by rw [List.length_set]; exact hsl.out⟩, ⟨HSR2.out⟩, ⟨?_⟩, ⟨?_⟩, ⟨HS2.out.size, HS2.out.same, HS2.out.os, HS2.out.tape, HS2.out.output⟩⟩, by simp [intOf]; omega⟩
                  · rw [← htk.out, HXE.out]; exact src_step f sr _ j (by have := hsl.out; omega) (by have := HCI.out; omega)
                  · rw [← hth.out, thr_step l1 f _ j _ (by have := HCI.out; omega), ← HXE.out]; congr 1
              exact AllReadyIn.nil
            exact AllReadyIn.nil
          exact AllReadyIn.nil
        refine AllReadyIn.cons rfl (fun K hK => ?_) ?_
        · go_simp
          refine hK _ _ ?_
          clear hK K
          refine wpAnyIn_ready (rs := [0, 5]) (by kernel_rfl) (by simp) ?_
          refine AllReadyIn.cons rfl (fun K hK => ?_) ?_
          · go_simp
            refine hK _ _ ?_
            clear hK K
            refine wpAnyIn_ready (rs := [5]) (by kernel_rfl) (by simp) ?_
            refine AllReadyIn.cons rfl (fun K hK => ?_) ?_
            · go_simp
              refine ⟨trivial, (hcall _ _ (pw_below_drewN HBE.out 1)).mono ?_⟩
              rintro e w' ⟨rfl, q', rfl⟩
              refine hK _ _ ?_
              clear hK K
              refine wpAnyIn_take (i := 6) (v := ?_) rfl rfl (by kernel_rfl) (by kernel_rfl) (by kernel_rfl) (fun _ _ _ h => h) ⟨Or.inl ⟨by rfl, ?_⟩, fun _ => rfl⟩ ?_
              rotate_left
              · intro w'; go_simp; try with_reducible rfl
              refine wpAnyIn_ready (rs := [7]) (by kernel_rfl) (by simp) ?_
              refine AllReadyIn.cons rfl (fun K hK => ?_) ?_
              · go_simp
                refine hK _ _ ?_
                clear hK K
                refine wpAnyIn_done (by kernel_rfl) ?_ _
                gi_wp2
                obtain ⟨W2, hW2⟩ : ∃ W2, (World.drewN wr (1 + q')).setCell ⟨gS, j, none⟩ (.int .i64 (f j x)) = W2 := ⟨_, rfl⟩
                rw [hW2]
                have hS2 : ButS (fun k => k = gS) W W2 := hW2 ▸ butS_set (show ButS (fun k => k = gS) W (World.drewN wr (1 + q')) from ⟨hbs.out.size, hbs.out.same, hbs.out.os, hbs.out.tape, hbs.out.output⟩) rfl j _
                have hsr2 : W2.heap[gS]? = some (.cells (rowI (sr.set j (f j x))) 3 (0, 0)) := hW2 ▸ rowI_put (show (World.drewN wr (1 + q')).heap[gS]? = _ from hsr.out) j _
                have HS2 := Aside0.mk hS2
                have HSR2 := Aside0.mk hsr2
                have hgs := GS.out
                have hu1 := blk_cell (hS2.blk Q4.out (by omega)) 0
                have hu2 := blk_cell (hS2.blk Q1.out (by omega)) 1
                have hu3 := rowI_cell hsr2 j (by have := hsl.out; rw [List.length_set]; omega)
                rw [show rd (sr.set j (f j x)) (j : Int) = f j x from rd_set _ _ _ (by have := hsl.out; omega)] at hu3
                have hb2 : Below w.heap.size w W2 := q9.trans (hS2.below (by rintro k rfl; omega) (by have := HSZ.out; have := HGE.out; omega))
                obtain ⟨ad, rfl, hu4⟩ := Kd.at_int (Kd.C_below H1.out hb2) (j : Int) p0 (by have := HL.out; omega)
                rw [Int.toNat_natCast] at hu4
                have p2 : (j : Int) < (l1.length : Int) := by have := HL.out; omega
                clear hgs hS2 hsr2 hb2 hW2
                cases q with
                | true =>
                  have hwith : ∀ (n : Nat) (W' : World), CallsIn Fence.wide n Try.prog 118 #[.int .i64 (f j x), .int .i64 0, .int .i64 (wrap64 (rd l1 (j : Int) - 1))] W' fun e w' => e = .returned (.bool (decide (0 ≤ f j x ∧ f j x ≤ wrap64 (rd l1 (j : Int) - 1)))) ∧ ∃ m, w' = W'.drewN m := fun n W' => callsIn_wide.2 ((impl_within.calls (f j x) 0 (wrap64 (rd l1 (j : Int) - 1)) (decide (0 ≤ f j x ∧ f j x ≤ wrap64 (rd l1 (j : Int) - 1))) W' (within_ev _ _)).mono (fun _ _ h => ⟨h.1, h.2.out⟩))
                  refine quiet_round rfl (by kernel_rfl) (by kernel_rfl) (by kernel_rfl) ?_
                  repeat (gi_big_quiet_step (fail))
                  refine BigFrame.wpQuietIn_want (fun _ _ _ _ => trivial) rfl (fun K hK => ?_)
                  gi_big_quiet_op
                  apply Exists.intro
                  refine ⟨fun _ => ?_, ?_⟩
                  · refine CallsIn.quiet_of (hwith _ _)
                  refine hK _ ?_
                  clear hK K
                  repeat (gi_big_quiet_step (fail))
                  refine wpQuietIn_nil ?_
                  intro _ hw'
                  obtain ⟨nq, hw''⟩ := hw'
                  subst hw''
                  gi_wp2
                  refine ⟨⟨j + 1, _, sr.set j (f j x), by push_cast; rfl, rfl, ⟨hjl⟩, ⟨by rw [List.length_set]; exact hsl.out⟩, ⟨HSR2.out⟩, ⟨?_⟩, ⟨?_⟩, ⟨HS2.out.size, HS2.out.same, HS2.out.os, HS2.out.tape, HS2.out.output⟩⟩, by simp [intOf]; omega⟩
                  · rw [← htk.out, HXE.out]; exact src_step f sr _ j (by have := hsl.out; omega) (by have := HCI.out; omega)
                  · rw [← hth.out, thr_step l1 f _ j _ (by have := HCI.out; omega), ← HXE.out]; congr 1; simp [Bool.decide_and]
                | false =>
                  refine quiet_round rfl (by kernel_rfl) (by kernel_rfl) (by kernel_rfl) ?_
                  repeat (gi_big_quiet_step (fail))
                  refine BigFrame.wpQuietIn_skip (fun _ _ _ _ => trivial) rfl ?_
                  go_simp
                  repeat (gi_big_quiet_step (fail))
                  refine wpQuietIn_nil ?_
                  intro nq
                  gi_wp2
                  refine ⟨⟨j + 1, false, sr.set j (f j x), by push_cast; rfl, rfl, ⟨hjl⟩, ⟨by rw [List.length_set]; exact hsl.out⟩, ⟨HSR2.out⟩, ⟨?_⟩, ⟨?_⟩, ⟨HS2.out.size, HS2.out.same, HS2.out.os, HS2.out.tape, HS2.out.output⟩⟩, by simp [intOf]; omega⟩
                  · rw [← htk.out, HXE.out]; exact src_step f sr _ j (by have := hsl.out; omega) (by have := HCI.out; omega)
                  · rw [← hth.out, thr_step l1 f _ j _ (by have := HCI.out; omega), ← HXE.out]; congr 1
              exact AllReadyIn.nil
            exact AllReadyIn.nil
          refine AllReadyIn.cons rfl (fun K hK => ?_) ?_
          · go_simp
            refine ⟨trivial, (hcall _ _ (pw_below_drewN HBE.out 1)).mono ?_⟩
            rintro e w' ⟨rfl, q', rfl⟩
            refine hK _ _ ?_
            clear hK K
            refine wpAnyIn_ready (rs := [0]) (by kernel_rfl) (by simp) ?_
            refine AllReadyIn.cons rfl (fun K hK => ?_) ?_
            · go_simp
              refine hK _ _ ?_
              clear hK K
              refine wpAnyIn_take (i := 6) (v := ?_) rfl rfl (by kernel_rfl) (by kernel_rfl) (by kernel_rfl) (fun _ _ _ h => h) ⟨Or.inl ⟨by rfl, ?_⟩, fun _ => rfl⟩ ?_
              rotate_left
              · intro w'; go_simp; try with_reducible rfl
              refine wpAnyIn_ready (rs := [7]) (by kernel_rfl) (by simp) ?_
              refine AllReadyIn.cons rfl (fun K hK => ?_) ?_
              · go_simp
                refine hK _ _ ?_
                clear hK K
                refine wpAnyIn_done (by kernel_rfl) ?_ _
                gi_wp2
                obtain ⟨W2, hW2⟩ : ∃ W2, (World.drewN wr (1 + q')).setCell ⟨gS, j, none⟩ (.int .i64 (f j x)) = W2 := ⟨_, rfl⟩
                rw [hW2]
                have hS2 : ButS (fun k => k = gS) W W2 := hW2 ▸ butS_set (show ButS (fun k => k = gS) W (World.drewN wr (1 + q')) from ⟨hbs.out.size, hbs.out.same, hbs.out.os, hbs.out.tape, hbs.out.output⟩) rfl j _
                have hsr2 : W2.heap[gS]? = some (.cells (rowI (sr.set j (f j x))) 3 (0, 0)) := hW2 ▸ rowI_put (show (World.drewN wr (1 + q')).heap[gS]? = _ from hsr.out) j _
                have HS2 := Aside0.mk hS2
                have HSR2 := Aside0.mk hsr2
                have hgs := GS.out
                have hu1 := blk_cell (hS2.blk Q4.out (by omega)) 0
                have hu2 := blk_cell (hS2.blk Q1.out (by omega)) 1
                have hu3 := rowI_cell hsr2 j (by have := hsl.out; rw [List.length_set]; omega)
                rw [show rd (sr.set j (f j x)) (j : Int) = f j x from rd_set _ _ _ (by have := hsl.out; omega)] at hu3
                have hb2 : Below w.heap.size w W2 := q9.trans (hS2.below (by rintro k rfl; omega) (by have := HSZ.out; have := HGE.out; omega))
                obtain ⟨ad, rfl, hu4⟩ := Kd.at_int (Kd.C_below H1.out hb2) (j : Int) p0 (by have := HL.out; omega)
                rw [Int.toNat_natCast] at hu4
                have p2 : (j : Int) < (l1.length : Int) := by have := HL.out; omega
                clear hgs hS2 hsr2 hb2 hW2
                cases q with
                | true =>
                  have hwith : ∀ (n : Nat) (W' : World), CallsIn Fence.wide n Try.prog 118 #[.int .i64 (f j x), .int .i64 0, .int .i64 (wrap64 (rd l1 (j : Int) - 1))] W' fun e w' => e = .returned (.bool (decide (0 ≤ f j x ∧ f j x ≤ wrap64 (rd l1 (j : Int) - 1)))) ∧ ∃ m, w' = W'.drewN m := fun n W' => callsIn_wide.2 ((impl_within.calls (f j x) 0 (wrap64 (rd l1 (j : Int) - 1)) (decide (0 ≤ f j x ∧ f j x ≤ wrap64 (rd l1 (j : Int) - 1))) W' (within_ev _ _)).mono (fun _ _ h => ⟨h.1, h.2.out⟩))
                  refine quiet_round rfl (by kernel_rfl) (by kernel_rfl) (by kernel_rfl) ?_
                  repeat (gi_big_quiet_step (fail))
                  refine BigFrame.wpQuietIn_want (fun _ _ _ _ => trivial) rfl (fun K hK => ?_)
                  gi_big_quiet_op
                  apply Exists.intro
                  refine ⟨fun _ => ?_, ?_⟩
                  · refine CallsIn.quiet_of (hwith _ _)
                  refine hK _ ?_
                  clear hK K
                  repeat (gi_big_quiet_step (fail))
                  refine wpQuietIn_nil ?_
                  intro _ hw'
                  obtain ⟨nq, hw''⟩ := hw'
                  subst hw''
                  gi_wp2
                  refine ⟨⟨j + 1, _, sr.set j (f j x), by push_cast; rfl, rfl, ⟨hjl⟩, ⟨by rw [List.length_set]; exact hsl.out⟩, ⟨HSR2.out⟩, ⟨?_⟩, ⟨?_⟩, ⟨HS2.out.size, HS2.out.same, HS2.out.os, HS2.out.tape, HS2.out.output⟩⟩, by simp [intOf]; omega⟩
                  · rw [← htk.out, HXE.out]; exact src_step f sr _ j (by have := hsl.out; omega) (by have := HCI.out; omega)
                  · rw [← hth.out, thr_step l1 f _ j _ (by have := HCI.out; omega), ← HXE.out]; congr 1; simp [Bool.decide_and]
                | false =>
                  refine quiet_round rfl (by kernel_rfl) (by kernel_rfl) (by kernel_rfl) ?_
                  repeat (gi_big_quiet_step (fail))
                  refine BigFrame.wpQuietIn_skip (fun _ _ _ _ => trivial) rfl ?_
                  go_simp
                  repeat (gi_big_quiet_step (fail))
                  refine wpQuietIn_nil ?_
                  intro nq
                  gi_wp2
                  refine ⟨⟨j + 1, false, sr.set j (f j x), by push_cast; rfl, rfl, ⟨hjl⟩, ⟨by rw [List.length_set]; exact hsl.out⟩, ⟨HSR2.out⟩, ⟨?_⟩, ⟨?_⟩, ⟨HS2.out.size, HS2.out.same, HS2.out.os, HS2.out.tape, HS2.out.output⟩⟩, by simp [intOf]; omega⟩
                  · rw [← htk.out, HXE.out]; exact src_step f sr _ j (by have := hsl.out; omega) (by have := HCI.out; omega)
                  · rw [← hth.out, thr_step l1 f _ j _ (by have := HCI.out; omega), ← HXE.out]; congr 1
              exact AllReadyIn.nil
            exact AllReadyIn.nil
          exact AllReadyIn.nil
        exact AllReadyIn.nil
      · have hje : j = s.length := by have := hj.out; omega
        have hte : sr = srcGo f 0 (idxL s t) := by
          have h := htk.out
          rw [List.drop_eq_nil_of_le (by have := HCI.out; omega), srcGo, List.append_nil, List.take_of_length_le (by have := hsl.out; omega)] at h
          exact h
        have hqe : q = thrGo l1 f 0 true (idxL s t) := by
          have h := hth.out
          rw [List.drop_eq_nil_of_le (by have := HCI.out; omega), thrGo] at h
          exact h
        have HTE := Aside0.mk hte
        have HQE := Aside0.mk hqe
        have HJE := Aside0.mk hje
        clear hte hqe hje
        have hgs := GS.out
        have hB5 := blk_cell (hbs.out.blk Q4.out (by omega)) 0
        have hA1 := blk_cell (hbs.out.blk Q1.out (by omega)) 1
        have hM0 := blk_cell (hbs.out.blk Q7.out (by omega)) 0
        have hM1 := blk_cell (hbs.out.blk Q7.out (by omega)) 1
        have hM2 := blk_frozen (hbs.out.blk Q7.out (by omega)) 1
        clear hgs
        cases q with
        | true =>
          have hgs := GS.out
          have hbw : Below w.heap.size w wr := q9.trans (hbs.out.below (by rintro k rfl; omega) (by have := HSZ.out; have := HGE.out; omega))
          have hCS : Kd.C (Kd.int .i64) wr (some ⟨gS, 0, none⟩) sr.length sr := rowI_C hsr.out (by have := hsl.out; omega)
          have hnum : CallsIn (Fence.wide.inRound lo) 6 Try.prog 120 #[.slice A1 l1.length c1, .slice (some ⟨gS, 0, none⟩) s.length s.length] wr fun e w' => e = .returned (.int .i64 (numGo l1 0 0 sr)) ∧ ∃ m, w' = wr.drewN m := by
            have h := impl_number.calls (sr.length + 1) A1 c1 l1 (some ⟨gS, 0, none⟩) sr.length sr _ wr (Kd.C_below H1.out hbw) k1 hCS (Nat.le_refl _) (number_ev l1 sr (by have := hsl.out; have := HL.out; omega) (by have := hsl.out; omega))
            rw [hsl.out] at h
            exact CallsIn.inRound lo (callsIn_wide.2 (h.mono fun _ _ h => ⟨h.1, h.2.out⟩))
          have HN := Aside0.mk hnum
          clear hnum hCS hgs hbw
          have bd1 : t + 1 ≤ maxLen := by have := hlt'.out; unfold maxLen; omega
          have bd2 : (t + 1) * 8 ≤ 140737488355328 := by have := hlt'.out; omega
          have hgs := GS.out
          have hm7 := hbs.out.blk Q7.out (by omega)
          have hrow := hbs.out.own q8 (fun k hk => by omega)
          have HM7 := Aside0.mk hm7
          clear hgs hm7
          gi_wp2_with (first | (refine ⟨trivial, HN.out.mono ?_⟩; rintro e w' ⟨rfl, m, rfl⟩) | (gi_at_builtin; refine wpListIn_append_own _ rfl _ _ 22 rfl (w.heap.size + 10) 3 i0 (.int .i64 0) 1 8 Try.underlying22 hi hz0 hz1 hz2 rfl (by decide) _ _ _ rfl ((show (wr.drewN m).ownsRow _ _ _ _ _ _ from hrow).alloc _) ⟨wr.heap.size, 0, none⟩ 1 1 [.int .i64 (numGo l1 0 0 sr)] rfl rfl (cell_one_new _ _ _) (by simp [Value.oneCell']) bd1 bd2 (by have := HGE.out; have := HSZ.out; have := hbs.out.size; simp; omega) ?_; intro v' w1 hown' hgrow _; obtain ⟨g', cap', rfl⟩ := ownsRow_succ hown'; obtain ⟨pp1, pp2, pp3, ppk, pp4⟩ := pair_appended (W := wr.drewN m) HM7.out (by decide) hrow hown' hgrow; have hc1 := blk_cell pp1 1; have hf1 := blk_frozen pp1 1))
          have hgs := GS.out
          have hb1 : ButS (fun k => k = gS) W (wr.drewN m) := ⟨hbs.out.size, hbs.out.same, hbs.out.os, hbs.out.tape, hbs.out.output⟩
          have hba := (hb1.mono (T := fun k => k = gS ∨ k = gM ∨ w.heap.size + 10 ≤ k) (fun k h => .inl h)).trans (pp4.mono (fun k h => .inr h))
          have hz := HSZ.out
          have hge := HGE.out
          refine ⟨(keeps_butS hb1 (fun k e o ho => by cases e; rw [Q6.out] at ho; cases ho; rfl)).trans ppk, fun k hk => hba.same k ?_ ?_, ?_, hba.blk Q1.out (by omega), hba.blk Q2.out (by omega), hba.blk Q3.out (by omega), hba.blk Q4.out (by omega), ⟨sr, hsl.out, pp4.blk (show (wr.drewN m).heap[gS]? = _ from hsr.out) (by omega)⟩, ⟨_, pp2, ?_⟩, q9.trans (hba.below (fun k hk => by omega) q9.size)⟩
          · rcases hk with rfl | ⟨e0, hk⟩
            · omega
            · have := C_block HS.out e0 hk; omega
          · rcases hk with rfl | ⟨e0, hk⟩
            · omega
            · have := C_block HS.out e0 hk; omega
          · exact hba.blk (show W.heap[W0.heap.size + 2]? = _ from HAT.out) (by omega)
          · rw [show fromL l1 s f (t + 1) = fromL l1 s f t ++ [numGo l1 0 0 sr] from by rw [fromL, fromOne, ← HQE.out]; simp [HTE.out]]
            simpa using pp3
        | false =>
          have bd1 : t + 1 ≤ maxLen := by have := hlt'.out; unfold maxLen; omega
          have bd2 : (t + 1) * 8 ≤ 140737488355328 := by have := hlt'.out; omega
          have hgs := GS.out
          have hm7 := hbs.out.blk Q7.out (by omega)
          have hrow := hbs.out.own q8 (fun k hk => by omega)
          have HM7 := Aside0.mk hm7
          clear hgs hm7
          gi_wp2_with (gi_at_builtin; refine wpListIn_append_own _ rfl _ _ 22 rfl (w.heap.size + 10) 3 i0 (.int .i64 0) 1 8 Try.underlying22 hi hz0 hz1 hz2 rfl (by decide) _ _ _ rfl (hrow.alloc _) ⟨wr.heap.size, 0, none⟩ 1 1 [.int .i64 (-1)] rfl rfl (cell_one_new _ _ _) (by simp [Value.oneCell']) bd1 bd2 (by have := HGE.out; have := HSZ.out; have := hbs.out.size; simp; omega) ?_; intro v' w1 hown' hgrow _; obtain ⟨g', cap', rfl⟩ := ownsRow_succ hown'; obtain ⟨pp1, pp2, pp3, ppk, pp4⟩ := pair_appended HM7.out (by decide) hrow hown' hgrow; have hc1 := blk_cell pp1 1; have hf1 := blk_frozen pp1 1)
          have hgs := GS.out
          have hb1 : ButS (fun k => k = gS) W wr := ⟨hbs.out.size, hbs.out.same, hbs.out.os, hbs.out.tape, hbs.out.output⟩
          have hba := (hb1.mono (T := fun k => k = gS ∨ k = gM ∨ w.heap.size + 10 ≤ k) (fun k h => .inl h)).trans (pp4.mono (fun k h => .inr h))
          have hz := HSZ.out
          have hge := HGE.out
          refine ⟨(keeps_butS hb1 (fun k e o ho => by cases e; rw [Q6.out] at ho; cases ho; rfl)).trans ppk, fun k hk => hba.same k ?_ ?_, ?_, hba.blk Q1.out (by omega), hba.blk Q2.out (by omega), hba.blk Q3.out (by omega), hba.blk Q4.out (by omega), ⟨sr, hsl.out, pp4.blk (show wr.heap[gS]? = _ from hsr.out) (by omega)⟩, ⟨_, pp2, ?_⟩, q9.trans (hba.below (fun k hk => by omega) q9.size)⟩
          · rcases hk with rfl | ⟨e0, hk⟩
            · omega
            · have := C_block HS.out e0 hk; omega
          · rcases hk with rfl | ⟨e0, hk⟩
            · omega
            · have := C_block HS.out e0 hk; omega
          · exact hba.blk (show W.heap[W0.heap.size + 2]? = _ from HAT.out) (by omega)
          · rw [show fromL l1 s f (t + 1) = fromL l1 s f t ++ [-1] from by rw [fromL, fromOne, ← HQE.out]; simp [HTE.out]]
            simpa using pp3
  case done =>
    rintro W ⟨q1, q2, q3, q4, ⟨src, q5, q6⟩, ⟨v, q7, q8⟩, q9⟩ hD
    have hR : Kd.R (Kd.int .i64) 3 W (w.heap.size + 10) (fun _ => True) v (fromL l1 s f (prod s).toNat) := Kd.R_of_own (by rw [fromL_len]; exact q8) (fun _ _ => trivial)
    obtain ⟨Av, cv, rfl⟩ := Kd.R_slice hR
    gi_wp2_with (first | (refine wpListIn_load_row rfl 70 (.tmp 7) rfl gM rfl 70 #[.slice As s.length cs, .slice Av _ cv] (0, 0) _ q7 Try.underlying70 rfl (by kernel_rfl) ?_) | (refine wpListIn_store_named rfl 70 (.tmp 6) (.tmp 62) rfl gR #[.slice As s.length cs, .slice Av _ cv] rfl rfl 70 #[.slice none 0 0, .slice none 0 0] q3 (by kernel_rfl) rfl (by simp [Value.oneCell']) ?_; intro w1 hs1 hb1))
    have hz := HSZ.out
    have hgs := GS.out
    have hD1 : w1.heap[W0.heap.size]? = some (.deferred (some [])) := (hb1.same _ (by omega)).trans hD
    have hR1 := hb1.row hR q3 (by decide)
    refine ⟨by simp, .inl ⟨_, _, rfl, run_takeDeferred hD1, ?_⟩⟩
    refine ⟨_, results_cell_row rfl _ _ gR 70 #[.slice As s.length cs, .slice Av _ cv] (0, 0) _ rfl ((World.putObj_heap_other (by omega)).trans hs1) Try.underlying70 rfl (by kernel_rfl), _, rfl, Kd.R_of_own (own_weaken (base := w.heap.size + 10) (ownsRow_putObj (Kd.own_of_R hR1) _ hD1 rfl) (by omega)) (fun _ _ => trivial), (q9.trans (hb1.below _ (by omega))).trans (belowK_b (w := w) (Nat.le_refl _) w1 W0.heap.size _ _ (by omega) hD1 rfl rfl)⟩
  case stop =>
    rintro c t W _ h _
    exact h.elim
end Go.Proofs.Ytehfcnndjhjkoaa.PA

namespace Go.Proofs.Ytehfcnndjhjkoaa.PA
open Go.RowKit Go.Proofs.YtehfcnndjhjkoaaW.PrintWords Go.Proofs.YtehfcnndjhjkoaaW.PrintLast Go.Proofs.YtehfcnndjhjkoaaW.PrintMore
set_option linter.unusedVariables false
set_option linter.unusedSimpArgs false
def stDrop (k : List Int) : List Int := (List.range k.length).map fun (i : Nat) => mx 0 (rd k (i : Int))
theorem stDrop_rd (k : List Int) (i : Nat) (h : i < k.length) : rd (stDrop k) (i : Int) = mx 0 (rd k (i : Int)) := rd_range _ _ _ h
/-- The shape that is left, its first j numbers. -/
def dropL (s k : List Int) (j : Nat) : List Int := (List.range j).map fun (i : Nat) => mx 0 (rd s (i : Int) - (if rd k (i : Int) < 0 then -rd k (i : Int) else rd k (i : Int)))
theorem dropL_len (s k : List Int) (j : Nat) : (dropL s k j).length = j := by simp [dropL]
theorem dropL_succ (s k : List Int) (j : Nat) : dropL s k (j + 1) = dropL s k j ++ [mx 0 (rd s (j : Int) - (if rd k (j : Int) < 0 then -rd k (j : Int) else rd k (j : Int)))] := by simp [dropL, List.range_succ]
theorem drop_fn (k : Nat) (i : Int) (gK : Nat) (a : Bool) (A1 : Option Addr) (n1 c1 : Nat) (A2 : Option Addr) (c2 : Nat) (l2 : List Int) (W : World)
    (hK : W.heap[gK]? = some (.cells #[.bool a, .slice A1 n1 c1, .slice A2 l2.length c2] 28 (0, 0)))
    (hc2 : Kd.C (Kd.int .i64) W A2 l2.length l2) (hk : k < l2.length) (i0 : 0 ≤ i) (i1 : i ≤ 10000) (r0 : -1000000000000000 ≤ rd l2 (k : Int) ∧ rd l2 (k : Int) ≤ 1000000000000000) :
    Calls Try.prog 131 #[.int .i64 (k : Int), .int .i64 i, .pointer (some ⟨gK, 0, none⟩)] W fun e w' => e = .returned (.int .i64 (i + rd (stDrop l2) (k : Int))) ∧ ∃ q, w' = W.drewN q := by
  rw [stDrop_rd _ _ hk]
  have x2 : W.cell? ⟨gK, 2, none⟩ = some (.slice A2 l2.length c2) := (blk_cell hK 2).trans rfl
  obtain ⟨ad1, rfl, y1⟩ := Kd.at_int hc2 (k : Int) (by omega) (by omega)
  rw [Int.toNat_natCast] at y1
  have p0 : 0 ≤ (k : Int) := by omega
  have p1 : (k : Int) < (l2.length : Int) := by omega
  obtain ⟨n, hne⟩ : ∃ n, rd l2 (k : Int) = n := ⟨_, rfl⟩
  rw [hne] at y1 r0 ⊢
  obtain ⟨r0, r1⟩ := r0
  clear hK hc2 hne hk
  have hm0 : 0 ≤ mx 0 n := by unfold mx; split <;> omega
  have hm1 : mx 0 n ≤ 1000000000000000 := by unfold mx; split <;> omega
  go_enter Try.func131, Try.ntmps131
  go_wp2
  all_goals
    go_ret
    refine ⟨?_, 0, rfl⟩
    first | (rw [show mx 0 n = n by unfold mx; split <;> omega]; rfl) | (rw [show mx 0 n = 0 by unfold mx; split <;> omega, Int.add_zero]; rfl)
theorem drop_gives (gK : Nat) (a : Bool) (A1 : Option Addr) (n1 c1 : Nat) (A2 : Option Addr) (c2 : Nat) (l2 : List Int) (s : List Int) (W : World)
    (hK : W.heap[gK]? = some (.cells #[.bool a, .slice A1 n1 c1, .slice A2 l2.length c2] 28 (0, 0)))
    (hc2 : Kd.C (Kd.int .i64) W A2 l2.length l2) (hs : s.length = l2.length) (hr : ∀ x ∈ s, 0 ≤ x ∧ x ≤ 10000) (r0 : ∀ x ∈ l2, -1000000000000000 ≤ x ∧ x ≤ 1000000000000000) :
    Gives2 131 #[.pointer (some ⟨gK, 0, none⟩)] (fun k i => i + rd (stDrop l2) (k : Int)) s W := by
  intro W' k i hb hk i0 i1
  exact drop_fn k i gK a A1 n1 c1 A2 c2 l2 W' (blk_below hK hb) (Kd.C_below hc2 hb) (by omega) i0 (by have := (hr _ (rd_mem' s k hk)).2; omega) (r0 _ (rd_mem' l2 k (by omega)))
theorem axisP_n (b : Bool) (A1 : Option Addr) (n1 c1 : Nat) (l1 : List Int) (A2 : Option Addr) (c2 : Nat) (l2 : List Int) (gS n : Nat) (s : List Int) (g : Nat) (lb : Array Value) (f : Nat → Int → Int) (eg : ∀ args w, (callFunc g args).run Try.prog w = .ok (.enter g args) w) (w : World)
    (h1 : Kd.C (Kd.int .i64) w A1 l1.length l1) (k1 : l1.length ≤ c1) (hn1 : l1.length = n1) (hs : Kd.C (Kd.int .i64) w (some ⟨gS, 0, none⟩) s.length s) (hn : s.length = n) (hl : l1.length = n) (h5 : n ≤ 5) (hp : 0 ≤ prod s ∧ prod s ≤ 10000) (k : Nat) (hk : impl_shapeOk.f k s = some (prod s, true)) (hf : Gives2 g lb f s w) (hrg : ∀ (t : Nat), t < (prod s).toNat → ∀ k : Nat, k < s.length → 0 ≤ rd (idxL s t) (k : Int) ∧ rd (idxL s t) (k : Int) < rd s (k : Int)) :
    CallsIn Fence.wide 9 Try.prog 130 #[.agg #[.bool b, .slice A1 n1 c1, .slice A2 l2.length c2], .slice (some ⟨gS, 0, none⟩) n n, .func (.func g) #[] lb] w fun e w' => ∃ v, e = .returned (.agg #[.slice (some ⟨gS, 0, none⟩) n n, v]) ∧ Kd.R (Kd.int .i64) 3 w' w.heap.size (fun _ => True) v (fromL l1 s f (prod s).toNat) ∧ Below w.heap.size w w' := by
  subst hn hn1
  exact axisP_in b A1 c1 l1 A2 c2 l2 (some ⟨gS, 0, none⟩) s.length s g lb f eg w h1 k1 hs (Nat.le_refl _) hl h5 hp k hk hf hrg
theorem dropL_range (s k : List Int) (n : Nat) (hn : n ≤ s.length) (hs : ∀ x ∈ s, 0 ≤ x ∧ x ≤ 10000) (hk : ∀ x ∈ k, -1000000000000000 ≤ x ∧ x ≤ 1000000000000000) : ∀ x ∈ dropL s k n, 0 ≤ x ∧ x ≤ 10000 := by
  intro x hx
  simp only [dropL, List.mem_map, List.mem_range] at hx
  obtain ⟨i, hi, rfl⟩ := hx
  have h1 := hs _ (rd_mem' s i (by omega))
  unfold mx
  split <;> split <;> omega
set_option maxHeartbeats 2000000 in
set_option maxRecDepth 100000 in
theorem dropMove_same (a : Bool) (Aa1 : Option Addr) (ca1 : Nat) (la1 : List Int) (Aa2 : Option Addr) (ca2 : Nat) (la2 : List Int) (b : Bool) (Ab1 : Option Addr) (cb1 : Nat) (lb1 : List Int) (Ab2 : Option Addr) (cb2 : Nat) (lb2 : List Int) (w : World) (ha1 : Kd.C (Kd.int .i64) w Aa1 la1.length la1) (ka1 : la1.length ≤ ca1) (ha2 : Kd.C (Kd.int .i64) w Aa2 la2.length la2) (ka2 : la2.length ≤ ca2) (hb1 : Kd.C (Kd.int .i64) w Ab1 lb1.length lb1) (kb1 : lb1.length ≤ cb1) (hb2 : Kd.C (Kd.int .i64) w Ab2 lb2.length lb2) (kb2 : lb2.length ≤ cb2) (hx : ∀ W, Below w.heap.size w W → Calls Try.prog 128 #[.agg #[.bool a, .slice Aa1 la1.length ca1, .slice Aa2 la2.length ca2], .agg #[.bool b, .slice Ab1 lb1.length cb1, .slice Ab2 lb2.length cb2]] W fun e w' => e = .returned (.tuple #[.agg #[.bool b, .slice Ab1 lb1.length cb1, .slice Ab2 lb2.length cb2], .int .i64 0]) ∧ Below W.heap.size W w') (hr0 : ∀ x ∈ la2, -1000000000000000 ≤ x ∧ x ≤ 1000000000000000) (hls : la2.length ≤ 10000) (ks : Nat) (hso : impl_shapeOk.f ks (dropL lb1 la2 la2.length) = some (prod (dropL lb1 la2 la2.length), true)) (hsl : lb1.length = la2.length) (h5 : la2.length ≤ 5) (hp : 0 ≤ prod (dropL lb1 la2 la2.length) ∧ prod (dropL lb1 la2 la2.length) ≤ 10000) (hrb : ∀ x ∈ lb1, 0 ≤ x ∧ x ≤ 10000) (hrg : ∀ (t : Nat), t < (prod (dropL lb1 la2 la2.length)).toNat → ∀ k : Nat, k < (dropL lb1 la2 la2.length).length → 0 ≤ rd (idxL (dropL lb1 la2 la2.length) t) (k : Int) ∧ rd (idxL (dropL lb1 la2 la2.length) t) (k : Int) < rd (dropL lb1 la2 la2.length) (k : Int)) :
    Calls Try.prog 98 #[.agg #[.bool a, .slice Aa1 la1.length ca1, .slice Aa2 la2.length ca2], .agg #[.bool b, .slice Ab1 lb1.length cb1, .slice Ab2 lb2.length cb2]] w fun e w' => ∃ A1 c1 A2 c2, e = .returned (.tuple #[.agg #[.slice A1 ((dropL lb1 la2 la2.length) : List Int).length c1, .slice A2 ((fromL lb1 (dropL lb1 la2 la2.length) (fun k i => i + rd (stDrop la2) (k : Int)) (prod (dropL lb1 la2 la2.length)).toNat) : List Int).length c2], .int .i64 0]) ∧ Kd.C (Kd.int .i64) w' A1 ((dropL lb1 la2 la2.length) : List Int).length (dropL lb1 la2 la2.length) ∧ ((dropL lb1 la2 la2.length) : List Int).length ≤ c1 ∧ Kd.C (Kd.int .i64) w' A2 ((fromL lb1 (dropL lb1 la2 la2.length) (fun k i => i + rd (stDrop la2) (k : Int)) (prod (dropL lb1 la2 la2.length)).toNat) : List Int).length (fromL lb1 (dropL lb1 la2 la2.length) (fun k i => i + rd (stDrop la2) (k : Int)) (prod (dropL lb1 la2 la2.length)).toNat) ∧ ((fromL lb1 (dropL lb1 la2 la2.length) (fun k i => i + rd (stDrop la2) (k : Int)) (prod (dropL lb1 la2 la2.length)).toNat) : List Int).length ≤ c2 ∧ Below w.heap.size w w' := by
  have Ha1 := Aside0.mk ha1
  have Ka1 := Aside0.mk ka1
  clear ha1 ka1
  have Ha2 := Aside0.mk ha2
  have Ka2 := Aside0.mk ka2
  clear ha2 ka2
  have Hb1 := Aside0.mk hb1
  have Kb1 := Aside0.mk kb1
  clear hb1 kb1
  have Hb2 := Aside0.mk hb2
  have Kb2 := Aside0.mk kb2
  clear hb2 kb2
  have HX := Aside0.mk hx
  have HR0 := Aside0.mk hr0
  have HSO := Aside0.mk hso
  have hmk := make_rowN la2.length (by omega)
  have HLS := Aside0.mk (show (dropL lb1 la2 la2.length).length ≤ 9223372036854775807 by rw [dropL_len]; omega)
  clear hx hso
  have HSL := Aside0.mk hsl
  have H5 := Aside0.mk h5
  have HP := Aside0.mk hp
  have HRB := Aside0.mk hrb
  have HRS := Aside0.mk (dropL_range lb1 la2 la2.length (by omega) hrb hr0)
  have HRG := Aside0.mk hrg
  clear hsl h5 hp hrb hrg hr0
  have HS := Aside0.mk (Sx.start w)
  go_enter Try.func98, Try.ntmps98
  go_wp2_with (first | ((with_reducible refine gate_dst (N := 2) rfl ?_); refine box_event ?hg (N := 2) ?hd (cs := #[.bool a, .slice Aa1 la1.length ca1, .slice Aa2 la2.length ca2]) (t := 28) ?hr ?_; (case hd => rfl); (case hg => rfl); (case hr => first | (go_simp; done) | (go_simp; rfl)); intro gK hg1 w1 hx1 hb1; have nS : Aside0 (Sx w w1 [(.blk gK #[.bool a, .slice Aa1 la1.length ca1, .slice Aa2 la2.length ca2] 28)]) := Aside0.mk (HS.out.box hg1 hx1 hb1); clear HS; have HS := nS; clear nS hg1 hx1 hb1) | ((with_reducible refine gate_dst (N := 3) rfl ?_); refine box_event ?hg (N := 3) ?hd (cs := #[.bool b, .slice Ab1 lb1.length cb1, .slice Ab2 lb2.length cb2]) (t := 28) ?hr ?_; (case hd => rfl); (case hg => rfl); (case hr => first | (go_simp; done) | (go_simp; rfl)); intro gB hg2 w2 hx2 hb2; have nS : Aside0 (Sx w w2 [(.blk gB #[.bool b, .slice Ab1 lb1.length cb1, .slice Ab2 lb2.length cb2] 28), (.blk gK #[.bool a, .slice Aa1 la1.length ca1, .slice Aa2 la2.length ca2] 28)]) := Aside0.mk (HS.out.box hg2 hx2 hb2); clear HS; have HS := nS; clear nS hg2 hx2 hb2) | ((with_reducible refine gate_dst (N := 4) rfl ?_); refine box_event ?hg (N := 4) ?hd (cs := #[.slice none 0 0, .slice none 0 0]) (t := 70) ?hr ?_; (case hd => rfl); (case hg => rfl); (case hr => first | (go_simp; done) | (go_simp; rfl)); intro gR hg3 w3 hx3 hb3; have nS : Aside0 (Sx w w3 [(.blk gR #[.slice none 0 0, .slice none 0 0] 70), (.blk gB #[.bool b, .slice Ab1 lb1.length cb1, .slice Ab2 lb2.length cb2] 28), (.blk gK #[.bool a, .slice Aa1 la1.length ca1, .slice Aa2 la2.length ca2] 28)]) := Aside0.mk (HS.out.box hg3 hx3 hb3); clear HS; have HS := nS; clear nS hg3 hx3 hb3) | ((with_reducible refine gate_dst (N := 11) rfl ?_); refine wpList_load_row rfl 28 (.tmp 2) rfl gK rfl 28 #[.bool a, .slice Aa1 la1.length ca1, .slice Aa2 la2.length ca2] (0, 0) _ (HS.out.blk 2 rfl) Try.underlying28 rfl (by kernel_rfl) ?_) | ((with_reducible refine gate_dst (N := 12) rfl ?_); refine wpList_load_row rfl 28 (.tmp 3) rfl gB rfl 28 #[.bool b, .slice Ab1 lb1.length cb1, .slice Ab2 lb2.length cb2] (0, 0) _ (HS.out.blk 1 rfl) Try.underlying28 rfl (by kernel_rfl) ?_) | (go_at_call 128; refine (HX.out _ HS.out.below).mono ?_; rintro e w4 ⟨rfl, hb4⟩; have nS : Aside0 (Sx w w4 [(.blk gR #[.slice none 0 0, .slice none 0 0] 70), (.blk gB #[.bool b, .slice Ab1 lb1.length cb1, .slice Ab2 lb2.length cb2] 28), (.blk gK #[.bool a, .slice Aa1 la1.length ca1, .slice Aa2 la2.length ca2] 28)]) := Aside0.mk (HS.out.step hb4); clear HS; have HS := nS; clear nS hb4) | ((with_reducible refine gate_store rfl ?_); refine store_named rfl 28 (.tmp 3) (.tmp 14) rfl gB #[.bool b, .slice Ab1 lb1.length cb1, .slice Ab2 lb2.length cb2] rfl rfl 28 #[.bool b, .slice Ab1 lb1.length cb1, .slice Ab2 lb2.length cb2] (HS.out.blk 1 rfl) (by kernel_rfl) rfl (by simp [Value.oneCell']) ?_; intro w5 hx5 hb5; have nS : Aside0 (Sx w w5 [(.blk gR #[.slice none 0 0, .slice none 0 0] 70), (.blk gB #[.bool b, .slice Ab1 lb1.length cb1, .slice Ab2 lb2.length cb2] 28), (.blk gK #[.bool a, .slice Aa1 la1.length ca1, .slice Aa2 la2.length ca2] 28)]) := Aside0.mk (HS.out.put 1 rfl hx5 hb5); clear HS; have HS := nS; clear nS hx5 hb5) | ((with_reducible refine gate_dst (N := 21) rfl ?_); refine ev_load rfl 22 (.tmp 20) rfl ⟨gK, 2, none⟩ rfl (.slice Aa2 la2.length ca2) ((blk_cell (HS.out.blk 2 rfl) 2).trans rfl) (by kernel_rfl) ?_) | ((with_reducible refine gate_dst (N := 23) rfl ?_); refine lit_event ?hg (N := 23) ?hd (cs := (rowI (List.replicate la2.length 0))) (t := 3) (n := la2.length) ?hr ?_; (case hd => rfl); (case hg => rfl); (case hr => first | (go_simp; done) | (go_simp; rfl)); intro gS hg6 w6 hx6 hb6; have nS : Aside0 (Sx w w6 [(.blk gS (rowI (List.replicate la2.length 0)) 3), (.blk gR #[.slice none 0 0, .slice none 0 0] 70), (.blk gB #[.bool b, .slice Ab1 lb1.length cb1, .slice Ab2 lb2.length cb2] 28), (.blk gK #[.bool a, .slice Aa1 la1.length ca1, .slice Aa2 la2.length ca2] 28)]) := Aside0.mk (HS.out.box hg6 hx6 hb6); clear HS; have HS := nS; clear nS hg6 hx6 hb6) | ((with_reducible refine gate_dst (N := 25) rfl ?_); refine ev_load rfl 22 (.tmp 24) rfl ⟨gK, 2, none⟩ rfl (.slice Aa2 la2.length ca2) ((blk_cell (HS.out.blk 3 rfl) 2).trans rfl) (by kernel_rfl) ?_))
  go_loopw [8, 9, 27] (fun _ _ z wr => ∃ j : Nat, z = .int .i64 (j : Int) ∧ Aside0 (j ≤ la2.length) ∧ Aside0 (Sx w wr [(.blk gS (rowI (dropL lb1 la2 j ++ List.replicate (la2.length - j) 0)) 3), (.blk gR #[.slice none 0 0, .slice none 0 0] 70), (.blk gB #[.bool b, .slice Ab1 lb1.length cb1, .slice Ab2 lb2.length cb2] 28), (.blk gK #[.bool a, .slice Aa1 la1.length ca1, .slice Aa2 la2.length ca2] 28)])) (fun _ _ z _ => la2.length - (intOf z).toNat)
  case atStart => exact ⟨0, rfl, ⟨Nat.zero_le _⟩, ⟨by simpa [dropL] using HS.out⟩⟩
  case round =>
    clear HS
    obtain ⟨j, rfl, hj, HS⟩ := hrel
    by_cases hlt : j < la2.length
    · obtain ⟨ad, rfl, y1⟩ := Kd.at_int (Kd.C_below Ha2.out HS.out.below) (j : Int) (by omega) (by omega)
      rw [Int.toNat_natCast] at y1
      have hb := HR0.out _ (rd_mem' la2 j hlt)
      obtain ⟨n, hne⟩ : ∃ n, n = rd la2 (j : Int) := ⟨_, rfl⟩
      have HN := Aside0.mk hne
      rw [← hne] at y1 hb
      obtain ⟨m_, hme⟩ : ∃ m, (if n < 0 then -n else n) = m := ⟨_, rfl⟩
      have HM := Aside0.mk hme
      have HABS := Aside0.mk ((abs_eq n hb.1 hb.2).trans (by rw [hme]))
      have m0 : 0 ≤ m_ := by rw [← hme]; split <;> omega
      have m1 : m_ ≤ 1000000000000000 := by rw [← hme]; split <;> omega
      obtain ⟨z_, hze⟩ : ∃ z, rd lb1 (j : Int) = z := ⟨_, rfl⟩
      have HZ := Aside0.mk hze
      have hzr := HRB.out _ (rd_mem' lb1 j (by rw [HSL.out]; exact hlt))
      rw [hze] at hzr
      obtain ⟨z0, z1⟩ := hzr
      have p0 : 0 ≤ (j : Int) := by omega
      have p1 : (j : Int) < (la2.length : Int) := by omega
      have HLT := Aside0.mk hlt
      have HL := Aside0.mk (show j < (dropL lb1 la2 j ++ List.replicate (la2.length - j) 0).length by rw [List.length_append, dropL_len, List.length_replicate]; omega)
      obtain ⟨c_, hce⟩ : ∃ c, rd (dropL lb1 la2 j ++ List.replicate (la2.length - j) 0) (j : Int) = c := ⟨_, rfl⟩
      have HC := Aside0.mk hce
      have hw : IntKind.i64.wrap (z_ - m_) = z_ - m_ := IntWalk.i64_in _ (by omega)
      clear hne hme hze hb hce
      obtain ⟨ad2, rfl, y2⟩ := Kd.at_int (Kd.C_below Hb1.out HS.out.below) (j : Int) (by omega) (by have := HSL.out; omega)
      clear y2
      have p2 : (j : Int) < (lb1.length : Int) := by have := HSL.out; omega
      have xB : wr.cell? ⟨gB, 1, none⟩ = some (.slice (some ad2) lb1.length cb1) := (blk_cell (HS.out.blk 2 rfl) 1).trans rfl
      have y2 : wr.cell? (ad2.add j) = some (.int .i64 z_) := (C_at (Kd.C_below Hb1.out (Sx.below (show Sx w _ _ from (by repeat (first | (with_reducible exact HS.out) | (with_reducible apply Sx.drew) | (with_reducible apply Sx.drewN) | (with_reducible apply Sx.alloc)))))) j (by rw [HSL.out]; exact HLT.out)).trans (by rw [HZ.out])
      go_upto_region 8 with fail
      go_region_held3 (fun w' => w'.cell? ⟨gB, 1, none⟩ = some (.slice (some ad2) lb1.length cb1) ∧ w'.cell? (ad2.add j) = some (.int .i64 z_)) ((first | (exact ⟨(blk_cell (Sx.blkM (by repeat (first | (with_reducible exact HS.out) | (with_reducible apply Sx.drew) | (with_reducible apply Sx.drewN) | (with_reducible apply Sx.alloc))) (g := gB) (cs := #[.bool b, .slice (some ad2) lb1.length cb1, .slice Ab2 lb2.length cb2]) (t := 28) (by simp)) 1).trans rfl, (C_at (Kd.C_below Hb1.out (Sx.below (show Sx w _ _ from (by repeat (first | (with_reducible exact HS.out) | (with_reducible apply Sx.drew) | (with_reducible apply Sx.drewN) | (with_reducible apply Sx.alloc)))))) j (by rw [HSL.out]; exact HLT.out)).trans (by rw [HZ.out])⟩) | (exact ⟨(blk_cell (Sx.blkM (HS.out.put 0 rfl (blk_set (HS.out.blk 0 rfl) j _) (But1.set1 gS j _ _)) (g := gB) (cs := #[.bool b, .slice (some ad2) lb1.length cb1, .slice Ab2 lb2.length cb2]) (t := 28) (by simp)) 1).trans rfl, (C_at (Kd.C_below Hb1.out (Sx.below (show Sx w _ _ from (HS.out.put 0 rfl (blk_set (HS.out.blk 0 rfl) j _) (But1.set1 gS j _ _))))) j (by rw [HSL.out]; exact HLT.out)).trans (by rw [HZ.out])⟩))) (first | (go_at_call 129; refine (impl_absolute.calls n m_ _ HABS.out).mono ?_; rintro e wr1 ⟨rfl, hbr1⟩; have nS : Aside0 (Sx w wr1 [(.blk gS (rowI (dropL lb1 la2 j ++ List.replicate (la2.length - j) 0)) 3), (.blk gR #[.slice none 0 0, .slice none 0 0] 70), (.blk gB #[.bool b, .slice (some ad2) lb1.length cb1, .slice Ab2 lb2.length cb2] 28), (.blk gK #[.bool a, .slice Aa1 la1.length ca1, .slice (some ad) la2.length ca2] 28)]) := Aside0.mk ((show Sx w _ [(.blk gS (rowI (dropL lb1 la2 j ++ List.replicate (la2.length - j) 0)) 3), (.blk gR #[.slice none 0 0, .slice none 0 0] 70), (.blk gB #[.bool b, .slice (some ad2) lb1.length cb1, .slice Ab2 lb2.length cb2] 28), (.blk gK #[.bool a, .slice Aa1 la1.length ca1, .slice (some ad) la2.length ca2] 28)] from (by repeat (first | (with_reducible exact HS.out) | (with_reducible apply Sx.drew) | (with_reducible apply Sx.drewN) | (with_reducible apply Sx.alloc)))).step hbr1); clear HS; have HS := nS; clear nS hbr1; have xC : wr1.cell? ⟨gS, j, none⟩ = some (.int .i64 c_) := (rowI_cell (HS.out.blk 0 rfl) j HL.out).trans (by rw [HC.out]); have fC : wr1.frozen? ⟨gS, j, none⟩ = false := blk_frozen (HS.out.blk 0 rfl) j))
      have nS : Aside0 (Sx w (wr1.setCell ⟨gS, j, none⟩ (.int .i64 (if m_ < z_ then z_ - m_ else 0))) [(.blk gS (rowI ((dropL lb1 la2 j ++ List.replicate (la2.length - j) 0).set j (if m_ < z_ then z_ - m_ else 0))) 3), (.blk gR #[.slice none 0 0, .slice none 0 0] 70), (.blk gB #[.bool b, .slice (some ad2) lb1.length cb1, .slice Ab2 lb2.length cb2] 28), (.blk gK #[.bool a, .slice Aa1 la1.length ca1, .slice (some ad) la2.length ca2] 28)]) := Aside0.mk (by have h := HS.out.put 0 rfl (blk_set (HS.out.blk 0 rfl) j (.int .i64 (if m_ < z_ then z_ - m_ else 0))) (But1.set1 gS j _ _); rw [rowI_set] at h; exact h)
      clear HS xC fC hw
      have HS := nS
      clear nS
      go_wp2
      go_roundw
      case rel =>
        refine ⟨j + 1, by push_cast; rfl, ⟨hlt⟩, ⟨?_⟩⟩
        have h := fill_next (dropL lb1 la2 j) (if m_ < z_ then z_ - m_ else 0) la2.length j (dropL_len _ _ _) hlt
        have hq : dropL lb1 la2 (j + 1) = dropL lb1 la2 j ++ [if m_ < z_ then z_ - m_ else 0] := by
          rw [dropL_succ, HZ.out, ← HN.out, HM.out]
          congr 2
          unfold mx
          split <;> split <;> omega
        rw [hq, ← h]
        exact HS.out
      case measure => simp [intOf]; omega
    · obtain rfl : j = la2.length := by have := hj.out; omega
      have HS' : Aside0 (Sx w wr [(.blk gS (rowI (dropL lb1 la2 la2.length)) 3), (.blk gR #[.slice none 0 0, .slice none 0 0] 70), (.blk gB #[.bool b, .slice Ab1 lb1.length cb1, .slice Ab2 lb2.length cb2] 28), (.blk gK #[.bool a, .slice Aa1 la1.length ca1, .slice Aa2 la2.length ca2] 28)]) := Aside0.mk (by have := HS.out; simpa using this)
      clear HS
      have HS := HS'
      clear HS'
      go_wp2_with (first | ((with_reducible refine gate_dst (N := 45) rfl ?_); refine wpList_load_row rfl 28 (.tmp 3) rfl gB rfl 28 #[.bool b, .slice Ab1 lb1.length cb1, .slice Ab2 lb2.length cb2] (0, 0) _ (HS.out.blk 2 rfl) Try.underlying28 rfl (by kernel_rfl) ?_) | (go_at_call 130; refine (callsIn_wide.1 (axisP_n b Ab1 lb1.length cb1 lb1 Ab2 cb2 lb2 gS la2.length (dropL lb1 la2 la2.length) 131 #[.pointer (some ⟨gK, 0, none⟩)] (fun k i => i + rd (stDrop la2) (k : Int)) (enters_of Try.func131 (by kernel_rfl) rfl) _ (Kd.C_below Hb1.out HS.out.below) Kb1.out rfl (rowI_C (HS.out.blk 0 rfl) HLS.out) (dropL_len lb1 la2 la2.length) HSL.out H5.out HP.out ks HSO.out (drop_gives gK a Aa1 _ ca1 Aa2 ca2 la2 (dropL lb1 la2 la2.length) _ (HS.out.blk 3 rfl) (Kd.C_below Ha2.out HS.out.below) (dropL_len lb1 la2 la2.length) HRS.out HR0.out) HRG.out)).mono ?_; rintro e wz1 ⟨v, rfl, hrz1, hbz1⟩; obtain ⟨Av, cv, rfl⟩ := Kd.R_slice hrz1; have nS : Aside0 (Sx w wz1 [(.row (.slice Av (fromL lb1 (dropL lb1 la2 la2.length) (fun k i => i + rd (stDrop la2) (k : Int)) (prod (dropL lb1 la2 la2.length)).toNat).length cv) (fromL lb1 (dropL lb1 la2 la2.length) (fun k i => i + rd (stDrop la2) (k : Int)) (prod (dropL lb1 la2 la2.length)).toNat)), (.blk gS (rowI (dropL lb1 la2 la2.length)) 3), (.blk gR #[.slice none 0 0, .slice none 0 0] 70), (.blk gB #[.bool b, .slice Ab1 lb1.length cb1, .slice Ab2 lb2.length cb2] 28), (.blk gK #[.bool a, .slice Aa1 la1.length ca1, .slice Aa2 la2.length ca2] 28)]) := Aside0.mk (HS.out.addRow hbz1 hrz1); clear HS; have HS := nS; clear nS hbz1 hrz1) | ((with_reducible refine gate_store rfl ?_); refine store_named rfl 70 (.tmp 4) (.tmp 48) rfl gR #[.slice (some ⟨gS, 0, none⟩) la2.length la2.length, .slice Av (fromL lb1 (dropL lb1 la2 la2.length) (fun k i => i + rd (stDrop la2) (k : Int)) (prod (dropL lb1 la2 la2.length)).toNat).length cv] rfl rfl 70 #[.slice none 0 0, .slice none 0 0] (HS.out.blk 2 rfl) (by kernel_rfl) rfl (by simp [Value.oneCell']) ?_; intro wz2 hxz2 hbz2; have nS : Aside0 (Sx w wz2 [(.row (.slice Av (fromL lb1 (dropL lb1 la2 la2.length) (fun k i => i + rd (stDrop la2) (k : Int)) (prod (dropL lb1 la2 la2.length)).toNat).length cv) (fromL lb1 (dropL lb1 la2 la2.length) (fun k i => i + rd (stDrop la2) (k : Int)) (prod (dropL lb1 la2 la2.length)).toNat)), (.blk gS (rowI (dropL lb1 la2 la2.length)) 3), (.blk gR #[.slice (some ⟨gS, 0, none⟩) la2.length la2.length, .slice Av (fromL lb1 (dropL lb1 la2 la2.length) (fun k i => i + rd (stDrop la2) (k : Int)) (prod (dropL lb1 la2 la2.length)).toNat).length cv] 70), (.blk gB #[.bool b, .slice Ab1 lb1.length cb1, .slice Ab2 lb2.length cb2] 28), (.blk gK #[.bool a, .slice Aa1 la1.length ca1, .slice Aa2 la2.length ca2] 28)]) := Aside0.mk (HS.out.put 2 rfl hxz2 hbz2); clear HS; have HS := nS; clear nS hxz2 hbz2))
      refine bodyPost_ret (results_ct rfl _ _ gR 70 #[.slice (some ⟨gS, 0, none⟩) la2.length la2.length, .slice Av (fromL lb1 (dropL lb1 la2 la2.length) (fun k i => i + rd (stDrop la2) (k : Int)) (prod (dropL lb1 la2 la2.length)).toNat).length cv] (0, 0) _ rfl (HS.out.blk 2 rfl) Try.underlying70 rfl (by kernel_rfl)) rfl ?_
      exact ⟨some ⟨gS, 0, none⟩, la2.length, Av, cv, by rw [dropL_len]; rfl, rowI_C (HS.out.blk 1 rfl) HLS.out, by rw [dropL_len]; exact Nat.le_refl _, HS.out.C 0 rfl, HS.out.cap 0 rfl, HS.out.below⟩
end Go.Proofs.Ytehfcnndjhjkoaa.PA

namespace Go.Proofs.Ytehfcnndjhjkoaa.PA
open Go.RowKit Go.Proofs.YtehfcnndjhjkoaaW.PrintWords Go.Proofs.YtehfcnndjhjkoaaW.PrintLast Go.Proofs.YtehfcnndjhjkoaaW.PrintMore
set_option linter.unusedVariables false
set_option linter.unusedSimpArgs false
theorem shGo_less : ∀ (l m : List Int) (f g : Int), 1 ≤ f → f ≤ g → l.length = m.length → (∀ i : Nat, i < l.length → 0 ≤ rd l (i : Int) ∧ rd l (i : Int) ≤ rd m (i : Int)) → shGo g m = true → shGo f l = true
  | [], _, _, _, _, _, _, _, _ => rfl
  | a :: t, [], _, _, _, _, h, _, _ => by simp at h
  | a :: t, b :: u, f, g, h1, hfg, hl, hle, h => by
    have h0 := hle 0 (by simp)
    have h0' : 0 ≤ a ∧ a ≤ b := h0
    have ht : ∀ i : Nat, i < t.length → 0 ≤ rd t (i : Int) ∧ rd t (i : Int) ≤ rd u (i : Int) := fun i hi => by
      have := hle (i + 1) (by simp; omega)
      simpa [rd, List.getD_eq_getElem?_getD, show ((i : Int) + 1).toNat = i + 1 by omega] using this
    simp only [shGo, Bool.and_eq_true, decide_eq_true_eq] at h ⊢
    refine ⟨by omega, ?_⟩
    have hl' : t.length = u.length := by simpa using hl
    by_cases ha : a = 0
    · rw [if_pos ha]
      by_cases hb : b = 0
      · rw [if_pos hb] at h; exact shGo_less t u f g h1 hfg hl' ht h.2
      · rw [if_neg hb] at h
        simp only [Bool.and_eq_true, decide_eq_true_eq] at h
        have : g * 1 ≤ g * b := Int.mul_le_mul_of_nonneg_left (by omega) (by omega)
        exact shGo_less t u f (g * b) h1 (by omega) hl' ht h.2.2
    · rw [if_neg ha]
      rw [if_neg (by omega)] at h
      simp only [Bool.and_eq_true, decide_eq_true_eq] at h ⊢
      have h2 : f * a ≤ g * b := Int.mul_le_mul hfg h0'.2 h0'.1 (by omega)
      have h3 : f * 1 ≤ f * a := Int.mul_le_mul_of_nonneg_left (by omega) (by omega)
      exact ⟨by omega, shGo_less t u (f * a) (g * b) (by omega) h2 hl' ht h.2.2⟩
theorem dropL_rd (s k : List Int) (n i : Nat) (h : i < n) : rd (dropL s k n) (i : Int) = mx 0 (rd s (i : Int) - (if rd k (i : Int) < 0 then -rd k (i : Int) else rd k (i : Int))) := rd_range _ _ _ h
theorem dropL_ok (s k : List Int) (n : Nat) (hn : s.length = n) (hs : shOk s = true) : shOk (dropL s k n) = true := by
  have hr := shOk_range hs
  simp only [shOk, Bool.and_eq_true, decide_eq_true_eq] at hs ⊢
  refine ⟨by rw [dropL_len]; omega, shGo_less _ s 1 1 (by omega) (by omega) (by rw [dropL_len]; omega) (fun i hi => ?_) hs.2⟩
  rw [dropL_len] at hi
  rw [dropL_rd _ _ _ _ hi]
  have := hr _ (rd_mem' s i (by omega))
  unfold mx
  split <;> split <;> omega
end Go.Proofs.Ytehfcnndjhjkoaa.PA

namespace Go.Proofs.Ytehfcnndjhjkoaa.PA
open Go.RowKit Go.Proofs.YtehfcnndjhjkoaaW.PrintWords Go.Proofs.YtehfcnndjhjkoaaW.PrintLast Go.Proofs.YtehfcnndjhjkoaaW.PrintMore
set_option linter.unusedVariables false
set_option linter.unusedSimpArgs false
def dropV (a : Bool) (l1 l2 : List Int) (b : Bool) (m1 m2 : List Int) : ArrAns :=
  if (arrOk a l1 l2 && arrOk b m1 m2) = true then (if cntC a l1 l2 m1 = 0 then (b, dropL (sOf l2 m1) l2 l2.length, winL b (sOf l2 m1) m2 (dropL (sOf l2 m1) l2 l2.length) (stDrop l2) (prod (dropL (sOf l2 m1) l2 l2.length)).toNat, 0) else noArr (cntC a l1 l2 m1)) else noArr 3
theorem shOk_ones : ∀ (n : Nat), shGo 1 (List.replicate n 1) = true
  | 0 => rfl
  | n + 1 => by rw [List.replicate_succ]; simp [shGo, shOk_ones n]
theorem sOf_ok {a : Bool} {l1 l2 m1 : List Int} (h : cntC a l1 l2 m1 = 0) (hs : shOk m1 = true) : shOk (sOf l2 m1) = true := by
  have h5 := cnt_five h (shOk_len hs)
  unfold sOf
  split
  · simp only [shOk, List.length_replicate, Bool.and_eq_true, decide_eq_true_eq]
    exact ⟨h5, shOk_ones _⟩
  · exact hs
def spec_Drop.f (k : Nat) (a : Bool) (l1 l2 : List Int) (b : Bool) (m1 m2 : List Int) : Option ArrAns := if okLens l1 l2 m1 m2 then some (dropV a l1 l2 b m1 m2) else none
def impl_Drop.f (a : Bool) (l1 l2 : List Int) (b : Bool) (m1 m2 : List Int) : Option ArrAns := if okLens l1 l2 m1 m2 then some (dropV a l1 l2 b m1 m2) else none
end Go.Proofs.Ytehfcnndjhjkoaa.PA

-- By a program (prt.py, over the print of the kit), for this claim. Not trusted: Lean checks it.
namespace Go.Proofs.Ytehfcnndjhjkoaa.PA
open Go.RowKit Go.Proofs.YtehfcnndjhjkoaaW.PrintWords Go.Proofs.YtehfcnndjhjkoaaW.PrintLast Go.Proofs.YtehfcnndjhjkoaaW.PrintMore
attribute [local go_sem] max2_int min2_int max_two min_two max_three min_three max_four min_four   -- for this text's walks alone
set_option linter.unusedVariables false
set_option linter.unusedSimpArgs false

/-! ### spec_l4Without: function 88 -/
def spec_l4Without.f (l0 : List Int) (a1 : Bool) : Option (List Int) := if a1 = true then (if 1 ≤ (l0.length : Int) then ((spec_l3Ints.f (l0.drop 1)).bind fun t102 => (some t102)) else (none)) else (if 0 ≤ (wrap64 ((l0.length : Int) - 1)) then (if (wrap64 ((l0.length : Int) - 1)) ≤ (l0.length : Int) then ((spec_l3Ints.f (l0.take ((wrap64 ((l0.length : Int) - 1)) : Int).toNat)).bind fun t106 => (some t106)) else (none)) else (none))

end Go.Proofs.Ytehfcnndjhjkoaa.PA

namespace Go.Proofs.Ytehfcnndjhjkoaa.PA
open Go.RowKit Go.Proofs.YtehfcnndjhjkoaaW.PrintWords Go.Proofs.YtehfcnndjhjkoaaW.PrintLast Go.Proofs.YtehfcnndjhjkoaaW.PrintMore
set_option linter.unusedVariables false
set_option linter.unusedSimpArgs false
theorem shGo_pre : ∀ (p : List Int) (f y : Int), shGo f (p ++ [y]) = true → shGo f p = true
  | [], f, y, h => rfl
  | x :: p, f, y, h => by
    simp only [List.cons_append, shGo, Bool.and_eq_true, decide_eq_true_eq] at h ⊢
    refine ⟨h.1, ?_⟩
    have h2 := h.2
    by_cases hx : x = 0
    · rw [if_pos hx] at h2 ⊢; exact shGo_pre p f y h2
    · rw [if_neg hx] at h2 ⊢
      simp only [Bool.and_eq_true, decide_eq_true_eq] at h2 ⊢
      exact ⟨h2.1, shGo_pre p (f * x) y h2.2⟩
theorem shGo_app1 : ∀ (p : List Int) (f : Int), 0 ≤ f → f ≤ 10000 → shGo f p = true → shGo f (p ++ [1]) = true
  | [], f, h0, h1, h => by simp [shGo]; omega
  | x :: p, f, h0, h1, h => by
    simp only [List.cons_append, shGo, Bool.and_eq_true, decide_eq_true_eq] at h ⊢
    refine ⟨h.1, ?_⟩
    have h2 := h.2
    by_cases hx : x = 0
    · rw [if_pos hx] at h2 ⊢; exact shGo_app1 p f h0 h1 h2
    · rw [if_neg hx] at h2 ⊢
      simp only [Bool.and_eq_true, decide_eq_true_eq] at h2 ⊢
      exact ⟨h2.1, shGo_app1 p (f * x) (Int.mul_nonneg h0 h.1.1) h2.1 h2.2⟩
theorem catL_sh {l1 m1 : List Int} (h : shOk l1 = true) (k : shOk m1 = true) : shOk (catL1 l1 m1) = true ∧ (catL1 l1 m1).length ≠ 0 := by
  unfold catL1
  split
  · refine ⟨?_, by simp⟩
    by_cases hy : m1.length = 0
    · have e1 : m1 = [] := List.length_eq_zero_iff.1 hy
      subst e1; decide
    · exact shOk_one k hy
  · split
    · rename_i h0 h1
      have h5 := shOk_len k
      simp only [shOk, Bool.and_eq_true, decide_eq_true_eq] at h ⊢
      exact ⟨⟨by simp; omega, shGo_app1 _ _ (by omega) (by omega) h.2⟩, by simp⟩
    · rename_i h0 h1
      exact ⟨h, h0⟩
/-- A shape's last number and what stands before it. -/
theorem sh_last {L : List Int} (h : shOk L = true) (h0 : L.length ≠ 0) : ∃ (P : List Int) (m N : Nat), L = P ++ [(m : Int)] ∧ L.dropLast = P ∧ lastOf L = (m : Int) ∧ shOk P = true ∧ prod P = (N : Int) ∧ N ≤ 10000 ∧ m ≤ 10000 ∧ P.length ≤ 5 ∧ prod L = ((N * m : Nat) : Int) := by
  have hne : L ≠ [] := by intro e; subst e; simp at h0
  obtain ⟨P, y, rfl⟩ : ∃ p y, L = p ++ [y] := ⟨L.dropLast, L.getLast hne, (List.dropLast_concat_getLast hne).symm⟩
  have hr := shOk_range h y (by simp)
  have h5 := shOk_len h
  have hP : shOk P = true := by
    simp only [shOk, Bool.and_eq_true, decide_eq_true_eq] at h ⊢
    refine ⟨by have := h.1; simp at this; omega, shGo_pre P 1 y h.2⟩
  have hp := shOk_prod hP
  refine ⟨P, y.toNat, (prod P).toNat, by rw [Int.toNat_of_nonneg hr.1], by simp, ?_, hP, by omega, by omega, by omega, by simp at h5; omega, ?_⟩
  · simp only [lastOf, List.length_append, List.length_singleton]
    rw [show ((P.length + 1 : Nat) : Int) - 1 = (P.length : Int) by omega, rd_mid P [] y]; omega
  · rw [prod_app1, Int.natCast_mul, Int.toNat_of_nonneg hp.1, Int.toNat_of_nonneg hr.1]
end Go.Proofs.Ytehfcnndjhjkoaa.PA

namespace Go.Proofs.Ytehfcnndjhjkoaa.PA
open Go.RowKit Go.Proofs.YtehfcnndjhjkoaaW.PrintWords Go.Proofs.YtehfcnndjhjkoaaW.PrintLast Go.Proofs.YtehfcnndjhjkoaaW.PrintMore
set_option linter.unusedVariables false
set_option linter.unusedSimpArgs false
theorem win_one (b : Bool) (D : List Int) (s m : Nat) (hD : D.length ≤ 10000) (h : s + m ≤ D.length) : ∀ M : Nat, M ≤ m → winL b [(D.length : Int)] D [(m : Int)] [(s : Int)] M = (D.drop s).take M
  | 0, _ => by simp [winL, fromL, ofL]
  | M + 1, hM => by
    have ih := win_one b D s m hD h M (by omega)
    have hi : idxL [(m : Int)] M = [(M : Int)] := by
      rw [idxL_of (by intro a ha; simp at ha; omega) (by simp [prod]; omega)]
      simp [digs, digR, Int.emod_eq_of_lt (show (0 : Int) ≤ (M : Int) by omega) (show (M : Int) < (m : Int) by omega)]
    have hx : rd [(s : Int)] ((0 : Nat) : Int) = (s : Int) := rfl
    have hn : rd [(D.length : Int)] ((0 : Nat) : Int) = (D.length : Int) := rfl
    have hf : fromOne [(D.length : Int)] (winF [(s : Int)]) [(M : Int)] = ((s + M : Nat) : Int) := by
      unfold fromOne
      have ht : thrGo [(D.length : Int)] (winF [(s : Int)]) 0 true [(M : Int)] = true := by
        simp only [thrGo, Bool.true_and]
        refine decide_eq_true ?_
        rw [show winF [(s : Int)] 0 (M : Int) = (M : Int) + (s : Int) from rfl, hn, w64 (by omega) (by omega)]
        omega
      rw [if_pos ht]
      simp only [srcGo, numGo]
      rw [show winF [(s : Int)] 0 (M : Int) = (M : Int) + (s : Int) from rfl, hn, w64 (x := 0 * (D.length : Int)) (by omega) (by omega), w64 (by omega) (by omega)]
      omega
    rw [winL_succ, ih, hi, hf]
    have hlt : s + M < D.length := by omega
    have hv : ofV b D ((s + M : Nat) : Int) = D[s + M] := by
      unfold ofV
      rw [if_pos (by omega)]
      simp only [rd, Int.toNat_natCast]
      simp [hlt]
    rw [hv]
    rw [List.take_succ_eq_append_getElem (by simp; omega)]
    simp
theorem arrOk_k (k : Int) (h : -10000 ≤ k ∧ k ≤ 10000) : arrOk false [] [k] = true := by
  simp [arrOk, shOk, shGo, cnt, prod, cellOk]
  omega
section
variable {b : Bool} {D : List Int} (hok : arrOk b [(D.length : Int)] D = true) {k : Nat} (hk : k ≤ D.length)
include hok hk
theorem shOk_k : shOk [(k : Int)] = true := by
  have := (arrOk_len hok).2
  simp [shOk, shGo]
  omega
theorem cnt_k (x : Int) : cntC false [] [x] [(D.length : Int)] = 0 := by
  have := hok; have := hk
  simp [cntC, listC]
theorem take_vec : takeV false [] [(k : Int)] b [(D.length : Int)] D = (b, [(k : Int)], D.take k, 0) := by
  have hD := (arrOk_len hok).2
  unfold takeV
  have ha : absL [(k : Int)] = [(k : Int)] := by simp [absL]; omega
  have hs : stTake (sOf [(k : Int)] [(D.length : Int)]) [(k : Int)] = [((0 : Nat) : Int)] := by simp [stTake, sOf, rd]; omega
  rw [hok, arrOk_k _ (by omega), if_pos (by rfl), if_pos (cnt_k hok hk _), ha, if_pos (shOk_k hok hk), hs]
  have hso : sOf [(k : Int)] [(D.length : Int)] = [(D.length : Int)] := by simp [sOf]
  have hpk : (prod [(k : Int)]).toNat = k := by simp [prod]
  rw [hso, hpk, win_one b D 0 k hD (by omega) k (Nat.le_refl _), List.drop_zero]
theorem take_neg : takeV false [] [-(k : Int)] b [(D.length : Int)] D = (b, [(k : Int)], D.drop (D.length - k), 0) := by
  have hD := (arrOk_len hok).2
  unfold takeV
  have ha : absL [-(k : Int)] = [(k : Int)] := by simp [absL]; omega
  have hso : sOf [-(k : Int)] [(D.length : Int)] = [(D.length : Int)] := by simp [sOf]
  rw [hok, arrOk_k _ (by omega), if_pos (by rfl), if_pos (cnt_k hok hk _), ha, if_pos (shOk_k hok hk), hso]
  have hpk : (prod [(k : Int)]).toNat = k := by simp [prod]
  rw [hpk]
  by_cases h0 : k = 0
  · subst h0
    simp [winL, fromL, ofL]
  · have hs : stTake [(D.length : Int)] [-(k : Int)] = [((D.length - k : Nat) : Int)] := by simp [stTake, rd]; omega
    rw [hs, win_one b D (D.length - k) k hD (by omega) k (Nat.le_refl _), List.take_of_length_le (by simp; omega)]
theorem drop_vec : dropV false [] [(k : Int)] b [(D.length : Int)] D = (b, [((D.length - k : Nat) : Int)], D.drop k, 0) := by
  have hD := (arrOk_len hok).2
  unfold dropV
  have hso : sOf [(k : Int)] [(D.length : Int)] = [(D.length : Int)] := by simp [sOf]
  have hl : dropL [(D.length : Int)] [(k : Int)] [(k : Int)].length = [((D.length - k : Nat) : Int)] := by
    simp [dropL, rd, mx]
    split <;> omega
  have hs : stDrop [(k : Int)] = [(k : Int)] := by
    simp [stDrop, rd, mx]
    try omega
  rw [hok, arrOk_k _ (by omega), if_pos (by rfl), if_pos (cnt_k hok hk _), hso, hl, hs]
  have hpk : (prod [((D.length - k : Nat) : Int)]).toNat = D.length - k := by simp [prod]
  rw [hpk, win_one b D k (D.length - k) hD (by omega) _ (Nat.le_refl _), List.take_of_length_le (by simp)]
theorem drop_neg : dropV false [] [-(k : Int)] b [(D.length : Int)] D = (b, [((D.length - k : Nat) : Int)], D.take (D.length - k), 0) := by
  have hD := (arrOk_len hok).2
  unfold dropV
  have hso : sOf [-(k : Int)] [(D.length : Int)] = [(D.length : Int)] := by simp [sOf]
  have hl : dropL [(D.length : Int)] [-(k : Int)] [-(k : Int)].length = [((D.length - k : Nat) : Int)] := by
    simp [dropL, rd, mx]
    repeat' split
    all_goals omega
  have hs : stDrop [-(k : Int)] = [((0 : Nat) : Int)] := by
    simp [stDrop, rd, mx]
    try omega
  rw [hok, arrOk_k _ (by omega), if_pos (by rfl), if_pos (cnt_k hok hk _), hso, hl, hs]
  have hpk : (prod [((D.length - k : Nat) : Int)]).toNat = D.length - k := by simp [prod]
  rw [hpk, win_one b D 0 (D.length - k) hD (by omega) _ (Nat.le_refl _), List.drop_zero]
end
theorem cat_vec (b : Bool) (A B : List Int) (hA : arrOk b [(A.length : Int)] A = true) (hB : arrOk b [(B.length : Int)] B = true) (h : A.length + B.length ≤ 10000) : catV b [(A.length : Int)] A b [(B.length : Int)] B = (b, [((A ++ B).length : Int)], A ++ B, 0) := by
  unfold catV
  have c1 : catL1 [(A.length : Int)] [(B.length : Int)] = [(A.length : Int)] := by simp [catL1]
  have c2 : catL1 [(B.length : Int)] [(A.length : Int)] = [(B.length : Int)] := by simp [catL1]
  have c3 : catL2 [(A.length : Int)] A [(B.length : Int)] = A := by simp [catL2]
  have c4 : catL2 [(B.length : Int)] B [(A.length : Int)] = B := by simp [catL2]
  have l1 : lastOf [(A.length : Int)] = (A.length : Int) := by simp [lastOf, rd]
  have l2 : lastOf [(B.length : Int)] = (B.length : Int) := by simp [lastOf, rd]
  rw [hA, hB, if_pos (by rfl), c1, c2, c3, c4, l1, l2, if_pos (show ([(A.length : Int)] : List Int).length = ([(B.length : Int)] : List Int).length from rfl), if_pos (show ([(A.length : Int)] : List Int).dropLast = ([(B.length : Int)] : List Int).dropLast from rfl), if_neg (fun hh => hh.1 rfl)]
  have hs : shOk ([(A.length : Int)].dropLast ++ [(A.length : Int) + (B.length : Int)]) = true := by
    simp [shOk, shGo]
    omega
  rw [if_pos hs]
  have hr : catRows A B (A.length : Int).toNat (B.length : Int).toNat (prod ([(A.length : Int)] : List Int).dropLast).toNat = A ++ B := by
    simp [prod, catRows]
  rw [hr]
  simp
end Go.Proofs.Ytehfcnndjhjkoaa.PA

namespace Go.Proofs.Ytehfcnndjhjkoaa.PA
open Go.RowKit Go.Proofs.YtehfcnndjhjkoaaW.PrintWords Go.Proofs.YtehfcnndjhjkoaaW.PrintLast Go.Proofs.YtehfcnndjhjkoaaW.PrintMore
set_option linter.unusedVariables false
set_option linter.unusedSimpArgs false
attribute [local go_sem] Oper.semAt_some
theorem Sx.rowB {w W : World} {Ts : List Th} (h : Sx w W Ts) (i : Nat) {g : Nat} {l : List Int} (hi : Ts[i]? = some (.blk g (rowI l) 3)) (hm : l.length ≤ 1000000) : Sx w W (Ts.set i (.row (.slice (some ⟨g, 0, none⟩) l.length l.length) l)) :=
  h.repl i hi (R_of_blk (h.blk i hi) (h.get i hi).2 hm) (fun _ _ _ => rfl) (fun k hk => .inl (by simp only [Th.on, Value.ownBlock] at hk ⊢; injection hk with e; exact e.symm)) h.below
theorem Sx.permB {w W : World} {Ts Us : List Th} (h : Sx w W Ts) (p : Ts.Perm Us) : Sx w W Us :=
  ⟨h.below, fun T hT => h.ok T (p.mem_iff.2 hT), (p.pairwise_iff (fun h k hb ha => h k ha hb)).1 h.nod⟩
def ofT (c : Bool) (l fr : List Int) (t : Nat) : List Int := ofL c l (fr.take t) ++ List.replicate (fr.length - t) 0
theorem ofT_zero (c : Bool) (l fr : List Int) : ofT c l fr 0 = List.replicate fr.length 0 := by simp [ofT, ofL]
theorem ofT_all (c : Bool) (l fr : List Int) : ofT c l fr fr.length = ofL c l fr := by simp [ofT]
theorem ofT_len (c : Bool) (l fr : List Int) (t : Nat) (h : t ≤ fr.length) : (ofT c l fr t).length = fr.length := by simp [ofT, ofL]; omega
theorem ofT_set (c : Bool) (l fr : List Int) (t : Nat) (h : t < fr.length) (x y : Int) (hx : x = rd fr (t : Int)) (hy : y = ofV c l x) : (ofT c l fr t).set t y = ofT c l fr (t + 1) := by
  obtain ⟨m, hm⟩ : ∃ m, fr.length - t = m + 1 := ⟨fr.length - t - 1, by omega⟩
  have e1 : fr.take (t + 1) = fr.take t ++ [x] := by rw [List.take_succ_eq_append_getElem h, hx]; simp [rd, h]
  unfold ofT
  rw [e1, hm, show fr.length - (t + 1) = m by omega, List.replicate_succ, set_once _ _ _ _ _ (by simp [ofL]; omega)]
  simp [ofL, hy]
theorem ofT_fill (c : Bool) (l fr : List Int) (t : Nat) (h : t < fr.length) (z y : Int) : ((ofT c l fr t).set t z).set t y = (ofT c l fr t).set t y := by simp
theorem rd_memM (l : List Int) (i : Nat) (h : i < l.length) : rd l (i : Int) ∈ l := by simp only [rd, Int.toNat_natCast, List.getD_eq_getElem?_getD, List.getElem?_eq_getElem h, Option.getD_some]; exact List.getElem_mem h
set_option maxHeartbeats 2000000 in
set_option maxRecDepth 100000 in
theorem moveOf_any (A1 : Option Addr) (c1 : Nat) (sh : List Int) (A2 : Option Addr) (c2 : Nat) (fr : List Int) (a : Bool) (Aa1 : Option Addr) (ca1 : Nat) (la1 : List Int) (Aa2 : Option Addr) (ca2 : Nat) (la2 : List Int) (w : World) (h1 : Kd.C (Kd.int .i64) w A1 sh.length sh) (k1 : sh.length ≤ c1) (h2 : Kd.C (Kd.int .i64) w A2 fr.length fr) (k2 : fr.length ≤ c2) (ha1 : Kd.C (Kd.int .i64) w Aa1 la1.length la1) (ka1 : la1.length ≤ ca1) (ha2 : Kd.C (Kd.int .i64) w Aa2 la2.length la2) (ka2 : la2.length ≤ ca2) (hsl : sh.length < 17592186044416) (hfl : fr.length ≤ 1000000) (hx : ∀ x ∈ fr, x < la2.length) :
    Calls Try.prog 107 #[.agg #[.slice A1 sh.length c1, .slice A2 fr.length c2], .agg #[.bool a, .slice Aa1 la1.length ca1, .slice Aa2 la2.length ca2]] w fun e w' => ∃ v1_ v2_ : Value, e = .returned (.agg #[.bool a, v1_, v2_]) ∧ Kd.R (Kd.int .i64) 3 w' w.heap.size (fun k_ => some k_ ≠ (v2_ : Value).ownBlock) v1_ sh ∧ Kd.R (Kd.int .i64) 3 w' w.heap.size (fun k_ => some k_ ≠ (v1_ : Value).ownBlock) v2_ (ofL a la2 fr) ∧ Below w.heap.size w w' := by
  have Ha1 := Aside0.mk ha1
  have Ka1 := Aside0.mk ka1
  clear ha1 ka1
  have Ha2 := Aside0.mk ha2
  have Ka2 := Aside0.mk ka2
  clear ha2 ka2
  have H1 := Aside0.mk h1
  have K1 := Aside0.mk k1
  have H2 := Aside0.mk h2
  have K2 := Aside0.mk k2
  have HSL := Aside0.mk hsl
  have HFL := Aside0.mk hfl
  have HXB := Aside0.mk hx
  have hmk := make_rowN fr.length hfl
  clear h1 k1 h2 k2 hsl hfl hx
  have HS := Aside0.mk (Sx.start w)
  go_enter Try.func107, Try.ntmps107
  go_upto_region 1 with (first | ((with_reducible refine gate_dst (N := 2) rfl ?_); refine box_event ?hg (N := 2) ?hd (cs := #[.slice A1 sh.length c1, .slice A2 fr.length c2]) (t := 70) ?hr ?_; (case hd => rfl); (case hg => rfl); (case hr => first | (go_simp; done) | (go_simp; rfl)); intro gM hg1 w1 hx1 hb1; have nS : Aside0 (Sx w w1 [(.blk gM #[.slice A1 sh.length c1, .slice A2 fr.length c2] 70)]) := Aside0.mk (HS.out.box hg1 hx1 hb1); clear HS; have HS := nS; clear nS hg1 hx1 hb1) | ((with_reducible refine gate_dst (N := 3) rfl ?_); refine box_event ?hg (N := 3) ?hd (cs := #[.bool a, .slice Aa1 la1.length ca1, .slice Aa2 la2.length ca2]) (t := 28) ?hr ?_; (case hd => rfl); (case hg => rfl); (case hr => first | (go_simp; done) | (go_simp; rfl)); intro gA hg2 w2 hx2 hb2; have nS : Aside0 (Sx w w2 [(.blk gA #[.bool a, .slice Aa1 la1.length ca1, .slice Aa2 la2.length ca2] 28), (.blk gM #[.slice A1 sh.length c1, .slice A2 fr.length c2] 70)]) := Aside0.mk (HS.out.box hg2 hx2 hb2); clear HS; have HS := nS; clear nS hg2 hx2 hb2) | ((with_reducible refine gate_dst (N := 4) rfl ?_); refine box_event ?hg (N := 4) ?hd (cs := #[.bool false, .slice none 0 0, .slice none 0 0]) (t := 28) ?hr ?_; (case hd => rfl); (case hg => rfl); (case hr => first | (go_simp; done) | (go_simp; rfl)); intro gR hg3 w3 hx3 hb3; have nS : Aside0 (Sx w w3 [(.blk gR #[.bool false, .slice none 0 0, .slice none 0 0] 28), (.blk gA #[.bool a, .slice Aa1 la1.length ca1, .slice Aa2 la2.length ca2] 28), (.blk gM #[.slice A1 sh.length c1, .slice A2 fr.length c2] 70)]) := Aside0.mk (HS.out.box hg3 hx3 hb3); clear HS; have HS := nS; clear nS hg3 hx3 hb3))
  have nS := Aside0.mk HS.out.drew
  clear HS
  have HS := nS
  clear nS
  refine start_ (n := 12) (S := (fun w' => w'.cell? ⟨gA, 0, none⟩ = some (.bool a) ∧ w'.cell? ⟨gM, 0, none⟩ = some (.slice A1 sh.length c1) ∧ w'.cell? ⟨gM, 1, none⟩ = some (.slice A2 fr.length c2))) (ds := [11]) #[false, false, false, false, false, false, false, false, false, false, false, false] (by kernel_rfl) rfl rfl ⟨(blk_cell (HS.out.blk 1 rfl) 0).trans rfl, (blk_cell (HS.out.blk 2 rfl) 0).trans rfl, (blk_cell (HS.out.blk 2 rfl) 1).trans rfl⟩ (fun hHeld => ?_)
  refine pure_ (i := 0) (N := (some 8)) (v := ?_) (a' := ?_) #[true, false, false, false, false, false, false, false, false, false, false, false] rfl rfl (by kernel_rfl) (fun _ _ _ h => h) (Or.inl ⟨by rfl, ?_⟩) ?_ ?_
  rotate_left
  · intro w'
    go_simp
    with_reducible rfl
  rotate_left
  · simp only [Act.put, List.setIfInBounds_toArray, List.set_cons_zero, List.set_cons_succ]
    rfl
  refine take_ (i := 1) (N := (some 9)) (v := ?_) (a' := ?_) #[true, true, false, false, false, false, false, false, false, false, false, false] rfl rfl (by kernel_rfl) (fun _ _ _ h => h) (Or.inl ⟨by rfl, ?_⟩) hHeld ?_ ?_
  rotate_left
  · rintro w' ⟨s0, s1, s2⟩
    go_simp
    with_reducible rfl
  rotate_left
  · simp only [Act.put, List.setIfInBounds_toArray, List.set_cons_zero, List.set_cons_succ]
    rfl
  refine pure_ (i := 2) (N := (some 10)) (v := ?_) (a' := ?_) #[true, true, true, false, false, false, false, false, false, false, false, false] rfl rfl (by kernel_rfl) (fun _ _ _ h => h) (Or.inl ⟨by rfl, ?_⟩) ?_ ?_
  rotate_left
  · intro w'
    go_simp
    with_reducible rfl
  rotate_left
  · simp only [Act.put, List.setIfInBounds_toArray, List.set_cons_zero, List.set_cons_succ]
    rfl
  refine take_ (i := 3) (N := (some 11)) (v := ?_) (a' := ?_) #[true, true, true, true, false, false, false, false, false, false, false, false] rfl rfl (by kernel_rfl) (fun _ _ _ h => h) (Or.inl ⟨by rfl, ?_⟩) hHeld ?_ ?_
  rotate_left
  · rintro w' ⟨s0, s1, s2⟩
    go_simp
    with_reducible rfl
  rotate_left
  · simp only [Act.put, List.setIfInBounds_toArray, List.set_cons_zero, List.set_cons_succ]
    rfl
  refine pure_ (i := 5) (N := (some 13)) (v := ?_) (a' := ?_) #[true, true, true, true, false, true, false, false, false, false, false, false] rfl rfl (by kernel_rfl) (fun _ _ _ h => h) (Or.inl ⟨by rfl, ?_⟩) ?_ ?_
  rotate_left
  · intro w'
    go_simp
    with_reducible rfl
  rotate_left
  · simp only [Act.put, List.setIfInBounds_toArray, List.set_cons_zero, List.set_cons_succ]
    rfl
  refine take_ (i := 6) (N := (some 14)) (v := ?_) (a' := ?_) #[true, true, true, true, false, true, true, false, false, false, false, false] rfl rfl (by kernel_rfl) (fun _ _ _ h => h) (Or.inl ⟨by rfl, ?_⟩) hHeld ?_ ?_
  rotate_left
  · rintro w' ⟨s0, s1, s2⟩
    go_simp
    with_reducible rfl
  rotate_left
  · simp only [Act.put, List.setIfInBounds_toArray, List.set_cons_zero, List.set_cons_succ]
    rfl
  refine pure_ (i := 7) (N := (some 15)) (v := ?_) (a' := ?_) #[true, true, true, true, false, true, true, true, false, false, false, false] rfl rfl (by kernel_rfl) (fun _ _ _ h => h) (Or.inl ⟨by rfl, ?_⟩) ?_ ?_
  rotate_left
  · intro w'
    go_simp
    with_reducible rfl
  rotate_left
  · simp only [Act.put, List.setIfInBounds_toArray, List.set_cons_zero, List.set_cons_succ]
    rfl
  refine join_ (σ := Option Addr × Nat × Nat × Nat) 1 #[true, true, true, true, true, true, true, true, true, true, true, false] (fun s_ => [(12, .slice s_.1 sh.length s_.2.1), (16, .slice (some ⟨s_.2.2.1, 0, none⟩) fr.length fr.length), (5, .pointer (some ⟨s_.2.2.2, 0, none⟩)), (17, .agg #[.bool a, .slice s_.1 sh.length s_.2.1, .slice (some ⟨s_.2.2.1, 0, none⟩) fr.length fr.length])]) (fun s_ w' => Sx w w' [(.blk s_.2.2.2 #[.bool false, .slice none 0 0, .slice none 0 0] 28), (.blk s_.2.2.1 (rowI (List.replicate fr.length 0)) 3), (.row (.slice s_.1 sh.length s_.2.1) sh), (.blk gR #[.bool false, .slice none 0 0, .slice none 0 0] 28), (.blk gA #[.bool a, .slice Aa1 la1.length ca1, .slice Aa2 la2.length ca2] 28), (.blk gM #[.slice A1 sh.length c1, .slice A2 fr.length c2] 70)]) ?_ ?_
  rotate_left
  · intro hJ_4_8_10
    refine join_ (σ := Option Addr × Nat × Nat) 2 #[true, true, true, true, true, true, true, true, true, true, false, false] (fun s_ => [(12, .slice s_.1 sh.length s_.2.1), (16, .slice (some ⟨s_.2.2, 0, none⟩) fr.length fr.length), (17, .agg #[.bool a, .slice s_.1 sh.length s_.2.1, .slice (some ⟨s_.2.2, 0, none⟩) fr.length fr.length])]) (fun s_ w' => Sx w w' [(.blk s_.2.2 (rowI (List.replicate fr.length 0)) 3), (.row (.slice s_.1 sh.length s_.2.1) sh), (.blk gR #[.bool false, .slice none 0 0, .slice none 0 0] 28), (.blk gA #[.bool a, .slice Aa1 la1.length ca1, .slice Aa2 la2.length ca2] 28), (.blk gM #[.slice A1 sh.length c1, .slice A2 fr.length c2] 70)]) ?_ ?_
    rotate_left
    · intro hJ_4_8
      refine join_ (σ := Option Addr × Nat × Nat) 3 #[true, true, true, true, true, true, true, true, false, false, true, false] (fun s_ => [(12, .slice s_.1 sh.length s_.2.1), (5, .pointer (some ⟨s_.2.2, 0, none⟩))]) (fun s_ w' => Sx w w' [(.blk s_.2.2 #[.bool false, .slice none 0 0, .slice none 0 0] 28), (.row (.slice s_.1 sh.length s_.2.1) sh), (.blk gR #[.bool false, .slice none 0 0, .slice none 0 0] 28), (.blk gA #[.bool a, .slice Aa1 la1.length ca1, .slice Aa2 la2.length ca2] 28), (.blk gM #[.slice A1 sh.length c1, .slice A2 fr.length c2] 70)]) ?_ ?_
      rotate_left
      · intro hJ_4_10
        refine join_ (σ := Nat × Nat) 3 #[true, true, true, true, false, true, true, true, true, false, true, false] (fun s_ => [(16, .slice (some ⟨s_.1, 0, none⟩) fr.length fr.length), (5, .pointer (some ⟨s_.2, 0, none⟩))]) (fun s_ w' => Sx w w' [(.blk s_.2 #[.bool false, .slice none 0 0, .slice none 0 0] 28), (.blk s_.1 (rowI (List.replicate fr.length 0)) 3), (.blk gR #[.bool false, .slice none 0 0, .slice none 0 0] 28), (.blk gA #[.bool a, .slice Aa1 la1.length ca1, .slice Aa2 la2.length ca2] 28), (.blk gM #[.slice A1 sh.length c1, .slice A2 fr.length c2] 70)]) ?_ ?_
        rotate_left
        · intro hJ_8_10
          refine join_ (σ := Option Addr × Nat) 4 #[true, true, true, true, true, true, true, true, false, false, false, false] (fun s_ => [(12, .slice s_.1 sh.length s_.2)]) (fun s_ w' => Sx w w' [(.row (.slice s_.1 sh.length s_.2) sh), (.blk gR #[.bool false, .slice none 0 0, .slice none 0 0] 28), (.blk gA #[.bool a, .slice Aa1 la1.length ca1, .slice Aa2 la2.length ca2] 28), (.blk gM #[.slice A1 sh.length c1, .slice A2 fr.length c2] 70)]) ?_ ?_
          rotate_left
          · intro hJ_4
            refine join_ (σ := Nat) 4 #[true, true, true, true, false, true, true, true, true, false, false, false] (fun s_ => [(16, .slice (some ⟨s_, 0, none⟩) fr.length fr.length)]) (fun s_ w' => Sx w w' [(.blk s_ (rowI (List.replicate fr.length 0)) 3), (.blk gR #[.bool false, .slice none 0 0, .slice none 0 0] 28), (.blk gA #[.bool a, .slice Aa1 la1.length ca1, .slice Aa2 la2.length ca2] 28), (.blk gM #[.slice A1 sh.length c1, .slice A2 fr.length c2] 70)]) ?_ ?_
            rotate_left
            · intro hJ_8
              refine join_ (σ := Nat) 4 #[true, true, true, true, false, true, true, true, false, false, true, false] (fun s_ => [(5, .pointer (some ⟨s_, 0, none⟩))]) (fun s_ w' => Sx w w' [(.blk s_ #[.bool false, .slice none 0 0, .slice none 0 0] 28), (.blk gR #[.bool false, .slice none 0 0, .slice none 0 0] 28), (.blk gA #[.bool a, .slice Aa1 la1.length ca1, .slice Aa2 la2.length ca2] 28), (.blk gM #[.slice A1 sh.length c1, .slice A2 fr.length c2] 70)]) ?_ ?_
              rotate_left
              · intro hJ_10
                refine three_ (i := 4) (j := 8) (k := 10) (Ni := (some 12)) (Nj := (some 16)) (Nk := (some 5)) #[true, true, true, true, true, true, true, true, false, false, false, false] #[true, true, true, true, false, true, true, true, true, false, false, false] #[true, true, true, true, false, true, true, true, false, false, true, false] rfl rfl rfl rfl rfl rfl (by kernel_rfl) (by decide) (by decide) (by decide) (fun K hK => ?_) (fun K hK => ?_) (fun K hK => ?_)
                · skip
                  refine goes_ Try.func104 (by kernel_rfl) rfl #[.slice A1 sh.length c1] (by rfl) rfl rfl (by (try simp only [List.map_toArray, List.map_cons, List.map_nil]); first | done | rfl) ?_
                  with_reducible refine (slices_Clone_int_int.calls A1 c1 sh sh _ (Kd.C_below H1.out HS.out.below) K1.out (by simp only [slices_Clone_int_int.f]; rw [if_pos HSL.out])).mono ?_
                  rintro e v4 ⟨v_, rfl, hr4, hb4⟩
                  obtain ⟨Ns, nc, hv_⟩ := Kd.R_slice hr4
                  subst hv_
                  have nS : Aside0 (Sx w v4 [(.row (.slice Ns sh.length nc) sh), (.blk gR #[.bool false, .slice none 0 0, .slice none 0 0] 28), (.blk gA #[.bool a, .slice Aa1 la1.length ca1, .slice Aa2 la2.length ca2] 28), (.blk gM #[.slice A1 sh.length c1, .slice A2 fr.length c2] 70)]) := Aside0.mk (HS.out.addRow hb4 hr4)
                  clear HS hb4
                  have HS := nS
                  clear nS
                  refine ⟨_, rfl, ?_⟩
                  refine hK.out _ _ ⟨(blk_cell (HS.out.blk 2 rfl) 0).trans rfl, (blk_cell (HS.out.blk 3 rfl) 0).trans rfl, (blk_cell (HS.out.blk 3 rfl) 1).trans rfl⟩ (fun hHeld => ?_)
                  clear hK K
                  refine norm_ (a' := ?_) ?_ ?_
                  rotate_left
                  · show Act.put _ (some 12) _ = _
                    simp only [Act.put, List.setIfInBounds_toArray, List.set_cons_zero, List.set_cons_succ]
                    rfl
                  exact norm_ (by first | (simp only [putAll, Act.put, List.setIfInBounds_toArray, List.set_cons_zero, List.set_cons_succ]; done) | (simp only [putAll, Act.put, List.setIfInBounds_toArray, List.set_cons_zero, List.set_cons_succ]; rfl)) (hJ_4 (Ns, nc) _ (HS.out.permB (List.Perm.refl _)))
                · skip
                  refine lit_step (by rfl) rfl (rowI (List.replicate fr.length 0)) 3 fr.length (by first | (go_simp; done) | (go_simp; rfl)) ?_
                  intro gZ wZ hgZ hxZ hbZ
                  have nS : Aside0 (Sx w wZ [(.blk gZ (rowI (List.replicate fr.length 0)) 3), (.blk gR #[.bool false, .slice none 0 0, .slice none 0 0] 28), (.blk gA #[.bool a, .slice Aa1 la1.length ca1, .slice Aa2 la2.length ca2] 28), (.blk gM #[.slice A1 sh.length c1, .slice A2 fr.length c2] 70)]) := Aside0.mk (HS.out.box hgZ.symm hxZ hbZ)
                  clear HS hgZ hxZ hbZ
                  have HS := nS
                  clear nS
                  refine hK.out _ _ ⟨(blk_cell (HS.out.blk 2 rfl) 0).trans rfl, (blk_cell (HS.out.blk 3 rfl) 0).trans rfl, (blk_cell (HS.out.blk 3 rfl) 1).trans rfl⟩ (fun hHeld => ?_)
                  clear hK K
                  refine norm_ (a' := ?_) ?_ ?_
                  rotate_left
                  · show Act.put _ (some 16) _ = _
                    simp only [Act.put, List.setIfInBounds_toArray, List.set_cons_zero, List.set_cons_succ]
                    rfl
                  exact norm_ (by first | (simp only [putAll, Act.put, List.setIfInBounds_toArray, List.set_cons_zero, List.set_cons_succ]; done) | (simp only [putAll, Act.put, List.setIfInBounds_toArray, List.set_cons_zero, List.set_cons_succ]; rfl)) (hJ_8 gZ _ (HS.out.permB (List.Perm.refl _)))
                · skip
                  refine box_step ?hg (N := 5) ?hd (cs := #[.bool false, .slice none 0 0, .slice none 0 0]) (t := 28) ?hr ?_; (case hd => rfl); (case hg => rfl); (case hr => first | (go_simp; done) | (go_simp; rfl))
                  intro gO hgO wO hxO hbO
                  have nS : Aside0 (Sx w wO [(.blk gO #[.bool false, .slice none 0 0, .slice none 0 0] 28), (.blk gR #[.bool false, .slice none 0 0, .slice none 0 0] 28), (.blk gA #[.bool a, .slice Aa1 la1.length ca1, .slice Aa2 la2.length ca2] 28), (.blk gM #[.slice A1 sh.length c1, .slice A2 fr.length c2] 70)]) := Aside0.mk (HS.out.box hgO hxO hbO)
                  clear HS hgO hxO hbO
                  have HS := nS
                  clear nS
                  refine hK.out _ _ ⟨(blk_cell (HS.out.blk 2 rfl) 0).trans rfl, (blk_cell (HS.out.blk 3 rfl) 0).trans rfl, (blk_cell (HS.out.blk 3 rfl) 1).trans rfl⟩ (fun hHeld => ?_)
                  clear hK K
                  refine norm_ (a' := ?_) ?_ ?_
                  rotate_left
                  · show Act.put _ (some 5) _ = _
                    simp only [Act.put, List.setIfInBounds_toArray, List.set_cons_zero, List.set_cons_succ]
                    rfl
                  exact norm_ (by first | (simp only [putAll, Act.put, List.setIfInBounds_toArray, List.set_cons_zero, List.set_cons_succ]; done) | (simp only [putAll, Act.put, List.setIfInBounds_toArray, List.set_cons_zero, List.set_cons_succ]; rfl)) (hJ_10 gO _ (HS.out.permB (List.Perm.refl _)))
              · intro gO w_ hF
                have nS : Aside0 (Sx w w_ [(.blk gO #[.bool false, .slice none 0 0, .slice none 0 0] 28), (.blk gR #[.bool false, .slice none 0 0, .slice none 0 0] 28), (.blk gA #[.bool a, .slice Aa1 la1.length ca1, .slice Aa2 la2.length ca2] 28), (.blk gM #[.slice A1 sh.length c1, .slice A2 fr.length c2] 70)]) := Aside0.mk hF
                clear HS hF
                have HS := nS
                clear nS
                refine norm_ (a' := ?_) ?_ ?_
                rotate_left
                · simp only [putAll, Act.put, List.setIfInBounds_toArray, List.set_cons_zero, List.set_cons_succ]
                  rfl
                refine two_ (i := 4) (j := 8) (Ni := (some 12)) (Nj := (some 16)) #[true, true, true, true, true, true, true, true, false, false, true, false] #[true, true, true, true, false, true, true, true, true, false, true, false] rfl rfl rfl rfl (by kernel_rfl) (by decide) (by decide) (fun K hK => ?_) (fun K hK => ?_)
                · skip
                  refine goes_ Try.func104 (by kernel_rfl) rfl #[.slice A1 sh.length c1] (by rfl) rfl rfl (by (try simp only [List.map_toArray, List.map_cons, List.map_nil]); first | done | rfl) ?_
                  with_reducible refine (slices_Clone_int_int.calls A1 c1 sh sh _ (Kd.C_below H1.out HS.out.below) K1.out (by simp only [slices_Clone_int_int.f]; rw [if_pos HSL.out])).mono ?_
                  rintro e v4 ⟨v_, rfl, hr4, hb4⟩
                  obtain ⟨Ns, nc, hv_⟩ := Kd.R_slice hr4
                  subst hv_
                  have nS : Aside0 (Sx w v4 [(.row (.slice Ns sh.length nc) sh), (.blk gO #[.bool false, .slice none 0 0, .slice none 0 0] 28), (.blk gR #[.bool false, .slice none 0 0, .slice none 0 0] 28), (.blk gA #[.bool a, .slice Aa1 la1.length ca1, .slice Aa2 la2.length ca2] 28), (.blk gM #[.slice A1 sh.length c1, .slice A2 fr.length c2] 70)]) := Aside0.mk (HS.out.addRow hb4 hr4)
                  clear HS hb4
                  have HS := nS
                  clear nS
                  refine ⟨_, rfl, ?_⟩
                  refine hK.out _ _ ⟨(blk_cell (HS.out.blk 3 rfl) 0).trans rfl, (blk_cell (HS.out.blk 4 rfl) 0).trans rfl, (blk_cell (HS.out.blk 4 rfl) 1).trans rfl⟩ (fun hHeld => ?_)
                  clear hK K
                  refine norm_ (a' := ?_) ?_ ?_
                  rotate_left
                  · show Act.put _ (some 12) _ = _
                    simp only [Act.put, List.setIfInBounds_toArray, List.set_cons_zero, List.set_cons_succ]
                    rfl
                  exact norm_ (by first | (simp only [putAll, Act.put, List.setIfInBounds_toArray, List.set_cons_zero, List.set_cons_succ]; done) | (simp only [putAll, Act.put, List.setIfInBounds_toArray, List.set_cons_zero, List.set_cons_succ]; rfl)) (hJ_4_10 (Ns, nc, gO) _ (HS.out.permB (List.perm_middle (a := (Th.row (.slice Ns sh.length nc) sh)) (l₁ := [(Th.blk gO #[.bool false, .slice none 0 0, .slice none 0 0] 28)]) (l₂ := [(Th.blk gR #[.bool false, .slice none 0 0, .slice none 0 0] 28), (Th.blk gA #[.bool a, .slice Aa1 la1.length ca1, .slice Aa2 la2.length ca2] 28), (Th.blk gM #[.slice A1 sh.length c1, .slice A2 fr.length c2] 70)])).symm))
                · skip
                  refine lit_step (by rfl) rfl (rowI (List.replicate fr.length 0)) 3 fr.length (by first | (go_simp; done) | (go_simp; rfl)) ?_
                  intro gZ wZ hgZ hxZ hbZ
                  have nS : Aside0 (Sx w wZ [(.blk gZ (rowI (List.replicate fr.length 0)) 3), (.blk gO #[.bool false, .slice none 0 0, .slice none 0 0] 28), (.blk gR #[.bool false, .slice none 0 0, .slice none 0 0] 28), (.blk gA #[.bool a, .slice Aa1 la1.length ca1, .slice Aa2 la2.length ca2] 28), (.blk gM #[.slice A1 sh.length c1, .slice A2 fr.length c2] 70)]) := Aside0.mk (HS.out.box hgZ.symm hxZ hbZ)
                  clear HS hgZ hxZ hbZ
                  have HS := nS
                  clear nS
                  refine hK.out _ _ ⟨(blk_cell (HS.out.blk 3 rfl) 0).trans rfl, (blk_cell (HS.out.blk 4 rfl) 0).trans rfl, (blk_cell (HS.out.blk 4 rfl) 1).trans rfl⟩ (fun hHeld => ?_)
                  clear hK K
                  refine norm_ (a' := ?_) ?_ ?_
                  rotate_left
                  · show Act.put _ (some 16) _ = _
                    simp only [Act.put, List.setIfInBounds_toArray, List.set_cons_zero, List.set_cons_succ]
                    rfl
                  exact norm_ (by first | (simp only [putAll, Act.put, List.setIfInBounds_toArray, List.set_cons_zero, List.set_cons_succ]; done) | (simp only [putAll, Act.put, List.setIfInBounds_toArray, List.set_cons_zero, List.set_cons_succ]; rfl)) (hJ_8_10 (gZ, gO) _ (HS.out.permB (List.perm_middle (a := (Th.blk gZ (rowI (List.replicate fr.length 0)) 3)) (l₁ := [(Th.blk gO #[.bool false, .slice none 0 0, .slice none 0 0] 28)]) (l₂ := [(Th.blk gR #[.bool false, .slice none 0 0, .slice none 0 0] 28), (Th.blk gA #[.bool a, .slice Aa1 la1.length ca1, .slice Aa2 la2.length ca2] 28), (Th.blk gM #[.slice A1 sh.length c1, .slice A2 fr.length c2] 70)])).symm))
            · intro gZ w_ hF
              have nS : Aside0 (Sx w w_ [(.blk gZ (rowI (List.replicate fr.length 0)) 3), (.blk gR #[.bool false, .slice none 0 0, .slice none 0 0] 28), (.blk gA #[.bool a, .slice Aa1 la1.length ca1, .slice Aa2 la2.length ca2] 28), (.blk gM #[.slice A1 sh.length c1, .slice A2 fr.length c2] 70)]) := Aside0.mk hF
              clear HS hF
              have HS := nS
              clear nS
              refine norm_ (a' := ?_) ?_ ?_
              rotate_left
              · simp only [putAll, Act.put, List.setIfInBounds_toArray, List.set_cons_zero, List.set_cons_succ]
                rfl
              refine two_ (i := 4) (j := 10) (Ni := (some 12)) (Nj := (some 5)) #[true, true, true, true, true, true, true, true, true, false, false, false] #[true, true, true, true, false, true, true, true, true, false, true, false] rfl rfl rfl rfl (by kernel_rfl) (by decide) (by decide) (fun K hK => ?_) (fun K hK => ?_)
              · skip
                refine goes_ Try.func104 (by kernel_rfl) rfl #[.slice A1 sh.length c1] (by rfl) rfl rfl (by (try simp only [List.map_toArray, List.map_cons, List.map_nil]); first | done | rfl) ?_
                with_reducible refine (slices_Clone_int_int.calls A1 c1 sh sh _ (Kd.C_below H1.out HS.out.below) K1.out (by simp only [slices_Clone_int_int.f]; rw [if_pos HSL.out])).mono ?_
                rintro e v4 ⟨v_, rfl, hr4, hb4⟩
                obtain ⟨Ns, nc, hv_⟩ := Kd.R_slice hr4
                subst hv_
                have nS : Aside0 (Sx w v4 [(.row (.slice Ns sh.length nc) sh), (.blk gZ (rowI (List.replicate fr.length 0)) 3), (.blk gR #[.bool false, .slice none 0 0, .slice none 0 0] 28), (.blk gA #[.bool a, .slice Aa1 la1.length ca1, .slice Aa2 la2.length ca2] 28), (.blk gM #[.slice A1 sh.length c1, .slice A2 fr.length c2] 70)]) := Aside0.mk (HS.out.addRow hb4 hr4)
                clear HS hb4
                have HS := nS
                clear nS
                refine ⟨_, rfl, ?_⟩
                refine hK.out _ _ ⟨(blk_cell (HS.out.blk 3 rfl) 0).trans rfl, (blk_cell (HS.out.blk 4 rfl) 0).trans rfl, (blk_cell (HS.out.blk 4 rfl) 1).trans rfl⟩ (fun hHeld => ?_)
                clear hK K
                refine norm_ (a' := ?_) ?_ ?_
                rotate_left
                · show Act.put _ (some 12) _ = _
                  simp only [Act.put, List.setIfInBounds_toArray, List.set_cons_zero, List.set_cons_succ]
                  rfl
                refine pure_ (i := 9) (N := (some 17)) (v := ?_) (a' := ?_) #[true, true, true, true, true, true, true, true, true, true, false, false] rfl rfl (by kernel_rfl) (fun _ _ _ h => h) (Or.inl ⟨by rfl, ?_⟩) ?_ ?_
                rotate_left
                · intro w'
                  go_simp
                  with_reducible rfl
                rotate_left
                · simp only [Act.put, List.setIfInBounds_toArray, List.set_cons_zero, List.set_cons_succ]
                  rfl
                exact norm_ (by first | (simp only [putAll, Act.put, List.setIfInBounds_toArray, List.set_cons_zero, List.set_cons_succ]; done) | (simp only [putAll, Act.put, List.setIfInBounds_toArray, List.set_cons_zero, List.set_cons_succ]; rfl)) (hJ_4_8 (Ns, nc, gZ) _ (HS.out.permB (List.perm_middle (a := (Th.row (.slice Ns sh.length nc) sh)) (l₁ := [(Th.blk gZ (rowI (List.replicate fr.length 0)) 3)]) (l₂ := [(Th.blk gR #[.bool false, .slice none 0 0, .slice none 0 0] 28), (Th.blk gA #[.bool a, .slice Aa1 la1.length ca1, .slice Aa2 la2.length ca2] 28), (Th.blk gM #[.slice A1 sh.length c1, .slice A2 fr.length c2] 70)])).symm))
              · skip
                refine box_step ?hg (N := 5) ?hd (cs := #[.bool false, .slice none 0 0, .slice none 0 0]) (t := 28) ?hr ?_; (case hd => rfl); (case hg => rfl); (case hr => first | (go_simp; done) | (go_simp; rfl))
                intro gO hgO wO hxO hbO
                have nS : Aside0 (Sx w wO [(.blk gO #[.bool false, .slice none 0 0, .slice none 0 0] 28), (.blk gZ (rowI (List.replicate fr.length 0)) 3), (.blk gR #[.bool false, .slice none 0 0, .slice none 0 0] 28), (.blk gA #[.bool a, .slice Aa1 la1.length ca1, .slice Aa2 la2.length ca2] 28), (.blk gM #[.slice A1 sh.length c1, .slice A2 fr.length c2] 70)]) := Aside0.mk (HS.out.box hgO hxO hbO)
                clear HS hgO hxO hbO
                have HS := nS
                clear nS
                refine hK.out _ _ ⟨(blk_cell (HS.out.blk 3 rfl) 0).trans rfl, (blk_cell (HS.out.blk 4 rfl) 0).trans rfl, (blk_cell (HS.out.blk 4 rfl) 1).trans rfl⟩ (fun hHeld => ?_)
                clear hK K
                refine norm_ (a' := ?_) ?_ ?_
                rotate_left
                · show Act.put _ (some 5) _ = _
                  simp only [Act.put, List.setIfInBounds_toArray, List.set_cons_zero, List.set_cons_succ]
                  rfl
                exact norm_ (by first | (simp only [putAll, Act.put, List.setIfInBounds_toArray, List.set_cons_zero, List.set_cons_succ]; done) | (simp only [putAll, Act.put, List.setIfInBounds_toArray, List.set_cons_zero, List.set_cons_succ]; rfl)) (hJ_8_10 (gZ, gO) _ (HS.out.permB (List.Perm.refl _)))
          · intro s_ w_ hF
            obtain ⟨Ns, nc⟩ := s_
            have nS : Aside0 (Sx w w_ [(.row (.slice Ns sh.length nc) sh), (.blk gR #[.bool false, .slice none 0 0, .slice none 0 0] 28), (.blk gA #[.bool a, .slice Aa1 la1.length ca1, .slice Aa2 la2.length ca2] 28), (.blk gM #[.slice A1 sh.length c1, .slice A2 fr.length c2] 70)]) := Aside0.mk hF
            clear HS hF
            have HS := nS
            clear nS
            refine norm_ (a' := ?_) ?_ ?_
            rotate_left
            · simp only [putAll, Act.put, List.setIfInBounds_toArray, List.set_cons_zero, List.set_cons_succ]
              rfl
            refine two_ (i := 8) (j := 10) (Ni := (some 16)) (Nj := (some 5)) #[true, true, true, true, true, true, true, true, true, false, false, false] #[true, true, true, true, true, true, true, true, false, false, true, false] rfl rfl rfl rfl (by kernel_rfl) (by decide) (by decide) (fun K hK => ?_) (fun K hK => ?_)
            · skip
              refine lit_step (by rfl) rfl (rowI (List.replicate fr.length 0)) 3 fr.length (by first | (go_simp; done) | (go_simp; rfl)) ?_
              intro gZ wZ hgZ hxZ hbZ
              have nS : Aside0 (Sx w wZ [(.blk gZ (rowI (List.replicate fr.length 0)) 3), (.row (.slice Ns sh.length nc) sh), (.blk gR #[.bool false, .slice none 0 0, .slice none 0 0] 28), (.blk gA #[.bool a, .slice Aa1 la1.length ca1, .slice Aa2 la2.length ca2] 28), (.blk gM #[.slice A1 sh.length c1, .slice A2 fr.length c2] 70)]) := Aside0.mk (HS.out.box hgZ.symm hxZ hbZ)
              clear HS hgZ hxZ hbZ
              have HS := nS
              clear nS
              refine hK.out _ _ ⟨(blk_cell (HS.out.blk 3 rfl) 0).trans rfl, (blk_cell (HS.out.blk 4 rfl) 0).trans rfl, (blk_cell (HS.out.blk 4 rfl) 1).trans rfl⟩ (fun hHeld => ?_)
              clear hK K
              refine norm_ (a' := ?_) ?_ ?_
              rotate_left
              · show Act.put _ (some 16) _ = _
                simp only [Act.put, List.setIfInBounds_toArray, List.set_cons_zero, List.set_cons_succ]
                rfl
              refine pure_ (i := 9) (N := (some 17)) (v := ?_) (a' := ?_) #[true, true, true, true, true, true, true, true, true, true, false, false] rfl rfl (by kernel_rfl) (fun _ _ _ h => h) (Or.inl ⟨by rfl, ?_⟩) ?_ ?_
              rotate_left
              · intro w'
                go_simp
                with_reducible rfl
              rotate_left
              · simp only [Act.put, List.setIfInBounds_toArray, List.set_cons_zero, List.set_cons_succ]
                rfl
              exact norm_ (by first | (simp only [putAll, Act.put, List.setIfInBounds_toArray, List.set_cons_zero, List.set_cons_succ]; done) | (simp only [putAll, Act.put, List.setIfInBounds_toArray, List.set_cons_zero, List.set_cons_succ]; rfl)) (hJ_4_8 (Ns, nc, gZ) _ (HS.out.permB (List.Perm.refl _)))
            · skip
              refine box_step ?hg (N := 5) ?hd (cs := #[.bool false, .slice none 0 0, .slice none 0 0]) (t := 28) ?hr ?_; (case hd => rfl); (case hg => rfl); (case hr => first | (go_simp; done) | (go_simp; rfl))
              intro gO hgO wO hxO hbO
              have nS : Aside0 (Sx w wO [(.blk gO #[.bool false, .slice none 0 0, .slice none 0 0] 28), (.row (.slice Ns sh.length nc) sh), (.blk gR #[.bool false, .slice none 0 0, .slice none 0 0] 28), (.blk gA #[.bool a, .slice Aa1 la1.length ca1, .slice Aa2 la2.length ca2] 28), (.blk gM #[.slice A1 sh.length c1, .slice A2 fr.length c2] 70)]) := Aside0.mk (HS.out.box hgO hxO hbO)
              clear HS hgO hxO hbO
              have HS := nS
              clear nS
              refine hK.out _ _ ⟨(blk_cell (HS.out.blk 3 rfl) 0).trans rfl, (blk_cell (HS.out.blk 4 rfl) 0).trans rfl, (blk_cell (HS.out.blk 4 rfl) 1).trans rfl⟩ (fun hHeld => ?_)
              clear hK K
              refine norm_ (a' := ?_) ?_ ?_
              rotate_left
              · show Act.put _ (some 5) _ = _
                simp only [Act.put, List.setIfInBounds_toArray, List.set_cons_zero, List.set_cons_succ]
                rfl
              exact norm_ (by first | (simp only [putAll, Act.put, List.setIfInBounds_toArray, List.set_cons_zero, List.set_cons_succ]; done) | (simp only [putAll, Act.put, List.setIfInBounds_toArray, List.set_cons_zero, List.set_cons_succ]; rfl)) (hJ_4_10 (Ns, nc, gO) _ (HS.out.permB (List.Perm.refl _)))
        · intro s_ w_ hF
          obtain ⟨gZ, gO⟩ := s_
          have nS : Aside0 (Sx w w_ [(.blk gO #[.bool false, .slice none 0 0, .slice none 0 0] 28), (.blk gZ (rowI (List.replicate fr.length 0)) 3), (.blk gR #[.bool false, .slice none 0 0, .slice none 0 0] 28), (.blk gA #[.bool a, .slice Aa1 la1.length ca1, .slice Aa2 la2.length ca2] 28), (.blk gM #[.slice A1 sh.length c1, .slice A2 fr.length c2] 70)]) := Aside0.mk hF
          clear HS hF
          have HS := nS
          clear nS
          refine norm_ (a' := ?_) ?_ ?_
          rotate_left
          · simp only [putAll, Act.put, List.setIfInBounds_toArray, List.set_cons_zero, List.set_cons_succ]
            rfl
          refine one_ (i := 4) (N := (some 12)) #[true, true, true, true, true, true, true, true, true, false, true, false] rfl rfl (by kernel_rfl) (by decide) (fun K hK => ?_)
          refine goes_ Try.func104 (by kernel_rfl) rfl #[.slice A1 sh.length c1] (by rfl) rfl rfl (by (try simp only [List.map_toArray, List.map_cons, List.map_nil]); first | done | rfl) ?_
          with_reducible refine (slices_Clone_int_int.calls A1 c1 sh sh _ (Kd.C_below H1.out HS.out.below) K1.out (by simp only [slices_Clone_int_int.f]; rw [if_pos HSL.out])).mono ?_
          rintro e v4 ⟨v_, rfl, hr4, hb4⟩
          obtain ⟨Ns, nc, hv_⟩ := Kd.R_slice hr4
          subst hv_
          have nS : Aside0 (Sx w v4 [(.row (.slice Ns sh.length nc) sh), (.blk gO #[.bool false, .slice none 0 0, .slice none 0 0] 28), (.blk gZ (rowI (List.replicate fr.length 0)) 3), (.blk gR #[.bool false, .slice none 0 0, .slice none 0 0] 28), (.blk gA #[.bool a, .slice Aa1 la1.length ca1, .slice Aa2 la2.length ca2] 28), (.blk gM #[.slice A1 sh.length c1, .slice A2 fr.length c2] 70)]) := Aside0.mk (HS.out.addRow hb4 hr4)
          clear HS hb4
          have HS := nS
          clear nS
          refine ⟨_, rfl, ?_⟩
          refine hK.out _ _ ⟨(blk_cell (HS.out.blk 4 rfl) 0).trans rfl, (blk_cell (HS.out.blk 5 rfl) 0).trans rfl, (blk_cell (HS.out.blk 5 rfl) 1).trans rfl⟩ (fun hHeld => ?_)
          clear hK K
          refine norm_ (a' := ?_) ?_ ?_
          rotate_left
          · show Act.put _ (some 12) _ = _
            simp only [Act.put, List.setIfInBounds_toArray, List.set_cons_zero, List.set_cons_succ]
            rfl
          refine pure_ (i := 9) (N := (some 17)) (v := ?_) (a' := ?_) #[true, true, true, true, true, true, true, true, true, true, true, false] rfl rfl (by kernel_rfl) (fun _ _ _ h => h) (Or.inl ⟨by rfl, ?_⟩) ?_ ?_
          rotate_left
          · intro w'
            go_simp
            with_reducible rfl
          rotate_left
          · simp only [Act.put, List.setIfInBounds_toArray, List.set_cons_zero, List.set_cons_succ]
            rfl
          exact norm_ (by first | (simp only [putAll, Act.put, List.setIfInBounds_toArray, List.set_cons_zero, List.set_cons_succ]; done) | (simp only [putAll, Act.put, List.setIfInBounds_toArray, List.set_cons_zero, List.set_cons_succ]; rfl)) (hJ_4_8_10 (Ns, nc, gZ, gO) _ (HS.out.permB (List.perm_middle (a := (Th.row (.slice Ns sh.length nc) sh)) (l₁ := [(Th.blk gO #[.bool false, .slice none 0 0, .slice none 0 0] 28), (Th.blk gZ (rowI (List.replicate fr.length 0)) 3)]) (l₂ := [(Th.blk gR #[.bool false, .slice none 0 0, .slice none 0 0] 28), (Th.blk gA #[.bool a, .slice Aa1 la1.length ca1, .slice Aa2 la2.length ca2] 28), (Th.blk gM #[.slice A1 sh.length c1, .slice A2 fr.length c2] 70)])).symm))
      · intro s_ w_ hF
        obtain ⟨Ns, nc, gO⟩ := s_
        have nS : Aside0 (Sx w w_ [(.blk gO #[.bool false, .slice none 0 0, .slice none 0 0] 28), (.row (.slice Ns sh.length nc) sh), (.blk gR #[.bool false, .slice none 0 0, .slice none 0 0] 28), (.blk gA #[.bool a, .slice Aa1 la1.length ca1, .slice Aa2 la2.length ca2] 28), (.blk gM #[.slice A1 sh.length c1, .slice A2 fr.length c2] 70)]) := Aside0.mk hF
        clear HS hF
        have HS := nS
        clear nS
        refine norm_ (a' := ?_) ?_ ?_
        rotate_left
        · simp only [putAll, Act.put, List.setIfInBounds_toArray, List.set_cons_zero, List.set_cons_succ]
          rfl
        refine one_ (i := 8) (N := (some 16)) #[true, true, true, true, true, true, true, true, true, false, true, false] rfl rfl (by kernel_rfl) (by decide) (fun K hK => ?_)
        refine lit_step (by rfl) rfl (rowI (List.replicate fr.length 0)) 3 fr.length (by first | (go_simp; done) | (go_simp; rfl)) ?_
        intro gZ wZ hgZ hxZ hbZ
        have nS : Aside0 (Sx w wZ [(.blk gZ (rowI (List.replicate fr.length 0)) 3), (.blk gO #[.bool false, .slice none 0 0, .slice none 0 0] 28), (.row (.slice Ns sh.length nc) sh), (.blk gR #[.bool false, .slice none 0 0, .slice none 0 0] 28), (.blk gA #[.bool a, .slice Aa1 la1.length ca1, .slice Aa2 la2.length ca2] 28), (.blk gM #[.slice A1 sh.length c1, .slice A2 fr.length c2] 70)]) := Aside0.mk (HS.out.box hgZ.symm hxZ hbZ)
        clear HS hgZ hxZ hbZ
        have HS := nS
        clear nS
        refine hK.out _ _ ⟨(blk_cell (HS.out.blk 4 rfl) 0).trans rfl, (blk_cell (HS.out.blk 5 rfl) 0).trans rfl, (blk_cell (HS.out.blk 5 rfl) 1).trans rfl⟩ (fun hHeld => ?_)
        clear hK K
        refine norm_ (a' := ?_) ?_ ?_
        rotate_left
        · show Act.put _ (some 16) _ = _
          simp only [Act.put, List.setIfInBounds_toArray, List.set_cons_zero, List.set_cons_succ]
          rfl
        refine pure_ (i := 9) (N := (some 17)) (v := ?_) (a' := ?_) #[true, true, true, true, true, true, true, true, true, true, true, false] rfl rfl (by kernel_rfl) (fun _ _ _ h => h) (Or.inl ⟨by rfl, ?_⟩) ?_ ?_
        rotate_left
        · intro w'
          go_simp
          with_reducible rfl
        rotate_left
        · simp only [Act.put, List.setIfInBounds_toArray, List.set_cons_zero, List.set_cons_succ]
          rfl
        exact norm_ (by first | (simp only [putAll, Act.put, List.setIfInBounds_toArray, List.set_cons_zero, List.set_cons_succ]; done) | (simp only [putAll, Act.put, List.setIfInBounds_toArray, List.set_cons_zero, List.set_cons_succ]; rfl)) (hJ_4_8_10 (Ns, nc, gZ, gO) _ (HS.out.permB (List.perm_middle (a := (Th.blk gZ (rowI (List.replicate fr.length 0)) 3)) (l₁ := [(Th.blk gO #[.bool false, .slice none 0 0, .slice none 0 0] 28)]) (l₂ := [(Th.row (.slice Ns sh.length nc) sh), (Th.blk gR #[.bool false, .slice none 0 0, .slice none 0 0] 28), (Th.blk gA #[.bool a, .slice Aa1 la1.length ca1, .slice Aa2 la2.length ca2] 28), (Th.blk gM #[.slice A1 sh.length c1, .slice A2 fr.length c2] 70)])).symm))
    · intro s_ w_ hF
      obtain ⟨Ns, nc, gZ⟩ := s_
      have nS : Aside0 (Sx w w_ [(.blk gZ (rowI (List.replicate fr.length 0)) 3), (.row (.slice Ns sh.length nc) sh), (.blk gR #[.bool false, .slice none 0 0, .slice none 0 0] 28), (.blk gA #[.bool a, .slice Aa1 la1.length ca1, .slice Aa2 la2.length ca2] 28), (.blk gM #[.slice A1 sh.length c1, .slice A2 fr.length c2] 70)]) := Aside0.mk hF
      clear HS hF
      have HS := nS
      clear nS
      refine norm_ (a' := ?_) ?_ ?_
      rotate_left
      · simp only [putAll, Act.put, List.setIfInBounds_toArray, List.set_cons_zero, List.set_cons_succ]
        rfl
      refine one_ (i := 10) (N := (some 5)) #[true, true, true, true, true, true, true, true, true, true, true, false] rfl rfl (by kernel_rfl) (by decide) (fun K hK => ?_)
      refine box_step ?hg (N := 5) ?hd (cs := #[.bool false, .slice none 0 0, .slice none 0 0]) (t := 28) ?hr ?_; (case hd => rfl); (case hg => rfl); (case hr => first | (go_simp; done) | (go_simp; rfl))
      intro gO hgO wO hxO hbO
      have nS : Aside0 (Sx w wO [(.blk gO #[.bool false, .slice none 0 0, .slice none 0 0] 28), (.blk gZ (rowI (List.replicate fr.length 0)) 3), (.row (.slice Ns sh.length nc) sh), (.blk gR #[.bool false, .slice none 0 0, .slice none 0 0] 28), (.blk gA #[.bool a, .slice Aa1 la1.length ca1, .slice Aa2 la2.length ca2] 28), (.blk gM #[.slice A1 sh.length c1, .slice A2 fr.length c2] 70)]) := Aside0.mk (HS.out.box hgO hxO hbO)
      clear HS hgO hxO hbO
      have HS := nS
      clear nS
      refine hK.out _ _ ⟨(blk_cell (HS.out.blk 4 rfl) 0).trans rfl, (blk_cell (HS.out.blk 5 rfl) 0).trans rfl, (blk_cell (HS.out.blk 5 rfl) 1).trans rfl⟩ (fun hHeld => ?_)
      clear hK K
      refine norm_ (a' := ?_) ?_ ?_
      rotate_left
      · show Act.put _ (some 5) _ = _
        simp only [Act.put, List.setIfInBounds_toArray, List.set_cons_zero, List.set_cons_succ]
        rfl
      exact norm_ (by first | (simp only [putAll, Act.put, List.setIfInBounds_toArray, List.set_cons_zero, List.set_cons_succ]; done) | (simp only [putAll, Act.put, List.setIfInBounds_toArray, List.set_cons_zero, List.set_cons_succ]; rfl)) (hJ_4_8_10 (Ns, nc, gZ, gO) _ (HS.out.permB (List.Perm.refl _)))
  · intro s_ w_ hF
    obtain ⟨Ns, nc, gZ, gO⟩ := s_
    have nS : Aside0 (Sx w w_ [(.blk gO #[.bool false, .slice none 0 0, .slice none 0 0] 28), (.blk gZ (rowI (List.replicate fr.length 0)) 3), (.row (.slice Ns sh.length nc) sh), (.blk gR #[.bool false, .slice none 0 0, .slice none 0 0] 28), (.blk gA #[.bool a, .slice Aa1 la1.length ca1, .slice Aa2 la2.length ca2] 28), (.blk gM #[.slice A1 sh.length c1, .slice A2 fr.length c2] 70)]) := Aside0.mk hF
    clear HS hF
    have HS := nS
    clear nS
    refine norm_ (a' := ?_) ?_ ?_
    rotate_left
    · simp only [putAll, Act.put, List.setIfInBounds_toArray, List.set_cons_zero, List.set_cons_succ]
      rfl
    refine last_ (i := 11) (N := none) #[true, true, true, true, true, true, true, true, true, true, true, true] rfl rfl (by kernel_rfl) (by decide) (fun K hK => ?_)
    refine store_named_step (by rfl) 28 (.tmp 5) (.tmp 17) rfl gO #[.bool a, .slice Ns sh.length nc, .slice (some ⟨gZ, 0, none⟩) fr.length fr.length] rfl rfl 28 #[.bool false, .slice none 0 0, .slice none 0 0] (HS.out.blk 0 rfl) (by kernel_rfl) rfl (by simp [Value.oneCell']) ?_
    intro wO hxz hbz
    have nS : Aside0 (Sx w wO [(.blk gO #[.bool a, .slice Ns sh.length nc, .slice (some ⟨gZ, 0, none⟩) fr.length fr.length] 28), (.blk gZ (rowI (List.replicate fr.length 0)) 3), (.row (.slice Ns sh.length nc) sh), (.blk gR #[.bool false, .slice none 0 0, .slice none 0 0] 28), (.blk gA #[.bool a, .slice Aa1 la1.length ca1, .slice Aa2 la2.length ca2] 28), (.blk gM #[.slice A1 sh.length c1, .slice A2 fr.length c2] 70)]) := Aside0.mk (HS.out.put 0 rfl hxz hbz)
    clear HS hxz hbz
    have HS := nS
    clear nS
    refine hK.out _ _ ?_
    clear hK K
    refine done_ (by kernel_rfl) ?_
    go_simp
    have HS0 := HS
    clear HS
    have nS := Aside0.mk (HS0.out.rowB 1 rfl (by rw [List.length_replicate]; have := HFL.out; omega))
    clear HS0
    rw [List.length_replicate] at nS
    have HS : Aside0 (Sx w _ [(.blk gO #[.bool a, .slice Ns sh.length nc, .slice (some ⟨gZ, 0, none⟩) fr.length fr.length] 28), (.row (.slice (some ⟨gZ, 0, none⟩) fr.length fr.length) (List.replicate fr.length 0)), (.row (.slice Ns sh.length nc) sh), (.blk gR #[.bool false, .slice none 0 0, .slice none 0 0] 28), (.blk gA #[.bool a, .slice Aa1 la1.length ca1, .slice Aa2 la2.length ca2] 28), (.blk gM #[.slice A1 sh.length c1, .slice A2 fr.length c2] 70)]) := nS
    clear nS
    rw [← ofT_zero a la2 fr] at HS
    go_wp2_with (first | ((with_reducible refine gate_dst (N := 19) rfl ?_); refine ev_load rfl 22 (.tmp 18) rfl ⟨gM, 1, none⟩ rfl (.slice A2 fr.length c2) ((blk_cell (HS.out.blk 5 rfl) 1).trans rfl) (by kernel_rfl) ?_))
    go_loopw [6, 7, 21] (fun _ _ z wr => ∃ t : Nat, z = .int .i64 (t : Int) ∧ Aside0 (t ≤ fr.length) ∧ Aside0 (Sx w wr [(.blk gO #[.bool a, .slice Ns sh.length nc, .slice (some ⟨gZ, 0, none⟩) fr.length fr.length] 28), (.row (.slice (some ⟨gZ, 0, none⟩) fr.length fr.length) (ofT a la2 fr t)), (.row (.slice Ns sh.length nc) sh), (.blk gR #[.bool false, .slice none 0 0, .slice none 0 0] 28), (.blk gA #[.bool a, .slice Aa1 la1.length ca1, .slice Aa2 la2.length ca2] 28), (.blk gM #[.slice A1 sh.length c1, .slice A2 fr.length c2] 70)])) (fun _ _ z _ => fr.length - (intOf z).toNat)
    case atStart => exact ⟨0, rfl, ⟨Nat.zero_le _⟩, HS⟩
    case round =>
      clear HS
      obtain ⟨t, rfl, ht, HS⟩ := hrel
      by_cases hlt : t < fr.length
      · have hfl := HFL.out
        obtain ⟨ad, rfl, y1⟩ := Kd.at_int (Kd.C_below H2.out HS.out.below) (t : Int) (by omega) (by omega)
        rw [Int.toNat_natCast] at y1
        obtain ⟨x_, hx⟩ : ∃ x_, x_ = rd fr (t : Int) := ⟨_, rfl⟩
        rw [← hx] at y1
        have HX := Aside0.mk hx
        have hxl := HXB.out x_ (by rw [hx]; exact rd_memM fr t hlt)
        have HXL := Aside0.mk hxl
        have p0 : (t : Int) < (fr.length : Int) := by omega
        have w1 : IntKind.i64.wrap ((t : Int) + 1) = ((t + 1 : Nat) : Int) := by rw [IntWalk.i64_in _ (by omega)]; omega
        have HW1 := Aside0.mk w1
        clear w1 hx hxl hfl
        go_upto_region 5 with fail
        have nS := Aside0.mk HS.out.drew
        clear HS
        have HS := nS
        clear nS
        refine start_ (n := 7) (S := (fun w' => w'.cell? ⟨gO, 2, none⟩ = some (.slice (some ⟨gZ, 0, none⟩) fr.length fr.length) ∧ w'.cell? ⟨gA, 0, none⟩ = some (.bool a) ∧ w'.cell? ⟨gA, 1, none⟩ = some (.slice Aa1 la1.length ca1) ∧ w'.cell? ⟨gA, 2, none⟩ = some (.slice Aa2 la2.length ca2))) (ds := [6]) #[false, false, false, false, false, false, false] (by kernel_rfl) rfl rfl ⟨(blk_cell (HS.out.blk 0 rfl) 2).trans rfl, (blk_cell (HS.out.blk 4 rfl) 0).trans rfl, (blk_cell (HS.out.blk 4 rfl) 1).trans rfl, (blk_cell (HS.out.blk 4 rfl) 2).trans rfl⟩ (fun hHeld => ?_)
        refine pure_ (i := 0) (N := (some 26)) (v := ?_) (a' := ?_) #[true, false, false, false, false, false, false] rfl rfl (by kernel_rfl) (fun _ _ _ h => h) (Or.inl ⟨by rfl, ?_⟩) ?_ ?_
        rotate_left
        · intro w'
          go_simp
          with_reducible rfl
        rotate_left
        · simp only [Act.put, List.setIfInBounds_toArray, List.set_cons_zero, List.set_cons_succ]
          rfl
        refine take_ (i := 1) (N := (some 27)) (v := ?_) (a' := ?_) #[true, true, false, false, false, false, false] rfl rfl (by kernel_rfl) (fun _ _ _ h => h) (Or.inl ⟨by rfl, ?_⟩) hHeld ?_ ?_
        rotate_left
        · rintro w' ⟨s0, s1, s2, s3⟩
          go_simp
          with_reducible rfl
        rotate_left
        · simp only [Act.put, List.setIfInBounds_toArray, List.set_cons_zero, List.set_cons_succ]
          rfl
        refine pure_ (i := 2) (N := (some 28)) (v := ?_) (a' := ?_) #[true, true, true, false, false, false, false] rfl rfl (by kernel_rfl) (fun _ _ _ h => h) (Or.inl ⟨by rfl, ?_⟩) ?_ ?_
        rotate_left
        · intro w'
          go_simp
          with_reducible rfl
        rotate_left
        · simp only [Act.put, List.setIfInBounds_toArray, List.set_cons_zero, List.set_cons_succ]
          rfl
        refine take_ (i := 3) (N := (some 29)) (v := ?_) (a' := ?_) #[true, true, true, true, false, false, false] rfl rfl (by kernel_rfl) (fun _ _ _ h => h) (Or.inl ⟨by rfl, ?_⟩) hHeld ?_ ?_
        rotate_left
        · rintro w' ⟨s0, s1, s2, s3⟩
          go_simp
          with_reducible rfl
        rotate_left
        · simp only [Act.put, List.setIfInBounds_toArray, List.set_cons_zero, List.set_cons_succ]
          rfl
        refine one_ (i := 4) (N := (some 30)) #[true, true, true, true, true, false, false] rfl rfl (by kernel_rfl) (by decide) (fun K hK => ?_)
        refine goes_ Try.func132 (by kernel_rfl) rfl #[.agg #[.bool a, .slice Aa1 la1.length ca1, .slice Aa2 la2.length ca2]] (by rfl) rfl rfl (by (try simp only [List.map_toArray, List.map_cons, List.map_nil]); first | done | rfl) ?_
        with_reducible refine (impl_Array_fill.calls a Aa1 ca1 la1 Aa2 ca2 la2 (fillV a) _ (Kd.C_below Ha1.out HS.out.below) Ka1.out (Kd.C_below Ha2.out HS.out.below) Ka2.out (fill_eq a la1 la2)).mono ?_
        rintro e v5 ⟨rfl, hb5⟩
        have nS : Aside0 (Sx w v5 [(.blk gO #[.bool a, .slice Ns sh.length nc, .slice (some ⟨gZ, 0, none⟩) fr.length fr.length] 28), (.row (.slice (some ⟨gZ, 0, none⟩) fr.length fr.length) (ofT a la2 fr t)), (.row (.slice Ns sh.length nc) sh), (.blk gR #[.bool false, .slice none 0 0, .slice none 0 0] 28), (.blk gA #[.bool a, .slice Aa1 la1.length ca1, .slice Aa2 la2.length ca2] 28), (.blk gM #[.slice A1 sh.length c1, .slice (some ad) fr.length c2] 70)]) := Aside0.mk (HS.out.step hb5)
        clear HS hb5
        have HS := nS
        clear nS
        refine ⟨_, rfl, ?_⟩
        refine hK.out _ _ ⟨(blk_cell (HS.out.blk 0 rfl) 2).trans rfl, (blk_cell (HS.out.blk 4 rfl) 0).trans rfl, (blk_cell (HS.out.blk 4 rfl) 1).trans rfl, (blk_cell (HS.out.blk 4 rfl) 2).trans rfl⟩ (fun hHeld => ?_)
        clear hK K
        refine norm_ (a' := ?_) ?_ ?_
        rotate_left
        · show Act.put _ (some 30) _ = _
          simp only [Act.put, List.setIfInBounds_toArray, List.set_cons_zero, List.set_cons_succ]
          rfl
        refine pure_ (i := 5) (N := (some 31)) (v := ?_) (a' := ?_) #[true, true, true, true, true, true, false] rfl rfl (by kernel_rfl) (fun _ _ _ h => h) (Or.inl ⟨by rfl, ?_⟩) ?_ ?_
        rotate_left
        · intro w'
          go_simp
          with_reducible rfl
        rotate_left
        · simp only [Act.put, List.setIfInBounds_toArray, List.set_cons_zero, List.set_cons_succ]
          rfl
        refine last_ (i := 6) (N := none) #[true, true, true, true, true, true, true] rfl rfl (by kernel_rfl) (by decide) (fun K hK => ?_)
        refine HS.out.store_step 1 rfl (by rfl) 3 (.tmp 31) (.tmp 30) rfl t (by rw [ofT_len _ _ _ _ (Nat.le_of_lt hlt)]; exact hlt) rfl (fillV a) rfl (by kernel_rfl) ?_
        intro w6 n6 hb6
        have nS : Aside0 (Sx w w6 [(.blk gO #[.bool a, .slice Ns sh.length nc, .slice (some ⟨gZ, 0, none⟩) fr.length fr.length] 28), (.row (.slice (some ⟨gZ, 0, none⟩) fr.length fr.length) ((ofT a la2 fr t).set t (fillV a))), (.row (.slice Ns sh.length nc) sh), (.blk gR #[.bool false, .slice none 0 0, .slice none 0 0] 28), (.blk gA #[.bool a, .slice Aa1 la1.length ca1, .slice Aa2 la2.length ca2] 28), (.blk gM #[.slice A1 sh.length c1, .slice (some ad) fr.length c2] 70)]) := Aside0.mk n6
        clear HS n6 hb6
        have HS := nS
        clear nS
        refine hK.out _ _ ?_
        clear hK K
        refine done_ (by kernel_rfl) ?_
        go_simp
        by_cases hx0 : x_ ≥ 0
        · obtain ⟨m, rfl⟩ := Int.eq_ofNat_of_zero_le hx0
          have hml : m < la2.length := by have := HXL.out; omega
          obtain ⟨ad2, rfl, y2⟩ := Kd.at_int (Kd.C_below Ha2.out HS.out.below) (m : Int) (by omega) (by omega)
          rw [Int.toNat_natCast] at y2
          obtain ⟨z_, hz⟩ : ∃ z_, z_ = rd la2 (m : Int) := ⟨_, rfl⟩
          rw [← hz] at y2
          have HZ := Aside0.mk (show z_ = ofV a la2 (m : Int) by unfold ofV; rw [if_pos hx0, hz])
          have b1 : decide ((m : Int) ≥ 0) = true := decide_eq_true hx0
          have b2 : decide (0 ≤ (m : Int)) = true := decide_eq_true hx0
          have p1 : (m : Int) < (la2.length : Int) := by omega
          have p2 : 0 ≤ (m : Int) := by omega
          clear hz hx0 hml
          have w1 := HW1.out
          obtain ⟨W6, hW6⟩ : ∃ W6, w6 = W6 := ⟨_, rfl⟩
          subst hW6
          have xO : w6.cell? ⟨gO, 2, none⟩ = some (.slice (some ⟨gZ, 0, none⟩) fr.length fr.length) := (blk_cell (HS.out.blk 0 rfl) 2).trans rfl
          have xA : w6.cell? ⟨gA, 2, none⟩ = some (.slice (some ad2) la2.length ca2) := (blk_cell (HS.out.blk 4 rfl) 2).trans rfl
          obtain ⟨_, e_, xZ, fZ⟩ := HS.out.cellOf 1 rfl t (by rw [List.length_set, ofT_len _ _ _ _ (Nat.le_of_lt hlt)]; exact hlt)
          cases e_
          go_wp2
          go_still_tail 9, (by kernel_rfl)
          go_wp2
          go_roundw
          case rel =>
            refine ⟨t + 1, by first | rfl | (push_cast; rfl), ⟨hlt⟩, ⟨?_⟩⟩
            have h := HS.out.drew.setAt 1 rfl t z_
            rw [ofT_fill _ _ _ _ hlt, ofT_set a la2 fr t hlt (m : Int) z_ HX.out HZ.out] at h
            exact h
          case measure => simp [intOf]; omega
        · have b1 : decide (x_ ≥ 0) = false := decide_eq_false hx0
          have b2 : decide (0 ≤ x_) = false := decide_eq_false hx0
          have b3 : ¬ 0 ≤ x_ := hx0
          have HZ := Aside0.mk (show fillV a = ofV a la2 x_ by unfold ofV; rw [if_neg hx0])
          clear hx0
          have w1 := HW1.out
          go_wp2
          go_roundw
          case rel =>
            refine ⟨t + 1, by first | rfl | (push_cast; rfl), ⟨hlt⟩, ⟨?_⟩⟩
            have h := HS.out
            rw [ofT_set a la2 fr t hlt x_ (fillV a) HX.out HZ.out] at h
            exact h
          case measure => simp [intOf]; omega
      · have et : t = fr.length := by have := ht.out; omega
        subst et
        rw [ofT_all] at HS
        have p1 : ¬ (fr.length : Int) < (fr.length : Int) := by omega
        go_wp2_with (first | ((with_reducible refine gate_dst (N := 44) rfl ?_); refine wpList_load_row rfl 28 (.tmp 5) rfl gO rfl 28 #[.bool a, .slice Ns sh.length nc, .slice (some ⟨gZ, 0, none⟩) fr.length fr.length] (0, 0) _ (HS.out.blk 0 rfl) Try.underlying28 rfl (by kernel_rfl) ?_) | ((with_reducible refine gate_store rfl ?_); refine store_named rfl 28 (.tmp 4) (.tmp 44) rfl gR #[.bool a, .slice Ns sh.length nc, .slice (some ⟨gZ, 0, none⟩) fr.length fr.length] rfl rfl 28 #[.bool false, .slice none 0 0, .slice none 0 0] (HS.out.blk 3 rfl) (by kernel_rfl) rfl (by simp [Value.oneCell']) ?_; intro wf5 hxf5 hbf5; have nS : Aside0 (Sx w wf5 [(.blk gO #[.bool a, .slice Ns sh.length nc, .slice (some ⟨gZ, 0, none⟩) fr.length fr.length] 28), (.row (.slice (some ⟨gZ, 0, none⟩) fr.length fr.length) (ofL a la2 fr)), (.row (.slice Ns sh.length nc) sh), (.blk gR #[.bool a, .slice Ns sh.length nc, .slice (some ⟨gZ, 0, none⟩) fr.length fr.length] 28), (.blk gA #[.bool a, .slice Aa1 la1.length ca1, .slice Aa2 la2.length ca2] 28), (.blk gM #[.slice A1 sh.length c1, .slice A2 fr.length c2] 70)]) := Aside0.mk (HS.out.put 3 rfl hxf5 hbf5); clear HS; have HS := nS; clear nS hxf5 hbf5))
        have r_ := HS.out.two 2 1 (by decide) rfl rfl
        refine bodyPost_ret (results_cell_row rfl _ _ gR 28 #[.bool a, .slice Ns sh.length nc, .slice (some ⟨gZ, 0, none⟩) fr.length fr.length] (0, 0) _ rfl (HS.out.blk 3 rfl) Try.underlying28 rfl (by kernel_rfl)) rfl ?_
        exact ⟨_, _, rfl, r_.1, r_.2, HS.out.below⟩
set_option maxHeartbeats 2000000 in
set_option maxRecDepth 100000 in
theorem made_zero (A1 : Option Addr) (c1 : Nat) (sh : List Int) (A2 : Option Addr) (c2 : Nat) (fr : List Int) (a : Bool) (Aa1 : Option Addr) (ca1 : Nat) (la1 : List Int) (Aa2 : Option Addr) (ca2 : Nat) (la2 : List Int) (w : World) (h1 : Kd.C (Kd.int .i64) w A1 sh.length sh) (k1 : sh.length ≤ c1) (h2 : Kd.C (Kd.int .i64) w A2 fr.length fr) (k2 : fr.length ≤ c2) (ha1 : Kd.C (Kd.int .i64) w Aa1 la1.length la1) (ka1 : la1.length ≤ ca1) (ha2 : Kd.C (Kd.int .i64) w Aa2 la2.length la2) (ka2 : la2.length ≤ ca2) (hsl : sh.length < 17592186044416) (hfl : fr.length ≤ 1000000) (hx : ∀ x ∈ fr, x < la2.length) :
    Calls Try.prog 70 #[.agg #[.bool a, .slice Aa1 la1.length ca1, .slice Aa2 la2.length ca2], .agg #[.slice A1 sh.length c1, .slice A2 fr.length c2], .int .i64 0] w fun e w' => ∃ v1_ v2_ : Value, e = .returned (.tuple #[.agg #[.bool a, v1_, v2_], .int .i64 0]) ∧ Kd.R (Kd.int .i64) 3 w' w.heap.size (fun k_ => some k_ ≠ (v2_ : Value).ownBlock) v1_ sh ∧ Kd.R (Kd.int .i64) 3 w' w.heap.size (fun k_ => some k_ ≠ (v1_ : Value).ownBlock) v2_ (ofL a la2 fr) ∧ Below w.heap.size w w' := by
  have Ha1 := Aside0.mk ha1
  have Ka1 := Aside0.mk ka1
  clear ha1 ka1
  have Ha2 := Aside0.mk ha2
  have Ka2 := Aside0.mk ka2
  clear ha2 ka2
  have H1 := Aside0.mk h1
  have K1 := Aside0.mk k1
  have H2 := Aside0.mk h2
  have K2 := Aside0.mk k2
  have HSL := Aside0.mk hsl
  have HFL := Aside0.mk hfl
  have HXB := Aside0.mk hx
  clear h1 k1 h2 k2 hsl hfl hx
  have HS := Aside0.mk (Sx.start w)
  go_enter Try.func70, Try.ntmps70
  go_wp2_with (first | ((with_reducible refine gate_dst (N := 3) rfl ?_); refine box_event ?hg (N := 3) ?hd (cs := #[.bool a, .slice Aa1 la1.length ca1, .slice Aa2 la2.length ca2]) (t := 28) ?hr ?_; (case hd => rfl); (case hg => rfl); (case hr => first | (go_simp; done) | (go_simp; rfl)); intro gA hg1 w1 hx1 hb1; have nS : Aside0 (Sx w w1 [(.blk gA #[.bool a, .slice Aa1 la1.length ca1, .slice Aa2 la2.length ca2] 28)]) := Aside0.mk (HS.out.box hg1 hx1 hb1); clear HS; have HS := nS; clear nS hg1 hx1 hb1) | ((with_reducible refine gate_dst (N := 4) rfl ?_); refine box_event ?hg (N := 4) ?hd (cs := #[.slice A1 sh.length c1, .slice A2 fr.length c2]) (t := 70) ?hr ?_; (case hd => rfl); (case hg => rfl); (case hr => first | (go_simp; done) | (go_simp; rfl)); intro gM hg2 w2 hx2 hb2; have nS : Aside0 (Sx w w2 [(.blk gM #[.slice A1 sh.length c1, .slice A2 fr.length c2] 70), (.blk gA #[.bool a, .slice Aa1 la1.length ca1, .slice Aa2 la2.length ca2] 28)]) := Aside0.mk (HS.out.box hg2 hx2 hb2); clear HS; have HS := nS; clear nS hg2 hx2 hb2) | ((with_reducible refine gate_dst (N := 6) rfl ?_); refine box_event ?hg (N := 6) ?hd (cs := #[.bool false, .slice none 0 0, .slice none 0 0]) (t := 28) ?hr ?_; (case hd => rfl); (case hg => rfl); (case hr => first | (go_simp; done) | (go_simp; rfl)); intro gR hg3 w3 hx3 hb3; have nS : Aside0 (Sx w w3 [(.blk gR #[.bool false, .slice none 0 0, .slice none 0 0] 28), (.blk gM #[.slice A1 sh.length c1, .slice A2 fr.length c2] 70), (.blk gA #[.bool a, .slice Aa1 la1.length ca1, .slice Aa2 la2.length ca2] 28)]) := Aside0.mk (HS.out.box hg3 hx3 hb3); clear HS; have HS := nS; clear nS hg3 hx3 hb3) | ((with_reducible refine gate_dst (N := 12) rfl ?_); refine wpList_load_row rfl 70 (.tmp 4) rfl gM rfl 70 #[.slice A1 sh.length c1, .slice A2 fr.length c2] (0, 0) _ (HS.out.blk 1 rfl) Try.underlying70 rfl (by kernel_rfl) ?_) | ((with_reducible refine gate_dst (N := 13) rfl ?_); refine wpList_load_row rfl 28 (.tmp 3) rfl gA rfl 28 #[.bool a, .slice Aa1 la1.length ca1, .slice Aa2 la2.length ca2] (0, 0) _ (HS.out.blk 2 rfl) Try.underlying28 rfl (by kernel_rfl) ?_) | (go_at_call 107; refine (moveOf_any A1 c1 sh A2 c2 fr a Aa1 ca1 la1 Aa2 ca2 la2 _ (Kd.C_below H1.out HS.out.below) K1.out (Kd.C_below H2.out HS.out.below) K2.out (Kd.C_below Ha1.out HS.out.below) Ka1.out (Kd.C_below Ha2.out HS.out.below) Ka2.out HSL.out HFL.out HXB.out).mono ?_; rintro e w4 ⟨v1, v2, rfl, hr4, hs4, hb4⟩; obtain ⟨B1, d1, rfl⟩ := Kd.R_slice hr4; obtain ⟨B2, d2, rfl⟩ := Kd.R_slice hs4; have nS : Aside0 (Sx w w4 [(.row (.slice B1 sh.length d1) sh), (.row (.slice B2 (ofL a la2 fr).length d2) (ofL a la2 fr)), (.blk gR #[.bool false, .slice none 0 0, .slice none 0 0] 28), (.blk gM #[.slice A1 sh.length c1, .slice A2 fr.length c2] 70), (.blk gA #[.bool a, .slice Aa1 la1.length ca1, .slice Aa2 la2.length ca2] 28)]) := Aside0.mk (HS.out.addRow2 hb4 hr4 hs4); clear HS; have HS := nS; clear nS hb4 hr4 hs4) | ((with_reducible refine gate_store rfl ?_); refine store_named rfl 28 (.tmp 6) (.tmp 14) rfl gR #[.bool a, .slice B1 sh.length d1, .slice B2 (ofL a la2 fr).length d2] rfl rfl 28 #[.bool false, .slice none 0 0, .slice none 0 0] (HS.out.blk 2 rfl) (by kernel_rfl) rfl (by simp [Value.oneCell']) ?_; intro w5 hx5 hb5; have nS : Aside0 (Sx w w5 [(.row (.slice B1 sh.length d1) sh), (.row (.slice B2 (ofL a la2 fr).length d2) (ofL a la2 fr)), (.blk gR #[.bool a, .slice B1 sh.length d1, .slice B2 (ofL a la2 fr).length d2] 28), (.blk gM #[.slice A1 sh.length c1, .slice A2 fr.length c2] 70), (.blk gA #[.bool a, .slice Aa1 la1.length ca1, .slice Aa2 la2.length ca2] 28)]) := Aside0.mk (HS.out.put 2 rfl hx5 hb5); clear HS; have HS := nS; clear nS hx5 hb5))
  have r_ := HS.out.two 0 1 (by decide) rfl rfl
  refine bodyPost_ret (results_ct rfl _ _ gR 28 #[.bool a, .slice B1 sh.length d1, .slice B2 (ofL a la2 fr).length d2] (0, 0) _ rfl (HS.out.blk 2 rfl) Try.underlying28 rfl (by kernel_rfl)) rfl ?_
  exact ⟨_, _, rfl, r_.1, r_.2, HS.out.below⟩
end Go.Proofs.Ytehfcnndjhjkoaa.PA

namespace Go.Proofs.Ytehfcnndjhjkoaa.PA
open Go.RowKit Go.Proofs.YtehfcnndjhjkoaaW.PrintWords Go.Proofs.YtehfcnndjhjkoaaW.PrintLast Go.Proofs.YtehfcnndjhjkoaaW.PrintMore
set_option linter.unusedVariables false
set_option linter.unusedSimpArgs false

def impl_Catenate.f (a : Bool) (l1 l2 : List Int) (b : Bool) (m1 m2 : List Int) : Option ArrAns := if okLens l1 l2 m1 m2 then some (catV a l1 l2 b m1 m2) else none
theorem shapeOk_parts {k : Nat} {l : List Int} (h : impl_shapeOk.f k l = some (shSize l)) : impl_shapeOk.f k l = some ((shSize l).1, shOk l) := by
  rw [h]; unfold shSize; split
  · rename_i h1; rw [h1]
  · rename_i h1; simp [h1]

def spec_Catenate.f (k : Nat) (a : Bool) (l1 l2 : List Int) (b : Bool) (m1 m2 : List Int) : Option ArrAns := if okLens l1 l2 m1 m2 then some (catV a l1 l2 b m1 m2) else none
end Go.Proofs.Ytehfcnndjhjkoaa.PA

namespace Go.Proofs.Ytehfcnndjhjkoaa.PA
open Go.RowKit Go.Proofs.YtehfcnndjhjkoaaW.PrintWords Go.Proofs.YtehfcnndjhjkoaaW.PrintLast Go.Proofs.YtehfcnndjhjkoaaW.PrintMore
set_option linter.unusedVariables false
set_option linter.unusedSimpArgs false
set_option maxHeartbeats 2000000 in
set_option maxRecDepth 100000 in
theorem Take_on (k0 : Nat) (a : Bool) (Aa1 : Option Addr) (ca1 : Nat) (la1 : List Int) (Aa2 : Option Addr) (ca2 : Nat) (la2 : List Int) (b : Bool) (Ab1 : Option Addr) (cb1 : Nat) (lb1 : List Int) (Ab2 : Option Addr) (cb2 : Nat) (lb2 : List Int) (w : World) (ha1 : Kd.C (Kd.int .i64) w Aa1 la1.length la1) (ka1 : la1.length ≤ ca1) (ha2 : Kd.C (Kd.int .i64) w Aa2 la2.length la2) (ka2 : la2.length ≤ ca2) (hb1 : Kd.C (Kd.int .i64) w Ab1 lb1.length lb1) (kb1 : lb1.length ≤ cb1) (hb2 : Kd.C (Kd.int .i64) w Ab2 lb2.length lb2) (kb2 : lb2.length ≤ cb2) (hv : impl_valid.f k0 [⟨a, la1, la2⟩, ⟨b, lb1, lb2⟩] = some 0) (sh fr : List Int)
    (hm : ∀ W, Below w.heap.size w W → Calls Try.prog 108 #[.agg #[.bool a, .slice Aa1 la1.length ca1, .slice Aa2 la2.length ca2], .agg #[.bool b, .slice Ab1 lb1.length cb1, .slice Ab2 lb2.length cb2]] W fun e w' => ∃ A1 c1 A2 c2, e = .returned (.tuple #[.agg #[.slice A1 sh.length c1, .slice A2 fr.length c2], .int .i64 0]) ∧ Kd.C (Kd.int .i64) w' A1 sh.length sh ∧ sh.length ≤ c1 ∧ Kd.C (Kd.int .i64) w' A2 fr.length fr ∧ fr.length ≤ c2 ∧ Below W.heap.size W w') (hsl : sh.length < 17592186044416) (hfl : fr.length ≤ 1000000) (hx : ∀ x ∈ fr, x < lb2.length) :
    Calls Try.prog 45 #[.agg #[.bool a, .slice Aa1 la1.length ca1, .slice Aa2 la2.length ca2], .agg #[.bool b, .slice Ab1 lb1.length cb1, .slice Ab2 lb2.length cb2]] w fun e w' => ∃ v1_ v2_ : Value, e = .returned (.tuple #[.agg #[.bool b, v1_, v2_], .int .i64 0]) ∧ Kd.R (Kd.int .i64) 3 w' w.heap.size (fun k_ => some k_ ≠ (v2_ : Value).ownBlock) v1_ sh ∧ Kd.R (Kd.int .i64) 3 w' w.heap.size (fun k_ => some k_ ≠ (v1_ : Value).ownBlock) v2_ (ofL b lb2 fr) ∧ Below w.heap.size w w' := by
  have Ha1 := Aside0.mk ha1
  have Ka1 := Aside0.mk ka1
  clear ha1 ka1
  have Ha2 := Aside0.mk ha2
  have Ka2 := Aside0.mk ka2
  clear ha2 ka2
  have Hb1 := Aside0.mk hb1
  have Kb1 := Aside0.mk kb1
  clear hb1 kb1
  have Hb2 := Aside0.mk hb2
  have Kb2 := Aside0.mk kb2
  clear hb2 kb2
  have HV := Aside0.mk hv
  have HM := Aside0.mk hm
  have HSL := Aside0.mk hsl
  have HFL := Aside0.mk hfl
  have HXB := Aside0.mk hx
  clear hv hm hsl hfl hx
  have HS := Aside0.mk (Sx.start w)
  go_enter Try.func45, Try.ntmps45
  go_wp2_with (first | ((with_reducible refine gate_dst (N := 2) rfl ?_); refine box_event ?hg (N := 2) ?hd (cs := #[.bool a, .slice Aa1 la1.length ca1, .slice Aa2 la2.length ca2]) (t := 28) ?hr ?_; (case hd => rfl); (case hg => rfl); (case hr => first | (go_simp; done) | (go_simp; rfl)); intro gA hg1 w1 hx1 hb1; have nS : Aside0 (Sx w w1 [(.blk gA #[.bool a, .slice Aa1 la1.length ca1, .slice Aa2 la2.length ca2] 28)]) := Aside0.mk (HS.out.box hg1 hx1 hb1); clear HS; have HS := nS; clear nS hg1 hx1 hb1) | ((with_reducible refine gate_dst (N := 3) rfl ?_); refine box_event ?hg (N := 3) ?hd (cs := #[.bool b, .slice Ab1 lb1.length cb1, .slice Ab2 lb2.length cb2]) (t := 28) ?hr ?_; (case hd => rfl); (case hg => rfl); (case hr => first | (go_simp; done) | (go_simp; rfl)); intro gB hg2 w2 hx2 hb2; have nS : Aside0 (Sx w w2 [(.blk gB #[.bool b, .slice Ab1 lb1.length cb1, .slice Ab2 lb2.length cb2] 28), (.blk gA #[.bool a, .slice Aa1 la1.length ca1, .slice Aa2 la2.length ca2] 28)]) := Aside0.mk (HS.out.box hg2 hx2 hb2); clear HS; have HS := nS; clear nS hg2 hx2 hb2) | ((with_reducible refine gate_dst (N := 4) rfl ?_); refine box_event ?hg (N := 4) ?hd (cs := #[.bool false, .slice none 0 0, .slice none 0 0]) (t := 28) ?hr ?_; (case hd => rfl); (case hg => rfl); (case hr => first | (go_simp; done) | (go_simp; rfl)); intro gR hg3 w3 hx3 hb3; have nS : Aside0 (Sx w w3 [(.blk gR #[.bool false, .slice none 0 0, .slice none 0 0] 28), (.blk gB #[.bool b, .slice Ab1 lb1.length cb1, .slice Ab2 lb2.length cb2] 28), (.blk gA #[.bool a, .slice Aa1 la1.length ca1, .slice Aa2 la2.length ca2] 28)]) := Aside0.mk (HS.out.box hg3 hx3 hb3); clear HS; have HS := nS; clear nS hg3 hx3 hb3) | ((with_reducible refine gate_dst (N := 9) rfl ?_); refine wpList_load_row rfl 28 (.tmp 2) rfl gA rfl 28 #[.bool a, .slice Aa1 la1.length ca1, .slice Aa2 la2.length ca2] (0, 0) _ (HS.out.blk 2 rfl) Try.underlying28 rfl (by kernel_rfl) ?_) | ((with_reducible refine gate_dst (N := 10) rfl ?_); refine wpList_load_row rfl 28 (.tmp 3) rfl gB rfl 28 #[.bool b, .slice Ab1 lb1.length cb1, .slice Ab2 lb2.length cb2] (0, 0) _ (HS.out.blk 1 rfl) Try.underlying28 rfl (by kernel_rfl) ?_) | ((with_reducible refine gate_dst (N := 11) rfl ?_); refine lit_event ?hg (N := 11) ?hd (cs := #[.bool a, .slice Aa1 la1.length ca1, .slice Aa2 la2.length ca2, .bool b, .slice Ab1 lb1.length cb1, .slice Ab2 lb2.length cb2]) (t := 28) (n := 2) ?hr ?_; (case hd => rfl); (case hg => rfl); (case hr => first | (go_simp; done) | (go_simp; rfl)); intro gV hg4 w4 hx4 hb4; have nS : Aside0 (Sx w w4 [(.blk gV #[.bool a, .slice Aa1 la1.length ca1, .slice Aa2 la2.length ca2, .bool b, .slice Ab1 lb1.length cb1, .slice Ab2 lb2.length cb2] 28), (.blk gR #[.bool false, .slice none 0 0, .slice none 0 0] 28), (.blk gB #[.bool b, .slice Ab1 lb1.length cb1, .slice Ab2 lb2.length cb2] 28), (.blk gA #[.bool a, .slice Aa1 la1.length ca1, .slice Aa2 la2.length ca2] 28)]) := Aside0.mk (HS.out.box hg4 hx4 hb4); clear HS; have HS := nS; clear nS hg4 hx4 hb4) | (go_at_call 58; refine (impl_valid.calls k0 _ 2 [⟨a, la1, la2⟩, ⟨b, lb1, lb2⟩] 0 _ (pair_C (HS.out.blk 0 rfl) (Kd.C_below Ha1.out HS.out.below) Ka1.out (Kd.C_below Ha2.out HS.out.below) Ka2.out (Kd.C_below Hb1.out HS.out.below) Kb1.out (Kd.C_below Hb2.out HS.out.below) Kb2.out) (Nat.le_refl _) HV.out).mono ?_; rintro e w5 ⟨rfl, hb5⟩; have nS : Aside0 (Sx w w5 [(.blk gV #[.bool a, .slice Aa1 la1.length ca1, .slice Aa2 la2.length ca2, .bool b, .slice Ab1 lb1.length cb1, .slice Ab2 lb2.length cb2] 28), (.blk gR #[.bool false, .slice none 0 0, .slice none 0 0] 28), (.blk gB #[.bool b, .slice Ab1 lb1.length cb1, .slice Ab2 lb2.length cb2] 28), (.blk gA #[.bool a, .slice Aa1 la1.length ca1, .slice Aa2 la2.length ca2] 28)]) := Aside0.mk (HS.out.step hb5); clear HS; have HS := nS; clear nS hb5) | ((with_reducible refine gate_dst (N := 18) rfl ?_); refine wpList_load_row rfl 28 (.tmp 2) rfl gA rfl 28 #[.bool a, .slice Aa1 la1.length ca1, .slice Aa2 la2.length ca2] (0, 0) _ (HS.out.blk 3 rfl) Try.underlying28 rfl (by kernel_rfl) ?_) | ((with_reducible refine gate_dst (N := 19) rfl ?_); refine wpList_load_row rfl 28 (.tmp 3) rfl gB rfl 28 #[.bool b, .slice Ab1 lb1.length cb1, .slice Ab2 lb2.length cb2] (0, 0) _ (HS.out.blk 2 rfl) Try.underlying28 rfl (by kernel_rfl) ?_) | (go_at_call 108; refine (HM.out _ HS.out.below).mono ?_; rintro e w6 ⟨Am1, cm1, Am2, cm2, rfl, hm1, km1, hm2, km2, hb6⟩; have HM1 := Aside0.mk hm1; have KM1 := Aside0.mk km1; have HM2 := Aside0.mk hm2; have KM2 := Aside0.mk km2; clear hm1 km1 hm2 km2; have nS : Aside0 (Sx w w6 [(.blk gV #[.bool a, .slice Aa1 la1.length ca1, .slice Aa2 la2.length ca2, .bool b, .slice Ab1 lb1.length cb1, .slice Ab2 lb2.length cb2] 28), (.blk gR #[.bool false, .slice none 0 0, .slice none 0 0] 28), (.blk gB #[.bool b, .slice Ab1 lb1.length cb1, .slice Ab2 lb2.length cb2] 28), (.blk gA #[.bool a, .slice Aa1 la1.length ca1, .slice Aa2 la2.length ca2] 28)]) := Aside0.mk (HS.out.step hb6); clear HS; have HS := nS; clear nS hb6; have HW0 := Aside0.mk HS.out.below; have HBB := Aside0.mk (HS.out.blk 2 rfl); have HBR := Aside0.mk (HS.out.blk 1 rfl); have HGR := Aside0.mk (HS.out.get 1 rfl).2; clear HS; have HS := Aside0.mk (Sx.start w6)) | ((with_reducible refine gate_dst (N := 7) rfl ?_); refine box_event ?hg (N := 7) ?hd (cs := #[.slice none 0 0, .slice none 0 0]) (t := 70) ?hr ?_; (case hd => rfl); (case hg => rfl); (case hr => first | (go_simp; done) | (go_simp; rfl)); intro gM hgz1 wz1 hxz1 hbz1; have nS : Aside0 (Sx w6 wz1 [(.blk gM #[.slice none 0 0, .slice none 0 0] 70)]) := Aside0.mk (HS.out.box hgz1 hxz1 hbz1); clear HS; have HS := nS; clear nS hgz1 hxz1 hbz1) | ((with_reducible refine gate_store rfl ?_); refine store_named rfl 70 (.tmp 7) (.tmp 21) rfl gM #[.slice Am1 sh.length cm1, .slice Am2 fr.length cm2] rfl rfl 70 #[.slice none 0 0, .slice none 0 0] (HS.out.blk 0 rfl) (by kernel_rfl) rfl (by simp [Value.oneCell']) ?_; intro wz2 hxz2 hbz2; have nS : Aside0 (Sx w6 wz2 [(.blk gM #[.slice Am1 sh.length cm1, .slice Am2 fr.length cm2] 70)]) := Aside0.mk (HS.out.put 0 rfl hxz2 hbz2); clear HS; have HS := nS; clear nS hxz2 hbz2) | ((with_reducible refine gate_dst (N := 23) rfl ?_); refine wpList_load_row rfl 28 (.tmp 3) rfl gB rfl 28 #[.bool b, .slice Ab1 lb1.length cb1, .slice Ab2 lb2.length cb2] (0, 0) _ (blk_below HBB.out HS.out.below) Try.underlying28 rfl (by kernel_rfl) ?_) | ((with_reducible refine gate_dst (N := 24) rfl ?_); refine wpList_load_row rfl 70 (.tmp 7) rfl gM rfl 70 #[.slice Am1 sh.length cm1, .slice Am2 fr.length cm2] (0, 0) _ (HS.out.blk 0 rfl) Try.underlying70 rfl (by kernel_rfl) ?_) | (go_at_call 70; refine (made_zero Am1 cm1 sh Am2 cm2 fr b Ab1 cb1 lb1 Ab2 cb2 lb2 _ (Kd.C_below HM1.out HS.out.below) KM1.out (Kd.C_below HM2.out HS.out.below) KM2.out (Kd.C_below Hb1.out (HW0.out.trans (HS.out.below.mono HW0.out.size))) Kb1.out (Kd.C_below Hb2.out (HW0.out.trans (HS.out.below.mono HW0.out.size))) Kb2.out HSL.out HFL.out HXB.out).mono ?_; rintro e wz3 ⟨v1, v2, rfl, hrz3, hsz3, hbz3⟩; obtain ⟨B1, d1, rfl⟩ := Kd.R_slice hrz3; obtain ⟨B2, d2, rfl⟩ := Kd.R_slice hsz3; have nS : Aside0 (Sx w6 wz3 [(.row (.slice B1 sh.length d1) sh), (.row (.slice B2 (ofL b lb2 fr).length d2) (ofL b lb2 fr)), (.blk gM #[.slice Am1 sh.length cm1, .slice Am2 fr.length cm2] 70)]) := Aside0.mk (HS.out.addRow2 hbz3 hrz3 hsz3); clear HS; have HS := nS; clear nS hbz3 hrz3 hsz3) | ((with_reducible refine gate_store rfl ?_); refine store_named rfl 28 (.tmp 4) (.tmp 27) rfl gR #[.bool b, .slice B1 sh.length d1, .slice B2 (ofL b lb2 fr).length d2] rfl rfl 28 #[.bool false, .slice none 0 0, .slice none 0 0] (blk_below HBR.out HS.out.below) (by kernel_rfl) rfl (by simp [Value.oneCell']) ?_; intro wF hxF hbF; have HXF := Aside0.mk hxF; have HBF := Aside0.mk hbF; clear hxF hbF))
  have R_ := HS.out.two_but 0 1 (by decide) rfl rfl HBF.out (blk_lt HBR.out) w.heap.size HW0.out.size
  refine bodyPost_ret (results_ct rfl _ _ gR 28 #[.bool b, .slice B1 sh.length d1, .slice B2 (ofL b lb2 fr).length d2] (0, 0) _ rfl HXF.out Try.underlying28 rfl (by kernel_rfl)) rfl ?_
  exact ⟨_, _, rfl, R_.1, R_.2, (HW0.out.trans (HS.out.below.mono HW0.out.size)).trans (HBF.out.below _ HGR.out)⟩
set_option maxHeartbeats 2000000 in
set_option maxRecDepth 100000 in
theorem Drop_on (k0 : Nat) (a : Bool) (Aa1 : Option Addr) (ca1 : Nat) (la1 : List Int) (Aa2 : Option Addr) (ca2 : Nat) (la2 : List Int) (b : Bool) (Ab1 : Option Addr) (cb1 : Nat) (lb1 : List Int) (Ab2 : Option Addr) (cb2 : Nat) (lb2 : List Int) (w : World) (ha1 : Kd.C (Kd.int .i64) w Aa1 la1.length la1) (ka1 : la1.length ≤ ca1) (ha2 : Kd.C (Kd.int .i64) w Aa2 la2.length la2) (ka2 : la2.length ≤ ca2) (hb1 : Kd.C (Kd.int .i64) w Ab1 lb1.length lb1) (kb1 : lb1.length ≤ cb1) (hb2 : Kd.C (Kd.int .i64) w Ab2 lb2.length lb2) (kb2 : lb2.length ≤ cb2) (hv : impl_valid.f k0 [⟨a, la1, la2⟩, ⟨b, lb1, lb2⟩] = some 0) (sh fr : List Int)
    (hm : ∀ W, Below w.heap.size w W → Calls Try.prog 98 #[.agg #[.bool a, .slice Aa1 la1.length ca1, .slice Aa2 la2.length ca2], .agg #[.bool b, .slice Ab1 lb1.length cb1, .slice Ab2 lb2.length cb2]] W fun e w' => ∃ A1 c1 A2 c2, e = .returned (.tuple #[.agg #[.slice A1 sh.length c1, .slice A2 fr.length c2], .int .i64 0]) ∧ Kd.C (Kd.int .i64) w' A1 sh.length sh ∧ sh.length ≤ c1 ∧ Kd.C (Kd.int .i64) w' A2 fr.length fr ∧ fr.length ≤ c2 ∧ Below W.heap.size W w') (hsl : sh.length < 17592186044416) (hfl : fr.length ≤ 1000000) (hx : ∀ x ∈ fr, x < lb2.length) :
    Calls Try.prog 41 #[.agg #[.bool a, .slice Aa1 la1.length ca1, .slice Aa2 la2.length ca2], .agg #[.bool b, .slice Ab1 lb1.length cb1, .slice Ab2 lb2.length cb2]] w fun e w' => ∃ v1_ v2_ : Value, e = .returned (.tuple #[.agg #[.bool b, v1_, v2_], .int .i64 0]) ∧ Kd.R (Kd.int .i64) 3 w' w.heap.size (fun k_ => some k_ ≠ (v2_ : Value).ownBlock) v1_ sh ∧ Kd.R (Kd.int .i64) 3 w' w.heap.size (fun k_ => some k_ ≠ (v1_ : Value).ownBlock) v2_ (ofL b lb2 fr) ∧ Below w.heap.size w w' := by
  have Ha1 := Aside0.mk ha1
  have Ka1 := Aside0.mk ka1
  clear ha1 ka1
  have Ha2 := Aside0.mk ha2
  have Ka2 := Aside0.mk ka2
  clear ha2 ka2
  have Hb1 := Aside0.mk hb1
  have Kb1 := Aside0.mk kb1
  clear hb1 kb1
  have Hb2 := Aside0.mk hb2
  have Kb2 := Aside0.mk kb2
  clear hb2 kb2
  have HV := Aside0.mk hv
  have HM := Aside0.mk hm
  have HSL := Aside0.mk hsl
  have HFL := Aside0.mk hfl
  have HXB := Aside0.mk hx
  clear hv hm hsl hfl hx
  have HS := Aside0.mk (Sx.start w)
  go_enter Try.func41, Try.ntmps41
  go_wp2_with (first | ((with_reducible refine gate_dst (N := 2) rfl ?_); refine box_event ?hg (N := 2) ?hd (cs := #[.bool a, .slice Aa1 la1.length ca1, .slice Aa2 la2.length ca2]) (t := 28) ?hr ?_; (case hd => rfl); (case hg => rfl); (case hr => first | (go_simp; done) | (go_simp; rfl)); intro gA hg1 w1 hx1 hb1; have nS : Aside0 (Sx w w1 [(.blk gA #[.bool a, .slice Aa1 la1.length ca1, .slice Aa2 la2.length ca2] 28)]) := Aside0.mk (HS.out.box hg1 hx1 hb1); clear HS; have HS := nS; clear nS hg1 hx1 hb1) | ((with_reducible refine gate_dst (N := 3) rfl ?_); refine box_event ?hg (N := 3) ?hd (cs := #[.bool b, .slice Ab1 lb1.length cb1, .slice Ab2 lb2.length cb2]) (t := 28) ?hr ?_; (case hd => rfl); (case hg => rfl); (case hr => first | (go_simp; done) | (go_simp; rfl)); intro gB hg2 w2 hx2 hb2; have nS : Aside0 (Sx w w2 [(.blk gB #[.bool b, .slice Ab1 lb1.length cb1, .slice Ab2 lb2.length cb2] 28), (.blk gA #[.bool a, .slice Aa1 la1.length ca1, .slice Aa2 la2.length ca2] 28)]) := Aside0.mk (HS.out.box hg2 hx2 hb2); clear HS; have HS := nS; clear nS hg2 hx2 hb2) | ((with_reducible refine gate_dst (N := 4) rfl ?_); refine box_event ?hg (N := 4) ?hd (cs := #[.bool false, .slice none 0 0, .slice none 0 0]) (t := 28) ?hr ?_; (case hd => rfl); (case hg => rfl); (case hr => first | (go_simp; done) | (go_simp; rfl)); intro gR hg3 w3 hx3 hb3; have nS : Aside0 (Sx w w3 [(.blk gR #[.bool false, .slice none 0 0, .slice none 0 0] 28), (.blk gB #[.bool b, .slice Ab1 lb1.length cb1, .slice Ab2 lb2.length cb2] 28), (.blk gA #[.bool a, .slice Aa1 la1.length ca1, .slice Aa2 la2.length ca2] 28)]) := Aside0.mk (HS.out.box hg3 hx3 hb3); clear HS; have HS := nS; clear nS hg3 hx3 hb3) | ((with_reducible refine gate_dst (N := 9) rfl ?_); refine wpList_load_row rfl 28 (.tmp 2) rfl gA rfl 28 #[.bool a, .slice Aa1 la1.length ca1, .slice Aa2 la2.length ca2] (0, 0) _ (HS.out.blk 2 rfl) Try.underlying28 rfl (by kernel_rfl) ?_) | ((with_reducible refine gate_dst (N := 10) rfl ?_); refine wpList_load_row rfl 28 (.tmp 3) rfl gB rfl 28 #[.bool b, .slice Ab1 lb1.length cb1, .slice Ab2 lb2.length cb2] (0, 0) _ (HS.out.blk 1 rfl) Try.underlying28 rfl (by kernel_rfl) ?_) | ((with_reducible refine gate_dst (N := 11) rfl ?_); refine lit_event ?hg (N := 11) ?hd (cs := #[.bool a, .slice Aa1 la1.length ca1, .slice Aa2 la2.length ca2, .bool b, .slice Ab1 lb1.length cb1, .slice Ab2 lb2.length cb2]) (t := 28) (n := 2) ?hr ?_; (case hd => rfl); (case hg => rfl); (case hr => first | (go_simp; done) | (go_simp; rfl)); intro gV hg4 w4 hx4 hb4; have nS : Aside0 (Sx w w4 [(.blk gV #[.bool a, .slice Aa1 la1.length ca1, .slice Aa2 la2.length ca2, .bool b, .slice Ab1 lb1.length cb1, .slice Ab2 lb2.length cb2] 28), (.blk gR #[.bool false, .slice none 0 0, .slice none 0 0] 28), (.blk gB #[.bool b, .slice Ab1 lb1.length cb1, .slice Ab2 lb2.length cb2] 28), (.blk gA #[.bool a, .slice Aa1 la1.length ca1, .slice Aa2 la2.length ca2] 28)]) := Aside0.mk (HS.out.box hg4 hx4 hb4); clear HS; have HS := nS; clear nS hg4 hx4 hb4) | (go_at_call 58; refine (impl_valid.calls k0 _ 2 [⟨a, la1, la2⟩, ⟨b, lb1, lb2⟩] 0 _ (pair_C (HS.out.blk 0 rfl) (Kd.C_below Ha1.out HS.out.below) Ka1.out (Kd.C_below Ha2.out HS.out.below) Ka2.out (Kd.C_below Hb1.out HS.out.below) Kb1.out (Kd.C_below Hb2.out HS.out.below) Kb2.out) (Nat.le_refl _) HV.out).mono ?_; rintro e w5 ⟨rfl, hb5⟩; have nS : Aside0 (Sx w w5 [(.blk gV #[.bool a, .slice Aa1 la1.length ca1, .slice Aa2 la2.length ca2, .bool b, .slice Ab1 lb1.length cb1, .slice Ab2 lb2.length cb2] 28), (.blk gR #[.bool false, .slice none 0 0, .slice none 0 0] 28), (.blk gB #[.bool b, .slice Ab1 lb1.length cb1, .slice Ab2 lb2.length cb2] 28), (.blk gA #[.bool a, .slice Aa1 la1.length ca1, .slice Aa2 la2.length ca2] 28)]) := Aside0.mk (HS.out.step hb5); clear HS; have HS := nS; clear nS hb5) | ((with_reducible refine gate_dst (N := 18) rfl ?_); refine wpList_load_row rfl 28 (.tmp 2) rfl gA rfl 28 #[.bool a, .slice Aa1 la1.length ca1, .slice Aa2 la2.length ca2] (0, 0) _ (HS.out.blk 3 rfl) Try.underlying28 rfl (by kernel_rfl) ?_) | ((with_reducible refine gate_dst (N := 19) rfl ?_); refine wpList_load_row rfl 28 (.tmp 3) rfl gB rfl 28 #[.bool b, .slice Ab1 lb1.length cb1, .slice Ab2 lb2.length cb2] (0, 0) _ (HS.out.blk 2 rfl) Try.underlying28 rfl (by kernel_rfl) ?_) | (go_at_call 98; refine (HM.out _ HS.out.below).mono ?_; rintro e w6 ⟨Am1, cm1, Am2, cm2, rfl, hm1, km1, hm2, km2, hb6⟩; have HM1 := Aside0.mk hm1; have KM1 := Aside0.mk km1; have HM2 := Aside0.mk hm2; have KM2 := Aside0.mk km2; clear hm1 km1 hm2 km2; have nS : Aside0 (Sx w w6 [(.blk gV #[.bool a, .slice Aa1 la1.length ca1, .slice Aa2 la2.length ca2, .bool b, .slice Ab1 lb1.length cb1, .slice Ab2 lb2.length cb2] 28), (.blk gR #[.bool false, .slice none 0 0, .slice none 0 0] 28), (.blk gB #[.bool b, .slice Ab1 lb1.length cb1, .slice Ab2 lb2.length cb2] 28), (.blk gA #[.bool a, .slice Aa1 la1.length ca1, .slice Aa2 la2.length ca2] 28)]) := Aside0.mk (HS.out.step hb6); clear HS; have HS := nS; clear nS hb6; have HW0 := Aside0.mk HS.out.below; have HBB := Aside0.mk (HS.out.blk 2 rfl); have HBR := Aside0.mk (HS.out.blk 1 rfl); have HGR := Aside0.mk (HS.out.get 1 rfl).2; clear HS; have HS := Aside0.mk (Sx.start w6)) | ((with_reducible refine gate_dst (N := 7) rfl ?_); refine box_event ?hg (N := 7) ?hd (cs := #[.slice none 0 0, .slice none 0 0]) (t := 70) ?hr ?_; (case hd => rfl); (case hg => rfl); (case hr => first | (go_simp; done) | (go_simp; rfl)); intro gM hgz1 wz1 hxz1 hbz1; have nS : Aside0 (Sx w6 wz1 [(.blk gM #[.slice none 0 0, .slice none 0 0] 70)]) := Aside0.mk (HS.out.box hgz1 hxz1 hbz1); clear HS; have HS := nS; clear nS hgz1 hxz1 hbz1) | ((with_reducible refine gate_store rfl ?_); refine store_named rfl 70 (.tmp 7) (.tmp 21) rfl gM #[.slice Am1 sh.length cm1, .slice Am2 fr.length cm2] rfl rfl 70 #[.slice none 0 0, .slice none 0 0] (HS.out.blk 0 rfl) (by kernel_rfl) rfl (by simp [Value.oneCell']) ?_; intro wz2 hxz2 hbz2; have nS : Aside0 (Sx w6 wz2 [(.blk gM #[.slice Am1 sh.length cm1, .slice Am2 fr.length cm2] 70)]) := Aside0.mk (HS.out.put 0 rfl hxz2 hbz2); clear HS; have HS := nS; clear nS hxz2 hbz2) | ((with_reducible refine gate_dst (N := 23) rfl ?_); refine wpList_load_row rfl 28 (.tmp 3) rfl gB rfl 28 #[.bool b, .slice Ab1 lb1.length cb1, .slice Ab2 lb2.length cb2] (0, 0) _ (blk_below HBB.out HS.out.below) Try.underlying28 rfl (by kernel_rfl) ?_) | ((with_reducible refine gate_dst (N := 24) rfl ?_); refine wpList_load_row rfl 70 (.tmp 7) rfl gM rfl 70 #[.slice Am1 sh.length cm1, .slice Am2 fr.length cm2] (0, 0) _ (HS.out.blk 0 rfl) Try.underlying70 rfl (by kernel_rfl) ?_) | (go_at_call 70; refine (made_zero Am1 cm1 sh Am2 cm2 fr b Ab1 cb1 lb1 Ab2 cb2 lb2 _ (Kd.C_below HM1.out HS.out.below) KM1.out (Kd.C_below HM2.out HS.out.below) KM2.out (Kd.C_below Hb1.out (HW0.out.trans (HS.out.below.mono HW0.out.size))) Kb1.out (Kd.C_below Hb2.out (HW0.out.trans (HS.out.below.mono HW0.out.size))) Kb2.out HSL.out HFL.out HXB.out).mono ?_; rintro e wz3 ⟨v1, v2, rfl, hrz3, hsz3, hbz3⟩; obtain ⟨B1, d1, rfl⟩ := Kd.R_slice hrz3; obtain ⟨B2, d2, rfl⟩ := Kd.R_slice hsz3; have nS : Aside0 (Sx w6 wz3 [(.row (.slice B1 sh.length d1) sh), (.row (.slice B2 (ofL b lb2 fr).length d2) (ofL b lb2 fr)), (.blk gM #[.slice Am1 sh.length cm1, .slice Am2 fr.length cm2] 70)]) := Aside0.mk (HS.out.addRow2 hbz3 hrz3 hsz3); clear HS; have HS := nS; clear nS hbz3 hrz3 hsz3) | ((with_reducible refine gate_store rfl ?_); refine store_named rfl 28 (.tmp 4) (.tmp 27) rfl gR #[.bool b, .slice B1 sh.length d1, .slice B2 (ofL b lb2 fr).length d2] rfl rfl 28 #[.bool false, .slice none 0 0, .slice none 0 0] (blk_below HBR.out HS.out.below) (by kernel_rfl) rfl (by simp [Value.oneCell']) ?_; intro wF hxF hbF; have HXF := Aside0.mk hxF; have HBF := Aside0.mk hbF; clear hxF hbF))
  have R_ := HS.out.two_but 0 1 (by decide) rfl rfl HBF.out (blk_lt HBR.out) w.heap.size HW0.out.size
  refine bodyPost_ret (results_ct rfl _ _ gR 28 #[.bool b, .slice B1 sh.length d1, .slice B2 (ofL b lb2 fr).length d2] (0, 0) _ rfl HXF.out Try.underlying28 rfl (by kernel_rfl)) rfl ?_
  exact ⟨_, _, rfl, R_.1, R_.2, (HW0.out.trans (HS.out.below.mono HW0.out.size)).trans (HBF.out.below _ HGR.out)⟩
theorem take_on (a : Bool) (Aa1 : Option Addr) (ca1 : Nat) (la1 : List Int) (Aa2 : Option Addr) (ca2 : Nat) (la2 : List Int) (b : Bool) (Ab1 : Option Addr) (cb1 : Nat) (lb1 : List Int) (Ab2 : Option Addr) (cb2 : Nat) (lb2 : List Int) (r1 : Bool) (r2 r3 : List Int) (w : World) (ha1 : Kd.C (Kd.int .i64) w Aa1 la1.length la1) (ka1 : la1.length ≤ ca1) (ha2 : Kd.C (Kd.int .i64) w Aa2 la2.length la2) (ka2 : la2.length ≤ ca2) (hb1 : Kd.C (Kd.int .i64) w Ab1 lb1.length lb1) (kb1 : lb1.length ≤ cb1) (hb2 : Kd.C (Kd.int .i64) w Ab2 lb2.length lb2) (kb2 : lb2.length ≤ cb2) (h : takeV a la1 la2 b lb1 lb2 = (r1, r2, r3, 0)) (hz : lb1.length ≠ 0) :
    Calls Try.prog 45 #[.agg #[.bool a, .slice Aa1 la1.length ca1, .slice Aa2 la2.length ca2], .agg #[.bool b, .slice Ab1 lb1.length cb1, .slice Ab2 lb2.length cb2]] w fun e w' => ∃ v1_ v2_ : Value, e = .returned (.tuple #[.agg #[.bool r1, v1_, v2_], .int .i64 0]) ∧ Kd.R (Kd.int .i64) 3 w' w.heap.size (fun k_ => some k_ ≠ (v2_ : Value).ownBlock) v1_ r2 ∧ Kd.R (Kd.int .i64) 3 w' w.heap.size (fun k_ => some k_ ≠ (v1_ : Value).ownBlock) v2_ r3 ∧ Below w.heap.size w w' := by
  unfold takeV at h
  by_cases hv : (arrOk a la1 la2 && arrOk b lb1 lb2) = true
  · rw [if_pos hv] at h
    have hv' := hv
    simp only [Bool.and_eq_true] at hv'
    have n1 := arrOk_len hv'.1
    have n2 := arrOk_len hv'.2
    have hs := shOk_range (arrOk_sh hv'.2)
    have hcl := arrOk_cells hv'.1
    have hlo := listOk_eq a la1 la2
    obtain ⟨k0, hk0⟩ := (valid_ev2 a la1 la2 b lb1 lb2 (by omega) (by omega)).rounds
    rw [if_pos hv] at hk0
    by_cases hc : cntC a la1 la2 lb1 = 0
    · rw [if_pos hc] at h
      have c1 := sOf_len hc
      have c2 := cnt_five hc n2.1
      have c3 := sOf_range (l2 := la2) hs
      have c4 := sOf_prod hc (arrOk_prod hv'.2)
      have h0 : listC a la1 = 0 := by
        by_cases h0 : listC a la1 = 0
        · exact h0
        · unfold cntC at hc; rw [if_neg h0] at hc; exact absurd hc h0
      rw [h0] at hlo
      by_cases hok : shOk (absL la2) = true
      · rw [if_pos hok] at h
        obtain ⟨ks, hks⟩ := (shapeOk_yes hok).rounds
        have hpr := shOk_prod hok
        have e : sOf la2 lb1 = lb1 := if_neg hz
        rw [show winL b (sOf la2 lb1) lb2 (absL la2) (stTake (sOf la2 lb1) la2) (prod (absL la2)).toNat = ofL b lb2 (fromL (sOf la2 lb1) (absL la2) (winF (stTake (sOf la2 lb1) la2)) (prod (absL la2)).toNat) from rfl] at h
        simp only [Prod.mk.injEq] at h
        obtain ⟨rfl, rfl, rfl, -⟩ := h
        refine Take_on k0 a Aa1 ca1 la1 Aa2 ca2 la2 b Ab1 cb1 lb1 Ab2 cb2 lb2 w ha1 ka1 ha2 ka2 hb1 kb1 hb2 kb2 hk0 (absL la2) (fromL (sOf la2 lb1) (absL la2) (winF (stTake (sOf la2 lb1) la2)) (prod (absL la2)).toNat) (fun W hW => ?_) (by rw [absL_len]; omega) (by rw [fromL_len]; omega) (one_lt (by rw [c1, absL_len]) c3 c4 n2.2 _)
        rw [e] at c1 c3 ⊢
        exact takeMove_same_ok a Aa1 ca1 la1 Aa2 ca2 la2 b Ab1 cb1 lb1 Ab2 cb2 lb2 W (Kd.C_below ha1 hW) ka1 (Kd.C_below ha2 hW) ka2 (Kd.C_below hb1 hW) kb1 (Kd.C_below hb2 hW) kb2 (fun W' hW' => axesFor_same a Aa1 ca1 la1 Aa2 ca2 la2 b Ab1 cb1 lb1 Ab2 cb2 lb2 W' (Kd.C_below (Kd.C_below ha1 hW) hW') ka1 (Kd.C_below (Kd.C_below ha2 hW) hW') ka2 (Kd.C_below (Kd.C_below hb1 hW) hW') kb1 (Kd.C_below (Kd.C_below hb2 hW) hW') kb2 hlo hz c1.symm) hcl (by omega) ks hks c1 c2 hpr (absL_range hok) c3 (hrg_tr hok)
      · rw [if_neg hok] at h
        simp [noArr] at h
    · rw [if_neg hc] at h
      simp only [noArr, Prod.mk.injEq] at h
      exact absurd h.2.2.2 hc
  · rw [if_neg hv] at h
    simp [noArr] at h
theorem drop_on (a : Bool) (Aa1 : Option Addr) (ca1 : Nat) (la1 : List Int) (Aa2 : Option Addr) (ca2 : Nat) (la2 : List Int) (b : Bool) (Ab1 : Option Addr) (cb1 : Nat) (lb1 : List Int) (Ab2 : Option Addr) (cb2 : Nat) (lb2 : List Int) (r1 : Bool) (r2 r3 : List Int) (w : World) (ha1 : Kd.C (Kd.int .i64) w Aa1 la1.length la1) (ka1 : la1.length ≤ ca1) (ha2 : Kd.C (Kd.int .i64) w Aa2 la2.length la2) (ka2 : la2.length ≤ ca2) (hb1 : Kd.C (Kd.int .i64) w Ab1 lb1.length lb1) (kb1 : lb1.length ≤ cb1) (hb2 : Kd.C (Kd.int .i64) w Ab2 lb2.length lb2) (kb2 : lb2.length ≤ cb2) (h : dropV a la1 la2 b lb1 lb2 = (r1, r2, r3, 0)) (hz : lb1.length ≠ 0) :
    Calls Try.prog 41 #[.agg #[.bool a, .slice Aa1 la1.length ca1, .slice Aa2 la2.length ca2], .agg #[.bool b, .slice Ab1 lb1.length cb1, .slice Ab2 lb2.length cb2]] w fun e w' => ∃ v1_ v2_ : Value, e = .returned (.tuple #[.agg #[.bool r1, v1_, v2_], .int .i64 0]) ∧ Kd.R (Kd.int .i64) 3 w' w.heap.size (fun k_ => some k_ ≠ (v2_ : Value).ownBlock) v1_ r2 ∧ Kd.R (Kd.int .i64) 3 w' w.heap.size (fun k_ => some k_ ≠ (v1_ : Value).ownBlock) v2_ r3 ∧ Below w.heap.size w w' := by
  unfold dropV at h
  by_cases hv : (arrOk a la1 la2 && arrOk b lb1 lb2) = true
  · rw [if_pos hv] at h
    have hv' := hv
    simp only [Bool.and_eq_true] at hv'
    have n1 := arrOk_len hv'.1
    have n2 := arrOk_len hv'.2
    have hs := shOk_range (arrOk_sh hv'.2)
    have hcl := arrOk_cells hv'.1
    have hlo := listOk_eq a la1 la2
    obtain ⟨k0, hk0⟩ := (valid_ev2 a la1 la2 b lb1 lb2 (by omega) (by omega)).rounds
    rw [if_pos hv] at hk0
    by_cases hc : cntC a la1 la2 lb1 = 0
    · rw [if_pos hc] at h
      have c1 := sOf_len hc
      have c2 := cnt_five hc n2.1
      have c3 := sOf_range (l2 := la2) hs
      have c4 := sOf_prod hc (arrOk_prod hv'.2)
      have h0 : listC a la1 = 0 := by
        by_cases h0 : listC a la1 = 0
        · exact h0
        · unfold cntC at hc; rw [if_neg h0] at hc; exact absurd hc h0
      rw [h0] at hlo
      have hok := dropL_ok (sOf la2 lb1) la2 la2.length c1 (sOf_ok hc (arrOk_sh hv'.2))
      obtain ⟨ks, hks⟩ := (shapeOk_yes hok).rounds
      have hpr := shOk_prod hok
      have e : sOf la2 lb1 = lb1 := if_neg hz
      rw [show winL b (sOf la2 lb1) lb2 (dropL (sOf la2 lb1) la2 la2.length) (stDrop la2) (prod (dropL (sOf la2 lb1) la2 la2.length)).toNat = ofL b lb2 (fromL (sOf la2 lb1) (dropL (sOf la2 lb1) la2 la2.length) (winF (stDrop la2)) (prod (dropL (sOf la2 lb1) la2 la2.length)).toNat) from rfl] at h
      simp only [Prod.mk.injEq] at h
      obtain ⟨rfl, rfl, rfl, -⟩ := h
      refine Drop_on k0 a Aa1 ca1 la1 Aa2 ca2 la2 b Ab1 cb1 lb1 Ab2 cb2 lb2 w ha1 ka1 ha2 ka2 hb1 kb1 hb2 kb2 hk0 (dropL (sOf la2 lb1) la2 la2.length) (fromL (sOf la2 lb1) (dropL (sOf la2 lb1) la2 la2.length) (winF (stDrop la2)) (prod (dropL (sOf la2 lb1) la2 la2.length)).toNat) (fun W hW => ?_) (by rw [dropL_len]; omega) (by rw [fromL_len]; omega) (one_lt (by rw [c1, dropL_len]) c3 c4 n2.2 _)
      rw [e] at c1 c3 hok hks hpr ⊢
      exact dropMove_same a Aa1 ca1 la1 Aa2 ca2 la2 b Ab1 cb1 lb1 Ab2 cb2 lb2 W (Kd.C_below ha1 hW) ka1 (Kd.C_below ha2 hW) ka2 (Kd.C_below hb1 hW) kb1 (Kd.C_below hb2 hW) kb2 (fun W' hW' => axesFor_same a Aa1 ca1 la1 Aa2 ca2 la2 b Ab1 cb1 lb1 Ab2 cb2 lb2 W' (Kd.C_below (Kd.C_below ha1 hW) hW') ka1 (Kd.C_below (Kd.C_below ha2 hW) hW') ka2 (Kd.C_below (Kd.C_below hb1 hW) hW') kb1 (Kd.C_below (Kd.C_below hb2 hW) hW') kb2 hlo hz c1.symm) hcl (by omega) ks hks c1 c2 hpr c3 (hrg_tr hok)
    · rw [if_neg hc] at h
      simp only [noArr, Prod.mk.injEq] at h
      exact absurd h.2.2.2 hc
  · rw [if_neg hv] at h
    simp [noArr] at h
set_option maxHeartbeats 2000000 in
set_option maxRecDepth 100000 in
theorem cat_vecs (b : Bool) (Aa1 : Option Addr) (ca1 : Nat) (la1 : List Int) (Aa2 : Option Addr) (ca2 : Nat) (la2 : List Int) (Ab1 : Option Addr) (cb1 : Nat) (lb1 : List Int) (Ab2 : Option Addr) (cb2 : Nat) (lb2 : List Int) (r1 : Bool) (r2 r3 : List Int) (w : World) (ha1 : Kd.C (Kd.int .i64) w Aa1 la1.length la1) (ka1 : la1.length ≤ ca1) (ha2 : Kd.C (Kd.int .i64) w Aa2 la2.length la2) (ka2 : la2.length ≤ ca2) (hb1 : Kd.C (Kd.int .i64) w Ab1 lb1.length lb1) (kb1 : lb1.length ≤ cb1) (hb2 : Kd.C (Kd.int .i64) w Ab2 lb2.length lb2) (kb2 : lb2.length ≤ cb2) (h : catV b la1 la2 b lb1 lb2 = (r1, r2, r3, 0)) (x1 : la1.length = 1) (x2 : lb1.length = 1) :
    Calls Try.prog 38 #[.agg #[.bool b, .slice Aa1 la1.length ca1, .slice Aa2 la2.length ca2], .agg #[.bool b, .slice Ab1 lb1.length cb1, .slice Ab2 lb2.length cb2]] w fun e w' => ∃ v1_ v2_ : Value, e = .returned (.tuple #[.agg #[.bool r1, v1_, v2_], .int .i64 0]) ∧ Kd.R (Kd.int .i64) 3 w' w.heap.size (fun k_ => some k_ ≠ (v2_ : Value).ownBlock) v1_ r2 ∧ Kd.R (Kd.int .i64) 3 w' w.heap.size (fun k_ => some k_ ≠ (v1_ : Value).ownBlock) v2_ r3 ∧ Below w.heap.size w w' := by
  unfold catV at h
  by_cases hv : (arrOk b la1 la2 && arrOk b lb1 lb2) = true
  · rw [if_pos hv] at h
    have hv' := hv
    simp only [Bool.and_eq_true] at hv'
    have oa := hv'.1
    have ob := hv'.2
    have na := arrOk_len oa
    have nb := arrOk_len ob
    obtain ⟨k0, hk0⟩ := (valid_ev2 b la1 la2 b lb1 lb2 (by omega) (by omega)).rounds
    rw [if_pos hv] at hk0
    have hA : BesOk #[.agg #[.bool b, .slice Aa1 la1.length ca1, .slice Aa2 la2.length ca2], .agg #[.bool b, .slice Ab1 lb1.length cb1, .slice Ab2 lb2.length cb2]] b la1 la2 w := fun W hW => beside_same b Aa1 ca1 la1 Aa2 ca2 la2 b Ab1 cb1 lb1 Ab2 cb2 lb2 W (Kd.C_below ha1 hW) ka1 (Kd.C_below ha2 hW) ka2 (Kd.C_below hb1 hW) kb1 (Kd.C_below hb2 hW) kb2 (by omega) (by omega) (by omega)
    have hB : BesOk #[.agg #[.bool b, .slice Ab1 lb1.length cb1, .slice Ab2 lb2.length cb2], .agg #[.bool b, .slice Aa1 la1.length ca1, .slice Aa2 la2.length ca2]] b lb1 lb2 w := fun W hW => beside_same b Ab1 cb1 lb1 Ab2 cb2 lb2 b Aa1 ca1 la1 Aa2 ca2 la2 W (Kd.C_below hb1 hW) kb1 (Kd.C_below hb2 hW) kb2 (Kd.C_below ha1 hW) ka1 (Kd.C_below ha2 hW) ka2 (by omega) (by omega) (by omega)
    have z1 : catL1 la1 lb1 = la1 := by unfold catL1; simp [x1, x2]
    have z2 : catL1 lb1 la1 = lb1 := by unfold catL1; simp [x1, x2]
    have z3 : catL2 la1 la2 lb1 = la2 := by unfold catL2; simp [x1, x2]
    have z4 : catL2 lb1 lb2 la1 = lb2 := by unfold catL2; simp [x1, x2]
    have s1 := catL_sh (arrOk_sh oa) (arrOk_sh ob)
    have s2 := catL_sh (arrOk_sh ob) (arrOk_sh oa)
    have c1 := catL_prod oa ob
    have c2 := catL_prod ob oa
    rw [z1] at s1; rw [z2] at s2; rw [z1, z3] at c1; rw [z2, z4] at c2
    rw [z1, z2, z3, z4, if_pos (by omega)] at h
    have q1 := shOk_prod s1.1
    have q2 := shOk_prod s2.1
    have hwa := without_eq b la1 la2 s1.2 na.1
    have hwb := without_eq b lb1 lb2 s2.2 nb.1
    obtain ⟨k2, hk2⟩ := (slEqual_ev la1.dropLast lb1.dropLast (by simp; omega)).rounds
    have hd : la1.dropLast = lb1.dropLast := by
      obtain ⟨x, rfl⟩ := List.length_eq_one_iff.1 x1
      obtain ⟨y, rfl⟩ := List.length_eq_one_iff.1 x2
      rfl
    rw [if_pos hd, if_neg (fun hh => hh.1 rfl)] at h
    rw [decide_eq_true hd] at hk2
    obtain ⟨P, m, N, e1, e2, e3, e4, e5, e6, e7, e8, e9⟩ := sh_last s1.1 s1.2
    obtain ⟨Q, n, K, f1, f2, f3, f4, f5, f6, f7, f8, f9⟩ := sh_last s2.1 s2.2
    have hPQ : P = Q := by rw [← e2, ← f2]; exact hd
    subst hPQ
    have hNK : N = K := by omega
    subst hNK
    rw [e9] at c1
    rw [f9] at c2
    rw [e2, e3, f3, e5] at h
    rw [e2] at hwa hk2
    rw [f2] at hwb hk2
    obtain ⟨k1, hk1⟩ := (shapeOk_ev (P ++ [(m : Int) + (n : Int)])).rounds
    obtain ⟨k3, hk3⟩ := (shapeOk_ev P).rounds
    rw [shSize, if_pos e4, e5] at hk3
    have hm : rd la1 (P.length : Int) = (m : Int) := by rw [e1]; exact rd_mid P [] _
    have hn : rd lb1 (P.length : Int) = (n : Int) := by rw [f1]; exact rd_mid P [] _
    have ln1 : la1.length = P.length + 1 := by rw [e1]; simp
    have ln2 : lb1.length = P.length + 1 := by rw [f1]; simp
    exact cat_on k0 b Aa1 ca1 la1 Aa2 ca2 la2 b Ab1 cb1 lb1 Ab2 cb2 lb2 w ha1 ka1 ha2 ka2 hb1 kb1 hb2 kb2 hk0 la1 la2 lb1 lb2 hA hB (by omega) P P hwa hwb k2 hk2 (.inl rfl)
      P.length (by omega) m n hm hn _ (IntWalk.i64_in _ (by omega)) ln1 ln2 na.1 nb.1 _ rfl _ rfl k1 _ _ (shapeOk_parts hk1) k3 N hk3 e6 (by omega) (by omega) (by omega) (by omega) r1 r2 r3 0
      (fun hz => by
        rw [if_neg (by rw [hz]; decide)] at h
        simp [noArr] at h)
      (fun hz => by
        rw [if_pos hz] at h
        simp only [Prod.mk.injEq, Int.toNat_natCast] at h
        obtain ⟨h1, rfl, rfl, -⟩ := h
        refine ⟨?_, rfl, rfl, rfl⟩
        rw [← h1]
        by_cases g1 : la2.length = 0 <;> by_cases g2 : 0 < lb2.length <;> simp [g1, g2])
  · rw [if_neg hv] at h
    simp [noArr] at h
end Go.Proofs.Ytehfcnndjhjkoaa.PA

-- By a program (prt.py, over the print of the kit), for this claim. Not trusted: Lean checks it.
namespace Go.Proofs.Ytehfcnndjhjkoaa.PA
open Go.RowKit Go.Proofs.YtehfcnndjhjkoaaW.PrintWords Go.Proofs.YtehfcnndjhjkoaaW.PrintLast Go.Proofs.YtehfcnndjhjkoaaW.PrintMore
attribute [local go_sem] max2_int min2_int max_two min_two max_three min_three max_four min_four   -- for this text's walks alone
set_option linter.unusedVariables false
set_option linter.unusedSimpArgs false

/-! ### laws_lwArray: function 28 -/
def laws_lwArray.f (a0_0 : Bool) (l0_1 : List Int) (l0_2 : List Int) : Option (Bool × List Int × List Int) := (some (([] : List Int) : List Int)).bind fun y103 => (if y103.length + l0_1.length < 17592186044416 then ((some (([] : List Int) : List Int)).bind fun y109 => (if y109.length + l0_2.length < 17592186044416 then (some (a0_0, (y103 ++ l0_1), (y109 ++ l0_2))) else (none))) else (none))
def laws_lwArray.T1 : Bool × List (List Nat × List Nat) := (true, [([], []), ([0], [0]), ([], []), ([], []), ([3], [3]), ([2, 4], [2, 4]), ([], []), ([], []), ([7], [7]), ([6, 8, 5], [6, 8]), ([1, 5, 9], [1, 5, 9]), ([10, 9, 0, 1, 2, 3, 4, 5, 6, 7, 8, 9, 10], [10])])
def laws_lwArray.B1 : List Nat := [0, 1, 0, 0, 8, 28, 0, 0, 128, 508, 1023, 2047]
theorem laws_lwArray.tab1 : rtab .any (opsOf Try.f28 1) = laws_lwArray.T1 := by kernel_rfl
theorem laws_lwArray.bits1 : waitsOk laws_lwArray.T1.2 laws_lwArray.B1 = true := by kernel_rfl
set_option maxHeartbeats 8000000 in
set_option maxRecDepth 100000 in
theorem laws_lwArray.calls (a0_0 : Bool) (A0_1 : Option Addr) (c0_1 : Nat) (l0_1 : List Int) (A0_2 : Option Addr) (c0_2 : Nat) (l0_2 : List Int) (r1 : Bool) (r2 : List Int) (r3 : List Int) (w : World) (hr0_1 : Kd.C (Kd.int .i64) w A0_1 l0_1.length l0_1) (hc0_1 : l0_1.length ≤ c0_1) (hr0_2 : Kd.C (Kd.int .i64) w A0_2 l0_2.length l0_2) (hc0_2 : l0_2.length ≤ c0_2) (h : laws_lwArray.f a0_0 l0_1 l0_2 = some (r1, r2, r3)) :
    Calls Try.prog 28 #[.agg #[.bool a0_0, .slice A0_1 l0_1.length c0_1, .slice A0_2 l0_2.length c0_2]] w fun e w' => ∃ v1_ v2_ : Value, e = .returned (.agg #[.bool r1, v1_, v2_]) ∧ Kd.R (Kd.int .i64) 3 w' w.heap.size (fun k_ => some k_ ≠ (v2_ : Value).ownBlock) v1_ r2 ∧ Kd.R (Kd.int .i64) 3 w' w.heap.size (fun k_ => some k_ ≠ (v1_ : Value).ownBlock) v2_ r3 ∧ Below w.heap.size w w' := by
  have hu28 := Try.underlying28
  have HR0_1 := Aside0.mk hr0_1
  have HC0_1 := Aside0.mk hc0_1
  clear hr0_1 hc0_1
  have HR0_2 := Aside0.mk hr0_2
  have HC0_2 := Aside0.mk hc0_2
  clear hr0_2 hc0_2
  have HB := Aside0.mk (Below.refl w.heap.size w)
  have H : ((some (([] : List Int) : List Int)).bind fun y103 => (if y103.length + l0_1.length < 17592186044416 then ((some (([] : List Int) : List Int)).bind fun y109 => (if y109.length + l0_2.length < 17592186044416 then (some (a0_0, (y103 ++ l0_1), (y109 ++ l0_2))) else (none))) else (none))) = some (r1, r2, r3) := h
  clear h
  obtain ⟨y103, hy103⟩ : ∃ y_ : List Int, y_ = (([] : List Int)) := ⟨_, rfl⟩
  replace H : (if y103.length + l0_1.length < 17592186044416 then ((some (([] : List Int) : List Int)).bind fun y109 => (if y109.length + l0_2.length < 17592186044416 then (some (a0_0, (y103 ++ l0_1), (y109 ++ l0_2))) else (none))) else (none)) = some (r1, r2, r3) := by first | (rw [hy103]; with_reducible exact H) | (have H2_ := (Option.bind_some _ _).symm.trans H; rw [hy103]; with_reducible exact H2_) | (have H2_ := (Option.bind_some _ _).symm.trans H; with_reducible exact H2_) | with_reducible exact H | (rw [hy103]; exact H) | exact H
  have Ny103 := Aside0.mk hy103
  clear hy103
  by_cases c2 : y103.length + l0_1.length < 17592186044416
  · rw [if_pos c2] at H
    have LMc2 := Aside0.mk c2
    clear c2
    obtain ⟨y106, hy106⟩ : ∃ y_ : List Int, y_ = (y103 ++ l0_1) := ⟨_, rfl⟩
    replace H : ((some (([] : List Int) : List Int)).bind fun y109 => (if y109.length + l0_2.length < 17592186044416 then (some (a0_0, y106, (y109 ++ l0_2))) else (none))) = some (r1, r2, r3) := by first | (rw [hy106]; with_reducible exact H) | (have H2_ := (Option.bind_some _ _).symm.trans H; rw [hy106]; with_reducible exact H2_) | (have H2_ := (Option.bind_some _ _).symm.trans H; with_reducible exact H2_) | with_reducible exact H | (rw [hy106]; exact H) | exact H
    have Ny106 := Aside0.mk hy106
    clear hy106
    obtain ⟨y109, hy109⟩ : ∃ y_ : List Int, y_ = (([] : List Int)) := ⟨_, rfl⟩
    replace H : (if y109.length + l0_2.length < 17592186044416 then (some (a0_0, y106, (y109 ++ l0_2))) else (none)) = some (r1, r2, r3) := by first | (rw [hy109]; with_reducible exact H) | (have H2_ := (Option.bind_some _ _).symm.trans H; rw [hy109]; with_reducible exact H2_) | (have H2_ := (Option.bind_some _ _).symm.trans H; with_reducible exact H2_) | with_reducible exact H | (rw [hy109]; exact H) | exact H
    have Ny109 := Aside0.mk hy109
    clear hy109
    by_cases c3 : y109.length + l0_2.length < 17592186044416
    · rw [if_pos c3] at H
      have LMc3 := Aside0.mk c3
      clear c3
      obtain ⟨y112, hy112⟩ : ∃ y_ : List Int, y_ = (y109 ++ l0_2) := ⟨_, rfl⟩
      replace H : (some (a0_0, y106, y112)) = some (r1, r2, r3) := by first | (rw [hy112]; with_reducible exact H) | (have H2_ := (Option.bind_some _ _).symm.trans H; rw [hy112]; with_reducible exact H2_) | (have H2_ := (Option.bind_some _ _).symm.trans H; with_reducible exact H2_) | with_reducible exact H | (rw [hy112]; exact H) | exact H
      have Ny112 := Aside0.mk hy112
      clear hy112
      simp only [Option.some.injEq, Prod.mk.injEq] at H
      obtain ⟨rfl, rfl, rfl⟩ := H
      go_enter Try.func28, Try.ntmps28
      try go_wp2_with (first | ((with_reducible refine gate_dst (N := 1) rfl ?_); refine box_event ?hg (N := 1) ?hd (cs := #[.bool a0_0, .slice A0_1 l0_1.length c0_1, .slice A0_2 l0_2.length c0_2]) (t := 28) ?hr ?_; (case hd => rfl); (case hg => rfl); (case hr => first | (go_simp; done) | (go_simp; rfl)); intro gb101 hg w4 hbox hb; have n0_ := Aside0.mk (below_step (by repeat (first | (with_reducible first | exact HB.out | apply below_alloc | apply pw_below_drewN | apply below_drew1) | exact HB.out)) hb); have n1_ := Aside0.mk (hbox); have n2_ := Aside0.mk ((by rw [hg]; exact (below_size (by repeat (first | (with_reducible first | exact HB.out | apply below_alloc | apply pw_below_drewN | apply below_drew1) | exact HB.out))) : w.heap.size ≤ gb101)); have n3_ := Aside0.mk ((by rw [hg]; exact (below_size (by repeat (first | (with_reducible first | exact HB.out | apply below_alloc | apply pw_below_drewN | apply below_drew1) | exact HB.out))) : w.heap.size ≤ gb101)); clear HB; have HB := n0_; have BK101 := n1_; have GW101 := n2_; have GE101 := n3_; clear n0_ n1_ n2_ n3_; clear hb hbox hg) | ((with_reducible refine gate_dst (N := 2) rfl ?_); refine box_event ?hg (N := 2) ?hd (cs := #[.bool false, .slice none 0 0, .slice none 0 0]) (t := 28) ?hr ?_; (case hd => rfl); (case hg => rfl); (case hr => first | (go_simp; done) | (go_simp; rfl)); intro gb102 hg w5 hbox hb; have n0_ := Aside0.mk (blk_below (g := gb101) (o := .cells #[.bool a0_0, .slice A0_1 l0_1.length c0_1, .slice A0_2 l0_2.length c0_2] 28 (0, 0)) (by (with_reducible repeat (first | refine blk_drewN ?_ _ | refine blk_drew ?_ | refine blk_alloc ?_ _)); exact BK101.out) hb); have n1_ := Aside0.mk (below_step (by repeat (first | (with_reducible first | exact HB.out | apply below_alloc | apply pw_below_drewN | apply below_drew1 | refine below_set ?_ GE101.out) | exact HB.out)) hb); have n2_ := Aside0.mk (hbox); have n3_ := Aside0.mk ((by rw [hg]; exact (below_size (by repeat (first | (with_reducible first | exact HB.out | apply below_alloc | apply pw_below_drewN | apply below_drew1 | refine below_set ?_ GE101.out) | exact HB.out))) : w.heap.size ≤ gb102)); have n4_ := Aside0.mk ((by rw [hg]; exact (below_size (by repeat (first | (with_reducible first | exact HB.out | apply below_alloc | apply pw_below_drewN | apply below_drew1 | refine below_set ?_ GE101.out) | exact HB.out))) : w.heap.size ≤ gb102)); have n5_ := Aside0.mk ((by rw [hg]; exact Nat.ne_of_lt (blk_lt (g := gb101) (o := .cells #[.bool a0_0, .slice A0_1 l0_1.length c0_1, .slice A0_2 l0_2.length c0_2] 28 (0, 0)) (by (with_reducible repeat (first | refine blk_drewN ?_ _ | refine blk_drew ?_ | refine blk_alloc ?_ _)); exact BK101.out)) : gb101 ≠ gb102)); have n6_ := Aside0.mk ((by rw [hg]; exact Nat.ne_of_gt (blk_lt (g := gb101) (o := .cells #[.bool a0_0, .slice A0_1 l0_1.length c0_1, .slice A0_2 l0_2.length c0_2] 28 (0, 0)) (by (with_reducible repeat (first | refine blk_drewN ?_ _ | refine blk_drew ?_ | refine blk_alloc ?_ _)); exact BK101.out)) : gb102 ≠ gb101)); clear BK101; clear HB; have BK101 := n0_; have HB := n1_; have BK102 := n2_; have GW102 := n3_; have GE102 := n4_; have NB101_102 := n5_; have NB102_101 := n6_; clear n0_ n1_ n2_ n3_ n4_ n5_ n6_; clear hb hbox hg))
      have n0_ := Aside0.mk (blk_drew BK101.out)
      have n1_ := Aside0.mk (blk_drew BK102.out)
      have n2_ := Aside0.mk (below_drew1 HB.out)
      clear BK101
      clear BK102
      clear HB
      have BK101 := n0_
      have BK102 := n1_
      have HB := n2_
      clear n0_ n1_ n2_
      refine start_ (n := 12) (S := fun w' => w'.cell? ⟨gb101, 0, none⟩ = some (.bool a0_0) ∧ w'.cell? ⟨gb101, 1, none⟩ = some (.slice A0_1 l0_1.length c0_1) ∧ w'.cell? ⟨gb101, 2, none⟩ = some (.slice A0_2 l0_2.length c0_2)) (ds := []) #[false, false, false, false, false, false, false, false, false, false, false, false] (by kernel_rfl) rfl rfl ⟨(blk_cell BK101.out 0).trans rfl, (blk_cell BK101.out 1).trans rfl, (blk_cell BK101.out 2).trans rfl⟩ (fun hHeld => ?_); refine with_tabW laws_lwArray.tab1 laws_lwArray.bits1 (fun HT_ HW_ => ?_)
      generalize w5.drew = w6 at BK101 BK102 HB hHeld ⊢
      refine pure_ (i := 0) (N := some 3) (v := ?_) (a' := ?_) #[true, false, false, false, false, false, false, false, false, false, false, false] rfl rfl (any_of HT_.out (by kernel_rfl)) (fun _ _ _ h => h) (Or.inl ⟨by rfl, ?_⟩) ?_ ?_
      rotate_left
      · intro w'
        go_simp
        with_reducible rfl
      rotate_left
      · simp only [Act.put, List.setIfInBounds_toArray, List.set_cons_zero, List.set_cons_succ, i64_w, i32_w]
        rfl
      refine pure_ (i := 3) (N := some 6) (v := ?_) (a' := ?_) #[true, false, false, true, false, false, false, false, false, false, false, false] rfl rfl (any_of HT_.out (by kernel_rfl)) (fun _ _ _ h => h) (Or.inl ⟨by rfl, ?_⟩) ?_ ?_
      rotate_left
      · intro w'
        go_simp
        with_reducible rfl
      rotate_left
      · simp only [Act.put, List.setIfInBounds_toArray, List.set_cons_zero, List.set_cons_succ, i64_w, i32_w]
        rfl
      refine pure_ (i := 7) (N := some 10) (v := ?_) (a' := ?_) #[true, false, false, true, false, false, false, true, false, false, false, false] rfl rfl (any_of HT_.out (by kernel_rfl)) (fun _ _ _ h => h) (Or.inl ⟨by rfl, ?_⟩) ?_ ?_
      rotate_left
      · intro w'
        go_simp
        with_reducible rfl
      rotate_left
      · simp only [Act.put, List.setIfInBounds_toArray, List.set_cons_zero, List.set_cons_succ, i64_w, i32_w]
        rfl
      refine take_ (i := 1) (N := some 4) (v := ?_) (a' := ?_) #[true, true, false, true, false, false, false, true, false, false, false, false] rfl rfl (take_ofW HT_.out HW_.out (by kernel_rfl)) (fun _ _ _ h => h) (Or.inl ⟨by rfl, ?_⟩) hHeld ?_ ?_
      rotate_left
      · rintro w' ⟨s0, s1, s2⟩
        go_simp
        with_reducible rfl
      rotate_left
      · simp only [Act.put, List.setIfInBounds_toArray, List.set_cons_zero, List.set_cons_succ, i64_w, i32_w]
        rfl
      refine take_ (i := 4) (N := some 7) (v := ?_) (a' := ?_) #[true, true, false, true, true, false, false, true, false, false, false, false] rfl rfl (take_ofW HT_.out HW_.out (by kernel_rfl)) (fun _ _ _ h => h) (Or.inl ⟨by rfl, ?_⟩) hHeld ?_ ?_
      rotate_left
      · rintro w' ⟨s0, s1, s2⟩
        go_simp
        with_reducible rfl
      rotate_left
      · simp only [Act.put, List.setIfInBounds_toArray, List.set_cons_zero, List.set_cons_succ, i64_w, i32_w]
        rfl
      refine take_ (i := 8) (N := some 11) (v := ?_) (a' := ?_) #[true, true, false, true, true, false, false, true, true, false, false, false] rfl rfl (take_ofW HT_.out HW_.out (by kernel_rfl)) (fun _ _ _ h => h) (Or.inl ⟨by rfl, ?_⟩) hHeld ?_ ?_
      rotate_left
      · rintro w' ⟨s0, s1, s2⟩
        go_simp
        with_reducible rfl
      rotate_left
      · simp only [Act.put, List.setIfInBounds_toArray, List.set_cons_zero, List.set_cons_succ, i64_w, i32_w]
        rfl
      refine join_ (σ := Value × Value × Value) 3 #[true, true, true, true, true, true, true, true, true, false, false, false] (fun s_ => [(5, s_.1), (8, s_.2.1), (9, s_.2.2)]) (fun s_ w' => (w'.cell? ⟨gb101, 0, none⟩ = some (.bool a0_0) ∧ w'.cell? ⟨gb101, 1, none⟩ = some (.slice A0_1 l0_1.length c0_1) ∧ w'.cell? ⟨gb101, 2, none⟩ = some (.slice A0_2 l0_2.length c0_2)) ∧ (Kd.R (Kd.int .i64) 3 w' w.heap.size (fun k_ => some k_ ≠ (s_.2.2 : Value).ownBlock) s_.2.1 y106) ∧ (Kd.R (Kd.int .i64) 3 w' w.heap.size (fun k_ => some k_ ≠ (s_.2.1 : Value).ownBlock) s_.2.2 y109) ∧ (w'.heap[gb101]? = some (.cells #[.bool a0_0, .slice A0_1 l0_1.length c0_1, .slice A0_2 l0_2.length c0_2] 28 (0, 0))) ∧ (w'.heap[gb102]? = some (.cells #[.bool false, .slice none 0 0, .slice none 0 0] 28 (0, 0))) ∧ (Below w.heap.size w w')) ?_ ?_
      rotate_left
      · intro hCont
        refine two_ (i := 2) (j := 6) (Ni := some 5) (Nj := some 9) #[true, true, true, true, true, false, false, true, true, false, false, false] #[true, true, false, true, true, false, true, true, true, false, false, false] rfl rfl rfl rfl (two_of HT_.out (by kernel_rfl)) (by decide) (by decide) (fun K hK => ?_) (fun K hK => ?_)
        · skip
          refine Kd.R_lit_step (Kd.int .i64) _ 3 ?hg (N := 5) ?hd (xs := ([] : List Int)) (inner := []) (ok := fun _ => True) (okp := fun _ => True) ?hr ?hp (fun _ hk => hk) trivial (Below.refl _ _) (Nat.le_refl _) (by simp) ?_; (case hd => rfl); (case hg => rfl); (case hr => first | (go_simp; done) | (go_simp; rfl)); (case hp => exact (Reps.none _ _))
          intro v104 w7 ho8 hb hg_ hnew_
          clear hg_ hnew_
          (first | rw [← Ny103.out] at ho8 | (simp only [Int.reduceToNat] at ho8; rw [← Ny103.out] at ho8))
          have n0_ := Aside0.mk (Kd.R_lower ho8 (below_size (by repeat (first | (with_reducible first | exact HB.out | apply below_alloc | apply pw_below_drewN | apply below_drew1 | refine below_set ?_ GE101.out | refine below_set ?_ GE102.out) | exact HB.out))))
          have n1_ := Aside0.mk (blk_below (g := gb101) (o := .cells #[.bool a0_0, .slice A0_1 l0_1.length c0_1, .slice A0_2 l0_2.length c0_2] 28 (0, 0)) (by (with_reducible repeat (first | refine blk_drewN ?_ _ | refine blk_drew ?_ | refine blk_alloc ?_ _)); exact BK101.out) hb)
          have n2_ := Aside0.mk (blk_below (g := gb102) (o := .cells #[.bool false, .slice none 0 0, .slice none 0 0] 28 (0, 0)) (by (with_reducible repeat (first | refine blk_drewN ?_ _ | refine blk_drew ?_ | refine blk_alloc ?_ _)); exact BK102.out) hb)
          have n3_ := Aside0.mk (below_step (by repeat (first | (with_reducible first | exact HB.out | apply below_alloc | apply pw_below_drewN | apply below_drew1 | refine below_set ?_ GE101.out | refine below_set ?_ GE102.out) | exact HB.out)) hb)
          clear BK101
          clear BK102
          clear HB
          have HO105 := n0_
          have BK101 := n1_
          have BK102 := n2_
          have HB := n3_
          clear n0_ n1_ n2_ n3_
          clear hb ho8
          refine hK.out _ _ ⟨(blk_cell BK101.out 0).trans rfl, (blk_cell BK101.out 1).trans rfl, (blk_cell BK101.out 2).trans rfl⟩ (fun hHeld => ?_)
          clear hK K
          refine norm_ (a' := ?_) ?_ ?_
          rotate_left
          · show Act.put _ (some 5) _ = _
            simp only [Act.put, List.setIfInBounds_toArray, List.set_cons_zero, List.set_cons_succ, i64_w, i32_w]
            rfl
          refine two_ (i := 5) (j := 6) (Ni := some 8) (Nj := some 9) #[true, true, true, true, true, true, false, true, true, false, false, false] #[true, true, true, true, true, false, true, true, true, false, false, false] rfl rfl rfl rfl (two_of HT_.out (by kernel_rfl)) (by decide) (by decide) (fun K hK => ?_) (fun K hK => ?_)
          · skip
            refine Kd.R_append_rows_step (Kd.int .i64) (w0 := w) w.heap.size (by rfl) (.tmp 5) (.tmp 7) 22 3 (.int .i64 0) 8 rfl Try.underlying22 info3 rfl (by decide) (by omega) v104 y103 l0_1 _ _ _ (fun _ => True) (fun _ => False) rfl rfl ?aO ?aR (fun _ _ h => h) (fun _ h => h.elim) ?aF ?aB ?aS ?aL ?_
            (case aR => repeat (first | exact (Kd.C_below HR0_1.out HB.out) | (with_reducible refine Kd.C_alloc ?_ _) | (with_reducible refine Kd.C_drewN ?_ _) | (with_reducible refine Kd.C_drew ?_)))
            (case aB => exact (by repeat (first | (with_reducible first | exact HB.out | apply below_alloc | apply pw_below_drewN | apply below_drew1 | refine below_set ?_ GE101.out | refine below_set ?_ GE102.out) | exact HB.out)))
            (case aF => exact (fun _ _ => trivial))
            (case aO => exact (by (with_reducible repeat (first | apply Kd.R_alloc | apply Kd.R_drewN | apply Kd.R_drew)); exact HO105.out))
            (case aS => exact (below_size (by repeat (first | (with_reducible first | exact HB.out | apply below_alloc | apply pw_below_drewN | apply below_drew1 | refine below_set ?_ GE101.out | refine below_set ?_ GE102.out) | exact HB.out))))
            (case aL => have := LMc2.out; omega)
            intro v107 w9 ho hb hg hat
            rw [← Ny106.out] at ho
            have n0_ := Aside0.mk (blk_grown (g := gb101) (o := .cells #[.bool a0_0, .slice A0_1 l0_1.length c0_1, .slice A0_2 l0_2.length c0_2] 28 (0, 0)) (by (with_reducible repeat (first | refine blk_drewN ?_ _ | refine blk_drew ?_ | refine blk_alloc ?_ _)); exact BK101.out) hg (Kd.R_ne HO105.out BK101.out (by decide)))
            have n1_ := Aside0.mk (blk_grown (g := gb102) (o := .cells #[.bool false, .slice none 0 0, .slice none 0 0] 28 (0, 0)) (by (with_reducible repeat (first | refine blk_drewN ?_ _ | refine blk_drew ?_ | refine blk_alloc ?_ _)); exact BK102.out) hg (Kd.R_ne HO105.out BK102.out (by decide)))
            have n2_ := Aside0.mk (hb)
            have n3_ := Aside0.mk (ho)
            clear BK101
            clear BK102
            clear HB
            clear HO105
            have BK101 := n0_
            have BK102 := n1_
            have HB := n2_
            have HO108 := n3_
            clear n0_ n1_ n2_ n3_
            clear ho hb hg hat
            refine hK.out _ _ ⟨(blk_cell BK101.out 0).trans rfl, (blk_cell BK101.out 1).trans rfl, (blk_cell BK101.out 2).trans rfl⟩ (fun hHeld => ?_)
            clear hK K
            refine norm_ (a' := ?_) ?_ ?_
            rotate_left
            · show Act.put _ (some 8) _ = _
              simp only [Act.put, List.setIfInBounds_toArray, List.set_cons_zero, List.set_cons_succ, i64_w, i32_w]
              rfl
            refine one_ (i := 6) (N := some 9) #[true, true, true, true, true, true, true, true, true, false, false, false] rfl rfl (one_of HT_.out (by kernel_rfl)) (by decide) (fun K hK => ?_)
            refine Kd.R_lit_step (Kd.int .i64) _ 3 ?hg (N := 9) ?hd (xs := ([] : List Int)) (inner := []) (ok := fun _ => True) (okp := fun _ => True) ?hr ?hp (fun _ hk => hk) trivial (Below.refl _ _) (Nat.le_refl _) (by simp) ?_; (case hd => rfl); (case hg => rfl); (case hr => first | (go_simp; done) | (go_simp; rfl)); (case hp => exact (Reps.none _ _))
            intro v110 w10 ho11 hb hg_ hnew_
            clear hg_ hnew_
            (first | rw [← Ny109.out] at ho11 | (simp only [Int.reduceToNat] at ho11; rw [← Ny109.out] at ho11))
            have n0_ := Aside0.mk (Kd.R_elder' (by (with_reducible repeat (first | apply Kd.R_alloc | apply Kd.R_drewN | apply Kd.R_drew)); exact HO108.out) (Kd.R_base ho11) hb)
            have n1_ := Aside0.mk (Kd.R_lower (Kd.R_new' ho11 (Kd.R_lt (by (with_reducible repeat (first | apply Kd.R_alloc | apply Kd.R_drewN | apply Kd.R_drew)); exact HO108.out))) (below_size (by repeat (first | (with_reducible first | exact HB.out | apply below_alloc | apply pw_below_drewN | apply below_drew1 | refine below_set ?_ GE101.out | refine below_set ?_ GE102.out) | exact HB.out))))
            have n2_ := Aside0.mk (blk_below (g := gb101) (o := .cells #[.bool a0_0, .slice A0_1 l0_1.length c0_1, .slice A0_2 l0_2.length c0_2] 28 (0, 0)) (by (with_reducible repeat (first | refine blk_drewN ?_ _ | refine blk_drew ?_ | refine blk_alloc ?_ _)); exact BK101.out) hb)
            have n3_ := Aside0.mk (blk_below (g := gb102) (o := .cells #[.bool false, .slice none 0 0, .slice none 0 0] 28 (0, 0)) (by (with_reducible repeat (first | refine blk_drewN ?_ _ | refine blk_drew ?_ | refine blk_alloc ?_ _)); exact BK102.out) hb)
            have n4_ := Aside0.mk (below_step (by repeat (first | (with_reducible first | exact HB.out | apply below_alloc | apply pw_below_drewN | apply below_drew1 | refine below_set ?_ GE101.out | refine below_set ?_ GE102.out) | exact HB.out)) hb)
            clear HO108
            clear BK101
            clear BK102
            clear HB
            have HO108 := n0_
            have HO111 := n1_
            have BK101 := n2_
            have BK102 := n3_
            have HB := n4_
            clear n0_ n1_ n2_ n3_ n4_
            clear hb ho11
            refine hK.out _ _ ⟨(blk_cell BK101.out 0).trans rfl, (blk_cell BK101.out 1).trans rfl, (blk_cell BK101.out 2).trans rfl⟩ (fun hHeld => ?_)
            clear hK K
            refine norm_ (a' := ?_) ?_ ?_
            rotate_left
            · show Act.put _ (some 9) _ = _
              simp only [Act.put, List.setIfInBounds_toArray, List.set_cons_zero, List.set_cons_succ, i64_w, i32_w]
              rfl
            exact norm_ (by simp only [putAll, Act.put, List.setIfInBounds_toArray, List.set_cons_zero, List.set_cons_succ]) (hCont (v104, v107, v110) _ ⟨hHeld, (by (with_reducible repeat (first | apply Kd.R_alloc | apply Kd.R_drewN | apply Kd.R_drew)); exact Kd.R_mono HO108.out (fun _ hk => hk.2)), (by (with_reducible repeat (first | apply Kd.R_alloc | apply Kd.R_drewN | apply Kd.R_drew)); exact Kd.R_mono HO111.out (fun _ hk => hk.2)), (by (with_reducible repeat (first | refine blk_drewN ?_ _ | refine blk_drew ?_ | refine blk_alloc ?_ _)); exact BK101.out), (by (with_reducible repeat (first | refine blk_drewN ?_ _ | refine blk_drew ?_ | refine blk_alloc ?_ _)); exact BK102.out), (by repeat (first | (with_reducible first | exact HB.out | apply below_alloc | apply pw_below_drewN | apply below_drew1 | refine below_set ?_ GE101.out | refine below_set ?_ GE102.out) | exact HB.out))⟩)
          · skip
            refine Kd.R_lit_step (Kd.int .i64) _ 3 ?hg (N := 9) ?hd (xs := ([] : List Int)) (inner := []) (ok := fun _ => True) (okp := fun _ => True) ?hr ?hp (fun _ hk => hk) trivial (Below.refl _ _) (Nat.le_refl _) (by simp) ?_; (case hd => rfl); (case hg => rfl); (case hr => first | (go_simp; done) | (go_simp; rfl)); (case hp => exact (Reps.none _ _))
            intro v110 w9 ho10 hb hg_ hnew_
            clear hg_ hnew_
            (first | rw [← Ny109.out] at ho10 | (simp only [Int.reduceToNat] at ho10; rw [← Ny109.out] at ho10))
            have n0_ := Aside0.mk (Kd.R_elder' (by (with_reducible repeat (first | apply Kd.R_alloc | apply Kd.R_drewN | apply Kd.R_drew)); exact HO105.out) (Kd.R_base ho10) hb)
            have n1_ := Aside0.mk (Kd.R_lower (Kd.R_new' ho10 (Kd.R_lt (by (with_reducible repeat (first | apply Kd.R_alloc | apply Kd.R_drewN | apply Kd.R_drew)); exact HO105.out))) (below_size (by repeat (first | (with_reducible first | exact HB.out | apply below_alloc | apply pw_below_drewN | apply below_drew1 | refine below_set ?_ GE101.out | refine below_set ?_ GE102.out) | exact HB.out))))
            have n2_ := Aside0.mk (blk_below (g := gb101) (o := .cells #[.bool a0_0, .slice A0_1 l0_1.length c0_1, .slice A0_2 l0_2.length c0_2] 28 (0, 0)) (by (with_reducible repeat (first | refine blk_drewN ?_ _ | refine blk_drew ?_ | refine blk_alloc ?_ _)); exact BK101.out) hb)
            have n3_ := Aside0.mk (blk_below (g := gb102) (o := .cells #[.bool false, .slice none 0 0, .slice none 0 0] 28 (0, 0)) (by (with_reducible repeat (first | refine blk_drewN ?_ _ | refine blk_drew ?_ | refine blk_alloc ?_ _)); exact BK102.out) hb)
            have n4_ := Aside0.mk (below_step (by repeat (first | (with_reducible first | exact HB.out | apply below_alloc | apply pw_below_drewN | apply below_drew1 | refine below_set ?_ GE101.out | refine below_set ?_ GE102.out) | exact HB.out)) hb)
            clear HO105
            clear BK101
            clear BK102
            clear HB
            have HO105 := n0_
            have HO111 := n1_
            have BK101 := n2_
            have BK102 := n3_
            have HB := n4_
            clear n0_ n1_ n2_ n3_ n4_
            clear hb ho10
            refine hK.out _ _ ⟨(blk_cell BK101.out 0).trans rfl, (blk_cell BK101.out 1).trans rfl, (blk_cell BK101.out 2).trans rfl⟩ (fun hHeld => ?_)
            clear hK K
            refine norm_ (a' := ?_) ?_ ?_
            rotate_left
            · show Act.put _ (some 9) _ = _
              simp only [Act.put, List.setIfInBounds_toArray, List.set_cons_zero, List.set_cons_succ, i64_w, i32_w]
              rfl
            refine one_ (i := 5) (N := some 8) #[true, true, true, true, true, true, true, true, true, false, false, false] rfl rfl (one_of HT_.out (by kernel_rfl)) (by decide) (fun K hK => ?_)
            refine Kd.R_append_rows_step (Kd.int .i64) (w0 := w) w.heap.size (by rfl) (.tmp 5) (.tmp 7) 22 3 (.int .i64 0) 8 rfl Try.underlying22 info3 rfl (by decide) (by omega) v104 y103 l0_1 _ _ _ (fun k_ => some k_ ≠ (v110 : Value).ownBlock) (fun _ => False) rfl rfl ?aO ?aR (fun _ _ h => h) (fun _ h => h.elim) ?aF ?aB ?aS ?aL ?_
            (case aR => repeat (first | exact (Kd.C_below HR0_1.out HB.out) | (with_reducible refine Kd.C_alloc ?_ _) | (with_reducible refine Kd.C_drewN ?_ _) | (with_reducible refine Kd.C_drew ?_)))
            (case aB => exact (by repeat (first | (with_reducible first | exact HB.out | apply below_alloc | apply pw_below_drewN | apply below_drew1 | refine below_set ?_ GE101.out | refine below_set ?_ GE102.out) | exact HB.out)))
            (case aF => exact (fun k_ hk => Kd.fresh' (Kd.R_lt (by (with_reducible repeat (first | apply Kd.R_alloc | apply Kd.R_drewN | apply Kd.R_drew)); exact HO111.out)) k_ hk))
            (case aO => exact (by (with_reducible repeat (first | apply Kd.R_alloc | apply Kd.R_drewN | apply Kd.R_drew)); exact Kd.R_mono HO105.out (fun _ hk => hk.2)))
            (case aS => exact (below_size (by repeat (first | (with_reducible first | exact HB.out | apply below_alloc | apply pw_below_drewN | apply below_drew1 | refine below_set ?_ GE101.out | refine below_set ?_ GE102.out) | exact HB.out))))
            (case aL => have := LMc2.out; omega)
            intro v107 w11 ho hb hg hat
            rw [← Ny106.out] at ho
            have n0_ := Aside0.mk (blk_grown (g := gb101) (o := .cells #[.bool a0_0, .slice A0_1 l0_1.length c0_1, .slice A0_2 l0_2.length c0_2] 28 (0, 0)) (by (with_reducible repeat (first | refine blk_drewN ?_ _ | refine blk_drew ?_ | refine blk_alloc ?_ _)); exact BK101.out) hg (Kd.R_ne HO105.out BK101.out (by decide)))
            have n1_ := Aside0.mk (blk_grown (g := gb102) (o := .cells #[.bool false, .slice none 0 0, .slice none 0 0] 28 (0, 0)) (by (with_reducible repeat (first | refine blk_drewN ?_ _ | refine blk_drew ?_ | refine blk_alloc ?_ _)); exact BK102.out) hg (Kd.R_ne HO105.out BK102.out (by decide)))
            have n2_ := Aside0.mk (Kd.R_after (ok := (fun _ => True)) (by (with_reducible repeat (first | apply Kd.R_alloc | apply Kd.R_drewN | apply Kd.R_drew)); exact HO111.out) hg hat)
            have n3_ := Aside0.mk (hb)
            have n4_ := Aside0.mk (ho)
            clear BK101
            clear BK102
            clear HO111
            clear HB
            clear HO105
            have BK101 := n0_
            have BK102 := n1_
            have HO111 := n2_
            have HB := n3_
            have HO108 := n4_
            clear n0_ n1_ n2_ n3_ n4_
            clear ho hb hg hat
            refine hK.out _ _ ⟨(blk_cell BK101.out 0).trans rfl, (blk_cell BK101.out 1).trans rfl, (blk_cell BK101.out 2).trans rfl⟩ (fun hHeld => ?_)
            clear hK K
            refine norm_ (a' := ?_) ?_ ?_
            rotate_left
            · show Act.put _ (some 8) _ = _
              simp only [Act.put, List.setIfInBounds_toArray, List.set_cons_zero, List.set_cons_succ, i64_w, i32_w]
              rfl
            exact norm_ (by simp only [putAll, Act.put, List.setIfInBounds_toArray, List.set_cons_zero, List.set_cons_succ]) (hCont (v104, v107, v110) _ ⟨hHeld, (by (with_reducible repeat (first | apply Kd.R_alloc | apply Kd.R_drewN | apply Kd.R_drew)); exact HO108.out), (by (with_reducible repeat (first | apply Kd.R_alloc | apply Kd.R_drewN | apply Kd.R_drew)); exact Kd.R_mono HO111.out (fun _ hk => hk.2)), (by (with_reducible repeat (first | refine blk_drewN ?_ _ | refine blk_drew ?_ | refine blk_alloc ?_ _)); exact BK101.out), (by (with_reducible repeat (first | refine blk_drewN ?_ _ | refine blk_drew ?_ | refine blk_alloc ?_ _)); exact BK102.out), (by repeat (first | (with_reducible first | exact HB.out | apply below_alloc | apply pw_below_drewN | apply below_drew1 | refine below_set ?_ GE101.out | refine below_set ?_ GE102.out) | exact HB.out))⟩)
        · skip
          refine Kd.R_lit_step (Kd.int .i64) _ 3 ?hg (N := 9) ?hd (xs := ([] : List Int)) (inner := []) (ok := fun _ => True) (okp := fun _ => True) ?hr ?hp (fun _ hk => hk) trivial (Below.refl _ _) (Nat.le_refl _) (by simp) ?_; (case hd => rfl); (case hg => rfl); (case hr => first | (go_simp; done) | (go_simp; rfl)); (case hp => exact (Reps.none _ _))
          intro v110 w7 ho8 hb hg_ hnew_
          clear hg_ hnew_
          (first | rw [← Ny109.out] at ho8 | (simp only [Int.reduceToNat] at ho8; rw [← Ny109.out] at ho8))
          have n0_ := Aside0.mk (Kd.R_lower ho8 (below_size (by repeat (first | (with_reducible first | exact HB.out | apply below_alloc | apply pw_below_drewN | apply below_drew1 | refine below_set ?_ GE101.out | refine below_set ?_ GE102.out) | exact HB.out))))
          have n1_ := Aside0.mk (blk_below (g := gb101) (o := .cells #[.bool a0_0, .slice A0_1 l0_1.length c0_1, .slice A0_2 l0_2.length c0_2] 28 (0, 0)) (by (with_reducible repeat (first | refine blk_drewN ?_ _ | refine blk_drew ?_ | refine blk_alloc ?_ _)); exact BK101.out) hb)
          have n2_ := Aside0.mk (blk_below (g := gb102) (o := .cells #[.bool false, .slice none 0 0, .slice none 0 0] 28 (0, 0)) (by (with_reducible repeat (first | refine blk_drewN ?_ _ | refine blk_drew ?_ | refine blk_alloc ?_ _)); exact BK102.out) hb)
          have n3_ := Aside0.mk (below_step (by repeat (first | (with_reducible first | exact HB.out | apply below_alloc | apply pw_below_drewN | apply below_drew1 | refine below_set ?_ GE101.out | refine below_set ?_ GE102.out) | exact HB.out)) hb)
          clear BK101
          clear BK102
          clear HB
          have HO111 := n0_
          have BK101 := n1_
          have BK102 := n2_
          have HB := n3_
          clear n0_ n1_ n2_ n3_
          clear hb ho8
          refine hK.out _ _ ⟨(blk_cell BK101.out 0).trans rfl, (blk_cell BK101.out 1).trans rfl, (blk_cell BK101.out 2).trans rfl⟩ (fun hHeld => ?_)
          clear hK K
          refine norm_ (a' := ?_) ?_ ?_
          rotate_left
          · show Act.put _ (some 9) _ = _
            simp only [Act.put, List.setIfInBounds_toArray, List.set_cons_zero, List.set_cons_succ, i64_w, i32_w]
            rfl
          refine one_ (i := 2) (N := some 5) #[true, true, true, true, true, false, true, true, true, false, false, false] rfl rfl (one_of HT_.out (by kernel_rfl)) (by decide) (fun K hK => ?_)
          refine Kd.R_lit_step (Kd.int .i64) _ 3 ?hg (N := 5) ?hd (xs := ([] : List Int)) (inner := []) (ok := fun _ => True) (okp := fun _ => True) ?hr ?hp (fun _ hk => hk) trivial (Below.refl _ _) (Nat.le_refl _) (by simp) ?_; (case hd => rfl); (case hg => rfl); (case hr => first | (go_simp; done) | (go_simp; rfl)); (case hp => exact (Reps.none _ _))
          intro v104 w9 ho10 hb hg_ hnew_
          clear hg_ hnew_
          (first | rw [← Ny103.out] at ho10 | (simp only [Int.reduceToNat] at ho10; rw [← Ny103.out] at ho10))
          have n0_ := Aside0.mk (Kd.R_elder' (by (with_reducible repeat (first | apply Kd.R_alloc | apply Kd.R_drewN | apply Kd.R_drew)); exact HO111.out) (Kd.R_base ho10) hb)
          have n1_ := Aside0.mk (Kd.R_lower (Kd.R_new' ho10 (Kd.R_lt (by (with_reducible repeat (first | apply Kd.R_alloc | apply Kd.R_drewN | apply Kd.R_drew)); exact HO111.out))) (below_size (by repeat (first | (with_reducible first | exact HB.out | apply below_alloc | apply pw_below_drewN | apply below_drew1 | refine below_set ?_ GE101.out | refine below_set ?_ GE102.out) | exact HB.out))))
          have n2_ := Aside0.mk (blk_below (g := gb101) (o := .cells #[.bool a0_0, .slice A0_1 l0_1.length c0_1, .slice A0_2 l0_2.length c0_2] 28 (0, 0)) (by (with_reducible repeat (first | refine blk_drewN ?_ _ | refine blk_drew ?_ | refine blk_alloc ?_ _)); exact BK101.out) hb)
          have n3_ := Aside0.mk (blk_below (g := gb102) (o := .cells #[.bool false, .slice none 0 0, .slice none 0 0] 28 (0, 0)) (by (with_reducible repeat (first | refine blk_drewN ?_ _ | refine blk_drew ?_ | refine blk_alloc ?_ _)); exact BK102.out) hb)
          have n4_ := Aside0.mk (below_step (by repeat (first | (with_reducible first | exact HB.out | apply below_alloc | apply pw_below_drewN | apply below_drew1 | refine below_set ?_ GE101.out | refine below_set ?_ GE102.out) | exact HB.out)) hb)
          clear HO111
          clear BK101
          clear BK102
          clear HB
          have HO111 := n0_
          have HO105 := n1_
          have BK101 := n2_
          have BK102 := n3_
          have HB := n4_
          clear n0_ n1_ n2_ n3_ n4_
          clear hb ho10
          refine hK.out _ _ ⟨(blk_cell BK101.out 0).trans rfl, (blk_cell BK101.out 1).trans rfl, (blk_cell BK101.out 2).trans rfl⟩ (fun hHeld => ?_)
          clear hK K
          refine norm_ (a' := ?_) ?_ ?_
          rotate_left
          · show Act.put _ (some 5) _ = _
            simp only [Act.put, List.setIfInBounds_toArray, List.set_cons_zero, List.set_cons_succ, i64_w, i32_w]
            rfl
          refine one_ (i := 5) (N := some 8) #[true, true, true, true, true, true, true, true, true, false, false, false] rfl rfl (one_of HT_.out (by kernel_rfl)) (by decide) (fun K hK => ?_)
          refine Kd.R_append_rows_step (Kd.int .i64) (w0 := w) w.heap.size (by rfl) (.tmp 5) (.tmp 7) 22 3 (.int .i64 0) 8 rfl Try.underlying22 info3 rfl (by decide) (by omega) v104 y103 l0_1 _ _ _ (fun k_ => some k_ ≠ (v110 : Value).ownBlock) (fun _ => False) rfl rfl ?aO ?aR (fun _ _ h => h) (fun _ h => h.elim) ?aF ?aB ?aS ?aL ?_
          (case aR => repeat (first | exact (Kd.C_below HR0_1.out HB.out) | (with_reducible refine Kd.C_alloc ?_ _) | (with_reducible refine Kd.C_drewN ?_ _) | (with_reducible refine Kd.C_drew ?_)))
          (case aB => exact (by repeat (first | (with_reducible first | exact HB.out | apply below_alloc | apply pw_below_drewN | apply below_drew1 | refine below_set ?_ GE101.out | refine below_set ?_ GE102.out) | exact HB.out)))
          (case aF => exact (fun k_ hk => Kd.fresh' (Kd.R_lt (by (with_reducible repeat (first | apply Kd.R_alloc | apply Kd.R_drewN | apply Kd.R_drew)); exact HO111.out)) k_ hk))
          (case aO => exact (by (with_reducible repeat (first | apply Kd.R_alloc | apply Kd.R_drewN | apply Kd.R_drew)); exact Kd.R_mono HO105.out (fun _ hk => hk.2)))
          (case aS => exact (below_size (by repeat (first | (with_reducible first | exact HB.out | apply below_alloc | apply pw_below_drewN | apply below_drew1 | refine below_set ?_ GE101.out | refine below_set ?_ GE102.out) | exact HB.out))))
          (case aL => have := LMc2.out; omega)
          intro v107 w11 ho hb hg hat
          rw [← Ny106.out] at ho
          have n0_ := Aside0.mk (blk_grown (g := gb101) (o := .cells #[.bool a0_0, .slice A0_1 l0_1.length c0_1, .slice A0_2 l0_2.length c0_2] 28 (0, 0)) (by (with_reducible repeat (first | refine blk_drewN ?_ _ | refine blk_drew ?_ | refine blk_alloc ?_ _)); exact BK101.out) hg (Kd.R_ne HO105.out BK101.out (by decide)))
          have n1_ := Aside0.mk (blk_grown (g := gb102) (o := .cells #[.bool false, .slice none 0 0, .slice none 0 0] 28 (0, 0)) (by (with_reducible repeat (first | refine blk_drewN ?_ _ | refine blk_drew ?_ | refine blk_alloc ?_ _)); exact BK102.out) hg (Kd.R_ne HO105.out BK102.out (by decide)))
          have n2_ := Aside0.mk (Kd.R_after (ok := (fun _ => True)) (by (with_reducible repeat (first | apply Kd.R_alloc | apply Kd.R_drewN | apply Kd.R_drew)); exact HO111.out) hg hat)
          have n3_ := Aside0.mk (hb)
          have n4_ := Aside0.mk (ho)
          clear BK101
          clear BK102
          clear HO111
          clear HB
          clear HO105
          have BK101 := n0_
          have BK102 := n1_
          have HO111 := n2_
          have HB := n3_
          have HO108 := n4_
          clear n0_ n1_ n2_ n3_ n4_
          clear ho hb hg hat
          refine hK.out _ _ ⟨(blk_cell BK101.out 0).trans rfl, (blk_cell BK101.out 1).trans rfl, (blk_cell BK101.out 2).trans rfl⟩ (fun hHeld => ?_)
          clear hK K
          refine norm_ (a' := ?_) ?_ ?_
          rotate_left
          · show Act.put _ (some 8) _ = _
            simp only [Act.put, List.setIfInBounds_toArray, List.set_cons_zero, List.set_cons_succ, i64_w, i32_w]
            rfl
          exact norm_ (by simp only [putAll, Act.put, List.setIfInBounds_toArray, List.set_cons_zero, List.set_cons_succ]) (hCont (v104, v107, v110) _ ⟨hHeld, (by (with_reducible repeat (first | apply Kd.R_alloc | apply Kd.R_drewN | apply Kd.R_drew)); exact HO108.out), (by (with_reducible repeat (first | apply Kd.R_alloc | apply Kd.R_drewN | apply Kd.R_drew)); exact Kd.R_mono HO111.out (fun _ hk => hk.2)), (by (with_reducible repeat (first | refine blk_drewN ?_ _ | refine blk_drew ?_ | refine blk_alloc ?_ _)); exact BK101.out), (by (with_reducible repeat (first | refine blk_drewN ?_ _ | refine blk_drew ?_ | refine blk_alloc ?_ _)); exact BK102.out), (by repeat (first | (with_reducible first | exact HB.out | apply below_alloc | apply pw_below_drewN | apply below_drew1 | refine below_set ?_ GE101.out | refine below_set ?_ GE102.out) | exact HB.out))⟩)
      rintro ⟨v104, v107, v110⟩ w12 ⟨hS_, h0_, h1_, h2_, h3_, h4_⟩
      have n0_ : Aside0 (Kd.R (Kd.int .i64) 3 w12 w.heap.size (fun k_ => some k_ ≠ (v110 : Value).ownBlock) v107 y106) := ⟨h0_⟩
      have n1_ : Aside0 (Kd.R (Kd.int .i64) 3 w12 w.heap.size (fun k_ => some k_ ≠ (v107 : Value).ownBlock) v110 y109) := ⟨h1_⟩
      have n2_ : Aside0 (w12.heap[gb101]? = some (.cells #[.bool a0_0, .slice A0_1 l0_1.length c0_1, .slice A0_2 l0_2.length c0_2] 28 (0, 0))) := ⟨h2_⟩
      have n3_ : Aside0 (w12.heap[gb102]? = some (.cells #[.bool false, .slice none 0 0, .slice none 0 0] 28 (0, 0))) := ⟨h3_⟩
      have n4_ : Aside0 (Below w.heap.size w w12) := ⟨h4_⟩
      clear BK101
      clear BK102
      clear HB
      clear h0_ h1_ h2_ h3_ h4_
      have HO108 := n0_
      have HO111 := n1_
      have BK101 := n2_
      have BK102 := n3_
      have HB := n4_
      clear n0_ n1_ n2_ n3_ n4_
      have hHeld : w12.cell? ⟨gb101, 0, none⟩ = some (.bool a0_0) ∧ w12.cell? ⟨gb101, 1, none⟩ = some (.slice A0_1 l0_1.length c0_1) ∧ w12.cell? ⟨gb101, 2, none⟩ = some (.slice A0_2 l0_2.length c0_2) := hS_
      refine norm_ (a' := ?_) ?_ ?_
      rotate_left
      · simp only [putAll, Act.put, List.setIfInBounds_toArray, List.set_cons_zero, List.set_cons_succ]
        rfl
      refine one_ (i := 9) (N := some 12) #[true, true, true, true, true, true, true, true, true, true, false, false] rfl rfl (one_of HT_.out (by kernel_rfl)) (by decide) (fun K hK => ?_)
      refine Kd.R_append_rows_step (Kd.int .i64) (w0 := w) w.heap.size (by rfl) (.tmp 9) (.tmp 11) 22 3 (.int .i64 0) 8 rfl Try.underlying22 info3 rfl (by decide) (by omega) v110 y109 l0_2 _ _ _ (fun k_ => some k_ ≠ (v107 : Value).ownBlock) (fun _ => False) rfl rfl ?aO ?aR (fun _ _ h => h) (fun _ h => h.elim) ?aF ?aB ?aS ?aL ?_
      (case aR => repeat (first | exact (Kd.C_below HR0_2.out HB.out) | (with_reducible refine Kd.C_alloc ?_ _) | (with_reducible refine Kd.C_drewN ?_ _) | (with_reducible refine Kd.C_drew ?_)))
      (case aB => exact (by repeat (first | (with_reducible first | exact HB.out | apply below_alloc | apply pw_below_drewN | apply below_drew1 | refine below_set ?_ GE101.out | refine below_set ?_ GE102.out) | exact HB.out)))
      (case aF => exact (fun k_ hk => Kd.fresh' (Kd.R_lt (by (with_reducible repeat (first | apply Kd.R_alloc | apply Kd.R_drewN | apply Kd.R_drew)); exact HO108.out)) k_ hk))
      (case aO => exact (by (with_reducible repeat (first | apply Kd.R_alloc | apply Kd.R_drewN | apply Kd.R_drew)); exact HO111.out))
      (case aS => exact (below_size (by repeat (first | (with_reducible first | exact HB.out | apply below_alloc | apply pw_below_drewN | apply below_drew1 | refine below_set ?_ GE101.out | refine below_set ?_ GE102.out) | exact HB.out))))
      (case aL => have := LMc3.out; omega)
      intro v113 w13 ho hb hg hat
      rw [← Ny112.out] at ho
      have n0_ := Aside0.mk (blk_grown (g := gb101) (o := .cells #[.bool a0_0, .slice A0_1 l0_1.length c0_1, .slice A0_2 l0_2.length c0_2] 28 (0, 0)) (by (with_reducible repeat (first | refine blk_drewN ?_ _ | refine blk_drew ?_ | refine blk_alloc ?_ _)); exact BK101.out) hg (Kd.R_ne HO111.out BK101.out (by decide)))
      have n1_ := Aside0.mk (blk_grown (g := gb102) (o := .cells #[.bool false, .slice none 0 0, .slice none 0 0] 28 (0, 0)) (by (with_reducible repeat (first | refine blk_drewN ?_ _ | refine blk_drew ?_ | refine blk_alloc ?_ _)); exact BK102.out) hg (Kd.R_ne HO111.out BK102.out (by decide)))
      have n2_ := Aside0.mk (Kd.R_after (ok := (fun _ => True)) (by (with_reducible repeat (first | apply Kd.R_alloc | apply Kd.R_drewN | apply Kd.R_drew)); exact Kd.R_mono HO108.out (fun _ hk => ⟨trivial, hk⟩)) hg hat)
      have n3_ := Aside0.mk (hb)
      have n4_ := Aside0.mk (ho)
      clear BK101
      clear BK102
      clear HO108
      clear HB
      clear HO111
      have BK101 := n0_
      have BK102 := n1_
      have HO108 := n2_
      have HB := n3_
      have HO114 := n4_
      clear n0_ n1_ n2_ n3_ n4_
      clear ho hb hg hat
      obtain ⟨Ao14, co14, eo14⟩ := Kd.R_slice HO114.out
      (first | subst eo14 | (injection eo14 with f1_ f2_ f3_; have f4_ := f1_.symm; have f5_ := f3_.symm; clear f1_ f2_ f3_; subst f4_; subst f5_))
      obtain ⟨Ao15, co15, eo15⟩ := Kd.R_slice HO108.out
      (first | subst eo15 | (injection eo15 with f1_ f2_ f3_; have f4_ := f1_.symm; have f5_ := f3_.symm; clear f1_ f2_ f3_; subst f4_; subst f5_))
      refine hK.out _ _ ⟨(blk_cell BK101.out 0).trans rfl, (blk_cell BK101.out 1).trans rfl, (blk_cell BK101.out 2).trans rfl⟩ (fun hHeld => ?_)
      clear hK K
      refine norm_ (a' := ?_) ?_ ?_
      rotate_left
      · show Act.put _ (some 12) _ = _
        simp only [Act.put, List.setIfInBounds_toArray, List.set_cons_zero, List.set_cons_succ, i64_w, i32_w]
        rfl
      refine pure_ (i := 10) (N := some 13) (v := ?_) (a' := ?_) #[true, true, true, true, true, true, true, true, true, true, true, false] rfl rfl (any_of HT_.out (by kernel_rfl)) (fun _ _ _ h => h) (Or.inl ⟨by rfl, ?_⟩) ?_ ?_
      rotate_left
      · intro w'
        go_simp
        with_reducible rfl
      rotate_left
      · simp only [Act.put, List.setIfInBounds_toArray, List.set_cons_zero, List.set_cons_succ, i64_w, i32_w]
        rfl
      refine one_ (i := 11) (N := none) #[true, true, true, true, true, true, true, true, true, true, true, true] rfl rfl (one_of HT_.out (by kernel_rfl)) (by decide) (fun K hK => ?_)
      have hs16 : w13.cell? ⟨gb102, 0, none⟩ = some (.bool false) := (blk_cell BK102.out 0).trans rfl
      have hfs16 := blk_frozen BK102.out 0
      have hns16_0 := NB101_102.out
      have hms16_0 := NB102_101.out
      have hs17 : w13.cell? ⟨gb102, 1, none⟩ = some (.slice none 0 0) := (blk_cell BK102.out 1).trans rfl
      have hfs17 := blk_frozen BK102.out 1
      have hns17_0 := NB101_102.out
      have hms17_0 := NB102_101.out
      have hs18 : w13.cell? ⟨gb102, 2, none⟩ = some (.slice none 0 0) := (blk_cell BK102.out 2).trans rfl
      have hfs18 := blk_frozen BK102.out 2
      have hns18_0 := NB101_102.out
      have hms18_0 := NB102_101.out
      refine skip_ (w1 := ?_) (by rfl) rfl ?_ ?_
      rotate_left
      · go_simp
        rfl
      refine hK.out _ _ ⟨((cell_far (p := ⟨gb102, _, none⟩) NB101_102.out _).trans (((cell_far (p := ⟨gb102, _, none⟩) NB101_102.out _).trans (((cell_far (p := ⟨gb102, _, none⟩) NB101_102.out _).trans (hHeld.1)))))), ((cell_far (p := ⟨gb102, _, none⟩) NB101_102.out _).trans (((cell_far (p := ⟨gb102, _, none⟩) NB101_102.out _).trans (((cell_far (p := ⟨gb102, _, none⟩) NB101_102.out _).trans (hHeld.2.1)))))), ((cell_far (p := ⟨gb102, _, none⟩) NB101_102.out _).trans (((cell_far (p := ⟨gb102, _, none⟩) NB101_102.out _).trans (((cell_far (p := ⟨gb102, _, none⟩) NB101_102.out _).trans (hHeld.2.2))))))⟩ (fun hHeld => ?_)
      clear hK K
      refine done_ (done_of HT_.out (by kernel_rfl)) ?_
      try go_wp2
      refine bodyPost_ret (results_cell_row rfl _ _ gb102 28 #[.bool a0_0, .slice Ao15 y106.length co15, .slice Ao14 y112.length co14] (0, 0) _ rfl (by (with_reducible repeat (first | refine blk_drewN ?_ _ | refine blk_drew ?_ | refine blk_alloc ?_ _)); refine blk_put (cs := #[.bool a0_0, .slice Ao15 y106.length co15, .slice none 0 0]) ?_ 2 _ rfl; (with_reducible repeat (first | refine blk_drewN ?_ _ | refine blk_drew ?_ | refine blk_alloc ?_ _)); refine blk_put (cs := #[.bool a0_0, .slice none 0 0, .slice none 0 0]) ?_ 1 _ rfl; (with_reducible repeat (first | refine blk_drewN ?_ _ | refine blk_drew ?_ | refine blk_alloc ?_ _)); refine blk_put (cs := #[.bool false, .slice none 0 0, .slice none 0 0]) ?_ 0 _ rfl; (with_reducible repeat (first | refine blk_drewN ?_ _ | refine blk_drew ?_ | refine blk_alloc ?_ _)); exact BK102.out) Try.underlying28 rfl (by kernel_rfl)) rfl ?_
      exact ⟨_, _, by first | rfl | (simp [errW_none, errW_some] <;> rfl) | (simp [*, errW_none, errW_some] <;> rfl), by (with_reducible repeat (first | apply Kd.R_alloc | apply Kd.R_drewN | apply Kd.R_drew)); exact Kd.R_mono (Kd.R_far (p := ⟨gb102, 2, none⟩) (Kd.R_far (p := ⟨gb102, 1, none⟩) (Kd.R_far (p := ⟨gb102, 0, none⟩) (Kd.R_types HO108.out BK102.out (by decide)) (fun _ hk => hk.2) (.bool a0_0)) (fun _ hk => hk.2) (.slice Ao15 y106.length co15)) (fun _ hk => hk.2) (.slice Ao14 y112.length co14)) (fun _ hk => hk.1.2), by (with_reducible repeat (first | apply Kd.R_alloc | apply Kd.R_drewN | apply Kd.R_drew)); exact Kd.R_mono (Kd.R_far (p := ⟨gb102, 2, none⟩) (Kd.R_far (p := ⟨gb102, 1, none⟩) (Kd.R_far (p := ⟨gb102, 0, none⟩) (Kd.R_types HO114.out BK102.out (by decide)) (fun _ hk => hk.2) (.bool a0_0)) (fun _ hk => hk.2) (.slice Ao15 y106.length co15)) (fun _ hk => hk.2) (.slice Ao14 y112.length co14)) (fun _ hk => hk.1), by repeat (first | (with_reducible first | exact HB.out | apply below_alloc | apply pw_below_drewN | apply below_drew1 | refine below_set ?_ GE101.out | refine below_set ?_ GE102.out) | exact HB.out)⟩
    · rw [if_neg c3] at H
      exact absurd H (by simp)
  · rw [if_neg c2] at H
    exact absurd H (by simp)

end Go.Proofs.Ytehfcnndjhjkoaa.PA

-- By a program (prt.py, over the print of the kit), for this claim. Not trusted: Lean checks it.
namespace Go.Proofs.Ytehfcnndjhjkoaa.PA
open Go.RowKit Go.Proofs.YtehfcnndjhjkoaaW.PrintWords Go.Proofs.YtehfcnndjhjkoaaW.PrintLast Go.Proofs.YtehfcnndjhjkoaaW.PrintMore
attribute [local go_sem] max2_int min2_int max_two min_two max_three min_three max_four min_four   -- for this text's walks alone
set_option linter.unusedVariables false
set_option linter.unusedSimpArgs false

/-! ### laws_lwScalar: function 48 -/
def laws_lwScalar.f (a0 : Int) : Option (Bool × List Int × List Int) := some (false, ([] : List Int), (([a0] : List Int)))
set_option maxHeartbeats 8000000 in
set_option maxRecDepth 100000 in
theorem laws_lwScalar.calls (a0 : Int) (r1 : Bool) (r2 : List Int) (r3 : List Int) (w : World) (h : laws_lwScalar.f a0 = some (r1, r2, r3)) :
    Calls Try.prog 48 #[.int .i64 a0] w fun e w' => ∃ v1_ v2_ : Value, e = .returned (.agg #[.bool r1, v1_, v2_]) ∧ Kd.R (Kd.int .i64) 3 w' w.heap.size (fun k_ => some k_ ≠ (v2_ : Value).ownBlock) v1_ r2 ∧ Kd.R (Kd.int .i64) 3 w' w.heap.size (fun k_ => some k_ ≠ (v1_ : Value).ownBlock) v2_ r3 ∧ Below w.heap.size w w' := by
  have hu28 := Try.underlying28
  have HB := Aside0.mk (Below.refl w.heap.size w)
  have H : (some (false, ([] : List Int), (([a0] : List Int)))) = some (r1, r2, r3) := h
  clear h
  obtain ⟨y102, hy102⟩ : ∃ y_ : List Int, y_ = (([a0] : List Int)) := ⟨_, rfl⟩
  replace H : (some (false, ([] : List Int), y102)) = some (r1, r2, r3) := by first | (rw [hy102]; with_reducible exact H) | (have H2_ := (Option.bind_some _ _).symm.trans H; rw [hy102]; with_reducible exact H2_) | (have H2_ := (Option.bind_some _ _).symm.trans H; with_reducible exact H2_) | with_reducible exact H | (rw [hy102]; exact H) | exact H
  have Ny102 := Aside0.mk hy102
  clear hy102
  simp only [Option.some.injEq, Prod.mk.injEq] at H
  obtain ⟨rfl, rfl, rfl⟩ := H
  go_enter Try.func48, Try.ntmps48
  go_wp2_with (first | ((with_reducible refine gate_dst (N := 2) rfl ?_); refine box_event ?hg (N := 2) ?hd (cs := #[.bool false, .slice none 0 0, .slice none 0 0]) (t := 28) ?hr ?_; (case hd => rfl); (case hg => rfl); (case hr => first | (go_simp; done) | (go_simp; rfl)); intro gb101 hg w2 hbox hb; have n0_ := Aside0.mk (below_step (by repeat (first | (with_reducible first | exact HB.out | apply below_alloc | apply pw_below_drewN | apply below_drew1) | exact HB.out)) hb); have n1_ := Aside0.mk (hbox); have n2_ := Aside0.mk ((by rw [hg]; exact (below_size (by repeat (first | (with_reducible first | exact HB.out | apply below_alloc | apply pw_below_drewN | apply below_drew1) | exact HB.out))) : w.heap.size ≤ gb101)); have n3_ := Aside0.mk ((by rw [hg]; exact (below_size (by repeat (first | (with_reducible first | exact HB.out | apply below_alloc | apply pw_below_drewN | apply below_drew1) | exact HB.out))) : w.heap.size ≤ gb101)); clear HB; have HB := n0_; have BK101 := n1_; have GW101 := n2_; have GE101 := n3_; clear n0_ n1_ n2_ n3_; clear hb hbox hg) | ((with_reducible refine gate_dst (N := 4) rfl ?_); refine Kd.R_lit (Kd.int .i64) _ 3 ?hg (N := 4) ?hd (xs := ([a0] : List Int)) (inner := [.int .i64 a0]) (ok := fun _ => True) (okp := fun _ => True) ?hr ?hp (fun _ hk => hk) trivial (Below.refl _ _) (Nat.le_refl _) (by simp) ?_; (case hd => rfl); (case hg => rfl); (case hr => first | (go_simp; done) | (go_simp; rfl)); (case hp => exact (Reps.one (show Kd.M (Kd.int .i64) _ _ _ a0 [.int .i64 a0] from rfl) (Reps.none _ _))); intro v103 w3 ho4 hb hg_ hnew_; clear hg_ hnew_; (first | rw [← Ny102.out] at ho4 | (simp only [Int.reduceToNat] at ho4; rw [← Ny102.out] at ho4)); have n0_ := Aside0.mk (Kd.R_lower ho4 (below_size (by repeat (first | (with_reducible first | exact HB.out | apply below_alloc | apply pw_below_drewN | apply below_drew1 | refine below_set ?_ GE101.out) | exact HB.out)))); have n1_ := Aside0.mk (blk_below (g := gb101) (o := .cells #[.bool false, .slice none 0 0, .slice none 0 0] 28 (0, 0)) (by (with_reducible repeat (first | refine blk_drewN ?_ _ | refine blk_drew ?_ | refine blk_alloc ?_ _)); exact BK101.out) hb); have n2_ := Aside0.mk (below_step (by repeat (first | (with_reducible first | exact HB.out | apply below_alloc | apply pw_below_drewN | apply below_drew1 | refine below_set ?_ GE101.out) | exact HB.out)) hb); clear BK101; clear HB; have HO104 := n0_; have BK101 := n1_; have HB := n2_; clear n0_ n1_ n2_; clear hb ho4; obtain ⟨Ao5, co5, eo5⟩ := Kd.R_slice HO104.out; subst eo5; have hcz6_0 : w3.cell? ⟨gb101, 0, none⟩ = some (.bool false) := (blk_cell BK101.out 0).trans rfl; have hcz6_1 : w3.cell? ⟨gb101, 1, none⟩ = some (.slice none 0 0) := (blk_cell BK101.out 1).trans rfl; have hcz6_2 : w3.cell? ⟨gb101, 2, none⟩ = some (.slice none 0 0) := (blk_cell BK101.out 2).trans rfl; have hfz6_0 := blk_frozen BK101.out 0; have hfz6_1 := blk_frozen BK101.out 1; have hfz6_2 := blk_frozen BK101.out 2))
  refine bodyPost_ret (results_cell_row rfl _ _ gb101 28 #[.bool false, .slice none 0 0, .slice Ao5 y102.length co5] (0, 0) _ rfl (by (with_reducible repeat (first | refine blk_drewN ?_ _ | refine blk_drew ?_ | refine blk_alloc ?_ _)); refine blk_put (cs := #[.bool false, .slice none 0 0, .slice none 0 0]) ?_ 2 _ rfl; (with_reducible repeat (first | refine blk_drewN ?_ _ | refine blk_drew ?_ | refine blk_alloc ?_ _)); refine blk_put (cs := #[.bool false, .slice none 0 0, .slice none 0 0]) ?_ 1 _ rfl; (with_reducible repeat (first | refine blk_drewN ?_ _ | refine blk_drew ?_ | refine blk_alloc ?_ _)); refine blk_put (cs := #[.bool false, .slice none 0 0, .slice none 0 0]) ?_ 0 _ rfl; (with_reducible repeat (first | refine blk_drewN ?_ _ | refine blk_drew ?_ | refine blk_alloc ?_ _)); exact BK101.out) Try.underlying28 rfl (by kernel_rfl)) rfl ?_
  exact ⟨_, _, by first | rfl | (simp [errW_none, errW_some] <;> rfl) | (simp [*, errW_none, errW_some] <;> rfl), by first | exact Kd.R_nil _ _ _ _ _ | exact Kd.N_nil _ _ _ _ _ | exact Kd.V_nil _ _ _ _ _ | exact Kd.Q_nil _ _ _ _ _ | exact Kd.S_nil _ _ _ _ _, by (with_reducible repeat (first | apply Kd.R_alloc | apply Kd.R_drewN | apply Kd.R_drew)); exact Kd.R_mono (Kd.R_far (p := ⟨gb101, 2, none⟩) (Kd.R_far (p := ⟨gb101, 1, none⟩) (Kd.R_far (p := ⟨gb101, 0, none⟩) (Kd.R_types HO104.out BK101.out (by decide)) (fun _ hk => hk.2) (.bool false)) (fun _ hk => hk.2) (.slice none 0 0)) (fun _ hk => hk.2) (.slice Ao5 y102.length co5)) (fun _ hk => (by simp [Value.ownBlock])), by repeat (first | (with_reducible first | exact HB.out | apply below_alloc | apply pw_below_drewN | apply below_drew1 | refine below_set ?_ GE101.out) | exact HB.out)⟩

end Go.Proofs.Ytehfcnndjhjkoaa.PA
