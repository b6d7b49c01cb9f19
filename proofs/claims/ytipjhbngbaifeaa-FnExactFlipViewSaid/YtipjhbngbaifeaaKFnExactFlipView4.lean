import Derived.Test.YtipjhbngbaifeaaKFnExactFlipView3
import Derived.ProofKit
import Derived.OpenShut
import Derived.ChangeOld
import Derived.Below
import Derived.SizedLaws
import Derived.Lib.SmallJoins
import Derived.Deep.Fields

namespace Go.Proofs.Ytipjhbngbaifeaa.PA
set_option linter.unusedVariables false
open Go.RowKit Go.Proofs.YtipjhbngbaifeaaW.PrintWords Go.Proofs.YtipjhbngbaifeaaW.PrintLast Go.Proofs.YtipjhbngbaifeaaW.PrintMore
def mkL (off : Int) (l1 l2 : List Int) : List Int := off :: (l1.length : Int) :: (pad5 l1 ++ pad5 l2)
theorem formedL_mk {off : Int} {l1 l2 : List Int} (h : formedB off l1 l2 = true) : formedL off l1 l2 = mkL off l1 l2 := by unfold formedL; rw [if_pos h]; rfl
theorem formed_lens {off : Int} {l1 l2 : List Int} (h : formedB off l1 l2 = true) : l1.length ≤ 5 ∧ l2.length = l1.length := by
  simp only [formedB, Bool.and_eq_true, decide_eq_true_eq] at h
  exact ⟨shOk_len h.1.1.1, h.1.1.2⟩
theorem gi_mk0 (off : Int) (l1 l2 : List Int) : gi (mkL off l1 l2) 0 = off := rfl
theorem rd_nat {l : List Int} {m : Nat} (h : m < l.length) : rd l (m : Int) = l[m] := by simp [rd, h]
theorem gi_mk2 {off : Int} {l1 l2 : List Int} {m : Nat} (h5 : l1.length ≤ 5) (hm : m < l1.length) : gi (mkL off l1 l2) (2 + m) = rd l1 (m : Int) := by
  rw [rd_nat hm, Nat.add_comm]
  simp only [gi, mkL, List.getD_cons_succ, pad5, List.append_assoc]
  rw [List.getD_eq_getElem?_getD, List.getElem?_append_left hm, List.getElem?_eq_getElem hm]; rfl
theorem gi_mk7 {off : Int} {l1 l2 : List Int} {m : Nat} (h5 : l1.length ≤ 5) (hm : m < l2.length) : gi (mkL off l1 l2) (7 + m) = rd l2 (m : Int) := by
  have hp := pad5_len h5
  rw [rd_nat hm, show 7 + m = (5 + m) + 2 by omega]
  simp only [gi, mkL, List.getD_cons_succ]
  rw [List.getD_eq_getElem?_getD, List.getElem?_append_right (by omega), hp, show 5 + m - 5 = m by omega, pad5, List.getElem?_append_left hm, List.getElem?_eq_getElem hm]; rfl
theorem set_mk0 (off x : Int) (l1 l2 : List Int) : (mkL off l1 l2).set 0 x = mkL x l1 l2 := rfl
theorem pad5_set {l : List Int} {m : Nat} {x : Int} (hm : m < l.length) : (pad5 l).set m x = pad5 (l.set m x) := by
  unfold pad5; rw [List.set_append_left _ _ hm, List.length_set]
theorem set_mk7 {off x : Int} {l1 l2 : List Int} {m : Nat} (h5 : l1.length ≤ 5) (hm : m < l2.length) : (mkL off l1 l2).set (7 + m) x = mkL off l1 (l2.set m x) := by
  rw [show 7 + m = (5 + m) + 1 + 1 by omega]
  unfold mkL
  rw [List.set_cons_succ, List.set_cons_succ, List.set_append_right _ _ (by rw [pad5_len h5]; omega), pad5_len h5, show 5 + m - 5 = m by omega, pad5_set hm]
theorem take_mk2 {off : Int} {l1 l2 : List Int} {n : Nat} (hn : n = l1.length) : ((mkL off l1 l2).drop 2).take n = l1 := by
  subst hn; simp [mkL, pad5, List.append_assoc]
theorem take_mk7 {off : Int} {l1 l2 : List Int} {n : Nat} (h5 : l1.length ≤ 5) (hn : n = l2.length) : ((mkL off l1 l2).drop 7).take n = l2 := by
  subst hn
  have e : (mkL off l1 l2).drop 7 = pad5 l2 := by
    simp only [mkL, List.drop_succ_cons]
    rw [List.drop_left' (pad5_len h5)]
  rw [e]; simp [pad5]
/-- A view, if it is formed. -/
def ansV (off : Int) (l1 l2 : List Int) : Int × List Int × List Int × Bool := if formedB off l1 l2 then (off, l1, l2, true) else noView
theorem mkL_inj {o o' : Int} {l1 l2 m1 m2 : List Int} (h5 : l1.length ≤ 5) (e1 : l1.length = m1.length) (e2 : l2.length = m2.length) (h : mkL o l1 l2 = mkL o' m1 m2) : o = o' ∧ l1 = m1 ∧ l2 = m2 := by
  refine ⟨?_, ?_, ?_⟩
  · have := congrArg (fun l => gi l 0) h; simpa [gi_mk0] using this
  · have := congrArg (fun l : List Int => (l.drop 2).take l1.length) h
    simpa only [take_mk2 rfl, take_mk2 e1] using this
  · have := congrArg (fun l : List Int => (l.drop 7).take l2.length) h
    simpa only [take_mk7 h5 rfl, take_mk7 (show m1.length ≤ 5 by omega) e2] using this
theorem viewed_mk {o off : Int} {l1 l2 m1 m2 : List Int} (hf : formedB off l1 l2 = true) (e1 : m1.length = l1.length) (e2 : m2.length = l1.length) :
    viewed (mkL o m1 m2) (mkL off l1 l2) l1.length = ansV o m1 m2 := by
  obtain ⟨h5, h2⟩ := formed_lens hf
  have hb : viewB (mkL o m1 m2) (mkL off l1 l2) l1.length = formedB o m1 m2 := by
    unfold viewB
    rw [gi_mk0, take_mk2 e1.symm, take_mk7 (by omega) e2.symm]
    by_cases e : mkL o m1 m2 = mkL off l1 l2
    · obtain ⟨rfl, rfl, rfl⟩ := mkL_inj (by omega) e1 (by omega) e
      rw [hf]; simp
    · simp [e]
  unfold viewed viewO viewS viewT ansV
  rw [hb, gi_mk0, take_mk2 e1.symm, take_mk7 (by omega) e2.symm]
  by_cases h : formedB o m1 m2 = true
  · simp [h]
  · simp [h, noView]
theorem ansV_len (o : Int) (m1 m2 : List Int) : (ansV o m1 m2).2.1.length ≤ 5 ∧ (ansV o m1 m2).2.2.1.length ≤ 5 := by
  unfold ansV
  split
  · rename_i h; obtain ⟨h5, h2⟩ := formed_lens h; simp only; omega
  · simp [noView]

/-! ### the reference's 'formed' -/
theorem l7In_eq (x : Int) : spec_l7In.f x = some (inR x) := by
  unfold spec_l7In.f inR
  by_cases h : x ≥ -10000
  · rw [if_pos h]; simp; omega
  · rw [if_neg h]; simp; omega
theorem l7Formed_loop (x0 : Int) (x1 : List Int) : ∀ (t p : List Int), (p ++ t).length < 35184372088833 → Ev (fun k => spec_l7Formed.l0 k (p.length : Int) x0 x1 (p ++ t)) (t.all inR)
  | [], p, _ => by
    refine evRound (Ev.now _) fun k => ?_
    simp only [spec_l7Formed.l0]; rw [if_neg len_nlt]; rfl
  | a :: t, p, hl => by
    by_cases h : inR a = true
    · have ih := l7Formed_loop x0 x1 t (p ++ [a]) (by simpa using hl)
      rw [← app_mid] at ih
      refine evVal (evRound ih fun k => ?_) (by simp [h])
      simp only [spec_l7Formed.l0]
      rw [if_pos len_lt, if_pos (by omega), rd_mid, l7In_eq, h, next_mid p t a hl]; simp only [Option.bind_some, if_true]
    · rw [Bool.not_eq_true] at h
      refine evVal (evRound (Ev.now false) fun k => ?_) (by simp [h])
      simp only [spec_l7Formed.l0]
      rw [if_pos len_lt, if_pos (by omega), rd_mid, l7In_eq, h]; simp only [Option.bind_some, Bool.false_eq_true, if_false]
theorem l7Formed_ev (off : Int) (l1 l2 : List Int) (h1 : l1.length ≤ 35184372088832) (h2 : l2.length ≤ 35184372088832) : Ev (fun k => spec_l7Formed.f k off l1 l2) (formedB off l1 l2) := by
  simp only [spec_l7Formed.f]
  refine Ev.bind (l3ShapeOk_ev l1 h1) ?_
  have no : ∀ r, r = false → Ev (fun k => spec_l7Formed.j0 k true off l1 l2) r := fun r e => by
    subst e; exact evRound (Ev.now _) fun k => by simp only [spec_l7Formed.j0, if_true]
  by_cases hs : shOk l1 = true
  · simp only [hs, if_true]
    by_cases e : (l2.length : Int) = (l1.length : Int)
    · simp only [e, if_true, l7In_eq, Option.bind_some]
      by_cases ho : inR off = true
      · have h := l7Formed_loop off l1 l2 [] (by simp; omega)
        refine evVal (evRound (f := fun k => spec_l7Formed.l0 k 0 off l1 l2) h fun k => ?_) (by simp [formedB, hs, ho, show l2.length = l1.length by omega])
        simp only [ho, Bool.not_true, spec_l7Formed.j0, Bool.false_eq_true, if_false]
      · rw [Bool.not_eq_true] at ho
        simp only [ho, Bool.not_false]
        exact no _ (by simp [formedB, ho])
    · simp only [e, if_false]
      exact no _ (by simp [formedB, show l2.length ≠ l1.length by omega])
  · simp only [hs, Bool.false_eq_true, if_false]
    exact no _ (by simp [formedB, hs])
theorem l7Answer_ev (off : Int) (l1 l2 : List Int) (h1 : l1.length ≤ 35184372088832) (h2 : l2.length ≤ 35184372088832) : Ev (fun k => spec_l7Answer.f k off l1 l2 true) (ansV off l1 l2) := by
  simp only [spec_l7Answer.f, if_true]
  refine Ev.bind (l7Formed_ev off l1 l2 h1 h2) ?_
  unfold ansV
  by_cases h : formedB off l1 l2 = true
  · simp only [h, if_true]; exact Ev.now _
  · simp only [h, Bool.false_eq_true, if_false]; exact Ev.now _
theorem l7Copy_eq (off : Int) (l1 l2 : List Int) (h1 : l1.length < 17592186044416) (h2 : l2.length < 17592186044416) : spec_l7Copy.f off l1 l2 = some (off, l1, l2) := by
  simp [spec_l7Copy.f, l3Ints_eq l1 h1, l3Ints_eq l2 h2]
end Go.Proofs.Ytipjhbngbaifeaa.PA

namespace Go.Proofs.Ytipjhbngbaifeaa.PA
open Go.RowKit Go.Proofs.YtipjhbngbaifeaaW.PrintWords Go.Proofs.YtipjhbngbaifeaaW.PrintLast Go.Proofs.YtipjhbngbaifeaaW.PrintMore
set_option linter.unusedVariables false
set_option linter.unusedSimpArgs false
def flipV (off : Int) (l1 l2 : List Int) (a : Int) : Int × List Int × List Int × Bool :=
  if formedB off l1 l2 = true ∧ 0 ≤ a ∧ a < (l1.length : Int) then (if 1 < rd l1 a then ansV (wrap64 (off + wrap64 (wrap64 (rd l1 a - 1) * rd l2 a))) l1 (l2.set a.toNat (wrap64 (-(rd l2 a)))) else (off, l1, l2, true)) else noView
theorem implFlip_eq (off : Int) (l1 l2 : List Int) (a : Int) : impl_FlipView.f off l1 l2 a = some (flipV off l1 l2 a) := by
  unfold impl_FlipView.f flipV
  by_cases h : formedB off l1 l2 = true ∧ 0 ≤ a ∧ a < (l1.length : Int)
  · rw [if_pos h, if_pos h]
    obtain ⟨hf, h0, h1⟩ := h
    obtain ⟨m, rfl⟩ := Int.eq_ofNat_of_zero_le h0
    obtain ⟨h5, h2⟩ := formed_lens hf
    have hm : m < l1.length := by omega
    rw [Int.toNat_natCast, formedL_mk hf]
    unfold flipL
    rw [gi_mk2 h5 hm, gi_mk7 h5 (by omega : m < l2.length), gi_mk0]
    by_cases hn : 1 < rd l1 (m : Int)
    · rw [if_pos hn, if_pos hn, set_mk0, set_mk7 h5 (by omega), viewed_mk hf rfl (by simp [h2]), Int.mul_comm]
    · rw [if_neg hn, if_neg hn, viewed_mk hf rfl h2]
      simp [ansV, hf]
  · rw [if_neg h, if_neg h]
theorem flipV_len (off : Int) (l1 l2 : List Int) (a : Int) : (flipV off l1 l2 a).2.1.length ≤ 5 ∧ (flipV off l1 l2 a).2.2.1.length ≤ 5 := by
  unfold flipV
  split
  · rename_i h
    split
    · exact ansV_len _ _ _
    · obtain ⟨h5, h2⟩ := formed_lens h.1; simp only; omega
  · simp [noView]
theorem specFlip_ev (off : Int) (l1 l2 : List Int) (a : Int) (h1 : l1.length < 17592186044416) (h2 : l2.length < 17592186044416) : Ev (fun k => spec_FlipView.f k off l1 l2 a) (flipV off l1 l2 a) := by
  simp only [spec_FlipView.f]
  refine Ev.bind (l7Formed_ev off l1 l2 (by omega) (by omega)) ?_
  have no : ∀ r, r = noView → Ev (fun k => spec_FlipView.j0 k a true off l1 l2) r := fun r e => by
    subst e; exact evRound (Ev.now _) fun k => by simp only [spec_FlipView.j0, if_true]; rfl
  by_cases hf : formedB off l1 l2 = true
  · obtain ⟨h5, hl⟩ := formed_lens hf
    simp only [hf, if_true]
    by_cases ha : a < 0
    · simp only [ha, if_true]; exact no _ (by unfold flipV; rw [if_neg (fun h => by omega)])
    · simp only [ha, if_false]
      by_cases hb : a ≥ (l1.length : Int)
      · simp only [hb, decide_true]; exact no _ (by unfold flipV; rw [if_neg (fun h => by omega)])
      · simp only [hb, decide_false]
        have hv : flipV off l1 l2 a = (if 1 < rd l1 a then ansV (wrap64 (off + wrap64 (wrap64 (rd l1 a - 1) * rd l2 a))) l1 (l2.set a.toNat (wrap64 (-(rd l2 a)))) else (off, l1, l2, true)) := by
          unfold flipV; rw [if_pos ⟨hf, by omega, by omega⟩]
        rw [hv]
        by_cases hn : rd l1 a > 1
        · rw [if_pos (by omega : 1 < rd l1 a)]
          refine evRound (Ev.bind (l7Answer_ev _ _ _ (by omega) (by simp; omega)) (Ev.now _)) fun k => ?_
          simp only [spec_FlipView.j0, Bool.false_eq_true, if_false, l7Copy_eq off l1 l2 h1 h2, Option.bind_some]
          rw [if_pos (by omega), if_pos (by omega), if_pos hn, if_pos (by omega), if_pos (by omega)]
        · rw [if_neg (by omega : ¬ 1 < rd l1 a)]
          have e : ansV off l1 l2 = (off, l1, l2, true) := by simp [ansV, hf]
          rw [← e]
          refine evRound (Ev.bind (l7Answer_ev _ _ _ (by omega) (by omega)) (Ev.now _)) fun k => ?_
          simp only [spec_FlipView.j0, Bool.false_eq_true, if_false, l7Copy_eq off l1 l2 h1 h2, Option.bind_some]
          rw [if_pos (by omega), if_pos (by omega), if_neg hn]
  · simp only [hf, Bool.false_eq_true, if_false]
    exact no _ (by unfold flipV; rw [if_neg (fun h => hf h.1)])
theorem qFnExactFlipView : ∀ (a0 : Int) (l0_1 l0_2 : List Int) (a1 : Int), ((Lit.int .i64 a0).wf = true) → (l0_1.length ≤ maxLen) → (∀ x ∈ l0_1, (Lit.int .i64 x).wf = true) → (l0_2.length ≤ maxLen) → (∀ x ∈ l0_2, (Lit.int .i64 x).wf = true) → ((Lit.int .i64 a1).wf = true) → ∃ k, laws_FnExactFlipView.f k a0 l0_1 l0_2 a1 = some true := by
  intro off l1 l2 a _ h1 _ h2 _ _
  refine Ev.rounds ?_
  simp only [laws_FnExactFlipView.f, szView_eq off l1 l2 1048576 (by omega) (by omega) h1 h2, Option.bind_some]
  by_cases h : (l1.length : Int) + l2.length ≤ 1048576
  · simp only [h, if_true, show ¬ ((1048576 : Int) - l1.length - l2.length < 0) by omega, if_false]
    obtain ⟨v1, v2, v3, v4, hv⟩ : ∃ v1 v2 v3 v4, flipV off l1 l2 a = (v1, v2, v3, v4) := ⟨_, _, _, _, rfl⟩
    have hs := specFlip_ev off l1 l2 a (by omega) (by omega)
    have hi : Ev (fun _ => impl_FlipView.f off l1 l2 a) (flipV off l1 l2 a) := evEq fun _ => implFlip_eq off l1 l2 a
    have hn := flipV_len off l1 l2 a
    rw [hv] at hs hi hn
    simp only at hn
    have hc := toView_ev off l1 l2 (by omega) (by omega)
    have e0 := eqView_self off l1 l2 (by omega) (by omega)
    have e1 := eqView_self v1 v2 v3 (by omega) (by omega)
    have hm := markView_ev v1 v2 v3 1 (by omega) (by omega) (by omega) (by omega)
    have hh := heldView_ev v1 v2.length v3.length 1 (by omega) (by omega) (by omega) (by omega)
    have hm0 := markView_ev off l1 l2 1 (by omega) (by omega) (by omega) (by omega)
    have c0 : ¬ (1 : Int) + l1.length + l2.length < 0 := by omega
    have c1 : ¬ (1 : Int) + v2.length + v3.length < 0 := by omega
    repeat (first
      | exact Ev.now _
      | refine Ev.bind hc ?_
      | refine Ev.bind hs ?_
      | refine Ev.bind hi ?_
      | refine Ev.bind e1 ?_
      | refine Ev.bind e0 ?_
      | refine Ev.bind hm ?_
      | refine Ev.bind hh ?_
      | refine Ev.bind hm0 ?_
      | (simp only [if_true, bne_self_eq_false, c0, c1, if_false])
      | (apply evRound; rotate_left 1; focus (intro k; first | (simp only [laws_FnExactFlipView.j0, Bool.false_eq_true, if_false]; exact rfl) | (simp only [laws_FnExactFlipView.j1, Bool.false_eq_true, if_false]; exact rfl) | (simp only [laws_FnExactFlipView.j2, Bool.false_eq_true, if_false]; exact rfl))))
  · simp only [h, if_false, show ((-1 : Int) < 0) by omega, if_true]; exact Ev.now _
end Go.Proofs.Ytipjhbngbaifeaa.PA

namespace Go.Proofs.Ytipjhbngbaifeaa.PA
open Go.ChangeShapes Go.WideShapes Go.ChangeAt Go.RowKit Go.Deep Go.Proofs.YtipjhbngbaifeaaW.PrintWords Go.Proofs.YtipjhbngbaifeaaW.PrintLast Go.Proofs.YtipjhbngbaifeaaW.PrintMore

/-- A slice of whole numbers that came in: what it reads as. -/
structure Sl (W : World) (A : Option Addr) (l : List Int) (c : Nat) : Prop where
  reads : ReadsInt W .i64 A l.length l
  max : l.length ≤ maxLen
  wf : ∀ x ∈ l, (Lit.int .i64 x).wf = true
  cap : l.length ≤ c

theorem slice_cell {H : Type} {enc : TypeId × Value → H} {P : Program} {W : World} {fuel : Nat} {t e : TypeId} {cs : List Value} {x : DataW H × List MemPlace}
    (ht : P.underlying t = some (.slice e)) (he : P.underlying e = some (.int .i64)) (hc : P.cellsOf e = 1)
    (hf : DataW.trod enc P W 0 (fun _ => true) true fuel t cs = some x) : ∃ A l c, cs = [.slice A l.length c] ∧ Sl W A l c := by
  rcases open_ints ht he hc hf with ⟨hcs, _⟩ | ⟨a, n, c, zs, hcs, _, hl, hm, hz, _, hcell, hwz⟩
  · obtain ⟨l, e1, h1, h2, h3, h4⟩ := ReadsInt.ofRowC (k := .i64) (w := W) (a := none) (len := 0) (cap := 0) (zs := []) (.inl ⟨rfl, rfl, rfl, rfl⟩)
    refine ⟨none, l, 0, ?_, h1, h2, h3, h4⟩
    rw [← e1]; exact hcs
  · obtain ⟨l, e1, h1, h2, h3, h4⟩ := ReadsInt.ofRowC (k := .i64) (w := W) (a := some a) (len := n) (cap := c) (zs := zs) (.inr ⟨a, rfl, hl, hm, by simpa using hz, hcell, hwz⟩)
    refine ⟨some a, l, c, ?_, h1, h2, h3, h4⟩
    rw [← e1]; exact hcs



theorem open_iss {H : Type} {enc : TypeId × Value → H} {P : Program} {W : World} {t e : TypeId} {f0 f1 f2 : Field} {v : Value} {d : DataW H} {p : List MemPlace} {r : Reach} {b0 : Nat}
    (hs : P.underlying t = some (.struct #[f0, f1, f2])) (hone : oneCellFields P #[f0, f1, f2] = true) (hC : P.cellsOf t = 3)
    (h0 : P.underlying f0.type = some (.int .i64)) (h1 : P.underlying f1.type = some (.slice e)) (h2 : P.underlying f2.type = some (.slice e)) (he : P.underlying e = some (.int .i64)) (hc : P.cellsOf e = 1)
    (hv : Value.okWide P W r b0 t v) (h : DataW.Trod enc P W 0 (fun _ => true) true t v d p) :
    ∃ (a : Int) (A1 : Option Addr) (l1 : List Int) (c1 : Nat) (A2 : Option Addr) (l2 : List Int) (c2 : Nat), v = .agg #[.int .i64 a, .slice A1 l1.length c1, .slice A2 l2.length c2] ∧ (Lit.int .i64 a).wf = true ∧ Sl W A1 l1 c1 ∧ Sl W A2 l2 c2 := by
  obtain ⟨v0, v1, v2, y0, y1, y2, n, rfl, _, _, k0, k1, k2⟩ := Go.Joins.open_agg3 hs hone hC hv h
  obtain ⟨A1, l1, c1, e1, s1⟩ := slice_cell h1 he hc k1
  obtain ⟨A2, l2, c2, e2, s2⟩ := slice_cell h2 he hc k2
  obtain ⟨a, e0, _, wa⟩ := DataW.trod_int h0 k0
  simp only [List.cons.injEq, and_true] at e0 e1 e2
  subst e0 e1 e2
  exact ⟨a, A1, l1, c1, A2, l2, c2, rfl, wa, s1, s2⟩
end Go.Proofs.Ytipjhbngbaifeaa.PA
