import Derived.Test.YtipjhbngbaifeaaKFnExactPickView4
import Derived.ProofKit
import Derived.OpenShut
import Derived.ChangeOld
import Derived.Below
import Derived.SizedLaws
import Derived.Lib.SmallJoins
import Derived.Deep.Fields

namespace Go.Proofs.Ytipjhbngbaifeaa.PA
set_option linter.unusedVariables false
open Go.RowKit Go.Proofs.YtipjhbngbaifeaaW.PrintWords Go.Proofs.YtipjhbngbaifeaaW.PrintLast Go.Proofs.YtipjhbngbaifeaaW.PrintMore
def mkL (off : Int) (l1 l2 : List Int) : List Int := off :: (l1.length : Int) :: (pad5 l1 ++ pad5 l2)
theorem formedL_mk {off : Int} {l1 l2 : List Int} (h : formedB off l1 l2 = true) : formedL off l1 l2 = mkL off l1 l2 := by unfold formedL; rw [if_pos h]; rfl
theorem formed_lens {off : Int} {l1 l2 : List Int} (h : formedB off l1 l2 = true) : l1.length ≤ 5 ∧ l2.length = l1.length := by
  simp only [formedB, Bool.and_eq_true, decide_eq_true_eq] at h
  exact ⟨shOk_len h.1.1.1, h.1.1.2⟩
theorem formed_sh {off : Int} {l1 l2 : List Int} (h : formedB off l1 l2 = true) : shOk l1 = true := by
  simp only [formedB, Bool.and_eq_true, decide_eq_true_eq] at h
  exact h.1.1.1
theorem gi_mk0 (off : Int) (l1 l2 : List Int) : gi (mkL off l1 l2) 0 = off := rfl
theorem rd_nat {l : List Int} {m : Nat} (h : m < l.length) : rd l (m : Int) = l[m] := by simp [rd, h]
theorem gi_mk7 {off : Int} {l1 l2 : List Int} {m : Nat} (h5 : l1.length ≤ 5) (hm : m < l2.length) : gi (mkL off l1 l2) (7 + m) = rd l2 (m : Int) := by
  have hp := pad5_len h5
  rw [rd_nat hm, show 7 + m = (5 + m) + 2 by omega]
  simp only [gi, mkL, List.getD_cons_succ]
  rw [List.getD_eq_getElem?_getD, List.getElem?_append_right (by omega), hp, show 5 + m - 5 = m by omega, pad5, List.getElem?_append_left hm, List.getElem?_eq_getElem hm]; rfl
theorem set_mk0 (off x : Int) (l1 l2 : List Int) : (mkL off l1 l2).set 0 x = mkL x l1 l2 := rfl
theorem pad5_set {l : List Int} {m : Nat} {x : Int} (hm : m < l.length) : (pad5 l).set m x = pad5 (l.set m x) := by
  unfold pad5; rw [List.set_append_left _ _ hm, List.length_set]
theorem set_mk2 {off x : Int} {l1 l2 : List Int} {m : Nat} (h5 : l1.length ≤ 5) (hm : m < l1.length) : (mkL off l1 l2).set (2 + m) x = mkL off (l1.set m x) l2 := by
  rw [Nat.add_comm]
  unfold mkL
  rw [List.set_cons_succ, List.set_cons_succ, List.set_append_left _ _ (by rw [pad5_len h5]; omega), pad5_set hm, List.length_set]
theorem set_mk7 {off x : Int} {l1 l2 : List Int} {m : Nat} (h5 : l1.length ≤ 5) (hm : m < l2.length) : (mkL off l1 l2).set (7 + m) x = mkL off l1 (l2.set m x) := by
  rw [show 7 + m = (5 + m) + 1 + 1 by omega]
  unfold mkL
  rw [List.set_cons_succ, List.set_cons_succ, List.set_append_right _ _ (by rw [pad5_len h5]; omega), pad5_len h5, show 5 + m - 5 = m by omega, pad5_set hm]
theorem take_mk2 {off : Int} {l1 l2 : List Int} {n : Nat} (hn : n = l1.length) : ((mkL off l1 l2).drop 2).take n = l1 := by
  subst hn; simp [mkL, pad5, List.append_assoc]
theorem take_mk7 {off : Int} {l1 l2 : List Int} {n : Nat} (h5 : l1.length ≤ 5) (hn : n = l2.length) : ((mkL off l1 l2).drop 7).take n = l2 := by
  subst hn
  have e : (mkL off l1 l2).drop 7 = pad5 l2 := by
    simp only [mkL, List.drop_succ_cons]
    rw [List.drop_left' (pad5_len h5)]
  rw [e]; simp [pad5]
/-- A view, if it is formed. -/
def ansV (off : Int) (l1 l2 : List Int) : Int × List Int × List Int × Bool := if formedB off l1 l2 then (off, l1, l2, true) else noView
theorem mkL_inj {o o' : Int} {l1 l2 m1 m2 : List Int} (h5 : l1.length ≤ 5) (e1 : l1.length = m1.length) (e2 : l2.length = m2.length) (h : mkL o l1 l2 = mkL o' m1 m2) : o = o' ∧ l1 = m1 ∧ l2 = m2 := by
  refine ⟨?_, ?_, ?_⟩
  · have := congrArg (fun l => gi l 0) h; simpa [gi_mk0] using this
  · have := congrArg (fun l : List Int => (l.drop 2).take l1.length) h
    simpa only [take_mk2 rfl, take_mk2 e1] using this
  · have := congrArg (fun l : List Int => (l.drop 7).take l2.length) h
    simpa only [take_mk7 h5 rfl, take_mk7 (show m1.length ≤ 5 by omega) e2] using this
theorem viewed_mk {o off : Int} {l1 l2 m1 m2 : List Int} (hf : formedB off l1 l2 = true) (e1 : m1.length = l1.length) (e2 : m2.length = l1.length) :
    viewed (mkL o m1 m2) (mkL off l1 l2) l1.length = ansV o m1 m2 := by
  obtain ⟨h5, h2⟩ := formed_lens hf
  have hb : viewB (mkL o m1 m2) (mkL off l1 l2) l1.length = formedB o m1 m2 := by
    unfold viewB
    rw [gi_mk0, take_mk2 e1.symm, take_mk7 (by omega) e2.symm]
    by_cases e : mkL o m1 m2 = mkL off l1 l2
    · obtain ⟨rfl, rfl, rfl⟩ := mkL_inj (by omega) e1 (by omega) e
      rw [hf]; simp
    · simp [e]
  unfold viewed viewO viewS viewT ansV
  rw [hb, gi_mk0, take_mk2 e1.symm, take_mk7 (by omega) e2.symm]
  by_cases h : formedB o m1 m2 = true
  · simp [h]
  · simp [h, noView]
theorem ansV_len (o : Int) (m1 m2 : List Int) : (ansV o m1 m2).2.1.length ≤ 5 ∧ (ansV o m1 m2).2.2.1.length ≤ 5 := by
  unfold ansV
  split
  · rename_i h; obtain ⟨h5, h2⟩ := formed_lens h; simp only; omega
  · simp [noView]

/-! ### the reference's 'formed' -/
theorem l7In_eq (x : Int) : spec_l7In.f x = some (inR x) := by
  unfold spec_l7In.f inR
  by_cases h : x ≥ -10000
  · rw [if_pos h]; simp; omega
  · rw [if_neg h]; simp; omega
theorem l7Formed_loop (x0 : Int) (x1 : List Int) : ∀ (t p : List Int), (p ++ t).length < 35184372088833 → Ev (fun k => spec_l7Formed.l0 k (p.length : Int) x0 x1 (p ++ t)) (t.all inR)
  | [], p, _ => by
    refine evRound (Ev.now _) fun k => ?_
    simp only [spec_l7Formed.l0]; rw [if_neg len_nlt]; rfl
  | a :: t, p, hl => by
    by_cases h : inR a = true
    · have ih := l7Formed_loop x0 x1 t (p ++ [a]) (by simpa using hl)
      rw [← app_mid] at ih
      refine evVal (evRound ih fun k => ?_) (by simp [h])
      simp only [spec_l7Formed.l0]
      rw [if_pos len_lt, if_pos (by omega), rd_mid, l7In_eq, h, next_mid p t a hl]; simp only [Option.bind_some, if_true]
    · rw [Bool.not_eq_true] at h
      refine evVal (evRound (Ev.now false) fun k => ?_) (by simp [h])
      simp only [spec_l7Formed.l0]
      rw [if_pos len_lt, if_pos (by omega), rd_mid, l7In_eq, h]; simp only [Option.bind_some, Bool.false_eq_true, if_false]
theorem l7Formed_ev (off : Int) (l1 l2 : List Int) (h1 : l1.length ≤ 35184372088832) (h2 : l2.length ≤ 35184372088832) : Ev (fun k => spec_l7Formed.f k off l1 l2) (formedB off l1 l2) := by
  simp only [spec_l7Formed.f]
  refine Ev.bind (l3ShapeOk_ev l1 h1) ?_
  have no : ∀ r, r = false → Ev (fun k => spec_l7Formed.j0 k true off l1 l2) r := fun r e => by
    subst e; exact evRound (Ev.now _) fun k => by simp only [spec_l7Formed.j0, if_true]
  by_cases hs : shOk l1 = true
  · simp only [hs, if_true]
    by_cases e : (l2.length : Int) = (l1.length : Int)
    · simp only [e, if_true, l7In_eq, Option.bind_some]
      by_cases ho : inR off = true
      · have h := l7Formed_loop off l1 l2 [] (by simp; omega)
        refine evVal (evRound (f := fun k => spec_l7Formed.l0 k 0 off l1 l2) h fun k => ?_) (by simp [formedB, hs, ho, show l2.length = l1.length by omega])
        simp only [ho, Bool.not_true, spec_l7Formed.j0, Bool.false_eq_true, if_false]
      · rw [Bool.not_eq_true] at ho
        simp only [ho, Bool.not_false]
        exact no _ (by simp [formedB, ho])
    · simp only [e, if_false]
      exact no _ (by simp [formedB, show l2.length ≠ l1.length by omega])
  · simp only [hs, Bool.false_eq_true, if_false]
    exact no _ (by simp [formedB, hs])
theorem l7Answer_ev (off : Int) (l1 l2 : List Int) (h1 : l1.length ≤ 35184372088832) (h2 : l2.length ≤ 35184372088832) : Ev (fun k => spec_l7Answer.f k off l1 l2 true) (ansV off l1 l2) := by
  simp only [spec_l7Answer.f, if_true]
  refine Ev.bind (l7Formed_ev off l1 l2 h1 h2) ?_
  unfold ansV
  by_cases h : formedB off l1 l2 = true
  · simp only [h, if_true]; exact Ev.now _
  · simp only [h, Bool.false_eq_true, if_false]; exact Ev.now _
theorem l7Copy_eq (off : Int) (l1 l2 : List Int) (h1 : l1.length < 17592186044416) (h2 : l2.length < 17592186044416) : spec_l7Copy.f off l1 l2 = some (off, l1, l2) := by
  simp [spec_l7Copy.f, l3Ints_eq l1 h1, l3Ints_eq l2 h2]
end Go.Proofs.Ytipjhbngbaifeaa.PA

namespace Go.Proofs.Ytipjhbngbaifeaa.PA
open Go.RowKit Go.Proofs.YtipjhbngbaifeaaW.PrintWords Go.Proofs.YtipjhbngbaifeaaW.PrintLast Go.Proofs.YtipjhbngbaifeaaW.PrintMore
set_option linter.unusedVariables false
set_option linter.unusedSimpArgs false
def pickV (off : Int) (l1 l2 : List Int) (a fr st n : Int) : Int × List Int × List Int × Bool :=
  if formedB off l1 l2 = true ∧ pickOk l1 a fr st n = true then ansV (if 0 < n then wrap64 (off + wrap64 (fr * rd l2 a)) else off) (l1.set a.toNat n) (l2.set a.toNat (wrap64 (rd l2 a * st))) else noView
theorem implPick_eq (off : Int) (l1 l2 : List Int) (a fr st n : Int) : impl_PickView.f off l1 l2 a fr st n = some (pickV off l1 l2 a fr st n) := by
  unfold impl_PickView.f pickV
  by_cases h : formedB off l1 l2 = true ∧ pickOk l1 a fr st n = true
  · rw [if_pos h, if_pos h]
    obtain ⟨hf, hp⟩ := h
    have ha : 0 ≤ a ∧ a < (l1.length : Int) := by simp only [pickOk, Bool.and_eq_true, decide_eq_true_eq] at hp; exact hp.1.1.1
    obtain ⟨m, rfl⟩ := Int.eq_ofNat_of_zero_le ha.1
    obtain ⟨h5, h2⟩ := formed_lens hf
    have hm : m < l1.length := by omega
    rw [Int.toNat_natCast, formedL_mk hf]
    unfold pickL pickOff
    by_cases hn : 0 < n
    · simp only [hn, if_true]
      rw [gi_mk7 h5 (by omega : m < l2.length), gi_mk0, set_mk0, gi_mk7 h5 (by omega : m < l2.length), set_mk7 h5 (by omega), set_mk2 h5 hm, viewed_mk hf (by simp) (by simp [h2])]
    · simp only [hn, if_false]
      rw [gi_mk7 h5 (by omega : m < l2.length), set_mk7 h5 (by omega), set_mk2 h5 hm, viewed_mk hf (by simp) (by simp [h2])]
  · rw [if_neg h, if_neg h]
theorem pickV_len (off : Int) (l1 l2 : List Int) (a fr st n : Int) : (pickV off l1 l2 a fr st n).2.1.length ≤ 5 ∧ (pickV off l1 l2 a fr st n).2.2.1.length ≤ 5 := by
  unfold pickV
  split
  · exact ansV_len _ _ _
  · simp [noView]
theorem specPick_ev (off : Int) (l1 l2 : List Int) (a fr st n : Int) (h1 : l1.length < 17592186044416) (h2 : l2.length < 17592186044416) : Ev (fun k => spec_PickView.f k off l1 l2 a fr st n) (pickV off l1 l2 a fr st n) := by
  simp only [spec_PickView.f]
  refine Ev.bind (l7Formed_ev off l1 l2 (by omega) (by omega)) ?_
  have no : pickV off l1 l2 a fr st n = noView → Ev (fun k => spec_PickView.j0 k a fr st n true off l1 l2) (pickV off l1 l2 a fr st n) := fun e => by
    rw [e]; exact evRound (Ev.now _) fun k => by simp only [spec_PickView.j0, if_true]; rfl
  by_cases hf : formedB off l1 l2 = true
  · obtain ⟨h5, hl⟩ := formed_lens hf
    simp only [hf, if_true]
    have bad : pickOk l1 a fr st n = false → pickV off l1 l2 a fr st n = noView := fun h => by unfold pickV; rw [if_neg (fun hh => by rw [h] at hh; exact absurd hh.2 (by decide))]
    by_cases ha : a < 0
    · simp only [ha, if_true]; exact no (bad (by simp only [pickOk, decide_eq_false (show ¬ (0 ≤ a ∧ a < (l1.length : Int)) by omega), Bool.false_and]))
    · simp only [ha, if_false]
      by_cases hb : a ≥ (l1.length : Int)
      · simp only [hb, if_true]; exact no (bad (by simp only [pickOk, decide_eq_false (show ¬ (0 ≤ a ∧ a < (l1.length : Int)) by omega), Bool.false_and]))
      · simp only [hb, if_false]
        by_cases hn0 : n < 0
        · simp only [hn0, if_true]; exact no (bad (by simp only [pickOk, decide_eq_false (show ¬ (0 ≤ n ∧ n ≤ 10000) by omega), Bool.false_and, Bool.and_false]))
        · simp only [hn0, if_false]
          by_cases hn1 : n > 10000
          · simp only [hn1, if_true]; exact no (bad (by simp only [pickOk, decide_eq_false (show ¬ (0 ≤ n ∧ n ≤ 10000) by omega), Bool.false_and, Bool.and_false]))
          · simp only [hn1, if_false, l7In_eq, Option.bind_some]
            by_cases hs : -10000 ≤ st ∧ st ≤ 10000
            · have hsi : inR st = true := decide_eq_true hs
              simp only [hsi, Bool.not_true]
              obtain ⟨m, rfl⟩ := Int.eq_ofNat_of_zero_le (show 0 ≤ a by omega)
              have hm : m < l1.length := by omega
              have hx := shOk_range (formed_sh hf) (rd l1 (m : Int)) (by rw [rd_nat hm]; exact List.getElem_mem _)
              have hw : wrap64 (rd l1 (m : Int) - 1) = rd l1 (m : Int) - 1 := w64 (by omega) (by omega)
              have hcm : wrap64 (fr + wrap64 (wrap64 (n - 1) * st)) = wrap64 (fr + wrap64 (st * wrap64 (n - 1))) := by rw [Int.mul_comm]
              have base : ∀ b : Bool, (decide (¬ 0 < n) || (decide (0 ≤ fr ∧ fr ≤ wrap64 (rd l1 (m : Int) - 1)) && decide (0 ≤ wrap64 (fr + wrap64 (st * wrap64 (n - 1))) ∧ wrap64 (fr + wrap64 (st * wrap64 (n - 1))) ≤ wrap64 (rd l1 (m : Int) - 1)))) = b → pickOk l1 (m : Int) fr st n = b := fun b hb => by
                simp only [pickOk, decide_eq_true (show 0 ≤ (m : Int) ∧ (m : Int) < (l1.length : Int) by omega), decide_eq_true (show 0 ≤ n ∧ n ≤ 10000 by omega), decide_eq_true hs, Bool.true_and]; exact hb
              have good : pickOk l1 (m : Int) fr st n = true → pickV off l1 l2 (m : Int) fr st n = ansV (if 0 < n then wrap64 (off + wrap64 (fr * rd l2 (m : Int))) else off) (l1.set m n) (l2.set m (wrap64 (rd l2 (m : Int) * st))) := fun h => by unfold pickV; rw [if_pos ⟨hf, h⟩, Int.toNat_natCast]
              have step : ∀ k, spec_PickView.j0 (k + 1) (m : Int) fr st n false off l1 l2 = (if n > 0 then (if fr < 0 then some noView else (if fr ≥ rd l1 (m : Int) then some noView else (if (wrap64 (fr + (wrap64 ((wrap64 (n - 1)) * st)))) < 0 then some noView else (if (wrap64 (fr + (wrap64 ((wrap64 (n - 1)) * st)))) ≥ rd l1 (m : Int) then some noView else ((spec_l7Answer.f k (wrap64 (off + (wrap64 (fr * (rd l2 (m : Int)))))) (l1.set m n) (l2.set m (wrap64 ((rd l2 (m : Int)) * st))) true).bind fun bt119 => some bt119))))) else ((spec_l7Answer.f k off (l1.set m n) (l2.set m (wrap64 ((rd l2 (m : Int)) * st))) true).bind fun bt129 => some bt129)) := fun k => by
                simp only [spec_PickView.j0, Bool.false_eq_true, if_false, l7Copy_eq off l1 l2 h1 h2, Option.bind_some, Int.toNat_natCast, noView]
                rw [if_pos (show (0 : Int) ≤ (m : Int) by omega), if_pos (show (m : Int) < (l1.length : Int) by omega)]
                simp only [if_pos (show (m : Int) < (l2.length : Int) by omega), if_pos (show (m : Int) < (l1.length : Int) by omega)]
              by_cases hp : n > 0
              · have hp' : ¬ ¬ 0 < n := by omega
                by_cases c1 : fr < 0
                · refine evVal (evRound (Ev.now noView) fun k => ?_) (bad (base false (by simp only [decide_eq_false hp', decide_eq_false (show ¬ (0 ≤ fr ∧ fr ≤ wrap64 (rd l1 (m : Int) - 1)) by omega), Bool.false_and, Bool.or_false]))).symm
                  rw [step, if_pos hp, if_pos c1]
                · by_cases c2 : fr ≥ rd l1 (m : Int)
                  · refine evVal (evRound (Ev.now noView) fun k => ?_) (bad (base false (by simp only [decide_eq_false hp', decide_eq_false (show ¬ (0 ≤ fr ∧ fr ≤ wrap64 (rd l1 (m : Int) - 1)) by omega), Bool.false_and, Bool.or_false]))).symm
                    rw [step, if_pos hp, if_neg c1, if_pos c2]
                  · by_cases c3 : wrap64 (fr + wrap64 (wrap64 (n - 1) * st)) < 0
                    · refine evVal (evRound (Ev.now noView) fun k => ?_) (bad (base false (by rw [hcm] at c3; simp only [decide_eq_false hp', decide_eq_false (show ¬ (0 ≤ wrap64 (fr + wrap64 (st * wrap64 (n - 1))) ∧ wrap64 (fr + wrap64 (st * wrap64 (n - 1))) ≤ wrap64 (rd l1 (m : Int) - 1)) by omega), Bool.and_false, Bool.or_false]))).symm
                      rw [step, if_pos hp, if_neg c1, if_neg c2, if_pos c3]
                    · by_cases c4 : wrap64 (fr + wrap64 (wrap64 (n - 1) * st)) ≥ rd l1 (m : Int)
                      · refine evVal (evRound (Ev.now noView) fun k => ?_) (bad (base false (by rw [hcm] at c4; simp only [decide_eq_false hp', decide_eq_false (show ¬ (0 ≤ wrap64 (fr + wrap64 (st * wrap64 (n - 1))) ∧ wrap64 (fr + wrap64 (st * wrap64 (n - 1))) ≤ wrap64 (rd l1 (m : Int) - 1)) by omega), Bool.and_false, Bool.or_false]))).symm
                        rw [step, if_pos hp, if_neg c1, if_neg c2, if_neg c3, if_pos c4]
                      · rw [good (base true (by rw [hcm] at c3 c4; simp only [decide_eq_true (show 0 ≤ fr ∧ fr ≤ wrap64 (rd l1 (m : Int) - 1) by omega), decide_eq_true (show 0 ≤ wrap64 (fr + wrap64 (st * wrap64 (n - 1))) ∧ wrap64 (fr + wrap64 (st * wrap64 (n - 1))) ≤ wrap64 (rd l1 (m : Int) - 1) by omega), Bool.and_self, Bool.or_true])), if_pos (by omega : 0 < n)]
                        refine evRound (Ev.bind (l7Answer_ev _ _ _ (by simp; omega) (by simp; omega)) (Ev.now _)) fun k => ?_
                        rw [step, if_pos hp, if_neg c1, if_neg c2, if_neg c3, if_neg c4]
              · rw [good (base true (by simp only [decide_eq_true (show ¬ 0 < n by omega), Bool.true_or])), if_neg (by omega : ¬ 0 < n)]
                refine evRound (Ev.bind (l7Answer_ev _ _ _ (by simp; omega) (by simp; omega)) (Ev.now _)) fun k => ?_
                rw [step, if_neg hp]
            · have hsi : inR st = false := decide_eq_false hs
              simp only [hsi, Bool.not_false]
              exact no (bad (by simp only [pickOk, decide_eq_false hs, Bool.false_and, Bool.and_false]))
  · simp only [hf, Bool.false_eq_true, if_false]
    exact no (by unfold pickV; rw [if_neg (fun h => hf h.1)])
theorem qFnExactPickView : ∀ (a0 : Int) (l0_1 l0_2 : List Int) (a1 : Int) (a2 : Int) (a3 : Int) (a4 : Int), ((Lit.int .i64 a0).wf = true) → (l0_1.length ≤ maxLen) → (∀ x ∈ l0_1, (Lit.int .i64 x).wf = true) → (l0_2.length ≤ maxLen) → (∀ x ∈ l0_2, (Lit.int .i64 x).wf = true) → ((Lit.int .i64 a1).wf = true) → ((Lit.int .i64 a2).wf = true) → ((Lit.int .i64 a3).wf = true) → ((Lit.int .i64 a4).wf = true) → ∃ k, laws_FnExactPickView.f k a0 l0_1 l0_2 a1 a2 a3 a4 = some true := by
  intro off l1 l2 a fr st n _ h1 _ h2 _ _ _ _ _
  refine Ev.rounds ?_
  simp only [laws_FnExactPickView.f, szView_eq off l1 l2 1048576 (by omega) (by omega) h1 h2, Option.bind_some]
  by_cases h : (l1.length : Int) + l2.length ≤ 1048576
  · simp only [h, if_true, show ¬ ((1048576 : Int) - l1.length - l2.length < 0) by omega, if_false]
    obtain ⟨v1, v2, v3, v4, hv⟩ : ∃ v1 v2 v3 v4, pickV off l1 l2 a fr st n = (v1, v2, v3, v4) := ⟨_, _, _, _, rfl⟩
    have hs := specPick_ev off l1 l2 a fr st n (by omega) (by omega)
    have hi : Ev (fun _ => impl_PickView.f off l1 l2 a fr st n) (pickV off l1 l2 a fr st n) := evEq fun _ => implPick_eq off l1 l2 a fr st n
    have hn := pickV_len off l1 l2 a fr st n
    rw [hv] at hs hi hn
    simp only at hn
    have hc := toView_ev off l1 l2 (by omega) (by omega)
    have e0 := eqView_self off l1 l2 (by omega) (by omega)
    have e1 := eqView_self v1 v2 v3 (by omega) (by omega)
    have hm := markView_ev v1 v2 v3 1 (by omega) (by omega) (by omega) (by omega)
    have hh := heldView_ev v1 v2.length v3.length 1 (by omega) (by omega) (by omega) (by omega)
    have hm0 := markView_ev off l1 l2 1 (by omega) (by omega) (by omega) (by omega)
    have c0 : ¬ (1 : Int) + l1.length + l2.length < 0 := by omega
    have c1 : ¬ (1 : Int) + v2.length + v3.length < 0 := by omega
    repeat (first
      | exact Ev.now _
      | refine Ev.bind hc ?_
      | refine Ev.bind hs ?_
      | refine Ev.bind hi ?_
      | refine Ev.bind e1 ?_
      | refine Ev.bind e0 ?_
      | refine Ev.bind hm ?_
      | refine Ev.bind hh ?_
      | refine Ev.bind hm0 ?_
      | (simp only [if_true, bne_self_eq_false, c0, c1, if_false])
      | (apply evRound; rotate_left 1; focus (intro k; first | (simp only [laws_FnExactPickView.j0, Bool.false_eq_true, if_false]; exact rfl) | (simp only [laws_FnExactPickView.j1, Bool.false_eq_true, if_false]; exact rfl) | (simp only [laws_FnExactPickView.j2, Bool.false_eq_true, if_false]; exact rfl))))
  · simp only [h, if_false, show ((-1 : Int) < 0) by omega, if_true]; exact Ev.now _
end Go.Proofs.Ytipjhbngbaifeaa.PA

namespace Go.Proofs.Ytipjhbngbaifeaa.PA
open Go.ChangeShapes Go.WideShapes Go.ChangeAt Go.RowKit Go.Deep Go.Proofs.YtipjhbngbaifeaaW.PrintWords Go.Proofs.YtipjhbngbaifeaaW.PrintLast Go.Proofs.YtipjhbngbaifeaaW.PrintMore

/-- A slice of whole numbers that came in: what it reads as. -/
structure Sl (W : World) (A : Option Addr) (l : List Int) (c : Nat) : Prop where
  reads : ReadsInt W .i64 A l.length l
  max : l.length ≤ maxLen
  wf : ∀ x ∈ l, (Lit.int .i64 x).wf = true
  cap : l.length ≤ c

theorem slice_cell {H : Type} {enc : TypeId × Value → H} {P : Program} {W : World} {fuel : Nat} {t e : TypeId} {cs : List Value} {x : DataW H × List MemPlace}
    (ht : P.underlying t = some (.slice e)) (he : P.underlying e = some (.int .i64)) (hc : P.cellsOf e = 1)
    (hf : DataW.trod enc P W 0 (fun _ => true) true fuel t cs = some x) : ∃ A l c, cs = [.slice A l.length c] ∧ Sl W A l c := by
  rcases open_ints ht he hc hf with ⟨hcs, _⟩ | ⟨a, n, c, zs, hcs, _, hl, hm, hz, _, hcell, hwz⟩
  · obtain ⟨l, e1, h1, h2, h3, h4⟩ := ReadsInt.ofRowC (k := .i64) (w := W) (a := none) (len := 0) (cap := 0) (zs := []) (.inl ⟨rfl, rfl, rfl, rfl⟩)
    refine ⟨none, l, 0, ?_, h1, h2, h3, h4⟩
    rw [← e1]; exact hcs
  · obtain ⟨l, e1, h1, h2, h3, h4⟩ := ReadsInt.ofRowC (k := .i64) (w := W) (a := some a) (len := n) (cap := c) (zs := zs) (.inr ⟨a, rfl, hl, hm, by simpa using hz, hcell, hwz⟩)
    refine ⟨some a, l, c, ?_, h1, h2, h3, h4⟩
    rw [← e1]; exact hcs



theorem open_iss {H : Type} {enc : TypeId × Value → H} {P : Program} {W : World} {t e : TypeId} {f0 f1 f2 : Field} {v : Value} {d : DataW H} {p : List MemPlace} {r : Reach} {b0 : Nat}
    (hs : P.underlying t = some (.struct #[f0, f1, f2])) (hone : oneCellFields P #[f0, f1, f2] = true) (hC : P.cellsOf t = 3)
    (h0 : P.underlying f0.type = some (.int .i64)) (h1 : P.underlying f1.type = some (.slice e)) (h2 : P.underlying f2.type = some (.slice e)) (he : P.underlying e = some (.int .i64)) (hc : P.cellsOf e = 1)
    (hv : Value.okWide P W r b0 t v) (h : DataW.Trod enc P W 0 (fun _ => true) true t v d p) :
    ∃ (a : Int) (A1 : Option Addr) (l1 : List Int) (c1 : Nat) (A2 : Option Addr) (l2 : List Int) (c2 : Nat), v = .agg #[.int .i64 a, .slice A1 l1.length c1, .slice A2 l2.length c2] ∧ (Lit.int .i64 a).wf = true ∧ Sl W A1 l1 c1 ∧ Sl W A2 l2 c2 := by
  obtain ⟨v0, v1, v2, y0, y1, y2, n, rfl, _, _, k0, k1, k2⟩ := Go.Joins.open_agg3 hs hone hC hv h
  obtain ⟨A1, l1, c1, e1, s1⟩ := slice_cell h1 he hc k1
  obtain ⟨A2, l2, c2, e2, s2⟩ := slice_cell h2 he hc k2
  obtain ⟨a, e0, _, wa⟩ := DataW.trod_int h0 k0
  simp only [List.cons.injEq, and_true] at e0 e1 e2
  subst e0 e1 e2
  exact ⟨a, A1, l1, c1, A2, l2, c2, rfl, wa, s1, s2⟩
end Go.Proofs.Ytipjhbngbaifeaa.PA
