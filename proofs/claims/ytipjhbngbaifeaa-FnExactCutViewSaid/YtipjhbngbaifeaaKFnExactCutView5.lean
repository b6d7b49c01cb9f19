import Derived.Test.YtipjhbngbaifeaaKFnExactCutView4
import Derived.ProofKit
import Derived.OpenShut
import Derived.ChangeOld
import Derived.Below
import Derived.SizedLaws
import Derived.Lib.SmallJoins
import Derived.Deep.Fields

namespace Go.Proofs.Ytipjhbngbaifeaa.PA
set_option linter.unusedVariables false
open Go.RowKit Go.Proofs.YtipjhbngbaifeaaW.PrintWords Go.Proofs.YtipjhbngbaifeaaW.PrintLast Go.Proofs.YtipjhbngbaifeaaW.PrintMore
def mkL (off : Int) (l1 l2 : List Int) : List Int := off :: (l1.length : Int) :: (pad5 l1 ++ pad5 l2)
theorem formedL_mk {off : Int} {l1 l2 : List Int} (h : formedB off l1 l2 = true) : formedL off l1 l2 = mkL off l1 l2 := by unfold formedL; rw [if_pos h]; rfl
theorem formed_lens {off : Int} {l1 l2 : List Int} (h : formedB off l1 l2 = true) : l1.length ≤ 5 ∧ l2.length = l1.length := by
  simp only [formedB, Bool.and_eq_true, decide_eq_true_eq] at h
  exact ⟨shOk_len h.1.1.1, h.1.1.2⟩
theorem gi_mk0 (off : Int) (l1 l2 : List Int) : gi (mkL off l1 l2) 0 = off := rfl
theorem rd_nat {l : List Int} {m : Nat} (h : m < l.length) : rd l (m : Int) = l[m] := by simp [rd, h]
theorem gi_mk7 {off : Int} {l1 l2 : List Int} {m : Nat} (h5 : l1.length ≤ 5) (hm : m < l2.length) : gi (mkL off l1 l2) (7 + m) = rd l2 (m : Int) := by
  have hp := pad5_len h5
  rw [rd_nat hm, show 7 + m = (5 + m) + 2 by omega]
  simp only [gi, mkL, List.getD_cons_succ]
  rw [List.getD_eq_getElem?_getD, List.getElem?_append_right (by omega), hp, show 5 + m - 5 = m by omega, pad5, List.getElem?_append_left hm, List.getElem?_eq_getElem hm]; rfl
theorem set_mk0 (off x : Int) (l1 l2 : List Int) : (mkL off l1 l2).set 0 x = mkL x l1 l2 := rfl
theorem pad5_set {l : List Int} {m : Nat} {x : Int} (hm : m < l.length) : (pad5 l).set m x = pad5 (l.set m x) := by
  unfold pad5; rw [List.set_append_left _ _ hm, List.length_set]
theorem set_mk2 {off x : Int} {l1 l2 : List Int} {m : Nat} (h5 : l1.length ≤ 5) (hm : m < l1.length) : (mkL off l1 l2).set (2 + m) x = mkL off (l1.set m x) l2 := by
  rw [Nat.add_comm]
  unfold mkL
  rw [List.set_cons_succ, List.set_cons_succ, List.set_append_left _ _ (by rw [pad5_len h5]; omega), pad5_set hm, List.length_set]
theorem take_mk2 {off : Int} {l1 l2 : List Int} {n : Nat} (hn : n = l1.length) : ((mkL off l1 l2).drop 2).take n = l1 := by
  subst hn; simp [mkL, pad5, List.append_assoc]
theorem take_mk7 {off : Int} {l1 l2 : List Int} {n : Nat} (h5 : l1.length ≤ 5) (hn : n = l2.length) : ((mkL off l1 l2).drop 7).take n = l2 := by
  subst hn
  have e : (mkL off l1 l2).drop 7 = pad5 l2 := by
    simp only [mkL, List.drop_succ_cons]
    rw [List.drop_left' (pad5_len h5)]
  rw [e]; simp [pad5]
/-- A view, if it is formed. -/
def ansV (off : Int) (l1 l2 : List Int) : Int × List Int × List Int × Bool := if formedB off l1 l2 then (off, l1, l2, true) else noView
theorem mkL_inj {o o' : Int} {l1 l2 m1 m2 : List Int} (h5 : l1.length ≤ 5) (e1 : l1.length = m1.length) (e2 : l2.length = m2.length) (h : mkL o l1 l2 = mkL o' m1 m2) : o = o' ∧ l1 = m1 ∧ l2 = m2 := by
  refine ⟨?_, ?_, ?_⟩
  · have := congrArg (fun l => gi l 0) h; simpa [gi_mk0] using this
  · have := congrArg (fun l : List Int => (l.drop 2).take l1.length) h
    simpa only [take_mk2 rfl, take_mk2 e1] using this
  · have := congrArg (fun l : List Int => (l.drop 7).take l2.length) h
    simpa only [take_mk7 h5 rfl, take_mk7 (show m1.length ≤ 5 by omega) e2] using this
theorem viewed_mk {o off : Int} {l1 l2 m1 m2 : List Int} (hf : formedB off l1 l2 = true) (e1 : m1.length = l1.length) (e2 : m2.length = l1.length) :
    viewed (mkL o m1 m2) (mkL off l1 l2) l1.length = ansV o m1 m2 := by
  obtain ⟨h5, h2⟩ := formed_lens hf
  have hb : viewB (mkL o m1 m2) (mkL off l1 l2) l1.length = formedB o m1 m2 := by
    unfold viewB
    rw [gi_mk0, take_mk2 e1.symm, take_mk7 (by omega) e2.symm]
    by_cases e : mkL o m1 m2 = mkL off l1 l2
    · obtain ⟨rfl, rfl, rfl⟩ := mkL_inj (by omega) e1 (by omega) e
      rw [hf]; simp
    · simp [e]
  unfold viewed viewO viewS viewT ansV
  rw [hb, gi_mk0, take_mk2 e1.symm, take_mk7 (by omega) e2.symm]
  by_cases h : formedB o m1 m2 = true
  · simp [h]
  · simp [h, noView]
theorem ansV_len (o : Int) (m1 m2 : List Int) : (ansV o m1 m2).2.1.length ≤ 5 ∧ (ansV o m1 m2).2.2.1.length ≤ 5 := by
  unfold ansV
  split
  · rename_i h; obtain ⟨h5, h2⟩ := formed_lens h; simp only; omega
  · simp [noView]

/-! ### the reference's 'formed' -/
theorem l7In_eq (x : Int) : spec_l7In.f x = some (inR x) := by
  unfold spec_l7In.f inR
  by_cases h : x ≥ -10000
  · rw [if_pos h]; simp; omega
  · rw [if_neg h]; simp; omega
theorem l7Formed_loop (x0 : Int) (x1 : List Int) : ∀ (t p : List Int), (p ++ t).length < 35184372088833 → Ev (fun k => spec_l7Formed.l0 k (p.length : Int) x0 x1 (p ++ t)) (t.all inR)
  | [], p, _ => by
    refine evRound (Ev.now _) fun k => ?_
    simp only [spec_l7Formed.l0]; rw [if_neg len_nlt]; rfl
  | a :: t, p, hl => by
    by_cases h : inR a = true
    · have ih := l7Formed_loop x0 x1 t (p ++ [a]) (by simpa using hl)
      rw [← app_mid] at ih
      refine evVal (evRound ih fun k => ?_) (by simp [h])
      simp only [spec_l7Formed.l0]
      rw [if_pos len_lt, if_pos (by omega), rd_mid, l7In_eq, h, next_mid p t a hl]; simp only [Option.bind_some, if_true]
    · rw [Bool.not_eq_true] at h
      refine evVal (evRound (Ev.now false) fun k => ?_) (by simp [h])
      simp only [spec_l7Formed.l0]
      rw [if_pos len_lt, if_pos (by omega), rd_mid, l7In_eq, h]; simp only [Option.bind_some, Bool.false_eq_true, if_false]
theorem l7Formed_ev (off : Int) (l1 l2 : List Int) (h1 : l1.length ≤ 35184372088832) (h2 : l2.length ≤ 35184372088832) : Ev (fun k => spec_l7Formed.f k off l1 l2) (formedB off l1 l2) := by
  simp only [spec_l7Formed.f]
  refine Ev.bind (l3ShapeOk_ev l1 h1) ?_
  have no : ∀ r, r = false → Ev (fun k => spec_l7Formed.j0 k true off l1 l2) r := fun r e => by
    subst e; exact evRound (Ev.now _) fun k => by simp only [spec_l7Formed.j0, if_true]
  by_cases hs : shOk l1 = true
  · simp only [hs, if_true]
    by_cases e : (l2.length : Int) = (l1.length : Int)
    · simp only [e, if_true, l7In_eq, Option.bind_some]
      by_cases ho : inR off = true
      · have h := l7Formed_loop off l1 l2 [] (by simp; omega)
        refine evVal (evRound (f := fun k => spec_l7Formed.l0 k 0 off l1 l2) h fun k => ?_) (by simp [formedB, hs, ho, show l2.length = l1.length by omega])
        simp only [ho, Bool.not_true, spec_l7Formed.j0, Bool.false_eq_true, if_false]
      · rw [Bool.not_eq_true] at ho
        simp only [ho, Bool.not_false]
        exact no _ (by simp [formedB, ho])
    · simp only [e, if_false]
      exact no _ (by simp [formedB, show l2.length ≠ l1.length by omega])
  · simp only [hs, Bool.false_eq_true, if_false]
    exact no _ (by simp [formedB, hs])
theorem l7Answer_ev (off : Int) (l1 l2 : List Int) (h1 : l1.length ≤ 35184372088832) (h2 : l2.length ≤ 35184372088832) : Ev (fun k => spec_l7Answer.f k off l1 l2 true) (ansV off l1 l2) := by
  simp only [spec_l7Answer.f, if_true]
  refine Ev.bind (l7Formed_ev off l1 l2 h1 h2) ?_
  unfold ansV
  by_cases h : formedB off l1 l2 = true
  · simp only [h, if_true]; exact Ev.now _
  · simp only [h, Bool.false_eq_true, if_false]; exact Ev.now _
theorem l7Copy_eq (off : Int) (l1 l2 : List Int) (h1 : l1.length < 17592186044416) (h2 : l2.length < 17592186044416) : spec_l7Copy.f off l1 l2 = some (off, l1, l2) := by
  simp [spec_l7Copy.f, l3Ints_eq l1 h1, l3Ints_eq l2 h2]
end Go.Proofs.Ytipjhbngbaifeaa.PA

namespace Go.Proofs.Ytipjhbngbaifeaa.PA
open Go.RowKit Go.Proofs.YtipjhbngbaifeaaW.PrintWords Go.Proofs.YtipjhbngbaifeaaW.PrintLast Go.Proofs.YtipjhbngbaifeaaW.PrintMore
set_option linter.unusedVariables false
set_option linter.unusedSimpArgs false
def cutO (l2 : List Int) : Int → Nat → List (Int × Int) → Int
  | o, _, [] => o
  | o, i, x :: t => cutO l2 (wrap64 (o + wrap64 (x.1 * rd l2 (i : Int)))) (i + 1) t
def cutS : List Int → Nat → List (Int × Int) → List Int
  | S, _, [] => S
  | S, i, x :: t => cutS (S.set i x.2) (i + 1) t
theorem cutS_len : ∀ (p : List (Int × Int)) (S : List Int) (i : Nat), (cutS S i p).length = S.length
  | [], _, _ => rfl
  | x :: t, S, i => by rw [cutS, cutS_len t, List.length_set]
theorem cutGo_mk (l2 : List Int) : ∀ (p : List (Int × Int)) (o : Int) (S : List Int) (i : Nat), S.length ≤ 5 → l2.length = S.length → i + p.length ≤ S.length →
    cutGo (mkL o S l2) i p = mkL (cutO l2 o i p) (cutS S i p) l2
  | [], _, _, _, _, _, _ => rfl
  | x :: t, o, S, i, h5, h2, hi => by
    have hil : i < S.length := by simp at hi; omega
    rw [cutGo, cutStep, gi_mk7 h5 (by omega : i < l2.length), gi_mk0, set_mk0, set_mk2 h5 hil, cutGo_mk l2 t _ _ (i + 1) (by simpa using h5) (by simpa using h2) (by simp at hi ⊢; omega)]
    rfl
def cutV (off : Int) (l1 l2 fr sh : List Int) : Int × List Int × List Int × Bool :=
  if formedB off l1 l2 = true ∧ fr.length = l1.length ∧ sh.length = l1.length ∧ cutOk l1 fr sh = true then ansV (cutO l2 off 0 (fr.zip sh)) (cutS l1 0 (fr.zip sh)) l2 else noView
theorem implCut_eq (off : Int) (l1 l2 fr sh : List Int) : impl_CutView.f off l1 l2 fr sh = some (cutV off l1 l2 fr sh) := by
  unfold impl_CutView.f cutV
  by_cases h : formedB off l1 l2 = true ∧ fr.length = l1.length ∧ sh.length = l1.length ∧ cutOk l1 fr sh = true
  · rw [if_pos h, if_pos h]
    obtain ⟨hf, h1, h2, hk⟩ := h
    obtain ⟨h5, hl⟩ := formed_lens hf
    rw [formedL_mk hf, cutGo_mk l2 _ _ _ _ h5 hl (by simp; omega), viewed_mk hf (by rw [cutS_len]) hl]
  · rw [if_neg h, if_neg h]
theorem cutV_len (off : Int) (l1 l2 fr sh : List Int) : (cutV off l1 l2 fr sh).2.1.length ≤ 5 ∧ (cutV off l1 l2 fr sh).2.2.1.length ≤ 5 := by
  unfold cutV
  split
  · exact ansV_len _ _ _
  · simp [noView]
theorem specCut_loop (off : Int) (l1 l2 : List Int) : ∀ (lt ft st m p q : List Int) (o : Int) (S : List Int), lt.length = ft.length → st.length = ft.length → m.length = p.length → q.length = p.length → l1 = m ++ lt → l1.length ≤ 5 → l2.length = l1.length → S.length = l1.length →
    Ev (fun k => spec_CutView.l0 k (p ++ ft) (q ++ st) (p.length : Int) off l1 l2 o S l2) (if (lt.zip (ft.zip st)).all cutChk = true then ansV (cutO l2 o p.length (ft.zip st)) (cutS S p.length (ft.zip st)) l2 else noView)
  | lt, [], st, m, p, q, o, S, e1, e2, e3, e4, hl, h5, h2, hS => by
    obtain rfl : lt = [] := List.eq_nil_of_length_eq_zero e1
    obtain rfl : st = [] := List.eq_nil_of_length_eq_zero e2
    refine evVal (evRound (Ev.bind (l7Answer_ev o S l2 (by omega) (by omega)) (Ev.now _)) fun k => ?_) (by simp [cutO, cutS])
    simp only [spec_CutView.l0]; rw [if_neg (by simp; omega)]
  | [], a :: ft, st, m, p, q, o, S, e1, e2, e3, e4, hl, h5, h2, hS => by simp at e1
  | s :: lt, a :: ft, [], m, p, q, o, S, e1, e2, e3, e4, hl, h5, h2, hS => by simp at e2
  | s :: lt, a :: ft, b :: st, m, p, q, o, S, e1, e2, e3, e4, hl, h5, h2, hS => by
    have hlen : l1.length = m.length + (lt.length + 1) := by rw [hl]; simp
    have hpl : p.length < l1.length := by omega
    have r1 : rd l1 (p.length : Int) = s := by rw [hl, ← e3]; exact rd_mid _ _ _
    have r2 : rd (q ++ b :: st) (p.length : Int) = b := by rw [← e4]; exact rd_mid _ _ _
    have hg : ∀ k, spec_CutView.l0 (k + 1) (p ++ a :: ft) (q ++ b :: st) (p.length : Int) off l1 l2 o S l2 = (if a < 0 then some noView else (if b < 0 then some noView else (if a > s then some noView else (if b > wrap64 (s - a) then some noView else (spec_CutView.l0 k (p ++ a :: ft) (q ++ b :: st) (wrap64 ((p.length : Int) + 1)) off l1 l2 (wrap64 (o + wrap64 (a * rd l2 (p.length : Int)))) (S.set p.length b) l2))))) := fun k => by
      simp only [spec_CutView.l0, noView]
      rw [if_pos (by simp; omega), if_pos (by omega), if_pos len_lt, rd_mid, r1, r2, Int.toNat_natCast]
      simp only [if_pos (show (p.length : Int) < (l1.length : Int) by omega), if_pos (show (p.length : Int) < (l2.length : Int) by omega), if_pos (show (p.length : Int) < (S.length : Int) by omega)]
    have hz : ((s :: lt).zip ((a :: ft).zip (b :: st))).all cutChk = (cutChk (s, (a, b)) && (lt.zip (ft.zip st)).all cutChk) := rfl
    have hc : cutChk (s, (a, b)) = (decide (0 ≤ a ∧ a ≤ s) && decide (0 ≤ b ∧ b ≤ wrap64 (s - a))) := rfl
    rw [hz]
    have bad : ¬ ((0 ≤ a ∧ a ≤ s) ∧ (0 ≤ b ∧ b ≤ wrap64 (s - a))) → (if (cutChk (s, (a, b)) && (lt.zip (ft.zip st)).all cutChk) = true then ansV (cutO l2 o p.length ((a :: ft).zip (b :: st))) (cutS S p.length ((a :: ft).zip (b :: st))) l2 else noView) = noView := fun h => by
      rw [if_neg]; intro hh; rw [hc] at hh
      simp only [Bool.and_eq_true, decide_eq_true_eq] at hh; exact h hh.1
    by_cases c1 : a < 0
    · refine evVal (evRound (Ev.now noView) fun k => ?_) (bad (by omega)).symm
      rw [hg, if_pos c1]
    · by_cases c2 : b < 0
      · refine evVal (evRound (Ev.now noView) fun k => ?_) (bad (by omega)).symm
        rw [hg, if_neg c1, if_pos c2]
      · by_cases c3 : a > s
        · refine evVal (evRound (Ev.now noView) fun k => ?_) (bad (by omega)).symm
          rw [hg, if_neg c1, if_neg c2, if_pos c3]
        · by_cases c4 : b > wrap64 (s - a)
          · refine evVal (evRound (Ev.now noView) fun k => ?_) (bad (by omega)).symm
            rw [hg, if_neg c1, if_neg c2, if_neg c3, if_pos c4]
          · have ih := specCut_loop off l1 l2 lt ft st (m ++ [s]) (p ++ [a]) (q ++ [b]) (wrap64 (o + wrap64 (a * rd l2 (p.length : Int)))) (S.set p.length b) (by simpa using e1) (by simpa using e2) (by simp [e3]) (by simp [e4]) (by rw [hl]; simp) h5 h2 (by simpa using hS)
            rw [← app_mid, ← app_mid] at ih
            have hck : cutChk (s, (a, b)) = true := by rw [hc, decide_eq_true (show 0 ≤ a ∧ a ≤ s by omega), decide_eq_true (show 0 ≤ b ∧ b ≤ wrap64 (s - a) by omega)]; rfl
            refine evVal (evRound ih fun k => ?_) (by rw [hck, Bool.true_and, List.zip_cons_cons, cutO, cutS]; simp)
            rw [hg, if_neg c1, if_neg c2, if_neg c3, if_neg c4, next_mid p ft a (by simp at e1 ⊢; omega)]
theorem specCut_ev (off : Int) (l1 l2 fr sh : List Int) (h1 : l1.length < 17592186044416) (h2 : l2.length < 17592186044416) : Ev (fun k => spec_CutView.f k off l1 l2 fr sh) (cutV off l1 l2 fr sh) := by
  simp only [spec_CutView.f]
  refine Ev.bind (l7Formed_ev off l1 l2 (by omega) (by omega)) ?_
  have no : cutV off l1 l2 fr sh = noView → Ev (fun k => spec_CutView.j0 k fr sh true off l1 l2) (cutV off l1 l2 fr sh) := fun e => by
    rw [e]; exact evRound (Ev.now _) fun k => by simp only [spec_CutView.j0, if_true]; rfl
  by_cases hf : formedB off l1 l2 = true
  · obtain ⟨h5, hl⟩ := formed_lens hf
    simp only [hf, if_true]
    by_cases he : fr.length = l1.length
    · simp only [show (fr.length : Int) = (l1.length : Int) by omega, if_true]
      by_cases he2 : sh.length = l1.length
      · have hb : ((sh.length : Int) != (l1.length : Int)) = false := by simp; omega
        rw [hb]
        have h := specCut_loop off l1 l2 l1 fr sh [] [] [] off l1 he.symm (by omega) rfl rfl rfl h5 hl rfl
        have e : (if (l1.zip (fr.zip sh)).all cutChk = true then ansV (cutO l2 off ([] : List Int).length (fr.zip sh)) (cutS l1 ([] : List Int).length (fr.zip sh)) l2 else noView) = cutV off l1 l2 fr sh := by
          unfold cutV cutOk
          by_cases hk : (l1.zip (fr.zip sh)).all cutChk = true
          · rw [if_pos hk, if_pos ⟨hf, he, he2, hk⟩]; rfl
          · rw [if_neg hk, if_neg (fun hh => hk hh.2.2.2)]
        rw [← e]
        refine evRound h fun k => ?_
        simp only [spec_CutView.j0, Bool.false_eq_true, if_false, l7Copy_eq off l1 l2 h1 h2, Option.bind_some]; rfl
      · have hb : ((sh.length : Int) != (l1.length : Int)) = true := by simp; omega
        rw [hb]
        exact no (by unfold cutV; rw [if_neg (fun hh => he2 hh.2.2.1)])
    · simp only [show ¬ (fr.length : Int) = (l1.length : Int) by omega, if_false]
      exact no (by unfold cutV; rw [if_neg (fun hh => he hh.2.1)])
  · simp only [hf, Bool.false_eq_true, if_false]
    exact no (by unfold cutV; rw [if_neg (fun hh => hf hh.1)])
theorem qFnExactCutView : ∀ (a0 : Int) (l0_1 l0_2 : List Int) (l1 : List Int) (l2 : List Int), ((Lit.int .i64 a0).wf = true) → (l0_1.length ≤ maxLen) → (∀ x ∈ l0_1, (Lit.int .i64 x).wf = true) → (l0_2.length ≤ maxLen) → (∀ x ∈ l0_2, (Lit.int .i64 x).wf = true) → (l1.length ≤ maxLen) → (∀ x ∈ l1, (Lit.int .i64 x).wf = true) → (l2.length ≤ maxLen) → (∀ x ∈ l2, (Lit.int .i64 x).wf = true) → ∃ k, laws_FnExactCutView.f k a0 l0_1 l0_2 l1 l2 = some true := by
  intro off l1 l2 p q _ h1 _ h2 _ h3 _ h4 _
  refine Ev.rounds ?_
  simp only [laws_FnExactCutView.f]
  by_cases hp : (p.length : Int) > 1048576
  · simp only [hp, if_true]; exact Ev.now _
  · simp only [hp, if_false]
    by_cases hq : (q.length : Int) > 1048576
    · simp only [hq, if_true]; exact Ev.now _
    · simp only [hq, if_false]
      simp only [szView_eq off l1 l2 1048576 (by omega) (by omega) h1 h2, Option.bind_some]
      by_cases h : (l1.length : Int) + l2.length ≤ 1048576
      · simp only [h, if_true, show ¬ ((1048576 : Int) - l1.length - l2.length < 0) by omega, if_false]
        obtain ⟨v1, v2, v3, v4, hv⟩ : ∃ v1 v2 v3 v4, cutV off l1 l2 p q = (v1, v2, v3, v4) := ⟨_, _, _, _, rfl⟩
        have hs := specCut_ev off l1 l2 p q (by omega) (by omega)
        have hi : Ev (fun _ => impl_CutView.f off l1 l2 p q) (cutV off l1 l2 p q) := evEq fun _ => implCut_eq off l1 l2 p q
        have hn := cutV_len off l1 l2 p q
        rw [hv] at hs hi hn
        simp only at hn
        have hc := toView_ev off l1 l2 (by omega) (by omega)
        have hcp := toIntS_ev p (by omega)
        have hcq := toIntS_ev q (by omega)
        have e0 := eqView_self off l1 l2 (by omega) (by omega)
        have e1 := eqView_self v1 v2 v3 (by omega) (by omega)
        have e2 := evVal (eqIntS_ev p p (by omega)) (decide_eq_true rfl)
        have e3 := evVal (eqIntS_ev q q (by omega)) (decide_eq_true rfl)
        have hm := markView_ev v1 v2 v3 1 (by omega) (by omega) (by omega) (by omega)
        have hh := heldView_ev v1 v2.length v3.length 1 (by omega) (by omega) (by omega) (by omega)
        have hm0 := markView_ev off l1 l2 1 (by omega) (by omega) (by omega) (by omega)
        have hm1 := markIntS_ev p (1 + l1.length + l2.length) (by omega) (by omega) (by omega)
        have hm2 := markIntS_ev q (1 + l1.length + l2.length + p.length) (by omega) (by omega) (by omega)
        have c0 : ¬ (1 : Int) + l1.length + l2.length + p.length + q.length < 0 := by omega
        have c1 : ¬ (1 : Int) + v2.length + v3.length < 0 := by omega
        repeat (first
          | exact Ev.now _
          | refine Ev.bind hc ?_
          | refine Ev.bind hcp ?_
          | refine Ev.bind hcq ?_
          | refine Ev.bind hs ?_
          | refine Ev.bind hi ?_
          | refine Ev.bind e1 ?_
          | refine Ev.bind e0 ?_
          | refine Ev.bind e2 ?_
          | refine Ev.bind e3 ?_
          | refine Ev.bind hm ?_
          | refine Ev.bind hh ?_
          | refine Ev.bind hm0 ?_
          | refine Ev.bind hm1 ?_
          | refine Ev.bind hm2 ?_
          | (simp only [if_true, bne_self_eq_false, c0, c1, if_false])
          | (apply evRound; rotate_left 1; focus (intro k; first | (simp only [laws_FnExactCutView.j0, Bool.false_eq_true, if_false]; exact rfl) | (simp only [laws_FnExactCutView.j1, Bool.false_eq_true, if_false]; exact rfl) | (simp only [laws_FnExactCutView.j2, Bool.false_eq_true, if_false]; exact rfl))))
      · simp only [h, if_false, show ((-1 : Int) < 0) by omega, if_true]; exact Ev.now _
end Go.Proofs.Ytipjhbngbaifeaa.PA

namespace Go.Proofs.Ytipjhbngbaifeaa.PA
open Go.ChangeShapes Go.WideShapes Go.ChangeAt Go.RowKit Go.Deep Go.Proofs.YtipjhbngbaifeaaW.PrintWords Go.Proofs.YtipjhbngbaifeaaW.PrintLast Go.Proofs.YtipjhbngbaifeaaW.PrintMore

/-- A slice of whole numbers that came in: what it reads as. -/
structure Sl (W : World) (A : Option Addr) (l : List Int) (c : Nat) : Prop where
  reads : ReadsInt W .i64 A l.length l
  max : l.length ≤ maxLen
  wf : ∀ x ∈ l, (Lit.int .i64 x).wf = true
  cap : l.length ≤ c

theorem slice_cell {H : Type} {enc : TypeId × Value → H} {P : Program} {W : World} {fuel : Nat} {t e : TypeId} {cs : List Value} {x : DataW H × List MemPlace}
    (ht : P.underlying t = some (.slice e)) (he : P.underlying e = some (.int .i64)) (hc : P.cellsOf e = 1)
    (hf : DataW.trod enc P W 0 (fun _ => true) true fuel t cs = some x) : ∃ A l c, cs = [.slice A l.length c] ∧ Sl W A l c := by
  rcases open_ints ht he hc hf with ⟨hcs, _⟩ | ⟨a, n, c, zs, hcs, _, hl, hm, hz, _, hcell, hwz⟩
  · obtain ⟨l, e1, h1, h2, h3, h4⟩ := ReadsInt.ofRowC (k := .i64) (w := W) (a := none) (len := 0) (cap := 0) (zs := []) (.inl ⟨rfl, rfl, rfl, rfl⟩)
    refine ⟨none, l, 0, ?_, h1, h2, h3, h4⟩
    rw [← e1]; exact hcs
  · obtain ⟨l, e1, h1, h2, h3, h4⟩ := ReadsInt.ofRowC (k := .i64) (w := W) (a := some a) (len := n) (cap := c) (zs := zs) (.inr ⟨a, rfl, hl, hm, by simpa using hz, hcell, hwz⟩)
    refine ⟨some a, l, c, ?_, h1, h2, h3, h4⟩
    rw [← e1]; exact hcs

theorem open_sl {H : Type} {enc : TypeId × Value → H} {P : Program} {W : World} {t e : TypeId} {v : Value} {d : DataW H} {p : List MemPlace} {r : Reach} {b0 : Nat}
    (ht : P.underlying t = some (.slice e)) (he : P.underlying e = some (.int .i64)) (hc : P.cellsOf e = 1)
    (hv : Value.okWide P W r b0 t v) (h : DataW.Trod enc P W 0 (fun _ => true) true t v d p) : ∃ A l c, v = .slice A l.length c ∧ Sl W A l c := by
  obtain ⟨a, n, c, rfl⟩ := okWide_slice ht hv
  obtain ⟨fuel, hf⟩ := h
  obtain ⟨A, l, c', hcs, hs⟩ := slice_cell ht he hc hf
  refine ⟨A, l, c', ?_, hs⟩
  simpa [Value.cells] using hcs


theorem open_iss {H : Type} {enc : TypeId × Value → H} {P : Program} {W : World} {t e : TypeId} {f0 f1 f2 : Field} {v : Value} {d : DataW H} {p : List MemPlace} {r : Reach} {b0 : Nat}
    (hs : P.underlying t = some (.struct #[f0, f1, f2])) (hone : oneCellFields P #[f0, f1, f2] = true) (hC : P.cellsOf t = 3)
    (h0 : P.underlying f0.type = some (.int .i64)) (h1 : P.underlying f1.type = some (.slice e)) (h2 : P.underlying f2.type = some (.slice e)) (he : P.underlying e = some (.int .i64)) (hc : P.cellsOf e = 1)
    (hv : Value.okWide P W r b0 t v) (h : DataW.Trod enc P W 0 (fun _ => true) true t v d p) :
    ∃ (a : Int) (A1 : Option Addr) (l1 : List Int) (c1 : Nat) (A2 : Option Addr) (l2 : List Int) (c2 : Nat), v = .agg #[.int .i64 a, .slice A1 l1.length c1, .slice A2 l2.length c2] ∧ (Lit.int .i64 a).wf = true ∧ Sl W A1 l1 c1 ∧ Sl W A2 l2 c2 := by
  obtain ⟨v0, v1, v2, y0, y1, y2, n, rfl, _, _, k0, k1, k2⟩ := Go.Joins.open_agg3 hs hone hC hv h
  obtain ⟨A1, l1, c1, e1, s1⟩ := slice_cell h1 he hc k1
  obtain ⟨A2, l2, c2, e2, s2⟩ := slice_cell h2 he hc k2
  obtain ⟨a, e0, _, wa⟩ := DataW.trod_int h0 k0
  simp only [List.cons.injEq, and_true] at e0 e1 e2
  subst e0 e1 e2
  exact ⟨a, A1, l1, c1, A2, l2, c2, rfl, wa, s1, s2⟩
end Go.Proofs.Ytipjhbngbaifeaa.PA
