import Derived.Test.YtipjhbngbaifeaaKFnExactTurnView4
import Derived.ProofKit
import Derived.OpenShut
import Derived.ChangeOld
import Derived.Below
import Derived.SizedLaws
import Derived.Lib.SmallJoins
import Derived.Deep.Fields

-- By a program (prt.py, over the print of the kit), for this claim. Not trusted: Lean checks it.
namespace Go.Proofs.Ytipjhbngbaifeaa.PA
open Go.RowKit Go.Proofs.YtipjhbngbaifeaaW.PrintWords Go.Proofs.YtipjhbngbaifeaaW.PrintLast Go.Proofs.YtipjhbngbaifeaaW.PrintMore
attribute [local go_sem] max2_int min2_int max_two min_two max_three min_three max_four min_four   -- for this text's walks alone
set_option linter.unusedVariables false
set_option linter.unusedSimpArgs false

/-! ### spec_l7Answer: function 70 -/
def spec_l7Answer.f (k : Nat) (a0_0 : Int) (l0_1 : List Int) (l0_2 : List Int) (a1 : Bool) : Option (Int × List Int × List Int × Bool) := if a1 = true then ((spec_l7Formed.f k a0_0 l0_1 l0_2).bind fun t103 => (if t103 = true then (some (a0_0, l0_1, l0_2, true)) else (some (0, ([] : List Int), ([] : List Int), false)))) else (some (0, ([] : List Int), ([] : List Int), false))
theorem spec_l7Answer.mono : ∀ a0 a1 a2 a3 k, LeO (spec_l7Answer.f k a0 a1 a2 a3) (spec_l7Answer.f (k + 1) a0 a1 a2 a3) := by
  intro a0 a1 a2 a3 k
  unfold spec_l7Answer.f
  repeat' first
      | (with_reducible exact spec_l7Formed.mono _ _ _ _)
      | (with_reducible exact LeO.refl _)
      | (with_reducible exact LeO.none _)
      | (with_reducible refine LeO.ite ?_ ?_)
      | (with_reducible refine LeO.bind ?_ (fun _ => ?_))
      | exact spec_l7Formed.mono _ _ _ _
      | exact LeO.none _
      | refine LeO.ite ?_ ?_
      | refine LeO.bind ?_ (fun _ => ?_)

end Go.Proofs.Ytipjhbngbaifeaa.PA

namespace Go.Proofs.Ytipjhbngbaifeaa.PA
set_option linter.unusedVariables false
open Go.RowKit Go.Proofs.YtipjhbngbaifeaaW.PrintWords Go.Proofs.YtipjhbngbaifeaaW.PrintLast Go.Proofs.YtipjhbngbaifeaaW.PrintMore
def mkL (off : Int) (l1 l2 : List Int) : List Int := off :: (l1.length : Int) :: (pad5 l1 ++ pad5 l2)
theorem formedL_mk {off : Int} {l1 l2 : List Int} (h : formedB off l1 l2 = true) : formedL off l1 l2 = mkL off l1 l2 := by unfold formedL; rw [if_pos h]; rfl
theorem formed_lens {off : Int} {l1 l2 : List Int} (h : formedB off l1 l2 = true) : l1.length ≤ 5 ∧ l2.length = l1.length := by
  simp only [formedB, Bool.and_eq_true, decide_eq_true_eq] at h
  exact ⟨shOk_len h.1.1.1, h.1.1.2⟩
theorem formed_sh {off : Int} {l1 l2 : List Int} (h : formedB off l1 l2 = true) : shOk l1 = true := by
  simp only [formedB, Bool.and_eq_true, decide_eq_true_eq] at h
  exact h.1.1.1
theorem formed_off {off : Int} {l1 l2 : List Int} (h : formedB off l1 l2 = true) : -10000 ≤ off ∧ off ≤ 10000 := by
  simp only [formedB, Bool.and_eq_true, decide_eq_true_eq, inR] at h
  exact h.1.2
theorem formed_str {off : Int} {l1 l2 : List Int} (h : formedB off l1 l2 = true) : ∀ x ∈ l2, -10000 ≤ x ∧ x ≤ 10000 := by
  simp only [formedB, Bool.and_eq_true, decide_eq_true_eq, List.all_eq_true, inR] at h
  exact h.2
theorem gi_mk0 (off : Int) (l1 l2 : List Int) : gi (mkL off l1 l2) 0 = off := rfl
theorem rd_nat {l : List Int} {m : Nat} (h : m < l.length) : rd l (m : Int) = l[m] := by simp [rd, h]
theorem gi_mk2 {off : Int} {l1 l2 : List Int} {m : Nat} (h5 : l1.length ≤ 5) (hm : m < l1.length) : gi (mkL off l1 l2) (2 + m) = rd l1 (m : Int) := by
  rw [rd_nat hm, Nat.add_comm]
  simp only [gi, mkL, List.getD_cons_succ, pad5, List.append_assoc]
  rw [List.getD_eq_getElem?_getD, List.getElem?_append_left hm, List.getElem?_eq_getElem hm]; rfl
theorem gi_mk7 {off : Int} {l1 l2 : List Int} {m : Nat} (h5 : l1.length ≤ 5) (hm : m < l2.length) : gi (mkL off l1 l2) (7 + m) = rd l2 (m : Int) := by
  have hp := pad5_len h5
  rw [rd_nat hm, show 7 + m = (5 + m) + 2 by omega]
  simp only [gi, mkL, List.getD_cons_succ]
  rw [List.getD_eq_getElem?_getD, List.getElem?_append_right (by omega), hp, show 5 + m - 5 = m by omega, pad5, List.getElem?_append_left hm, List.getElem?_eq_getElem hm]; rfl
theorem pad5_set {l : List Int} {m : Nat} {x : Int} (hm : m < l.length) : (pad5 l).set m x = pad5 (l.set m x) := by
  unfold pad5; rw [List.set_append_left _ _ hm, List.length_set]
theorem set_mk2 {off x : Int} {l1 l2 : List Int} {m : Nat} (h5 : l1.length ≤ 5) (hm : m < l1.length) : (mkL off l1 l2).set (2 + m) x = mkL off (l1.set m x) l2 := by
  rw [Nat.add_comm]
  unfold mkL
  rw [List.set_cons_succ, List.set_cons_succ, List.set_append_left _ _ (by rw [pad5_len h5]; omega), pad5_set hm, List.length_set]
theorem set_mk7 {off x : Int} {l1 l2 : List Int} {m : Nat} (h5 : l1.length ≤ 5) (hm : m < l2.length) : (mkL off l1 l2).set (7 + m) x = mkL off l1 (l2.set m x) := by
  rw [show 7 + m = (5 + m) + 1 + 1 by omega]
  unfold mkL
  rw [List.set_cons_succ, List.set_cons_succ, List.set_append_right _ _ (by rw [pad5_len h5]; omega), pad5_len h5, show 5 + m - 5 = m by omega, pad5_set hm]
theorem take_mk2 {off : Int} {l1 l2 : List Int} {n : Nat} (hn : n = l1.length) : ((mkL off l1 l2).drop 2).take n = l1 := by
  subst hn; simp [mkL, pad5, List.append_assoc]
theorem take_mk7 {off : Int} {l1 l2 : List Int} {n : Nat} (h5 : l1.length ≤ 5) (hn : n = l2.length) : ((mkL off l1 l2).drop 7).take n = l2 := by
  subst hn
  have e : (mkL off l1 l2).drop 7 = pad5 l2 := by
    simp only [mkL, List.drop_succ_cons]
    rw [List.drop_left' (pad5_len h5)]
  rw [e]; simp [pad5]
/-- A view, if it is formed. -/
def ansV (off : Int) (l1 l2 : List Int) : Int × List Int × List Int × Bool := if formedB off l1 l2 then (off, l1, l2, true) else noView
theorem mkL_inj {o o' : Int} {l1 l2 m1 m2 : List Int} (h5 : l1.length ≤ 5) (e1 : l1.length = m1.length) (e2 : l2.length = m2.length) (h : mkL o l1 l2 = mkL o' m1 m2) : o = o' ∧ l1 = m1 ∧ l2 = m2 := by
  refine ⟨?_, ?_, ?_⟩
  · have := congrArg (fun l => gi l 0) h; simpa [gi_mk0] using this
  · have := congrArg (fun l : List Int => (l.drop 2).take l1.length) h
    simpa only [take_mk2 rfl, take_mk2 e1] using this
  · have := congrArg (fun l : List Int => (l.drop 7).take l2.length) h
    simpa only [take_mk7 h5 rfl, take_mk7 (show m1.length ≤ 5 by omega) e2] using this
theorem viewed_mk {o off : Int} {l1 l2 m1 m2 : List Int} (hf : formedB off l1 l2 = true) (e1 : m1.length = l1.length) (e2 : m2.length = l1.length) :
    viewed (mkL o m1 m2) (mkL off l1 l2) l1.length = ansV o m1 m2 := by
  obtain ⟨h5, h2⟩ := formed_lens hf
  have hb : viewB (mkL o m1 m2) (mkL off l1 l2) l1.length = formedB o m1 m2 := by
    unfold viewB
    rw [gi_mk0, take_mk2 e1.symm, take_mk7 (by omega) e2.symm]
    by_cases e : mkL o m1 m2 = mkL off l1 l2
    · obtain ⟨rfl, rfl, rfl⟩ := mkL_inj (by omega) e1 (by omega) e
      rw [hf]; simp
    · simp [e]
  unfold viewed viewO viewS viewT ansV
  rw [hb, gi_mk0, take_mk2 e1.symm, take_mk7 (by omega) e2.symm]
  by_cases h : formedB o m1 m2 = true
  · simp [h]
  · simp [h, noView]

/-! ### the reference's 'formed' -/
theorem l7In_eq (x : Int) : spec_l7In.f x = some (inR x) := by
  unfold spec_l7In.f inR
  by_cases h : x ≥ -10000
  · rw [if_pos h]; simp; omega
  · rw [if_neg h]; simp; omega
theorem l7Formed_loop (x0 : Int) (x1 : List Int) : ∀ (t p : List Int), (p ++ t).length < 35184372088833 → Ev (fun k => spec_l7Formed.l0 k (p.length : Int) x0 x1 (p ++ t)) (t.all inR)
  | [], p, _ => by
    refine evRound (Ev.now _) fun k => ?_
    simp only [spec_l7Formed.l0]; rw [if_neg len_nlt]; rfl
  | a :: t, p, hl => by
    by_cases h : inR a = true
    · have ih := l7Formed_loop x0 x1 t (p ++ [a]) (by simpa using hl)
      rw [← app_mid] at ih
      refine evVal (evRound ih fun k => ?_) (by simp [h])
      simp only [spec_l7Formed.l0]
      rw [if_pos len_lt, if_pos (by omega), rd_mid, l7In_eq, h, next_mid p t a hl]; simp only [Option.bind_some, if_true]
    · rw [Bool.not_eq_true] at h
      refine evVal (evRound (Ev.now false) fun k => ?_) (by simp [h])
      simp only [spec_l7Formed.l0]
      rw [if_pos len_lt, if_pos (by omega), rd_mid, l7In_eq, h]; simp only [Option.bind_some, Bool.false_eq_true, if_false]
theorem l7Formed_ev (off : Int) (l1 l2 : List Int) (h1 : l1.length ≤ 35184372088832) (h2 : l2.length ≤ 35184372088832) : Ev (fun k => spec_l7Formed.f k off l1 l2) (formedB off l1 l2) := by
  simp only [spec_l7Formed.f]
  refine Ev.bind (l3ShapeOk_ev l1 h1) ?_
  have no : ∀ r, r = false → Ev (fun k => spec_l7Formed.j0 k true off l1 l2) r := fun r e => by
    subst e; exact evRound (Ev.now _) fun k => by simp only [spec_l7Formed.j0, if_true]
  by_cases hs : shOk l1 = true
  · simp only [hs, if_true]
    by_cases e : (l2.length : Int) = (l1.length : Int)
    · simp only [e, if_true, l7In_eq, Option.bind_some]
      by_cases ho : inR off = true
      · have h := l7Formed_loop off l1 l2 [] (by simp; omega)
        refine evVal (evRound (f := fun k => spec_l7Formed.l0 k 0 off l1 l2) h fun k => ?_) (by simp [formedB, hs, ho, show l2.length = l1.length by omega])
        simp only [ho, Bool.not_true, spec_l7Formed.j0, Bool.false_eq_true, if_false]
      · rw [Bool.not_eq_true] at ho
        simp only [ho, Bool.not_false]
        exact no _ (by simp [formedB, ho])
    · simp only [e, if_false]
      exact no _ (by simp [formedB, show l2.length ≠ l1.length by omega])
  · simp only [hs, Bool.false_eq_true, if_false]
    exact no _ (by simp [formedB, hs])
theorem l7Copy_eq (off : Int) (l1 l2 : List Int) (h1 : l1.length < 17592186044416) (h2 : l2.length < 17592186044416) : spec_l7Copy.f off l1 l2 = some (off, l1, l2) := by
  simp [spec_l7Copy.f, l3Ints_eq l1 h1, l3Ints_eq l2 h2]
end Go.Proofs.Ytipjhbngbaifeaa.PA

namespace Go.Proofs.Ytipjhbngbaifeaa.PA
open Go.RowKit Go.Proofs.YtipjhbngbaifeaaW.PrintWords Go.Proofs.YtipjhbngbaifeaaW.PrintLast Go.Proofs.YtipjhbngbaifeaaW.PrintMore
set_option linter.unusedVariables false
set_option linter.unusedSimpArgs false
theorem wf64 {x : Int} (h : (Lit.int .i64 x).wf = true) : -9223372036854775808 ≤ x ∧ x < 9223372036854775808 := by
  simp only [Lit.wf, Bool.and_eq_true, decide_eq_true_eq] at h
  have h1 : IntKind.i64.min = -9223372036854775808 := by decide
  have h2 : IntKind.i64.max = 9223372036854775807 := by decide
  omega
theorem turnGo_mk {off : Int} {l1 l2 : List Int} (h5 : l1.length ≤ 5) (h2 : l2.length = l1.length) : ∀ (p S T : List Int) (i : Nat), S.length = l1.length → T.length = l1.length → (∀ a ∈ p, 1 ≤ a ∧ a ≤ (l1.length : Int)) → i + p.length ≤ l1.length →
    turnGo (mkL off l1 l2) (mkL off S T) i p = mkL off (turnS l1 S i p) (turnS l2 T i p)
  | [], S, T, i, _, _, _, _ => rfl
  | n :: t, S, T, i, hS, hT, hp, hi => by
    have hn := hp n (by simp)
    have hil : i < l1.length := by simp at hi; omega
    rw [turnGo, turnStep, gi_mk2 h5 hil, gi_mk7 h5 (by omega : i < l2.length), set_mk2 (by omega) (by omega), set_mk7 (by rw [List.length_set]; omega) (by omega),
      turnGo_mk h5 h2 t _ _ (i + 1) (by rw [List.length_set]; exact hS) (by rw [List.length_set]; exact hT) (fun a ha => hp a (by simp [ha])) (by simp at hi; omega)]
    rfl
theorem turned_formed {off : Int} {l1 l2 p : List Int} (hf : formedB off l1 l2 = true) (hl : p.length = l1.length) (hp : permB p = true) : formedB off (turnS l1 l1 0 p) (turnS l2 l2 0 p) = true := by
  obtain ⟨h5, h2⟩ := formed_lens hf
  have p1 := turnS_perm hp hl
  have p2 := turnS_perm hp (show p.length = l2.length by omega)
  have hs := formed_str hf
  have ho := formed_off hf
  simp only [formedB, Bool.and_eq_true, decide_eq_true_eq, List.all_eq_true, inR]
  refine ⟨⟨⟨shOk_perm p1 (formed_sh hf), by rw [turnS_len, turnS_len]; exact h2⟩, ho⟩, fun x hx => hs x (p2.mem_iff.1 hx)⟩
def turnV (off : Int) (l1 l2 p : List Int) : Int × List Int × List Int × Bool :=
  if formedB off l1 l2 = true ∧ p.length = l1.length ∧ permB p = true then (off, turnS l1 l1 0 p, turnS l2 l2 0 p, true) else noView
theorem implTurn_eq (off : Int) (l1 l2 p : List Int) : impl_TurnView.f off l1 l2 p = some (turnV off l1 l2 p) := by
  unfold impl_TurnView.f turnV
  by_cases h : formedB off l1 l2 = true ∧ p.length = l1.length ∧ permB p = true
  · rw [if_pos h, if_pos h]
    obtain ⟨hf, hl, hp⟩ := h
    obtain ⟨h5, h2⟩ := formed_lens hf
    rw [formedL_mk hf, turnGo_mk h5 h2 p l1 l2 0 rfl h2 (fun a ha => by rw [← hl]; exact (permB_fact hp).1 a ha) (by omega), viewed_mk hf (by rw [turnS_len]) (by rw [turnS_len]; exact h2)]
    unfold ansV; rw [if_pos (turned_formed hf hl hp)]
  · rw [if_neg h, if_neg h]
theorem turnV_len (off : Int) (l1 l2 p : List Int) : (turnV off l1 l2 p).2.1.length ≤ 5 ∧ (turnV off l1 l2 p).2.2.1.length ≤ 5 := by
  unfold turnV
  split
  · rename_i h; obtain ⟨h5, h2⟩ := formed_lens h.1; simp only [turnS_len]; omega
  · simp [noView]
theorem specTurn_loop (off : Int) (l1 l2 : List Int) (h5 : l1.length ≤ 5) (h2 : l2.length = l1.length) : ∀ (t q : List Int) (seen : List Bool) (S T : List Int), (q ++ t).length = l1.length → seen.length = l1.length → S.length = l1.length → T.length = l1.length → (∀ a ∈ t, (Lit.int .i64 a).wf = true) →
    Ev (fun k => spec_TurnView.l0 k (q ++ t) (l1.length : Int) seen (q.length : Int) off l1 l2 off S T) (if permGo l1.length seen t = true then (off, turnS l1 S q.length t, turnS l2 T q.length t, true) else noView)
  | [], q, seen, S, T, hn, _, _, _, _ => by
    refine evVal (evRound (Ev.now (off, S, T, true)) fun k => ?_) (by simp [permGo, turnS])
    simp only [spec_TurnView.l0]; rw [if_neg (by simp at hn; omega)]
  | a :: t, q, seen, S, T, hn, hs, hS, hT, hw => by
    have ha := wf64 (hw a (by simp))
    have hq : q.length < l1.length := by simp at hn; omega
    have hg : ∀ k, spec_TurnView.l0 (k + 1) (q ++ a :: t) (l1.length : Int) seen (q.length : Int) off l1 l2 off S T = (if wrap64 (a - 1) < 0 then some noView else (if wrap64 (a - 1) ≥ (l1.length : Int) then some noView else (if 0 ≤ wrap64 (a - 1) then (if wrap64 (a - 1) < (seen.length : Int) then (if rdOf false seen (wrap64 (a - 1)) = true then some noView else (if (q.length : Int) < (l1.length : Int) then (if wrap64 (a - 1) < (S.length : Int) then (if (q.length : Int) < (l2.length : Int) then (if wrap64 (a - 1) < (T.length : Int) then (spec_TurnView.l0 k (q ++ a :: t) (l1.length : Int) (seen.set (wrap64 (a - 1)).toNat true) (wrap64 ((q.length : Int) + 1)) off l1 l2 off (S.set (wrap64 (a - 1)).toNat (rd l1 (q.length : Int))) (T.set (wrap64 (a - 1)).toNat (rd l2 (q.length : Int)))) else none) else none) else none) else none)) else none) else none))) := fun k => by
      simp only [spec_TurnView.l0, noView]
      rw [if_pos (by omega), if_pos (by omega), if_pos len_lt, rd_mid]
    by_cases h1 : 1 ≤ a ∧ a ≤ (l1.length : Int)
    · have hwv : wrap64 (a - 1) = a - 1 := w64 (by omega) (by omega)
      by_cases hz : rdOf false seen (a - 1) = true
      · refine evVal (evRound (Ev.now noView) fun k => ?_) (by rw [permGo, if_pos h1, if_pos hz]; rfl)
        rw [hg, hwv, if_neg (by omega), if_neg (by omega), if_pos (by omega), if_pos (by omega), if_pos hz]
      · have ih := specTurn_loop off l1 l2 h5 h2 t (q ++ [a]) (seen.set (a - 1).toNat true) (S.set (a - 1).toNat (rd l1 (q.length : Int))) (T.set (a - 1).toNat (rd l2 (q.length : Int))) (by simpa using hn) (by simpa using hs) (by simpa using hS) (by simpa using hT) (fun b hb => hw b (by simp [hb]))
        rw [← app_mid] at ih
        refine evVal (evRound ih fun k => ?_) (by conv => rhs; rw [permGo, if_pos h1, if_neg hz, turnS, turnS]
                                                  simp)
        rw [hg, hwv, if_neg (by omega), if_neg (by omega), if_pos (by omega), if_pos (by omega), if_neg hz, if_pos (by omega), if_pos (by omega), if_pos (by omega), if_pos (by omega), next_mid q t a (by omega)]
    · refine evVal (evRound (Ev.now noView) fun k => ?_) (by rw [permGo, if_neg h1]; rfl)
      rw [hg]
      by_cases hlow : a = -9223372036854775808
      · have : wrap64 (a - 1) = 9223372036854775807 := by subst hlow; unfold wrap64; omega
        rw [this, if_neg (by omega), if_pos (by omega)]
      · have hwv : wrap64 (a - 1) = a - 1 := w64 (by omega) (by omega)
        rw [hwv]
        by_cases h0 : a - 1 < 0
        · rw [if_pos h0]
        · rw [if_neg h0, if_pos (by omega)]
theorem specTurn_ev (off : Int) (l1 l2 p : List Int) (h1 : l1.length < 17592186044416) (h2 : l2.length < 17592186044416) (hw : ∀ a ∈ p, (Lit.int .i64 a).wf = true) : Ev (fun k => spec_TurnView.f k off l1 l2 p) (turnV off l1 l2 p) := by
  simp only [spec_TurnView.f]
  refine Ev.bind (l7Formed_ev off l1 l2 (by omega) (by omega)) ?_
  have no : turnV off l1 l2 p = noView → Ev (fun k => spec_TurnView.j0 k p (l1.length : Int) true off l1 l2) (turnV off l1 l2 p) := fun e => by
    rw [e]; exact evRound (Ev.now _) fun k => by simp only [spec_TurnView.j0, if_true]; rfl
  by_cases hf : formedB off l1 l2 = true
  · obtain ⟨h5, hl⟩ := formed_lens hf
    simp only [hf, if_true]
    by_cases he : p.length = l1.length
    · have hb : ((p.length : Int) != (l1.length : Int)) = false := by simp; omega
      rw [hb]
      have h := specTurn_loop off l1 l2 h5 hl p [] (List.replicate l1.length false) l1 l2 (by simpa using he) (by simp) rfl hl hw
      have e : (if permGo l1.length (List.replicate l1.length false) p = true then (off, turnS l1 l1 ([] : List Int).length p, turnS l2 l2 ([] : List Int).length p, true) else noView) = turnV off l1 l2 p := by
        unfold turnV permB
        rw [he]
        by_cases hp : permGo l1.length (List.replicate l1.length false) p = true
        · rw [if_pos hp, if_pos ⟨hf, rfl, hp⟩]; rfl
        · rw [if_neg hp, if_neg (fun hh => hp hh.2.2)]
      rw [← e]
      refine evRound h fun k => ?_
      simp only [spec_TurnView.j0, Bool.false_eq_true, if_false, l7Copy_eq off l1 l2 h1 h2, Option.bind_some]
      rw [if_pos (by omega), if_pos (by omega), Int.toNat_natCast]; rfl
    · have hb : ((p.length : Int) != (l1.length : Int)) = true := by simp; omega
      rw [hb]
      exact no (by unfold turnV; rw [if_neg (fun hh => he hh.2.1)])
  · simp only [hf, Bool.false_eq_true, if_false]
    exact no (by unfold turnV; rw [if_neg (fun hh => hf hh.1)])
theorem qFnExactTurnView : ∀ (a0 : Int) (l0_1 l0_2 : List Int) (l1 : List Int), ((Lit.int .i64 a0).wf = true) → (l0_1.length ≤ maxLen) → (∀ x ∈ l0_1, (Lit.int .i64 x).wf = true) → (l0_2.length ≤ maxLen) → (∀ x ∈ l0_2, (Lit.int .i64 x).wf = true) → (l1.length ≤ maxLen) → (∀ x ∈ l1, (Lit.int .i64 x).wf = true) → ∃ k, laws_FnExactTurnView.f k a0 l0_1 l0_2 l1 = some true := by
  intro off l1 l2 p _ h1 _ h2 _ h3 hw
  refine Ev.rounds ?_
  simp only [laws_FnExactTurnView.f]
  by_cases hp : (p.length : Int) > 1048576
  · simp only [hp, if_true]; exact Ev.now _
  · simp only [hp, if_false]
    simp only [szView_eq off l1 l2 1048576 (by omega) (by omega) h1 h2, Option.bind_some]
    by_cases h : (l1.length : Int) + l2.length ≤ 1048576
    · simp only [h, if_true, show ¬ ((1048576 : Int) - l1.length - l2.length < 0) by omega, if_false]
      obtain ⟨v1, v2, v3, v4, hv⟩ : ∃ v1 v2 v3 v4, turnV off l1 l2 p = (v1, v2, v3, v4) := ⟨_, _, _, _, rfl⟩
      have hs := specTurn_ev off l1 l2 p (by omega) (by omega) hw
      have hi : Ev (fun _ => impl_TurnView.f off l1 l2 p) (turnV off l1 l2 p) := evEq fun _ => implTurn_eq off l1 l2 p
      have hn := turnV_len off l1 l2 p
      rw [hv] at hs hi hn
      simp only at hn
      have hc := toView_ev off l1 l2 (by omega) (by omega)
      have hcp := toIntS_ev p (by omega)
      have e0 := eqView_self off l1 l2 (by omega) (by omega)
      have e1 := eqView_self v1 v2 v3 (by omega) (by omega)
      have e2 := evVal (eqIntS_ev p p (by omega)) (decide_eq_true rfl)
      have hm := markView_ev v1 v2 v3 1 (by omega) (by omega) (by omega) (by omega)
      have hh := heldView_ev v1 v2.length v3.length 1 (by omega) (by omega) (by omega) (by omega)
      have hm0 := markView_ev off l1 l2 1 (by omega) (by omega) (by omega) (by omega)
      have hm1 := markIntS_ev p (1 + l1.length + l2.length) (by omega) (by omega) (by omega)
      have c0 : ¬ (1 : Int) + l1.length + l2.length + p.length < 0 := by omega
      have c1 : ¬ (1 : Int) + v2.length + v3.length < 0 := by omega
      repeat (first
        | exact Ev.now _
        | refine Ev.bind hc ?_
        | refine Ev.bind hcp ?_
        | refine Ev.bind hs ?_
        | refine Ev.bind hi ?_
        | refine Ev.bind e1 ?_
        | refine Ev.bind e0 ?_
        | refine Ev.bind e2 ?_
        | refine Ev.bind hm ?_
        | refine Ev.bind hh ?_
        | refine Ev.bind hm0 ?_
        | refine Ev.bind hm1 ?_
        | (simp only [if_true, bne_self_eq_false, c0, c1, if_false])
        | (apply evRound; rotate_left 1; focus (intro k; first | (simp only [laws_FnExactTurnView.j0, Bool.false_eq_true, if_false]; exact rfl) | (simp only [laws_FnExactTurnView.j1, Bool.false_eq_true, if_false]; exact rfl) | (simp only [laws_FnExactTurnView.j2, Bool.false_eq_true, if_false]; exact rfl))))
    · simp only [h, if_false, show ((-1 : Int) < 0) by omega, if_true]; exact Ev.now _
end Go.Proofs.Ytipjhbngbaifeaa.PA

namespace Go.Proofs.Ytipjhbngbaifeaa.PA
open Go.ChangeShapes Go.WideShapes Go.ChangeAt Go.RowKit Go.Deep Go.Proofs.YtipjhbngbaifeaaW.PrintWords Go.Proofs.YtipjhbngbaifeaaW.PrintLast Go.Proofs.YtipjhbngbaifeaaW.PrintMore

/-- A slice of whole numbers that came in: what it reads as. -/
structure Sl (W : World) (A : Option Addr) (l : List Int) (c : Nat) : Prop where
  reads : ReadsInt W .i64 A l.length l
  max : l.length ≤ maxLen
  wf : ∀ x ∈ l, (Lit.int .i64 x).wf = true
  cap : l.length ≤ c

theorem slice_cell {H : Type} {enc : TypeId × Value → H} {P : Program} {W : World} {fuel : Nat} {t e : TypeId} {cs : List Value} {x : DataW H × List MemPlace}
    (ht : P.underlying t = some (.slice e)) (he : P.underlying e = some (.int .i64)) (hc : P.cellsOf e = 1)
    (hf : DataW.trod enc P W 0 (fun _ => true) true fuel t cs = some x) : ∃ A l c, cs = [.slice A l.length c] ∧ Sl W A l c := by
  rcases open_ints ht he hc hf with ⟨hcs, _⟩ | ⟨a, n, c, zs, hcs, _, hl, hm, hz, _, hcell, hwz⟩
  · obtain ⟨l, e1, h1, h2, h3, h4⟩ := ReadsInt.ofRowC (k := .i64) (w := W) (a := none) (len := 0) (cap := 0) (zs := []) (.inl ⟨rfl, rfl, rfl, rfl⟩)
    refine ⟨none, l, 0, ?_, h1, h2, h3, h4⟩
    rw [← e1]; exact hcs
  · obtain ⟨l, e1, h1, h2, h3, h4⟩ := ReadsInt.ofRowC (k := .i64) (w := W) (a := some a) (len := n) (cap := c) (zs := zs) (.inr ⟨a, rfl, hl, hm, by simpa using hz, hcell, hwz⟩)
    refine ⟨some a, l, c, ?_, h1, h2, h3, h4⟩
    rw [← e1]; exact hcs

theorem open_sl {H : Type} {enc : TypeId × Value → H} {P : Program} {W : World} {t e : TypeId} {v : Value} {d : DataW H} {p : List MemPlace} {r : Reach} {b0 : Nat}
    (ht : P.underlying t = some (.slice e)) (he : P.underlying e = some (.int .i64)) (hc : P.cellsOf e = 1)
    (hv : Value.okWide P W r b0 t v) (h : DataW.Trod enc P W 0 (fun _ => true) true t v d p) : ∃ A l c, v = .slice A l.length c ∧ Sl W A l c := by
  obtain ⟨a, n, c, rfl⟩ := okWide_slice ht hv
  obtain ⟨fuel, hf⟩ := h
  obtain ⟨A, l, c', hcs, hs⟩ := slice_cell ht he hc hf
  refine ⟨A, l, c', ?_, hs⟩
  simpa [Value.cells] using hcs


theorem open_iss {H : Type} {enc : TypeId × Value → H} {P : Program} {W : World} {t e : TypeId} {f0 f1 f2 : Field} {v : Value} {d : DataW H} {p : List MemPlace} {r : Reach} {b0 : Nat}
    (hs : P.underlying t = some (.struct #[f0, f1, f2])) (hone : oneCellFields P #[f0, f1, f2] = true) (hC : P.cellsOf t = 3)
    (h0 : P.underlying f0.type = some (.int .i64)) (h1 : P.underlying f1.type = some (.slice e)) (h2 : P.underlying f2.type = some (.slice e)) (he : P.underlying e = some (.int .i64)) (hc : P.cellsOf e = 1)
    (hv : Value.okWide P W r b0 t v) (h : DataW.Trod enc P W 0 (fun _ => true) true t v d p) :
    ∃ (a : Int) (A1 : Option Addr) (l1 : List Int) (c1 : Nat) (A2 : Option Addr) (l2 : List Int) (c2 : Nat), v = .agg #[.int .i64 a, .slice A1 l1.length c1, .slice A2 l2.length c2] ∧ (Lit.int .i64 a).wf = true ∧ Sl W A1 l1 c1 ∧ Sl W A2 l2 c2 := by
  obtain ⟨v0, v1, v2, y0, y1, y2, n, rfl, _, _, k0, k1, k2⟩ := Go.Joins.open_agg3 hs hone hC hv h
  obtain ⟨A1, l1, c1, e1, s1⟩ := slice_cell h1 he hc k1
  obtain ⟨A2, l2, c2, e2, s2⟩ := slice_cell h2 he hc k2
  obtain ⟨a, e0, _, wa⟩ := DataW.trod_int h0 k0
  simp only [List.cons.injEq, and_true] at e0 e1 e2
  subst e0 e1 e2
  exact ⟨a, A1, l1, c1, A2, l2, c2, rfl, wa, s1, s2⟩
end Go.Proofs.Ytipjhbngbaifeaa.PA
