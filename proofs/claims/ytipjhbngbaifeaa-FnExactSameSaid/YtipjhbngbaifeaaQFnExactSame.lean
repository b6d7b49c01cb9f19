/- The pure statement of FnExactSame: both sides compare valid arrays field by field. No condition beyond the row's. -/
import Derived.Test.YtipjhbngbaifeaaHArr
import Derived.Test.YtipjhbngbaifeaaFLawsFnExactSame
namespace Go.Proofs.Ytipjhbngbaifeaa.PA
open Go.RowKit Go.Proofs.YtipjhbngbaifeaaW.PrintWords Go.Proofs.YtipjhbngbaifeaaW.PrintLast Go.Proofs.YtipjhbngbaifeaaW.PrintMore
theorem l3Same_loop : ∀ (t p q s : List Int), p.length = q.length → t.length = s.length → (p ++ t).length < 35184372088833 →
    Ev (fun k => spec_l3Same.l0 k (p ++ t) (q ++ s) (p.length : Int)) (decide (t = s))
  | [], p, q, s, _, hs, _ => by
    obtain rfl : s = [] := List.eq_nil_of_length_eq_zero hs.symm
    refine evRound (Ev.now _) fun k => ?_
    simp only [spec_l3Same.l0]; rw [if_neg len_nlt]; simp
  | a :: t, p, q, [], _, hs, _ => by simp at hs
  | a :: t, p, q, b :: s, hp, hs, hl => by
    by_cases e : a = b
    · subst e
      have ih := l3Same_loop t (p ++ [a]) (q ++ [a]) s (by simp [hp]) (by simpa using hs) (by simpa using hl)
      rw [← app_mid, ← app_mid] at ih
      refine evVal (evRound ih fun k => ?_) (by simp)
      simp only [spec_l3Same.l0]
      rw [if_pos len_lt, if_pos (by omega), if_pos (by simp [hp]; omega), rd_mid, show rd (q ++ a :: s) (p.length : Int) = a by rw [hp]; exact rd_mid _ _ _, if_pos rfl, next_mid p t a hl]
    · refine evRound (Ev.now _) fun k => ?_
      simp only [spec_l3Same.l0]
      rw [if_pos len_lt, if_pos (by omega), if_pos (by simp [hp]; omega), rd_mid, show rd (q ++ b :: s) (p.length : Int) = b by rw [hp]; exact rd_mid _ _ _, if_neg e]; simp [e]
theorem l3Same_ev (l m : List Int) (h : l.length ≤ 35184372088832) : Ev (fun k => spec_l3Same.f k l m) (decide (l = m)) := by
  by_cases e : l.length = m.length
  · have h1 := l3Same_loop l [] [] m rfl e (by simpa using (by omega : l.length < 35184372088833))
    refine Ev.congr (fun k => ?_) h1
    simp only [spec_l3Same.f]
    rw [if_pos (by omega)]; rfl
  · refine evEq fun k => ?_
    simp only [spec_l3Same.f]
    rw [if_neg (by omega)]
    have : l ≠ m := fun h => e (h ▸ rfl)
    simp [this]
theorem slEqual_loop : ∀ (t p q s : List Int) (n : Int), n = ((p ++ t).length : Nat) → p.length = q.length → t.length = s.length → (p ++ t).length < 35184372088833 →
    Ev (fun k => slices_Equal_int_int.l0 k (p ++ t) (q ++ s) n (p.length : Int)) (decide (t = s))
  | [], p, q, s, n, hn, _, hs, _ => by
    obtain rfl : s = [] := List.eq_nil_of_length_eq_zero hs.symm
    subst hn
    refine evRound (Ev.now _) fun k => ?_
    simp only [slices_Equal_int_int.l0]; rw [if_neg len_nlt]; simp
  | a :: t, p, q, [], n, _, _, hs, _ => by simp at hs
  | a :: t, p, q, b :: s, n, hn, hp, hs, hl => by
    subst hn
    by_cases e : a = b
    · subst e
      have ih := slEqual_loop t (p ++ [a]) (q ++ [a]) s _ rfl (by simp [hp]) (by simpa using hs) (by simpa using hl)
      rw [← app_mid, ← app_mid] at ih
      refine evVal (evRound ih fun k => ?_) (by simp)
      simp only [slices_Equal_int_int.l0]
      rw [if_pos len_lt, if_pos (by omega), if_pos len_lt, if_pos (by simp [hp]; omega), rd_mid, show rd (q ++ a :: s) (p.length : Int) = a by rw [hp]; exact rd_mid _ _ _, if_pos rfl, next_mid p t a hl]
    · refine evRound (Ev.now _) fun k => ?_
      simp only [slices_Equal_int_int.l0]
      rw [if_pos len_lt, if_pos (by omega), if_pos len_lt, if_pos (by simp [hp]; omega), rd_mid, show rd (q ++ b :: s) (p.length : Int) = b by rw [hp]; exact rd_mid _ _ _, if_neg e]; simp [e]
theorem slEqual_ev (l m : List Int) (h : l.length ≤ 35184372088832) : Ev (fun k => slices_Equal_int_int.f k l m) (decide (l = m)) := by
  by_cases e : l.length = m.length
  · have h1 := slEqual_loop l [] [] m _ rfl rfl e (by simpa using (by omega : l.length < 35184372088833))
    refine Ev.congr (fun k => ?_) h1
    simp only [slices_Equal_int_int.f]
    rw [if_pos (by omega)]; rfl
  · refine evEq fun k => ?_
    simp only [slices_Equal_int_int.f]
    rw [if_neg (by omega)]
    have : l ≠ m := fun h => e (h ▸ rfl)
    simp [this]
def sameV (a : Bool) (l1 l2 : List Int) (b : Bool) (m1 m2 : List Int) : Bool := arrOk a l1 l2 && arrOk b m1 m2 && decide (a = b) && decide (l1 = m1) && decide (l2 = m2)
theorem specSame_ev (a : Bool) (l1 l2 : List Int) (b : Bool) (m1 m2 : List Int) (h1 : l1.length ≤ 35184372088832) (h2 : l2.length ≤ 35184372088832) (h3 : m1.length ≤ 35184372088832) (h4 : m2.length ≤ 35184372088832) :
    Ev (fun k => spec_Same.f k a l1 l2 b m1 m2) (sameV a l1 l2 b m1 m2) := by
  simp only [spec_Same.f, sameV]
  refine Ev.bind (specArrayOk_ev a l1 l2 h1 h2) ?_
  by_cases c1 : arrOk a l1 l2 = true
  · simp only [c1, if_true]
    refine Ev.bind (specArrayOk_ev b m1 m2 h3 h4) ?_
    by_cases c2 : arrOk b m1 m2 = true
    · simp only [c2, if_true]
      by_cases c3 : a = b
      · subst c3; simp only [beq_self_eq_true, if_true]
        refine Ev.bind (l3Same_ev l1 m1 h1) ?_
        by_cases c4 : l1 = m1
        · simp only [c4, decide_true, if_true]; exact evVal (Ev.bind (l3Same_ev l2 m2 h2) (Ev.now _)) (by simp)
        · simp only [c4, decide_false, Bool.false_eq_true, if_false]; exact evVal (Ev.now _) (by simp)
      · simp only [show (a == b) = false by simpa using c3, Bool.false_eq_true, if_false]; exact evVal (Ev.now _) (by simp [c3])
    · simp only [c2, Bool.false_eq_true, if_false]; exact evVal (Ev.now _) (by simp)
  · simp only [c1, Bool.false_eq_true, if_false]; exact evVal (Ev.now _) (by simp)
theorem implSame_ev (a : Bool) (l1 l2 : List Int) (b : Bool) (m1 m2 : List Int) (h1 : l1.length ≤ 35184372088832) (h2 : l2.length ≤ 35184372088832) (h4 : m2.length ≤ 35184372088832) :
    Ev (fun k => impl_Same.f k a l1 l2 b m1 m2) (sameV a l1 l2 b m1 m2) := by
  simp only [impl_Same.f, sameV]
  refine Ev.bind (implArrayOk_ev a l1 l2 h2) ?_
  by_cases c1 : arrOk a l1 l2 = true
  · simp only [c1, if_true]
    refine Ev.bind (implArrayOk_ev b m1 m2 h4) ?_
    by_cases c2 : arrOk b m1 m2 = true
    · simp only [c2, if_true]
      by_cases c3 : a = b
      · subst c3; simp only [beq_self_eq_true, if_true]
        refine Ev.bind (slEqual_ev l1 m1 h1) ?_
        by_cases c4 : l1 = m1
        · simp only [c4, decide_true, if_true]; exact evVal (Ev.bind (slEqual_ev l2 m2 h2) (Ev.now _)) (by simp)
        · simp only [c4, decide_false, Bool.false_eq_true, if_false]; exact evVal (Ev.now _) (by simp)
      · simp only [show (a == b) = false by simpa using c3, Bool.false_eq_true, if_false]; exact evVal (Ev.now _) (by simp [c3])
    · simp only [c2, Bool.false_eq_true, if_false]; exact evVal (Ev.now _) (by simp)
  · simp only [c1, Bool.false_eq_true, if_false]; exact evVal (Ev.now _) (by simp)
theorem qFnExactSame : ∀ (a0 : Bool) (l0_1 l0_2 : List Int) (a1 : Bool) (l1_1 l1_2 : List Int), (l0_1.length ≤ maxLen) → (∀ x ∈ l0_1, (Lit.int .i64 x).wf = true) → (l0_2.length ≤ maxLen) → (∀ x ∈ l0_2, (Lit.int .i64 x).wf = true) → (l1_1.length ≤ maxLen) → (∀ x ∈ l1_1, (Lit.int .i64 x).wf = true) → (l1_2.length ≤ maxLen) → (∀ x ∈ l1_2, (Lit.int .i64 x).wf = true) → ∃ k, laws_FnExactSame.f k a0 l0_1 l0_2 a1 l1_1 l1_2 = some true := by
  intro a l1 l2 b m1 m2 k1 _ k2 _ k3 _ k4 _
  refine Ev.rounds ?_
  simp only [laws_FnExactSame.f, szArray_eq a l1 l2 1048576 (by omega) (by omega) k1 k2, Option.bind_some]
  by_cases h : (l1.length : Int) + l2.length ≤ 1048576
  · simp only [h, if_true, show ¬ (1048576 : Int) - l1.length - l2.length < 0 by omega, if_false, szArray_eq b m1 m2 (1048576 - l1.length - l2.length) (by omega) (by omega) k3 k4, Option.bind_some]
    by_cases h' : (m1.length : Int) + m2.length ≤ 1048576 - l1.length - l2.length
    · simp only [h', if_true, show ¬ (1048576 : Int) - l1.length - l2.length - m1.length - m2.length < 0 by omega, if_false]
      refine Ev.bind (toArray_ev a l1 l2 (by omega) (by omega)) ?_
      refine Ev.bind (toArray_ev b m1 m2 (by omega) (by omega)) ?_
      refine Ev.bind (specSame_ev a l1 l2 b m1 m2 (by omega) (by omega) (by omega) (by omega)) ?_
      refine Ev.bind (toArray_ev a l1 l2 (by omega) (by omega)) ?_
      refine Ev.bind (toArray_ev b m1 m2 (by omega) (by omega)) ?_
      refine Ev.bind (implSame_ev a l1 l2 b m1 m2 (by omega) (by omega) (by omega)) ?_
      simp only [bne_self_eq_false, Bool.false_eq_true, if_false]
      refine Ev.bind (toArray_ev a l1 l2 (by omega) (by omega)) ?_
      refine Ev.bind (eqArray_self a l1 l2 (by omega) (by omega)) ?_
      simp only [if_true]
      refine Ev.bind (toArray_ev b m1 m2 (by omega) (by omega)) ?_
      refine Ev.bind (eqArray_self b m1 m2 (by omega) (by omega)) ?_
      exact Ev.now _
    · simp only [h', if_false, show (-1 : Int) < 0 by omega, if_true]; exact Ev.now _
  · simp only [h, if_false, show (-1 : Int) < 0 by omega, if_true]; exact Ev.now _
end Go.Proofs.Ytipjhbngbaifeaa.PA
