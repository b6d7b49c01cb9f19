/- Plain facts: both checks of an array (the reference's and the program's) come to one function of its shape and data. Lists below 2^45 long. -/
import Derived.Test.YtipjhbngbaifeaaHBase
import Derived.Test.YtipjhbngbaifeaaFSpecArrayOk
import Derived.Test.YtipjhbngbaifeaaFImplArrayOk
namespace Go.Proofs.Ytipjhbngbaifeaa.PA
open Go.RowKit Go.Proofs.YtipjhbngbaifeaaW.PrintWords Go.Proofs.YtipjhbngbaifeaaW.PrintLast Go.Proofs.YtipjhbngbaifeaaW.PrintMore

def cellOk (b : Bool) (v : Int) : Bool := if b then decide (0 ≤ v ∧ v ≤ 1114111 ∧ (v < 55296 ∨ v > 57343)) else decide (-1000000000000000 ≤ v ∧ v ≤ 1000000000000000)
def arrOk (b : Bool) (l1 l2 : List Int) : Bool := shOk l1 && decide (prod l1 = l2.length) && l2.all (cellOk b)

theorem l1RuneOk_eq (v : Int) : spec_l1RuneOk.f v = some (cellOk true v) := by
  unfold spec_l1RuneOk.f cellOk
  simp only [if_true]
  by_cases h : v ≥ 0
  · rw [if_pos h]
    by_cases h1 : v ≤ 1114111
    · rw [if_pos h1]
      by_cases h2 : v < 55296
      · rw [if_pos h2]; simp; omega
      · rw [if_neg h2, Option.some.injEq, decide_eq_decide]; omega
    · rw [if_neg h1]; simp; omega
  · rw [if_neg h]; simp; omega
theorem specArrayOk_loop (b : Bool) (l1 : List Int) : ∀ (t p : List Int), (p ++ t).length < 35184372088833 → Ev (fun k => spec_ArrayOk.l0 k (p.length : Int) b l1 (p ++ t)) (t.all (cellOk b))
  | [], p, _ => by
    refine evRound (Ev.now _) fun k => ?_
    simp only [spec_ArrayOk.l0]; rw [if_neg len_nlt]; simp
  | a :: t, p, hl => by
    by_cases hc : cellOk b a = true
    · have ih := specArrayOk_loop b l1 t (p ++ [a]) (by simpa using hl)
      rw [← app_mid] at ih
      refine evVal (evRound ih fun k => ?_) (by simp [hc])
      simp only [spec_ArrayOk.l0]
      rw [if_pos len_lt, if_pos (by omega), rd_mid, next_mid p t a hl]
      cases b with
      | true =>
        rw [if_pos rfl, l1RuneOk_eq]; simp only [Option.bind_some, hc, if_true]
        have := hc; simp only [cellOk, if_true, decide_eq_true_eq] at this
        rw [if_neg (by omega), if_neg (by omega)]
      | false =>
        have := hc; simp only [cellOk, Bool.false_eq_true, if_false, decide_eq_true_eq] at this
        rw [if_neg (by simp), if_neg (by omega), if_neg (by omega)]
    · refine evRound (Ev.now _) fun k => ?_
      simp only [spec_ArrayOk.l0]
      rw [if_pos len_lt, if_pos (by omega), rd_mid]
      simp only [Bool.not_eq_true] at hc
      cases b with
      | true => rw [if_pos rfl, l1RuneOk_eq]; simp [hc]
      | false =>
        have h' := hc; simp only [cellOk, Bool.false_eq_true, if_false, decide_eq_false_iff_not] at h'
        rw [if_neg (by simp)]
        by_cases h1 : a > 1000000000000000
        · rw [if_pos h1]; simp [hc]
        · rw [if_neg h1, if_pos (by omega)]; simp [hc]
theorem specArrayOk_ev (b : Bool) (l1 l2 : List Int) (h1 : l1.length ≤ 35184372088832) (h2 : l2.length ≤ 35184372088832) : Ev (fun k => spec_ArrayOk.f k b l1 l2) (arrOk b l1 l2) := by
  have hj : ∀ c : Bool, Ev (fun k => spec_ArrayOk.j0 k c b l1 l2) (!c && l2.all (cellOk b)) := by
    intro c
    cases c with
    | true => exact evVal (evRound (f := fun _ => some false) (Ev.now _) fun k => by simp only [spec_ArrayOk.j0, if_true]) (by simp)
    | false =>
      have := specArrayOk_loop b l1 l2 [] (by simp; omega)
      exact evVal (evRound this fun k => by simp only [spec_ArrayOk.j0, Bool.false_eq_true, if_false]; rfl) (by simp)
  simp only [spec_ArrayOk.f, arrOk, shOk]
  by_cases h : (l1.length : Int) > 5
  · simp only [h, if_true]; exact evVal (hj true) (by simp [show ¬ l1.length ≤ 5 by omega])
  · simp only [h, if_false]
    refine Ev.bind (l3Count_ev l1 h1) ?_
    refine evVal (hj _) ?_
    unfold cnt
    by_cases hs : shGo 1 l1 = true
    · simp [hs, show l1.length ≤ 5 by omega, bne, Bool.beq_eq_decide_eq]
    · simp only [hs, Bool.false_eq_true, if_false, Bool.and_false, Bool.false_and]
      simp [bne]

theorem validRune_ev (v : Int) (h0 : 0 ≤ v) (h1 : v ≤ 1114111) : Ev (fun k => utf8_ValidRune.f k v) (cellOk true v) := by
  have hj : ∀ c : Bool, Ev (fun k => utf8_ValidRune.j0 k v c) (c || decide (57343 < v)) := by
    intro c
    cases c with
    | true => exact evVal (evRound (f := fun _ => some true) (Ev.now _) fun k => by simp only [utf8_ValidRune.j0, if_true]) (by simp)
    | false =>
      refine evRound (Ev.now _) fun k => ?_
      simp only [utf8_ValidRune.j0, Bool.false_eq_true, if_false, h1, if_true]
      by_cases h : 57343 < v
      · rw [if_pos h]; simp [h]
      · rw [if_neg h]; simp [h]
  simp only [utf8_ValidRune.f, h0, if_true]
  refine evVal (hj _) ?_
  simp only [cellOk, if_true]
  rw [Bool.eq_iff_iff]; simp; omega
theorem charOk_ev (v : Int) : Ev (fun k => impl_charOk.f k v) (cellOk true v) := by
  simp only [impl_charOk.f, within_eq, Option.bind_some]
  by_cases h : 0 ≤ v ∧ v ≤ 1114111
  · simp only [h, and_self, decide_true, if_true]
    have hw : wrap32 v = v := by unfold wrap32; omega
    rw [hw]
    exact Ev.bind (validRune_ev v h.1 h.2) (Ev.now _)
  · simp only [h, decide_false, Bool.false_eq_true, if_false]
    exact evVal (Ev.now _) (by simp only [cellOk, if_true]; symm; simp; omega)
theorem implArrayOk_loop (b : Bool) (l1 l2 : List Int) : ∀ (t p : List Int) (n : Int), n = ((p ++ t).length : Nat) → (p ++ t).length < 35184372088833 → Ev (fun k => impl_ArrayOk.l0 k (p ++ t) n (p.length : Int) b l1 l2) (t.all (cellOk b))
  | [], p, n, hn, _ => by
    subst hn
    refine evRound (Ev.now _) fun k => ?_
    simp only [impl_ArrayOk.l0]; rw [if_neg len_nlt]; simp
  | a :: t, p, n, hn, hl => by
    subst hn
    cases b with
    | true =>
      refine evRound (f := fun k => (impl_charOk.f k a).bind fun t105 => if t105 = true then impl_ArrayOk.l0 k ((p ++ [a]) ++ t) ((((p ++ [a]) ++ t).length : Nat) : Int) (((p ++ [a]).length : Nat) : Int) true l1 l2 else some false) ?_ fun k => ?_
      · refine Ev.bind (charOk_ev a) ?_
        by_cases hc : cellOk true a = true
        · simp only [hc, if_true]; exact evVal (implArrayOk_loop true l1 l2 t (p ++ [a]) _ rfl (by simpa using hl)) (by simp [hc])
        · simp only [hc, Bool.false_eq_true, if_false]; exact evVal (Ev.now _) (by simp [hc])
      · simp only [impl_ArrayOk.l0]
        rw [if_pos len_lt, if_pos (by omega), if_pos len_lt, if_pos trivial, rd_mid, next_mid p t a hl, ← app_mid]
    | false =>
      by_cases hc : cellOk false a = true
      · have ih := implArrayOk_loop false l1 l2 t (p ++ [a]) _ rfl (by simpa using hl)
        rw [← app_mid] at ih
        refine evVal (evRound ih fun k => ?_) (by simp [hc])
        have h' := hc; simp only [cellOk, Bool.false_eq_true, if_false, decide_eq_true_eq] at h'
        simp only [impl_ArrayOk.l0]
        rw [if_pos len_lt, if_pos (by omega), if_pos len_lt, if_neg (by simp), rd_mid, within_eq, next_mid p t a hl]; simp only [Option.bind_some, h', and_self, decide_true, if_true]
      · refine evRound (Ev.now _) fun k => ?_
        have h' := hc; simp only [cellOk, Bool.false_eq_true, if_false, decide_eq_true_eq] at h'
        simp only [impl_ArrayOk.l0]
        rw [if_pos len_lt, if_pos (by omega), if_pos len_lt, if_neg (by simp), rd_mid, within_eq]; simp only [Option.bind_some, h', decide_false, Bool.false_eq_true, if_false]
        simp [hc]
theorem implArrayOk_ev (b : Bool) (l1 l2 : List Int) (h2 : l2.length ≤ 35184372088832) : Ev (fun k => impl_ArrayOk.f k b l1 l2) (arrOk b l1 l2) := by
  have hj : ∀ c : Bool, Ev (fun k => impl_ArrayOk.j0 k c b l1 l2) (!c && l2.all (cellOk b)) := by
    intro c
    cases c with
    | true => exact evVal (evRound (f := fun _ => some false) (Ev.now _) fun k => by simp only [impl_ArrayOk.j0, if_true]) (by simp)
    | false =>
      have := implArrayOk_loop b l1 l2 l2 [] _ rfl (by simp; omega)
      exact evVal (evRound this fun k => by simp only [impl_ArrayOk.j0, Bool.false_eq_true, if_false]; rfl) (by simp)
  simp only [impl_ArrayOk.f]
  refine Ev.bind (shapeOk_ev l1) ?_
  unfold shSize arrOk
  by_cases h : shOk l1 = true
  · simp only [h, if_true]; exact evVal (hj _) (by simp [bne, Bool.beq_eq_decide_eq])
  · simp only [h, Bool.false_eq_true, if_false]; exact evVal (hj true) (by simp)
end Go.Proofs.Ytipjhbngbaifeaa.PA
