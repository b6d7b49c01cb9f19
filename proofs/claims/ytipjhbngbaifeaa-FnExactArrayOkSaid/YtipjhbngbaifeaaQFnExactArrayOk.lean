/- The pure statement of FnExactArrayOk: both checks come to the same answer. No condition beyond the row's. -/
import Derived.Test.YtipjhbngbaifeaaHArr
import Derived.Test.YtipjhbngbaifeaaFLawsFnExactArrayOk
namespace Go.Proofs.Ytipjhbngbaifeaa.PA
open Go.RowKit Go.Proofs.YtipjhbngbaifeaaW.PrintWords Go.Proofs.YtipjhbngbaifeaaW.PrintLast Go.Proofs.YtipjhbngbaifeaaW.PrintMore
theorem qFnExactArrayOk : ∀ (a0 : Bool) (l0_1 l0_2 : List Int), (l0_1.length ≤ maxLen) → (∀ x ∈ l0_1, (Lit.int .i64 x).wf = true) → (l0_2.length ≤ maxLen) → (∀ x ∈ l0_2, (Lit.int .i64 x).wf = true) → ∃ k, laws_FnExactArrayOk.f k a0 l0_1 l0_2 = some true := by
  intro a l1 l2 m1 _ m2 _
  refine Ev.rounds ?_
  simp only [laws_FnExactArrayOk.f, szArray_eq a l1 l2 1048576 (by omega) (by omega) m1 m2, Option.bind_some]
  by_cases h : (l1.length : Int) + l2.length ≤ 1048576
  · simp only [h, if_true, show ¬ (1048576 : Int) - l1.length - l2.length < 0 by omega, if_false]
    refine Ev.bind (toArray_ev a l1 l2 (by omega) (by omega)) ?_
    refine Ev.bind (specArrayOk_ev a l1 l2 (by omega) (by omega)) ?_
    refine Ev.bind (toArray_ev a l1 l2 (by omega) (by omega)) ?_
    refine Ev.bind (implArrayOk_ev a l1 l2 (by omega)) ?_
    simp only [bne_self_eq_false, Bool.false_eq_true, if_false]
    refine Ev.bind (toArray_ev a l1 l2 (by omega) (by omega)) ?_
    refine Ev.bind (eqArray_self a l1 l2 (by omega) (by omega)) ?_
    exact Ev.now _
  · simp only [h, if_false, show (-1 : Int) < 0 by omega, if_true]; exact Ev.now _
end Go.Proofs.Ytipjhbngbaifeaa.PA
