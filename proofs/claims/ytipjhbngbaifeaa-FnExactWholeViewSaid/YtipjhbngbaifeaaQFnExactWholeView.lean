/- The pure statement of FnExactWholeView: both sides give the same view, and it stands apart. No condition beyond the row's. -/
import Derived.Test.YtipjhbngbaifeaaHView
import Derived.Test.YtipjhbngbaifeaaFLawsFnExactWholeView
namespace Go.Proofs.Ytipjhbngbaifeaa.PA
open Go.RowKit Go.Proofs.YtipjhbngbaifeaaW.PrintWords Go.Proofs.YtipjhbngbaifeaaW.PrintLast Go.Proofs.YtipjhbngbaifeaaW.PrintMore
theorem qFnExactWholeView : ∀ (l0 : List Int), (l0.length ≤ maxLen) → (∀ x ∈ l0, (Lit.int .i64 x).wf = true) → ∃ k, laws_FnExactWholeView.f k l0 = some true := by
  intro l _ _
  refine Ev.rounds ?_
  simp only [laws_FnExactWholeView.f]
  by_cases h : (l.length : Int) > 1048576
  · simp only [h, if_true]; exact Ev.now _
  · simp only [h, if_false]
    obtain ⟨v1, v2, v3, v4, hv⟩ : ∃ v1 v2 v3 v4, wholeV l = (v1, v2, v3, v4) := ⟨_, _, _, _, rfl⟩
    have hs := specWhole_ev l (by omega)
    have hi := implWhole_ev l (by omega)
    have hn := wholeV_len l
    rw [hv] at hs hi hn
    simp only at hn
    have hc := toIntS_ev l (by omega)
    have e1 := eqView_self v1 v2 v3 (by omega) (by omega)
    have hm := markView_ev v1 v2 v3 1 (by omega) (by omega) (by omega) (by omega)
    have hh := heldView_ev v1 v2.length v3.length 1 (by omega) (by omega) (by omega) (by omega)
    refine Ev.bind hc (Ev.bind hs (Ev.bind hc (Ev.bind hi (Ev.bind e1 ?_))))
    simp only [if_true, bne_self_eq_false]
    refine evRound (f := fun k => (laws_toIntS.f k l).bind fun t126 => (laws_eqIntS.f k l t126).bind fun t129 => if t129 = true then (laws_markIntS.f k l 1).bind fun bt130 => if bt130.1 < 0 then laws_FnExactWholeView.j1 k l v4 true v1 v2 v3 v1 v2 v3 else (laws_eqView.f k v1 v2 v3 v1 v2 v3).bind fun t132 => if t132 = true then laws_FnExactWholeView.j1 k l v4 (v4 != v4) v1 v2 v3 v1 v2 v3 else laws_FnExactWholeView.j1 k l v4 true v1 v2 v3 v1 v2 v3 else some false) ?_ (fun k => by simp only [laws_FnExactWholeView.j0, Bool.false_eq_true, if_false])
    refine Ev.bind hc (Ev.bind (evVal (eqIntS_ev l l (by omega)) (decide_eq_true rfl)) ?_)
    simp only [if_true]
    refine Ev.bind (markIntS_ev l 1 (by omega) (by omega) (by omega)) ?_
    simp only [show ¬ (1 : Int) + l.length < 0 by omega, if_false]
    refine Ev.bind e1 ?_
    simp only [if_true, bne_self_eq_false]
    refine evRound (f := fun k => (laws_markView.f k v1 v2 v3 1).bind fun bt133 => (laws_heldView.f k v1 bt133.2.1 bt133.2.2 1).bind fun t136 => if t136 < 0 then some false else if t136 = bt133.1 then (laws_toIntS.f k l).bind fun t137 => (impl_WholeView.f k t137).bind fun bt140 => (laws_eqView.f k bt140.1 bt140.2.1 bt140.2.2.1 v1 v2 v3).bind fun t149 => if t149 = true then laws_FnExactWholeView.j2 k bt133.1 (bt140.2.2.2 != v4) v1 bt133.2.1 bt133.2.2 else laws_FnExactWholeView.j2 k bt133.1 true v1 bt133.2.1 bt133.2.2 else some false) ?_ (fun k => by simp only [laws_FnExactWholeView.j1, Bool.false_eq_true, if_false])
    refine Ev.bind hm (Ev.bind hh ?_)
    simp only [show ¬ (1 : Int) + v2.length + v3.length < 0 by omega, if_false, if_true]
    refine Ev.bind hc (Ev.bind hi (Ev.bind e1 ?_))
    simp only [if_true, bne_self_eq_false]
    refine evRound (f := fun k => (laws_heldView.f k v1 (upFrom 1 v2.length) (upFrom (1 + v2.length) v3.length) 1).bind fun t150 => if t150 < 0 then some false else if t150 = 1 + v2.length + v3.length then some true else some false) ?_ (fun k => by simp only [laws_FnExactWholeView.j2, Bool.false_eq_true, if_false])
    refine Ev.bind hh ?_
    simp only [show ¬ (1 : Int) + v2.length + v3.length < 0 by omega, if_false, if_true]
    exact Ev.now _
end Go.Proofs.Ytipjhbngbaifeaa.PA
