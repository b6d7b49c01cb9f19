import Derived.Test.YtipjhbngbaifeaaKFnExactPlaces2
import Derived.ProofKit
import Derived.OpenShut
import Derived.ChangeOld
import Derived.Below
import Derived.SizedLaws
import Derived.Lib.SmallJoins
import Derived.Deep.Fields

namespace Go.Proofs.Ytipjhbngbaifeaa.PA
open Go.RowKit Go.Proofs.YtipjhbngbaifeaaW.PrintWords Go.Proofs.YtipjhbngbaifeaaW.PrintLast Go.Proofs.YtipjhbngbaifeaaW.PrintMore
set_option linter.unusedVariables false
set_option linter.unusedSimpArgs false
theorem qFnExactPlaces : ∀ (a0 : Int) (l0_1 l0_2 : List Int) (a1 : Int), ((Lit.int .i64 a0).wf = true) → (l0_1.length ≤ maxLen) → (∀ x ∈ l0_1, (Lit.int .i64 x).wf = true) → (l0_2.length ≤ maxLen) → (∀ x ∈ l0_2, (Lit.int .i64 x).wf = true) → ((Lit.int .i64 a1).wf = true) → ∃ k, laws_FnExactPlaces.f k a0 l0_1 l0_2 a1 = some true := by
  intro off l1 l2 a _ h1 _ h2 _ _
  refine Ev.rounds ?_
  simp only [laws_FnExactPlaces.f, szView_eq off l1 l2 1048576 (by omega) (by omega) h1 h2, Option.bind_some]
  by_cases h : (l1.length : Int) + l2.length ≤ 1048576
  · simp only [h, if_true, show ¬ ((1048576 : Int) - l1.length - l2.length < 0) by omega, if_false]
    have hc := toView_ev off l1 l2 (by omega) (by omega)
    have e0 := eqView_self off l1 l2 (by omega) (by omega)
    have hs := specPlaces_ev off l1 l2 a (by omega) (by omega)
    have hn := plcR_len off l1 l2 a
    have hm := markView_ev off l1 l2 1 (by omega) (by omega) (by omega) (by omega)
    have hi : impl_Places.f off l1 l2 a = some (plcR off l1 l2 a) := rfl
    obtain ⟨v, hv⟩ : ∃ v, plcR off l1 l2 a = v := ⟨_, rfl⟩
    rw [hv] at hs hn hi
    have e1 : Ev (fun k => laws_eqIntS.f k v v) true := evVal (eqIntS_ev v v (by omega)) (decide_eq_true rfl)
    have hk := markIntS_ev v 1 (by omega) (by omega) (by omega)
    have hh := heldIntS_ev v.length 1 (by omega) (by omega) (by omega)
    refine Ev.bind hc (Ev.bind hs (Ev.bind hc ?_))
    simp only [hi, Option.bind_some]
    refine Ev.bind e1 ?_
    simp only [if_true]
    refine Ev.bind hc (Ev.bind e0 ?_)
    simp only [if_true]
    refine Ev.bind hm ?_
    simp only [show ¬ (1 : Int) + l1.length + l2.length < 0 by omega, if_false]
    refine Ev.bind e1 ?_
    refine evRound (f := fun k => (laws_markIntS.f k v 1).bind fun bt137 => (laws_heldIntS.f k bt137.2 1).bind fun t139 => if t139 < 0 then some false else if t139 = bt137.1 then (laws_toView.f k off l1 l2).bind fun bt140 => (impl_Places.f bt140.1 bt140.2.1 bt140.2.2 a).bind fun t147 => (laws_eqIntS.f k t147 v).bind fun t150 => if t150 = true then (laws_heldIntS.f k bt137.2 1).bind fun t151 => if t151 < 0 then some false else if t151 = bt137.1 then some true else some false else some false else some false) ?_ (fun k => by simp only [laws_FnExactPlaces.j0, Bool.not_true, Bool.false_eq_true, if_false])
    refine Ev.bind hk (Ev.bind hh ?_)
    simp only [show ¬ (1 : Int) + v.length < 0 by omega, if_false, if_true]
    refine Ev.bind hc ?_
    simp only [hi, Option.bind_some]
    refine Ev.bind e1 ?_
    simp only [if_true]
    refine Ev.bind hh ?_
    simp only [show ¬ (1 : Int) + v.length < 0 by omega, if_false, if_true]
    exact Ev.now _
  · simp only [h, if_false, show ((-1 : Int) < 0) by omega, if_true]; exact Ev.now _
end Go.Proofs.Ytipjhbngbaifeaa.PA

namespace Go.Proofs.Ytipjhbngbaifeaa.PA
open Go.ChangeShapes Go.WideShapes Go.ChangeAt Go.RowKit Go.Deep Go.Proofs.YtipjhbngbaifeaaW.PrintWords Go.Proofs.YtipjhbngbaifeaaW.PrintLast Go.Proofs.YtipjhbngbaifeaaW.PrintMore

/-- A slice of whole numbers that came in: what it reads as. -/
structure Sl (W : World) (A : Option Addr) (l : List Int) (c : Nat) : Prop where
  reads : ReadsInt W .i64 A l.length l
  max : l.length ≤ maxLen
  wf : ∀ x ∈ l, (Lit.int .i64 x).wf = true
  cap : l.length ≤ c

theorem slice_cell {H : Type} {enc : TypeId × Value → H} {P : Program} {W : World} {fuel : Nat} {t e : TypeId} {cs : List Value} {x : DataW H × List MemPlace}
    (ht : P.underlying t = some (.slice e)) (he : P.underlying e = some (.int .i64)) (hc : P.cellsOf e = 1)
    (hf : DataW.trod enc P W 0 (fun _ => true) true fuel t cs = some x) : ∃ A l c, cs = [.slice A l.length c] ∧ Sl W A l c := by
  rcases open_ints ht he hc hf with ⟨hcs, _⟩ | ⟨a, n, c, zs, hcs, _, hl, hm, hz, _, hcell, hwz⟩
  · obtain ⟨l, e1, h1, h2, h3, h4⟩ := ReadsInt.ofRowC (k := .i64) (w := W) (a := none) (len := 0) (cap := 0) (zs := []) (.inl ⟨rfl, rfl, rfl, rfl⟩)
    refine ⟨none, l, 0, ?_, h1, h2, h3, h4⟩
    rw [← e1]; exact hcs
  · obtain ⟨l, e1, h1, h2, h3, h4⟩ := ReadsInt.ofRowC (k := .i64) (w := W) (a := some a) (len := n) (cap := c) (zs := zs) (.inr ⟨a, rfl, hl, hm, by simpa using hz, hcell, hwz⟩)
    refine ⟨some a, l, c, ?_, h1, h2, h3, h4⟩
    rw [← e1]; exact hcs



theorem open_iss {H : Type} {enc : TypeId × Value → H} {P : Program} {W : World} {t e : TypeId} {f0 f1 f2 : Field} {v : Value} {d : DataW H} {p : List MemPlace} {r : Reach} {b0 : Nat}
    (hs : P.underlying t = some (.struct #[f0, f1, f2])) (hone : oneCellFields P #[f0, f1, f2] = true) (hC : P.cellsOf t = 3)
    (h0 : P.underlying f0.type = some (.int .i64)) (h1 : P.underlying f1.type = some (.slice e)) (h2 : P.underlying f2.type = some (.slice e)) (he : P.underlying e = some (.int .i64)) (hc : P.cellsOf e = 1)
    (hv : Value.okWide P W r b0 t v) (h : DataW.Trod enc P W 0 (fun _ => true) true t v d p) :
    ∃ (a : Int) (A1 : Option Addr) (l1 : List Int) (c1 : Nat) (A2 : Option Addr) (l2 : List Int) (c2 : Nat), v = .agg #[.int .i64 a, .slice A1 l1.length c1, .slice A2 l2.length c2] ∧ (Lit.int .i64 a).wf = true ∧ Sl W A1 l1 c1 ∧ Sl W A2 l2 c2 := by
  obtain ⟨v0, v1, v2, y0, y1, y2, n, rfl, _, _, k0, k1, k2⟩ := Go.Joins.open_agg3 hs hone hC hv h
  obtain ⟨A1, l1, c1, e1, s1⟩ := slice_cell h1 he hc k1
  obtain ⟨A2, l2, c2, e2, s2⟩ := slice_cell h2 he hc k2
  obtain ⟨a, e0, _, wa⟩ := DataW.trod_int h0 k0
  simp only [List.cons.injEq, and_true] at e0 e1 e2
  subst e0 e1 e2
  exact ⟨a, A1, l1, c1, A2, l2, c2, rfl, wa, s1, s2⟩
end Go.Proofs.Ytipjhbngbaifeaa.PA
