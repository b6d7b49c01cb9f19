/- Arguments that are slices of whole numbers, and structs that hold two such slices behind a bool or a whole number, read as lists. No condition beyond what the row gives. -/
import Derived.Test.YtipjhbngbaifeaaF0
import Derived.ProofKit
import Derived.OpenShut
import Derived.ChangeOld
import Derived.Below
import Derived.SizedLaws
import Derived.Lib.SmallJoins
import Derived.Deep.Fields
namespace Go.Proofs.Ytipjhbngbaifeaa.PA
open Go.ChangeShapes Go.WideShapes Go.ChangeAt Go.RowKit Go.Deep Go.Proofs.YtipjhbngbaifeaaW.PrintWords Go.Proofs.YtipjhbngbaifeaaW.PrintLast Go.Proofs.YtipjhbngbaifeaaW.PrintMore

/-- A slice of whole numbers that came in: what it reads as. -/
structure Sl (W : World) (A : Option Addr) (l : List Int) (c : Nat) : Prop where
  reads : ReadsInt W .i64 A l.length l
  max : l.length ≤ maxLen
  wf : ∀ x ∈ l, (Lit.int .i64 x).wf = true
  cap : l.length ≤ c

theorem slice_cell {H : Type} {enc : TypeId × Value → H} {P : Program} {W : World} {fuel : Nat} {t e : TypeId} {cs : List Value} {x : DataW H × List MemPlace}
    (ht : P.underlying t = some (.slice e)) (he : P.underlying e = some (.int .i64)) (hc : P.cellsOf e = 1)
    (hf : DataW.trod enc P W 0 (fun _ => true) true fuel t cs = some x) : ∃ A l c, cs = [.slice A l.length c] ∧ Sl W A l c := by
  rcases open_ints ht he hc hf with ⟨hcs, _⟩ | ⟨a, n, c, zs, hcs, _, hl, hm, hz, _, hcell, hwz⟩
  · obtain ⟨l, e1, h1, h2, h3, h4⟩ := ReadsInt.ofRowC (k := .i64) (w := W) (a := none) (len := 0) (cap := 0) (zs := []) (.inl ⟨rfl, rfl, rfl, rfl⟩)
    refine ⟨none, l, 0, ?_, h1, h2, h3, h4⟩
    rw [← e1]; exact hcs
  · obtain ⟨l, e1, h1, h2, h3, h4⟩ := ReadsInt.ofRowC (k := .i64) (w := W) (a := some a) (len := n) (cap := c) (zs := zs) (.inr ⟨a, rfl, hl, hm, by simpa using hz, hcell, hwz⟩)
    refine ⟨some a, l, c, ?_, h1, h2, h3, h4⟩
    rw [← e1]; exact hcs

theorem open_sl {H : Type} {enc : TypeId × Value → H} {P : Program} {W : World} {t e : TypeId} {v : Value} {d : DataW H} {p : List MemPlace} {r : Reach} {b0 : Nat}
    (ht : P.underlying t = some (.slice e)) (he : P.underlying e = some (.int .i64)) (hc : P.cellsOf e = 1)
    (hv : Value.okWide P W r b0 t v) (h : DataW.Trod enc P W 0 (fun _ => true) true t v d p) : ∃ A l c, v = .slice A l.length c ∧ Sl W A l c := by
  obtain ⟨a, n, c, rfl⟩ := okWide_slice ht hv
  obtain ⟨fuel, hf⟩ := h
  obtain ⟨A, l, c', hcs, hs⟩ := slice_cell ht he hc hf
  refine ⟨A, l, c', ?_, hs⟩
  simpa [Value.cells] using hcs

theorem open_bss {H : Type} {enc : TypeId × Value → H} {P : Program} {W : World} {t e : TypeId} {f0 f1 f2 : Field} {v : Value} {d : DataW H} {p : List MemPlace} {r : Reach} {b0 : Nat}
    (hs : P.underlying t = some (.struct #[f0, f1, f2])) (hone : oneCellFields P #[f0, f1, f2] = true) (hC : P.cellsOf t = 3)
    (h0 : P.underlying f0.type = some .bool) (h1 : P.underlying f1.type = some (.slice e)) (h2 : P.underlying f2.type = some (.slice e)) (he : P.underlying e = some (.int .i64)) (hc : P.cellsOf e = 1)
    (hv : Value.okWide P W r b0 t v) (h : DataW.Trod enc P W 0 (fun _ => true) true t v d p) :
    ∃ (a : Bool) (A1 : Option Addr) (l1 : List Int) (c1 : Nat) (A2 : Option Addr) (l2 : List Int) (c2 : Nat), v = .agg #[.bool a, .slice A1 l1.length c1, .slice A2 l2.length c2] ∧ Sl W A1 l1 c1 ∧ Sl W A2 l2 c2 := by
  obtain ⟨v0, v1, v2, y0, y1, y2, n, rfl, _, _, k0, k1, k2⟩ := Go.Joins.open_agg3 hs hone hC hv h
  obtain ⟨A1, l1, c1, e1, s1⟩ := slice_cell h1 he hc k1
  obtain ⟨A2, l2, c2, e2, s2⟩ := slice_cell h2 he hc k2
  obtain ⟨a, e0, _⟩ := DataW.trod_bool h0 k0
  simp only [List.cons.injEq, and_true] at e0 e1 e2
  subst e0 e1 e2
  exact ⟨a, A1, l1, c1, A2, l2, c2, rfl, s1, s2⟩

theorem open_iss {H : Type} {enc : TypeId × Value → H} {P : Program} {W : World} {t e : TypeId} {f0 f1 f2 : Field} {v : Value} {d : DataW H} {p : List MemPlace} {r : Reach} {b0 : Nat}
    (hs : P.underlying t = some (.struct #[f0, f1, f2])) (hone : oneCellFields P #[f0, f1, f2] = true) (hC : P.cellsOf t = 3)
    (h0 : P.underlying f0.type = some (.int .i64)) (h1 : P.underlying f1.type = some (.slice e)) (h2 : P.underlying f2.type = some (.slice e)) (he : P.underlying e = some (.int .i64)) (hc : P.cellsOf e = 1)
    (hv : Value.okWide P W r b0 t v) (h : DataW.Trod enc P W 0 (fun _ => true) true t v d p) :
    ∃ (a : Int) (A1 : Option Addr) (l1 : List Int) (c1 : Nat) (A2 : Option Addr) (l2 : List Int) (c2 : Nat), v = .agg #[.int .i64 a, .slice A1 l1.length c1, .slice A2 l2.length c2] ∧ (Lit.int .i64 a).wf = true ∧ Sl W A1 l1 c1 ∧ Sl W A2 l2 c2 := by
  obtain ⟨v0, v1, v2, y0, y1, y2, n, rfl, _, _, k0, k1, k2⟩ := Go.Joins.open_agg3 hs hone hC hv h
  obtain ⟨A1, l1, c1, e1, s1⟩ := slice_cell h1 he hc k1
  obtain ⟨A2, l2, c2, e2, s2⟩ := slice_cell h2 he hc k2
  obtain ⟨a, e0, _, wa⟩ := DataW.trod_int h0 k0
  simp only [List.cons.injEq, and_true] at e0 e1 e2
  subst e0 e1 e2
  exact ⟨a, A1, l1, c1, A2, l2, c2, rfl, wa, s1, s2⟩
end Go.Proofs.Ytipjhbngbaifeaa.PA
