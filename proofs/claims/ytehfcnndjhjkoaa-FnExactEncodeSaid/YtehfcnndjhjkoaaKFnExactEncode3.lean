import Derived.Test.YtehfcnndjhjkoaaKFnExactEncode2
import Derived.RangeFuncNested
import Derived.RangeFuncBound
import Derived.RangeFuncCalls
import Derived.RangeFuncLeaves
import Derived.RangeFuncKeeps
import Derived.RangeFuncBox
import Derived.Maps.AppendAt
import Derived.Shelf.Abstract
import Derived.Shelf.RegionOpen
import Derived.WalkKit
import Derived.OwnWalkIn
import Derived.TacticsInMore
import Derived.LoopNIn
import Derived.LoopIn
import Derived.StillTailTactics
import Derived.Laws.CopyOwn
import Derived.IntWalk
import Derived.Deep.RegionLaw
import Derived.Laws.BitsLemmas
import Derived.Lib.AppendZerosOnto
import Derived.Lib.SliceRun
import Derived.LoopN
import Derived.Deep.LoopGhost
import Derived.Deep.Draws
import Derived.BigQuiet
import Derived.Deep.RegionHeld3
import Derived.Deep.DeepCutAuto
import Derived.ProofKit
import Derived.OpenShut
import Derived.ChangeOld
import Derived.Below
import Derived.SizedLaws
import Derived.Lib.SmallJoins
import Derived.Deep.Fields

namespace Go.Proofs.Ytehfcnndjhjkoaa.PA
open Go Go.RowKit Go.Proofs.YtehfcnndjhjkoaaW.PrintWords Go.Proofs.YtehfcnndjhjkoaaW.PrintLast
/-- From A to B every block of A's stands as it stood, but those of S. -/
structure ButS (S : Nat → Prop) (A B : World) : Prop where
  size : A.heap.size ≤ B.heap.size
  same : ∀ k, k < A.heap.size → ¬ S k → B.heap[k]? = A.heap[k]?
  os : B.os = A.os
  tape : B.tape = A.tape
  output : B.output = A.output
theorem ButS.mono {S T : Nat → Prop} {A B : World} (h : ButS S A B) (ht : ∀ k, S k → T k) : ButS T A B := ⟨h.size, fun k hk hn => h.same k hk (fun hs => hn (ht k hs)), h.os, h.tape, h.output⟩
theorem ButS.trans {S : Nat → Prop} {A B C : World} (h : ButS S A B) (k : ButS S B C) : ButS S A C :=
  ⟨Nat.le_trans h.size k.size, fun i hi hn => (k.same i (Nat.lt_of_lt_of_le hi h.size) hn).trans (h.same i hi hn), k.os.trans h.os, k.tape.trans h.tape, k.output.trans h.output⟩
theorem ButS.below {S : Nat → Prop} {A B : World} (h : ButS S A B) {n : Nat} (hS : ∀ k, S k → n ≤ k) (hn : n ≤ A.heap.size) : Below n A B :=
  ⟨h.os, h.tape, h.output, h.size, fun k hk => h.same k (by omega) (fun hs => by have := hS k hs; omega)⟩
theorem ButS.blk {S : Nat → Prop} {A B : World} (h : ButS S A B) {k : Nat} {o : Obj} (hk : A.heap[k]? = some o) (hS : ¬ S k) : B.heap[k]? = some o := (h.same k (blk_lt hk) hS).trans hk
theorem ButS.own {S : Nat → Prop} {A B : World} (h : ButS S A B) {base e size n : Nat} {v : Value} {xs : List Value} (hr : A.ownsRow base e size v n xs) (hS : ∀ k, S k → k < base) : B.ownsRow base e size v n xs :=
  own_move hr fun k hk => h.same k (own_lt hr k hk) (fun hs => by have := hS k hs; have := own_base hr k hk; omega)
end Go.Proofs.Ytehfcnndjhjkoaa.PA

namespace Go.Proofs.Ytehfcnndjhjkoaa.PA
open Go.RowKit Go.Shelf Go.Proofs.YtehfcnndjhjkoaaW.PrintWords Go.Proofs.YtehfcnndjhjkoaaW.PrintLast Go.Proofs.YtehfcnndjhjkoaaW.PrintMore
attribute [local go_sem] Oper.semAt_some
set_option linter.unusedVariables false
set_option linter.unusedSimpArgs false
def rowI (l : List Int) : Array Value := (l.map (Value.int .i64)).toArray
theorem rowI_set (l : List Int) (i : Nat) (x : Int) : (rowI l).setIfInBounds i (.int .i64 x) = rowI (l.set i x) := by
  apply Array.ext_getElem?; intro j; simp [rowI, List.getElem?_set, Array.getElem?_setIfInBounds, List.getElem?_map]
end Go.Proofs.Ytehfcnndjhjkoaa.PA

namespace Go.Proofs.Ytehfcnndjhjkoaa.PA
open Go.RowKit Go.Proofs.YtehfcnndjhjkoaaW.PrintWords Go.Proofs.YtehfcnndjhjkoaaW.PrintLast Go.Proofs.YtehfcnndjhjkoaaW.PrintMore
set_option linter.unusedVariables false
set_option linter.unusedSimpArgs false
theorem ButS.then_ {S : Nat → Prop} {A B C : World} (h : ButS S A B) (hs : B.heap.size ≤ C.heap.size) (hk : ∀ k, k < B.heap.size → ¬ (S k ∨ A.heap.size ≤ k) → C.heap[k]? = B.heap[k]?) (ho : C.os = B.os) (ht : C.tape = B.tape) (hu : C.output = B.output) : ButS S A C :=
  ⟨Nat.le_trans h.size hs, fun k hk' hn => (hk k (Nat.lt_of_lt_of_le hk' h.size) (fun e => e.elim hn (fun e => by omega))).trans (h.same k hk' hn), ho.trans h.os, ht.trans h.tape, hu.trans h.output⟩
structure Rx (O : Nat → Prop) (w W : World) (Ts : List Th) : Prop where
  fr : ButS O w W
  ok : ∀ T ∈ Ts, T.ok 0 W
  nod : Ts.Pairwise (fun a b => ∀ k, a.on k → ¬ b.on k)
theorem Th.low {B B' : Nat} {W : World} {T : Th} (h : T.ok B W) (hb : B' ≤ B) : T.ok B' W := by
  cases T with
  | blk g cs t => exact ⟨h.1, Nat.le_trans hb h.2⟩
  | row v xs => exact Kd.R_lower h hb
theorem Rx.step {O : Nat → Prop} {w W W' : World} {Ts : List Th} (h : Rx O w W Ts) (hb : Below W.heap.size W W') : Rx O w W' Ts :=
  ⟨h.fr.then_ hb.size (fun k hk _ => hb.block k hk) hb.os hb.tape hb.output, fun T hT => Th.keep (h.ok T hT) fun k _ hlt => hb.block k hlt, h.nod⟩
theorem Rx.add {O : Nat → Prop} {w W W' : World} {Ts : List Th} (h : Rx O w W Ts) (hb : Below W.heap.size W W') {T : Th} (hT : T.ok W.heap.size W') : Rx O w W' (T :: Ts) := by
  have h' := h.step hb
  refine ⟨h'.fr, fun U hU => ?_, .cons (fun U hU k hk hU' => ?_) h'.nod⟩
  · rcases List.mem_cons.1 hU with rfl | hU
    · exact Th.low hT (Nat.zero_le _)
    · exact h'.ok U hU
  · have h1 := (Th.lt hT k hk).1
    have h2 := (Th.lt (h.ok U hU) k hU').2
    omega
theorem Rx.box {O : Nat → Prop} {w W W' : World} {Ts : List Th} {g : Nat} {cs : Array Value} {t : TypeId} (h : Rx O w W Ts) (hg : g = W.heap.size) (hB : W'.heap[g]? = some (.cells cs t (0, 0))) (hb : Below W.heap.size W W') : Rx O w W' (.blk g cs t :: Ts) :=
  h.add hb ⟨hB, by omega⟩
theorem Rx.get {O : Nat → Prop} {w W : World} {Ts : List Th} (h : Rx O w W Ts) (i : Nat) {T : Th} (hi : Ts[i]? = some T) : T.ok 0 W := h.ok _ (List.mem_of_getElem? hi)
theorem Rx.blk {O : Nat → Prop} {w W : World} {Ts : List Th} (h : Rx O w W Ts) (i : Nat) {g : Nat} {cs : Array Value} {t : TypeId} (hi : Ts[i]? = some (.blk g cs t)) : W.heap[g]? = some (.cells cs t (0, 0)) := (h.get i hi).1
theorem Rx.row {O : Nat → Prop} {w W : World} {Ts : List Th} (h : Rx O w W Ts) (i : Nat) {v : Value} {xs : List Int} (hi : Ts[i]? = some (.row v xs)) : Kd.R (Kd.int .i64) 3 W 0 (fun _ => True) v xs := h.get i hi
theorem Rx.C {O : Nat → Prop} {w W : World} {Ts : List Th} (h : Rx O w W Ts) (i : Nat) {A : Option Addr} {n c : Nat} {xs : List Int} (hi : Ts[i]? = some (.row (.slice A n c) xs)) : Kd.C (Kd.int .i64) W A xs.length xs := (Kd.R_reads' (h.row i hi)).2.2
theorem But1.size {g : Nat} {W w1 : World} (h : But1 g W w1) : W.heap.size ≤ w1.heap.size := (h.below 0 (Nat.zero_le _)).size
theorem Rx.sub {O : Nat → Prop} {w W : World} {Ts Ts' : List Th} (h : Rx O w W Ts) (hs : Ts'.Sublist Ts) : Rx O w W Ts' := ⟨h.fr, fun T hT => h.ok T (hs.subset hT), h.nod.sublist hs⟩
theorem Rx.keeps {O : Nat → Prop} {W W' : World} {Ts : List Th} (h : Rx O W W' Ts) (hS : ∀ k, O k → ∀ o, W.heap[k]? = some o → o.isCells = true) : KeepsOthers W W' :=
  ⟨h.fr.size, fun k o hk ho => (h.fr.same k (blk_lt hk) (fun hs => by rw [hS k hs o hk] at ho; cases ho)).trans hk⟩
theorem Th.cells {B : Nat} {W : World} {T : Th} (h : T.ok B W) : ∀ k, T.on k → ∀ o, W.heap[k]? = some o → o.isCells = true := by
  intro k hk o ho
  cases T with
  | blk g cs t => rw [show k = g from hk, h.1] at ho; cases ho; rfl
  | row v xs => obtain ⟨cs, hc⟩ := Kd.R_typed h k hk; rw [hc] at ho; cases ho; rfl
theorem Sx.apart {w W : World} {Ts : List Th} (h : Sx w W Ts) (i j : Nat) (hne : i ≠ j) {T U : Th} (hi : Ts[i]? = some T) (hj : Ts[j]? = some U) : ∀ k, T.on k → ¬ U.on k := by
  obtain ⟨hil, hie⟩ := List.getElem?_eq_some_iff.1 hi
  obtain ⟨hjl, hje⟩ := List.getElem?_eq_some_iff.1 hj
  have hnod := List.pairwise_iff_getElem.1 h.nod
  intro k h1 h2
  rcases Nat.lt_or_gt_of_ne hne with hl | hl
  · have := hnod i j hil hjl hl; rw [hie, hje] at this; exact this k h1 h2
  · have := hnod j i hjl hil hl; rw [hie, hje] at this; exact this k h2 h1
end Go.Proofs.Ytehfcnndjhjkoaa.PA

-- By a program (prt.py, over the print of the kit), for this claim. Not trusted: Lean checks it.
namespace Go.Proofs.Ytehfcnndjhjkoaa.PA
open Go.RowKit Go.Proofs.YtehfcnndjhjkoaaW.PrintWords Go.Proofs.YtehfcnndjhjkoaaW.PrintLast Go.Proofs.YtehfcnndjhjkoaaW.PrintMore
attribute [local go_sem] max2_int min2_int max_two min_two max_three min_three max_four min_four   -- for this text's walks alone
set_option linter.unusedVariables false
set_option linter.unusedSimpArgs false

/-! ### bits_Mul64: function 142 -/
def bits_Mul64.f (a0 : Int) (a1 : Int) : Option (Int × Int) := some (IntKind.u64.wrap ((IntKind.u64.wrap ((IntKind.u64.wrap ((a0 / 4294967296) * (a1 / 4294967296))) + ((IntKind.u64.wrap ((IntKind.u64.wrap ((a0 / 4294967296) * (Go.bits .and .u64 a1 4294967295))) + ((IntKind.u64.wrap ((Go.bits .and .u64 a0 4294967295) * (Go.bits .and .u64 a1 4294967295))) / 4294967296))) / 4294967296))) + ((IntKind.u64.wrap ((Go.bits .and .u64 (IntKind.u64.wrap ((IntKind.u64.wrap ((a0 / 4294967296) * (Go.bits .and .u64 a1 4294967295))) + ((IntKind.u64.wrap ((Go.bits .and .u64 a0 4294967295) * (Go.bits .and .u64 a1 4294967295))) / 4294967296))) 4294967295) + (IntKind.u64.wrap ((Go.bits .and .u64 a0 4294967295) * (a1 / 4294967296))))) / 4294967296)), IntKind.u64.wrap (a0 * a1))

end Go.Proofs.Ytehfcnndjhjkoaa.PA

-- By a program (prt.py, over the print of the kit), for this claim. Not trusted: Lean checks it.
namespace Go.Proofs.Ytehfcnndjhjkoaa.PA
open Go.RowKit Go.Proofs.YtehfcnndjhjkoaaW.PrintWords Go.Proofs.YtehfcnndjhjkoaaW.PrintLast Go.Proofs.YtehfcnndjhjkoaaW.PrintMore
attribute [local go_sem] max2_int min2_int max_two min_two max_three min_three max_four min_four   -- for this text's walks alone
set_option linter.unusedVariables false
set_option linter.unusedSimpArgs false

/-! ### bits_Mul: function 138 -/
def bits_Mul.f (a0 : Int) (a1 : Int) : Option (Int × Int) := (bits_Mul64.f a0 a1).bind fun bt101 => (some (bt101.1, bt101.2))

end Go.Proofs.Ytehfcnndjhjkoaa.PA

namespace Go.Proofs.Ytehfcnndjhjkoaa.PA
open Go.RowKit Go.Proofs.YtehfcnndjhjkoaaW.PrintWords Go.Proofs.YtehfcnndjhjkoaaW.PrintLast Go.Proofs.YtehfcnndjhjkoaaW.PrintMore
set_option linter.unusedVariables false
set_option linter.unusedSimpArgs false
theorem make_rowN (n : Nat) (hn : n ≤ 1000000) (w : World) : (Instr.makeSlice 22 (.int .i64 (n : Int)) (.int .i64 (n : Int))).run Try.prog w = .ok (.slice (some ⟨w.heap.size, 0, none⟩) n n) (w.alloc (.cells (rowI (List.replicate n 0)) 3)) := by
  obtain ⟨i, hi, hz⟩ := Option.map_eq_some_iff.1 info3
  simp only [Prod.mk.injEq] at hz
  have h := run_make (P := Try.prog) w 22 3 i (.int .i64 0) Try.underlying22 hi hz.1 .i64 .i64 (n : Int) (n : Int) (by omega) (by omega) (by rw [hz.2.2]; omega) (by omega)
  rw [h, hz.2.1]
  have e : madeCells (Value.int .i64 0).cells ((n : Int).toNat * 1) = rowI (List.replicate n 0) := by
    apply Array.ext
    · simp [madeCells, rowI]
    · intro j h1 h2
      simp [madeCells, rowI, Value.cells, Nat.mod_one]
  rw [e]; simp
/-- A block that is a row of numbers, as a row made. -/
theorem R_of_blk {W : World} {g : Nat} {l : List Int} {B : Nat} (h : W.heap[g]? = some (.cells (rowI l) 3 (0, 0))) (hB : B ≤ g) (hm : l.length ≤ 1000000) : Kd.R (Kd.int .i64) 3 W B (fun _ => True) (.slice (some ⟨g, 0, none⟩) l.length l.length) l := by
  refine Kd.R_of_own ⟨by simp [encs], .inr ⟨g, l.length, rowI l, rfl, hB, h, Nat.le_refl _, by unfold maxLen; omega, by simp [rowI], ?_⟩⟩ (fun _ _ => trivial)
  simp only [rowI, encs, Nat.mul_one, List.toList_toArray]
  exact List.take_of_length_le (by simp)
section
variable {P : Program} {ops : Array Oper} {rest : List Oper} {o : Oper} {a : Act} {Q : Exit → Act → World → Prop}
end
end Go.Proofs.Ytehfcnndjhjkoaa.PA

namespace Go.Proofs.Ytehfcnndjhjkoaa.PA
open Go.RowKit Go.Proofs.YtehfcnndjhjkoaaW.PrintWords Go.Proofs.YtehfcnndjhjkoaaW.PrintLast Go.Proofs.YtehfcnndjhjkoaaW.PrintMore
set_option linter.unusedVariables false
set_option linter.unusedSimpArgs false
section
variable {P : Program} {ops : Array Oper} {rest : List Oper} {o : Oper} {a : Act} {Q : Exit → Act → World → Prop}
theorem Sx.append {w W : World} {Ts : List Th} (h : Sx w W Ts) (i : Nat) {v : Value} {xs : List Int} (hi : Ts[i]? = some (.row v xs)) (hgd : o.guard = none) (s y : Operand)
    (ho : o.op = .call { callee := .builtin .append, args := #[s, y], argTypes := #[22, 22] }) (ht : P.underlying 22 = some (.slice 3)) (hinfo : (P.info? 3).map (fun i => (i.zero, i.size, i.bytes)) = some (some (.int .i64 0), 1, 8))
    (x : Int) (hs : a.eval s = v) (hy : a.eval y = .slice (some ⟨W.heap.size, 0, none⟩) 1 1) (hl : xs.length ≤ 1000000)
    (hK : ∀ A c w1, Sx w w1 (Ts.set i (.row (.slice A (xs.length + 1) c) (xs ++ [x]))) → wpList P ops Q rest (a.put o.dst (.slice A (xs.length + 1) c)) w1) : wpList P ops Q (o :: rest) a (W.alloc (.cells #[.int .i64 x] 3)) := by
  refine Kd.R_append (Kd.int .i64) (w0 := W) w.heap.size hgd s y 22 3 (.int .i64 0) 8 ho ht hinfo rfl (by decide) (by decide) v xs x [.int .i64 x] (fun _ => True) (fun _ => False) hs hy (by rfl) (fun _ h => h.elim) (fun _ _ => trivial) (h.row i hi) ((Below.refl W.heap.size W).mono h.below.size) h.below.size (by omega) ?_
  intro v1 w1 hr hb hg hat
  obtain ⟨A, c, rfl⟩ := Kd.R_slice hr
  have := hK A c w1 (by
    have := h.grow i hi hr hg hat
    rw [List.length_append, List.length_singleton] at this; exact this)
  rw [List.length_append, List.length_singleton]; exact this
end
/-- An element of a row of the list. -/
theorem Sx.at {w W : World} {Ts : List Th} (h : Sx w W Ts) (i : Nat) {A : Option Addr} {n c : Nat} {xs : List Int} (hi : Ts[i]? = some (.row (.slice A n c) xs)) (j : Nat) (hj : j < xs.length) : ∃ g, A = some ⟨g, 0, none⟩ ∧ W.cell? ⟨g, j, none⟩ = some (.int .i64 (rd xs (j : Int))) ∧ W.frozen? ⟨g, j, none⟩ = false := by
  have hr := h.row i hi
  obtain ⟨g, cap, e, _, _, _⟩ := Kd.R_form hr (by omega)
  injection e with e1 e2 e3
  subst e1 e2 e3
  have := Kd.R_cell (0 : Int) (enc := Value.int .i64) hr (j : Int) (by omega) (by omega)
  rw [Int.toNat_natCast] at this
  exact ⟨g, rfl, this.1, this.2⟩
end Go.Proofs.Ytehfcnndjhjkoaa.PA

namespace Go.Proofs.Ytehfcnndjhjkoaa.PA
open Go.RowKit Go.Proofs.YtehfcnndjhjkoaaW.PrintWords Go.Proofs.YtehfcnndjhjkoaaW.PrintLast Go.Proofs.YtehfcnndjhjkoaaW.PrintMore
set_option linter.unusedVariables false
set_option linter.unusedSimpArgs false
section
variable {P : Program} {ops : Array Oper} {rest : List Oper} {o : Oper} {a : Act} {Q : Exit → Act → World → Prop}
theorem Sx.appendRows {w W : World} {Ts : List Th} (h : Sx w W Ts) (i : Nat) {v : Value} {xs : List Int} (hi : Ts[i]? = some (.row v xs)) (n N : Nat) (hn : xs.length = n) (hgd : o.guard = none) (s y : Operand)
    (ho : o.op = .call { callee := .builtin .append, args := #[s, y], argTypes := #[22, 22] }) (ht : P.underlying 22 = some (.slice 3)) (hinfo : (P.info? 3).map (fun i => (i.zero, i.size, i.bytes)) = some (some (.int .i64 0), 1, 8))
    (A : Option Addr) (m c : Nat) (ys zs : List Int) (hs : a.eval s = v) (hy : a.eval y = .slice A m c) (hm : ys.length = m) (hC : Kd.C (Kd.int .i64) W A ys.length ys) (hN : n + m = N) (hz : xs ++ ys = zs) (hl : N ≤ 1000000)
    (hK : ∀ B d w1, Sx w w1 (Ts.set i (.row (.slice B N d) zs)) → wpList P ops Q rest (a.put o.dst (.slice B N d)) w1) : wpList P ops Q (o :: rest) a W := by
  subst hn hm hN hz
  refine Kd.R_append_rows (Kd.int .i64) (w0 := W) w.heap.size hgd s y 22 3 (.int .i64 0) 8 ho ht hinfo rfl (by decide) (by decide) v xs ys A ys.length c (fun _ => True) (fun _ => False) hs hy (h.row i hi) hC (fun _ _ h => h) (fun _ h => h.elim) (fun _ _ => trivial) ((Below.refl W.heap.size W).mono h.below.size) h.below.size (by omega) ?_
  intro v1 w1 hr hb hg hat
  obtain ⟨B, d, rfl⟩ := Kd.R_slice hr
  have := hK B d w1 (by
    have := h.grow i hi hr hg hat
    rw [List.length_append] at this; exact this)
  rw [List.length_append]; exact this
end
end Go.Proofs.Ytehfcnndjhjkoaa.PA

namespace Go.Proofs.Ytehfcnndjhjkoaa.PA
open Go.RowKit Go.Proofs.YtehfcnndjhjkoaaW.PrintWords Go.Proofs.YtehfcnndjhjkoaaW.PrintLast Go.Proofs.YtehfcnndjhjkoaaW.PrintMore
set_option linter.unusedVariables false
set_option linter.unusedSimpArgs false
theorem grow_zero (w : World) : Calls Try.prog 139 #[.slice none 0 0, .int .i64 0] w fun e w' => e = .returned (.slice none 0 0) ∧ w' = w := by
  go_enter Try.func139, Try.ntmps139
  go_wp2
  go_ret
  exact ⟨rfl, rfl⟩
set_option maxHeartbeats 1000000 in
theorem grow_nil (n : Nat) (h1 : 1 ≤ n) (h2 : n ≤ 100000) (w : World) : Calls Try.prog 139 #[.slice none 0 0, .int .i64 (n : Int)] w fun e w' => ∃ A c, e = .returned (.slice A 0 c) ∧ Kd.R (Kd.int .i64) 3 w' w.heap.size (fun _ => True) (.slice A 0 c) [] ∧ Below w.heap.size w w' := by
  obtain ⟨i, hi, hz⟩ := Option.map_eq_some_iff.1 info3
  simp only [Prod.mk.injEq] at hz
  have hrz : ∀ ty, (Builtin.append_ #[22, 3] ty #[.slice none 0 0, .int .i64 (n : Int)]).run Try.prog w =
      .ok (.slice (some ⟨w.heap.size, 0, none⟩) n (grownCap w n 0 3)) (w.drew.alloc (.cells (([] : List Value).toArray ++ Builtin.zeroCells (Value.int .i64 0).cells n ++ Builtin.zeroCells (Value.int .i64 0).cells (grownCap w n 0 3 - n)) 3)) := fun ty => by
    have h := Lib.run_append_grow_zeros w 22 3 ty 3 i (.int .i64 0) .i64 .i64 Try.underlying22 Try.underlying3 hi hz.1 none 0 0 [] (run_firstCells_none w.drew i.size 0 0 0) n (by omega) (by rw [hz.2.1]; decide) (by omega) (by omega)
      (by rw [hz.2.2]; omega)
      (by rw [Nat.zero_add]; exact growslice_fits (by omega) (by rw [hz.2.2]; omega))
    simpa using h
  have hGn : n ≤ grownCap w n 0 3 := grownCap_ge w _ _ _
  have hG63 : grownCap w n 0 3 ≤ maxLen := grownCap_le_maxLen w n 0 3 (by unfold maxLen; omega)
  obtain ⟨G, hG⟩ : ∃ G, G = grownCap w n 0 3 := ⟨_, rfl⟩
  rw [← hG] at hrz hGn hG63
  have HG := Aside0.mk hG63
  clear hG hi hz
  unfold maxLen at hG63
  go_enter Try.func139, Try.ntmps139
  go_wp2_with (at_builtin; refine Lib.wpList_append_run _ rfl _ _ _ _ rfl _ _ rfl rfl _ _ (hrz _) ?_)
  all_goals
    go_ret
    refine ⟨_, _, rfl, ?_, below_alloc (below_drew (Below.refl _ _)) _⟩
    refine Kd.R_of_own (World.ownsRow_made w.drew _ G (Nat.le_refl _) HG.out ?_) (fun _ _ => trivial)
    simp only [Builtin.zeroCells, Value.cells, Array.size_append]
    simp
    omega
-- by mkConcat.py
set_option maxHeartbeats 2000000 in
set_option maxRecDepth 100000 in
theorem concat_two (g : Nat) (A1 : Option Addr) (c1 : Nat) (l1 : List Int) (A2 : Option Addr) (c2 : Nat) (l2 : List Int) (w : World) (hg : w.heap[g]? = some (.cells #[.slice A1 l1.length c1, .slice A2 l2.length c2] 22 (0, 0))) (h1 : Kd.C (Kd.int .i64) w A1 l1.length l1) (k1 : l1.length ≤ c1) (h2 : Kd.C (Kd.int .i64) w A2 l2.length l2) (k2 : l2.length ≤ c2) (b1 : l1.length ≤ 10000) (b2 : l2.length ≤ 10000) :
    Calls Try.prog 135 #[.slice (some ⟨g, 0, none⟩) 2 2] w fun e w' => ∃ A c, e = .returned (.slice A (l1.length + l2.length) c) ∧ Kd.R (Kd.int .i64) 3 w' w.heap.size (fun _ => True) (.slice A (l1.length + l2.length) c) (l1 ++ l2) ∧ Below w.heap.size w w' := by
  have HG := Aside0.mk hg
  have H1 := Aside0.mk h1
  have K1 := Aside0.mk k1
  have H2 := Aside0.mk h2
  have K2 := Aside0.mk k2
  have x0 : w.cell? ⟨g, 0, none⟩ = some (.slice A1 l1.length c1) := (blk_cell hg 0).trans rfl
  have x1 : w.cell? ⟨g, 1, none⟩ = some (.slice A2 l2.length c2) := (blk_cell hg 1).trans rfl
  clear hg h1 k1 h2 k2
  have HS := Aside0.mk (Sx.start w)
  have HGR : Aside0 (∀ W, Calls Try.prog 139 #[.slice none 0 0, .int .i64 ((l1.length : Int) + (l2.length : Int))] W fun e w' => ∃ A c, e = .returned (.slice A 0 c) ∧ Kd.R (Kd.int .i64) 3 w' W.heap.size (fun _ => True) (.slice A 0 c) [] ∧ Below W.heap.size W w') := by
    refine ⟨fun W => ?_⟩
    by_cases h0 : l1.length + l2.length = 0
    · rw [show (l1.length : Int) + (l2.length : Int) = 0 by omega]
      exact (grow_zero W).mono fun e w' ⟨he, hw⟩ => ⟨none, 0, he, Kd.R_nil _ _ _ _ _, hw ▸ Below.refl _ _⟩
    · rw [show (l1.length : Int) + (l2.length : Int) = ((l1.length + l2.length : Nat) : Int) by push_cast; rfl]
      exact grow_nil (l1.length + l2.length) (by omega) (by omega) W
  go_enter Try.func135, Try.ntmps135
  go_wp2
  refine wp_loop_rounds 3 ?_
  rw [rounds_succ]
  go_wp2
  rw [rounds_succ]
  go_wp2
  rw [rounds_succ]
  go_wp2_with (first | (go_at_call 139; refine (HGR.out _).mono ?_; rintro e w1 ⟨Av, cv, rfl, hr1, hb1⟩; have nS : Aside0 (Sx w w1 [(.row (.slice Av 0 cv) [])]) := Aside0.mk (HS.out.addRow hb1 hr1); clear HS; have HS := nS; clear nS hb1 hr1))
  refine wp_loop_rounds 3 ?_
  rw [rounds_succ]
  go_wp2_with (first | ((with_reducible refine gate_dst (N := 30) rfl ?_); refine ev_load rfl 22 (.tmp 29) rfl ⟨g, 0, none⟩ rfl (.slice A1 l1.length c1) ((blk_cell (blk_below HG.out HS.out.below) 0).trans rfl) (by kernel_rfl) ?_) | ((with_reducible refine gate_dst (N := 33) rfl ?_); refine Sx.appendRows HS.out 0 rfl (0) (l1.length) (by simp) rfl (.tmp 31) (.tmp 32) rfl rfl (by kernel_rfl) A1 l1.length c1 l1 (l1) rfl rfl rfl (Kd.C_below H1.out HS.out.below) (by omega) (by simp) (by omega) ?_; intro B1 d1 w2 n2; have nS : Aside0 (Sx w w2 [(.row (.slice B1 l1.length d1) l1)]) := Aside0.mk (n2); clear HS; have HS := nS; clear nS n2))
  rw [rounds_succ]
  go_wp2_with (first | ((with_reducible refine gate_dst (N := 30) rfl ?_); refine ev_load rfl 22 (.tmp 29) rfl ⟨g, 1, none⟩ rfl (.slice A2 l2.length c2) ((blk_cell (blk_below HG.out HS.out.below) 1).trans rfl) (by kernel_rfl) ?_) | ((with_reducible refine gate_dst (N := 33) rfl ?_); refine Sx.appendRows HS.out 0 rfl (l1.length) ((l1.length + l2.length)) (by simp) rfl (.tmp 31) (.tmp 32) rfl rfl (by kernel_rfl) A2 l2.length c2 l2 ((l1 ++ l2)) rfl rfl rfl (Kd.C_below H2.out HS.out.below) (by omega) (rfl) (by omega) ?_; intro B2 d2 w3 n2; have nS : Aside0 (Sx w w3 [(.row (.slice B2 (l1.length + l2.length) d2) (l1 ++ l2))]) := Aside0.mk (n2); clear HS; have HS := nS; clear nS n2))
  rw [rounds_succ]
  go_wp2
  go_ret
  exact ⟨B2, d2, rfl, HS.out.row 0 rfl, HS.out.below⟩
theorem shapeOk_len (k n : Nat) (A : Option Addr) (c : Nat) (l : List Int) (r : Int × Bool) (w : World) (h : Kd.C (Kd.int .i64) w A l.length l) (hc : l.length ≤ c) (hn : l.length = n) (hf : impl_shapeOk.f k l = some r) :
    Calls Try.prog 94 #[.slice A n c] w fun e w' => e = .returned (.tuple #[.int .i64 r.1, .bool r.2]) ∧ Below w.heap.size w w' := by
  subst hn
  exact (impl_shapeOk.calls k A c l r.1 r.2 w h hc hf).mono fun _ _ h => ⟨h.1, h.2.below⟩
set_option maxHeartbeats 2000000 in
set_option maxRecDepth 100000 in
theorem joined_any (k : Nat) (r : Int × Bool) (A1 : Option Addr) (c1 : Nat) (l1 : List Int) (A2 : Option Addr) (c2 : Nat) (l2 : List Int) (w : World) (h1 : Kd.C (Kd.int .i64) w A1 l1.length l1) (k1 : l1.length ≤ c1) (h2 : Kd.C (Kd.int .i64) w A2 l2.length l2) (k2 : l2.length ≤ c2) (b1 : l1.length ≤ 10000) (b2 : l2.length ≤ 10000) (hk : impl_shapeOk.f k (l1 ++ l2) = some r) :
    Calls Try.prog 113 #[.slice A1 l1.length c1, .slice A2 l2.length c2] w fun e w' => ∃ A c, e = .returned (.tuple #[.slice A (l1.length + l2.length) c, .bool r.2]) ∧ Kd.R (Kd.int .i64) 3 w' w.heap.size (fun _ => True) (.slice A (l1.length + l2.length) c) (l1 ++ l2) ∧ Below w.heap.size w w' := by
  have H1 := Aside0.mk h1
  have K1 := Aside0.mk k1
  have H2 := Aside0.mk h2
  have K2 := Aside0.mk k2
  have HK := Aside0.mk hk
  have HLN := Aside0.mk (show (l1 ++ l2).length = l1.length + l2.length from List.length_append)
  clear h1 k1 h2 k2 hk
  have HS := Aside0.mk (Sx.start w)
  go_enter Try.func113, Try.ntmps113
  go_wp2_with (first | ((with_reducible refine gate_dst (N := 11) rfl ?_); refine lit_event ?hg (N := 11) ?hd (cs := #[.slice A1 l1.length c1, .slice A2 l2.length c2]) (t := 22) (n := 2) ?hr ?_; (case hd => rfl); (case hg => rfl); (case hr => first | (go_simp; done) | (go_simp; rfl)); intro gG hg1 w1 hx1 hb1; have nS : Aside0 (Sx w w1 [(.blk gG #[.slice A1 l1.length c1, .slice A2 l2.length c2] 22)]) := Aside0.mk (HS.out.box hg1 hx1 hb1); clear HS; have HS := nS; clear nS hg1 hx1 hb1) | (go_at_call 135; refine (concat_two gG A1 c1 l1 A2 c2 l2 _ (HS.out.blk 0 rfl) (Kd.C_below H1.out HS.out.below) K1.out (Kd.C_below H2.out HS.out.below) K2.out b1 b2).mono ?_; rintro e w2 ⟨Av, cv, rfl, hr2, hb2⟩; have nS : Aside0 (Sx w w2 [(.row (.slice Av (l1.length + l2.length) cv) (l1 ++ l2)), (.blk gG #[.slice A1 l1.length c1, .slice A2 l2.length c2] 22)]) := Aside0.mk (HS.out.addRow hb2 hr2); clear HS; have HS := nS; clear nS hb2 hr2) | (go_at_call 94; refine (shapeOk_len k (l1.length + l2.length) Av cv (l1 ++ l2) r _ (HS.out.C 0 rfl) (HS.out.cap 0 rfl) HLN.out HK.out).mono ?_; rintro e w3 ⟨rfl, hb3⟩; have nS : Aside0 (Sx w w3 [(.row (.slice Av (l1.length + l2.length) cv) (l1 ++ l2)), (.blk gG #[.slice A1 l1.length c1, .slice A2 l2.length c2] 22)]) := Aside0.mk (HS.out.step hb3); clear HS; have HS := nS; clear nS hb3))
  go_ret2
  exact ⟨Av, cv, rfl, HS.out.row 0 rfl, HS.out.below⟩
end Go.Proofs.Ytehfcnndjhjkoaa.PA

namespace Go.Proofs.Ytehfcnndjhjkoaa.PA
open Go.RowKit Go.Shelf Go.Proofs.YtehfcnndjhjkoaaW.PrintWords Go.Proofs.YtehfcnndjhjkoaaW.PrintLast Go.Proofs.YtehfcnndjhjkoaaW.PrintMore
set_option linter.unusedVariables false
set_option linter.unusedSimpArgs false
/-- The number of the first element of which p holds, counted from i; -1. -/
def idxP (p : Int → Bool) : List Int → Int → Int
  | [], _ => -1
  | x :: t, i => if p x then i else idxP p t (i + 1)
theorem idxP_any (p : Int → Bool) : ∀ (l : List Int) (i : Int), 0 ≤ i → decide (idxP p l i ≥ 0) = l.any p
  | [], i, _ => by simp [idxP]
  | x :: t, i, h => by
    simp only [idxP, List.any_cons]
    by_cases hp : p x = true
    · simp [hp, h]
    · simp only [hp, if_false, Bool.false_or]; exact (idxP_any p t (i + 1) (by omega)).trans (by simp)
theorem idxP_step (p : Int → Bool) (l : List Int) (k : Nat) (hk : k < l.length) : idxP p (l.drop k) (k : Int) = if p (rd l (k : Int)) then (k : Int) else idxP p (l.drop (k + 1)) ((k + 1 : Nat) : Int) := by
  rw [List.drop_eq_getElem_cons hk, idxP]; simp [rd, hk, List.getD_eq_getElem?_getD]
/-- What is asked of the function value: it answers p, and only draws. -/
def Gives (g : Nat) (lb : Array Value) (p : Int → Bool) (w : World) : Prop := ∀ (W : World) (x : Int), Below w.heap.size w W → Calls Try.prog g (#[.int .i64 x] ++ lb) W fun e w' => e = .returned (.bool (p x)) ∧ ∃ q, w' = W.drewN q
set_option maxHeartbeats 2000000 in
theorem indexFunc_c (p : Int → Bool) (g : Nat) (lb : Array Value) (eg : ∀ args w, (callFunc g args).run Try.prog w = .ok (.enter g args) w) (A : Option Addr) (c : Nat) (l : List Int) (w : World) (hr : Kd.C (Kd.int .i64) w A l.length l) (hm : l.length ≤ 9223372036854775807) (hp : Gives g lb p w) :
    Calls Try.prog 134 #[.slice A l.length c, .func (.func g) #[] lb] w fun e w' => e = .returned (.int .i64 (idxP p l 0)) ∧ ∃ q, w' = w.drewN q := by
  have HP := Aside0.mk hp
  have HR := Aside0.mk hr
  clear hp hr
  go_enter Try.func134, Try.ntmps134
  go_wp2
  go_loopg [5, 8] l.length (fun gg _ s8 wr => ∃ kk q : Nat, kk ≤ l.length ∧ l.length - kk ≤ gg ∧ s8 = .int .i64 kk ∧ wr = w.drewN q ∧ Aside0 (idxP p (l.drop kk) kk = idxP p l 0))
  case atStart => exact ⟨0, 0, Nat.zero_le _, by omega, rfl, rfl, ⟨rfl⟩⟩
  case round =>
    obtain ⟨kk, q, hkk, hg, rfl, rfl, HI⟩ := hrel
    by_cases hlt : kk < l.length
    · have hltz : (kk : Int) < (l.length : Int) := by omega
      have h0 : (0 : Int) ≤ (kk : Int) := by omega
      obtain ⟨ad, rfl, hx⟩ := Kd.at_int HR.out (kk : Int) h0 hltz
      rw [Int.toNat_natCast] at hx
      have hcall := HP.out
      have HS := Aside0.mk (idxP_step p l kk hlt)
      obtain ⟨y, hy⟩ : ∃ y, y = rd l (kk : Int) := ⟨_, rfl⟩
      rw [← hy] at hx HS
      clear hy
      cases hq : p y with
      | true =>
        have hc : ∀ W, Below w.heap.size w W → Calls Try.prog g (#[.int .i64 y] ++ lb) W fun e w' => e = .returned (.bool true) ∧ ∃ q, w' = W.drewN q := fun W hb => hq ▸ hcall W y hb
        have HQ := Aside0.mk hq
        clear hcall hq
        go_wp2_with (go_at_fn g; refine (hc _ (pw_below_drewN (Below.refl _ w) q)).mono ?_; rintro e w' ⟨rfl, q', rfl⟩)
        go_ret
        refine ⟨?_, _, rfl⟩
        rw [← HI.out, HS.out, HQ.out]; rfl
      | false =>
        have hc : ∀ W, Below w.heap.size w W → Calls Try.prog g (#[.int .i64 y] ++ lb) W fun e w' => e = .returned (.bool false) ∧ ∃ q, w' = W.drewN q := fun W hb => hq ▸ hcall W y hb
        have HQ := Aside0.mk hq
        clear hcall hq
        go_wp2_with (go_at_fn g; refine (hc _ (pw_below_drewN (Below.refl _ w) q)).mono ?_; rintro e w' ⟨rfl, q', rfl⟩)
        go_roundg (l.length - (kk + 1))
        case measure => omega
        case rel => exact ⟨kk + 1, _, by omega, by omega, by go_num, rfl, ⟨by rw [← HI.out, HS.out, HQ.out]; rfl⟩⟩
    · have hltz : ¬ (kk : Int) < (l.length : Int) := by omega
      have hk : kk = l.length := by omega
      have HK := Aside0.mk hk
      clear hk
      go_wp2
      go_ret
      refine ⟨?_, q, rfl⟩
      rw [← HI.out, HK.out, List.drop_length]; rfl
theorem containsFunc_c (p : Int → Bool) (g : Nat) (lb : Array Value) (eg : ∀ args w, (callFunc g args).run Try.prog w = .ok (.enter g args) w) (A : Option Addr) (c : Nat) (l : List Int) (w : World) (hr : Kd.C (Kd.int .i64) w A l.length l) (hm : l.length ≤ 9223372036854775807) (hp : Gives g lb p w) :
    Calls Try.prog 111 #[.slice A l.length c, .func (.func g) #[] lb] w fun e w' => e = .returned (.bool (l.any p)) ∧ ∃ q, w' = w.drewN q := by
  rw [← idxP_any p l 0 (by omega)]
  have HP := Aside0.mk hp
  have HR := Aside0.mk hr
  clear hp hr
  go_enter Try.func111, Try.ntmps111
  go_wp2_with (go_at_call 134; refine (indexFunc_c p g lb eg A c l _ HR.out hm HP.out).mono ?_; rintro e w' ⟨rfl, q, rfl⟩)
  go_ret
  exact ⟨rfl, q, rfl⟩
end Go.Proofs.Ytehfcnndjhjkoaa.PA

-- By a program (prt.py, over the print of the kit), for this claim. Not trusted: Lean checks it.
namespace Go.Proofs.Ytehfcnndjhjkoaa.PA
open Go.RowKit Go.Proofs.YtehfcnndjhjkoaaW.PrintWords Go.Proofs.YtehfcnndjhjkoaaW.PrintLast Go.Proofs.YtehfcnndjhjkoaaW.PrintMore
attribute [local go_sem] max2_int min2_int max_two min_two max_three min_three max_four min_four   -- for this text's walks alone
set_option linter.unusedVariables false
set_option linter.unusedSimpArgs false

/-! ### impl_number: function 120 -/
def impl_number.l0 : Nat → List Int → Int → List Int → Int → Int → Option (Int)
  | 0, _, _, _, _, _ => none
  | k + 1, x0, x5, x8, x9, x10 => if x10 < x9 then (if 0 ≤ x10 then (if x10 < (x8.length : Int) then (if x10 < (x0.length : Int) then (impl_number.l0 k x0 (wrap64 ((wrap64 (x5 * (rd x0 x10))) + (rd x8 x10))) x8 x9 (wrap64 (x10 + 1))) else (none)) else (none)) else (none)) else (some x5)
def impl_number.f (k : Nat) (l0 : List Int) (l1 : List Int) : Option (Int) := impl_number.l0 k l0 0 l1 (l1.length : Int) 0
theorem impl_number.mono_l : ∀ k, (∀ y0 y1 y2 y3 y4, LeO (impl_number.l0 k y0 y1 y2 y3 y4) (impl_number.l0 (k + 1) y0 y1 y2 y3 y4))
  | 0 => fun _ _ _ _ _ r h => by simp [impl_number.l0] at h
  | k + 1 => by
    have ih0 := impl_number.mono_l k
    · intro y0 y1 y2 y3 y4
      unfold impl_number.l0
      repeat' first
      | (with_reducible exact ih0 _ _ _ _ _)
      | (with_reducible exact LeO.refl _)
      | (with_reducible exact LeO.none _)
      | (with_reducible refine LeO.ite ?_ ?_)
      | (with_reducible refine LeO.bind ?_ (fun _ => ?_))
      | exact ih0 _ _ _ _ _
      | exact LeO.none _
      | refine LeO.ite ?_ ?_
      | refine LeO.bind ?_ (fun _ => ?_)
theorem impl_number.mono : ∀ a0 a1 k, LeO (impl_number.f k a0 a1) (impl_number.f (k + 1) a0 a1) := by
  intro a0 a1 k
  have ih0 := impl_number.mono_l k
  unfold impl_number.f
  repeat' first
      | (with_reducible exact ih0 _ _ _ _ _)
      | (with_reducible exact LeO.refl _)
      | (with_reducible exact LeO.none _)
      | (with_reducible refine LeO.ite ?_ ?_)
      | (with_reducible refine LeO.bind ?_ (fun _ => ?_))
      | exact ih0 _ _ _ _ _
      | exact LeO.none _
      | refine LeO.ite ?_ ?_
      | refine LeO.bind ?_ (fun _ => ?_)

end Go.Proofs.Ytehfcnndjhjkoaa.PA

-- By a program (prt.py, over the print of the kit), for this claim. Not trusted: Lean checks it.
namespace Go.Proofs.Ytehfcnndjhjkoaa.PA
open Go.RowKit Go.Proofs.YtehfcnndjhjkoaaW.PrintWords Go.Proofs.YtehfcnndjhjkoaaW.PrintLast Go.Proofs.YtehfcnndjhjkoaaW.PrintMore
attribute [local go_sem] max2_int min2_int max_two min_two max_three min_three max_four min_four   -- for this text's walks alone
set_option linter.unusedVariables false
set_option linter.unusedSimpArgs false

/-! ### impl_absolute: function 129 -/
def impl_absolute.f (a0 : Int) : Option (Int) := some (mx a0 (wrap64 (-a0)))

end Go.Proofs.Ytehfcnndjhjkoaa.PA

namespace Go.Proofs.Ytehfcnndjhjkoaa.PA
open Go.RowKit Go.Proofs.YtehfcnndjhjkoaaW.PrintWords Go.Proofs.YtehfcnndjhjkoaaW.PrintLast Go.Proofs.YtehfcnndjhjkoaaW.PrintMore
set_option linter.unusedVariables false
set_option linter.unusedSimpArgs false
theorem rd_mem' (l : List Int) (i : Nat) (h : i < l.length) : rd l (i : Int) ∈ l := by
  simp only [rd, Int.toNat_natCast, List.getD_eq_getElem?_getD, List.getElem?_eq_getElem h, Option.getD_some]; exact List.getElem_mem h
section
variable {P : Program} {ops : Array Oper} {rest : List Oper} {o : Oper} {a : Act} {Q : Exit → Act → World → Prop}
theorem ev_store_row {W : World} (hgd : o.guard = none) (ty : TypeId) (x y : Operand) (ho : o.op = .store ty x y) (g j : Nat) (hx : a.eval x = .pointer (some ⟨g, j, none⟩)) (z : Int) (hy : a.eval y = .int .i64 z)
    (l : List Int) (hg : W.heap[g]? = some (.cells (rowI l) 3 (0, 0))) (hj : j < l.length) (hi : (P.info? ty).map (·.size) = some 1)
    (h : ∀ w1, w1.heap[g]? = some (.cells (rowI (l.set j z)) 3 (0, 0)) → But1 g W w1 → wpList P ops Q rest (a.put o.dst undef) w1) : wpList P ops Q (o :: rest) a W := by
  refine ev_store hgd ty x y ho g j hx (.int .i64 z) hy (rowI l) 3 hg (by simpa [rowI] using hj) rfl hi ?_
  intro w1 h1 h2
  rw [rowI_set] at h1
  exact h w1 h1 h2
end
end Go.Proofs.Ytehfcnndjhjkoaa.PA

-- By a program (prt.py, over the print of the kit), for this claim. Not trusted: Lean checks it.
namespace Go.Proofs.Ytehfcnndjhjkoaa.PA
open Go.RowKit Go.Proofs.YtehfcnndjhjkoaaW.PrintWords Go.Proofs.YtehfcnndjhjkoaaW.PrintLast Go.Proofs.YtehfcnndjhjkoaaW.PrintMore
attribute [local go_sem] max2_int min2_int max_two min_two max_three min_three max_four min_four   -- for this text's walks alone
set_option linter.unusedVariables false
set_option linter.unusedSimpArgs false

/-! ### spec_l4Axis: function 82 -/
mutual
def spec_l4Axis.j0 : Nat → List Int → Int → Option (Int × Int × Int)
  | 0, _, _ => none
  | k + 1, x0, x7 => spec_l4Axis.l0 k x0 x7 1 1 0
def spec_l4Axis.l0 : Nat → List Int → Int → Int → Int → Int → Option (Int × Int × Int)
  | 0, _, _, _, _, _ => none
  | k + 1, x0, x7, x8, x9, x10 => if x10 < (x0.length : Int) then (if x10 < x7 then (if 0 ≤ x10 then (if x10 > x7 then (spec_l4Axis.l0 k x0 x7 (wrap64 (x8 * (rd x0 x10))) (wrap64 (x9 * (rd x0 x10))) (wrap64 (x10 + 1))) else (spec_l4Axis.l0 k x0 x7 (wrap64 (x8 * (rd x0 x10))) x9 (wrap64 (x10 + 1)))) else (none)) else (if x10 > x7 then (if 0 ≤ x10 then (spec_l4Axis.l0 k x0 x7 x8 (wrap64 (x9 * (rd x0 x10))) (wrap64 (x10 + 1))) else (none)) else (spec_l4Axis.l0 k x0 x7 x8 x9 (wrap64 (x10 + 1))))) else (if 0 ≤ x7 then (if x7 < (x0.length : Int) then (some (x8, rd x0 x7, x9)) else (none)) else (none))
end
def spec_l4Axis.f (k : Nat) (l0 : List Int) (a1 : Bool) : Option (Int × Int × Int) := if a1 = true then (spec_l4Axis.j0 k l0 0) else (spec_l4Axis.j0 k l0 (wrap64 ((l0.length : Int) - 1)))
theorem spec_l4Axis.mono_l : ∀ k, (∀ y0 y1, LeO (spec_l4Axis.j0 k y0 y1) (spec_l4Axis.j0 (k + 1) y0 y1)) ∧ (∀ y0 y1 y2 y3 y4, LeO (spec_l4Axis.l0 k y0 y1 y2 y3 y4) (spec_l4Axis.l0 (k + 1) y0 y1 y2 y3 y4))
  | 0 => ⟨fun _ _ r h => by simp [spec_l4Axis.j0] at h, fun _ _ _ _ _ r h => by simp [spec_l4Axis.l0] at h⟩
  | k + 1 => by
    obtain ⟨ih0, ih1⟩ := spec_l4Axis.mono_l k
    refine ⟨?_, ?_⟩
    · intro y0 y1
      unfold spec_l4Axis.j0
      repeat' first
      | (with_reducible exact ih0 _ _)
      | (with_reducible exact ih1 _ _ _ _ _)
      | (with_reducible exact LeO.refl _)
      | (with_reducible exact LeO.none _)
      | (with_reducible refine LeO.ite ?_ ?_)
      | (with_reducible refine LeO.bind ?_ (fun _ => ?_))
      | exact ih0 _ _
      | exact ih1 _ _ _ _ _
      | exact LeO.none _
      | refine LeO.ite ?_ ?_
      | refine LeO.bind ?_ (fun _ => ?_)
    · intro y0 y1 y2 y3 y4
      unfold spec_l4Axis.l0
      repeat' first
      | (with_reducible exact ih0 _ _)
      | (with_reducible exact ih1 _ _ _ _ _)
      | (with_reducible exact LeO.refl _)
      | (with_reducible exact LeO.none _)
      | (with_reducible refine LeO.ite ?_ ?_)
      | (with_reducible refine LeO.bind ?_ (fun _ => ?_))
      | exact ih0 _ _
      | exact ih1 _ _ _ _ _
      | exact LeO.none _
      | refine LeO.ite ?_ ?_
      | refine LeO.bind ?_ (fun _ => ?_)
theorem spec_l4Axis.mono : ∀ a0 a1 k, LeO (spec_l4Axis.f k a0 a1) (spec_l4Axis.f (k + 1) a0 a1) := by
  intro a0 a1 k
  obtain ⟨ih0, ih1⟩ := spec_l4Axis.mono_l k
  unfold spec_l4Axis.f
  repeat' first
      | (with_reducible exact ih0 _ _)
      | (with_reducible exact ih1 _ _ _ _ _)
      | (with_reducible exact LeO.refl _)
      | (with_reducible exact LeO.none _)
      | (with_reducible refine LeO.ite ?_ ?_)
      | (with_reducible refine LeO.bind ?_ (fun _ => ?_))
      | exact ih0 _ _
      | exact ih1 _ _ _ _ _
      | exact LeO.none _
      | refine LeO.ite ?_ ?_
      | refine LeO.bind ?_ (fun _ => ?_)

end Go.Proofs.Ytehfcnndjhjkoaa.PA

-- By a program (prt.py, over the print of the kit), for this claim. Not trusted: Lean checks it.
namespace Go.Proofs.Ytehfcnndjhjkoaa.PA
open Go.RowKit Go.Proofs.YtehfcnndjhjkoaaW.PrintWords Go.Proofs.YtehfcnndjhjkoaaW.PrintLast Go.Proofs.YtehfcnndjhjkoaaW.PrintMore
attribute [local go_sem] max2_int min2_int max_two min_two max_three min_three max_four min_four   -- for this text's walks alone
set_option linter.unusedVariables false
set_option linter.unusedSimpArgs false

/-! ### spec_l3Copy: function 81 -/
def spec_l3Copy.f (a0_0 : Bool) (l0_1 : List Int) (l0_2 : List Int) : Option (Bool × List Int × List Int) := (spec_l3Ints.f l0_1).bind fun t103 => ((spec_l3Ints.f l0_2).bind fun t106 => (some (a0_0, t103, t106)))
def spec_l3Copy.B1 : List Nat := [0, 1, 0, 4, 12, 0, 32, 124, 255, 511]

end Go.Proofs.Ytehfcnndjhjkoaa.PA

-- By a program (prt.py, over the print of the kit), for this claim. Not trusted: Lean checks it.
namespace Go.Proofs.Ytehfcnndjhjkoaa.PA
open Go.RowKit Go.Proofs.YtehfcnndjhjkoaaW.PrintWords Go.Proofs.YtehfcnndjhjkoaaW.PrintLast Go.Proofs.YtehfcnndjhjkoaaW.PrintMore
attribute [local go_sem] max2_int min2_int max_two min_two max_three min_three max_four min_four   -- for this text's walks alone
set_option linter.unusedVariables false
set_option linter.unusedSimpArgs false

/-! ### spec_l5Single: function 80 -/
def spec_l5Single.f (a0_0 : Bool) (l0_1 : List Int) (l0_2 : List Int) : Option (Int) := if (l0_2.length : Int) = 1 then (if a0_0 = true then (some 3) else (some 0)) else (some 5)

end Go.Proofs.Ytehfcnndjhjkoaa.PA

-- By a program (prt.py, over the print of the kit), for this claim. Not trusted: Lean checks it.
namespace Go.Proofs.Ytehfcnndjhjkoaa.PA
open Go.RowKit Go.Proofs.YtehfcnndjhjkoaaW.PrintWords Go.Proofs.YtehfcnndjhjkoaaW.PrintLast Go.Proofs.YtehfcnndjhjkoaaW.PrintMore
attribute [local go_sem] max2_int min2_int max_two min_two max_three min_three max_four min_four   -- for this text's walks alone
set_option linter.unusedVariables false
set_option linter.unusedSimpArgs false

/-! ### spec_l5Abs: function 96 -/
def spec_l5Abs.f (a0 : Int) : Option (Int) := if a0 < 0 then (some (wrap64 (-a0))) else (some a0)

end Go.Proofs.Ytehfcnndjhjkoaa.PA

namespace Go.Proofs.Ytehfcnndjhjkoaa.PA
open Go.RowKit Go.Proofs.YtehfcnndjhjkoaaW.PrintWords Go.Proofs.YtehfcnndjhjkoaaW.PrintLast Go.Proofs.YtehfcnndjhjkoaaW.PrintMore
set_option linter.unusedVariables false
set_option linter.unusedSimpArgs false
/-- An operation whose guard lets it run. -/
theorem wpList_guarded {P : Program} {ops : Array Oper} {Q : Exit → Act → World → Prop} {a : Act} {w : World} {rest : List Oper} {dst : Option Tmp} {op : Op} {type : TypeId} {pos : String} {after : Array Edge} {g : Nat × Bool}
    (hw : Region.wanted ⟨dst, op, type, pos, after, some g⟩ (yielded ops a.tmps) = true) (h : wpList P ops Q (⟨dst, op, type, pos, after, none⟩ :: rest) a w) : wpList P ops Q (⟨dst, op, type, pos, after, some g⟩ :: rest) a w := by
  simp only [wpList] at h ⊢
  rw [if_pos hw]
  rw [if_pos (by rfl)] at h
  exact h
end Go.Proofs.Ytehfcnndjhjkoaa.PA

namespace Go.Proofs.Ytehfcnndjhjkoaa.PA
open Go.RowKit Go.Proofs.YtehfcnndjhjkoaaW.PrintWords Go.Proofs.YtehfcnndjhjkoaaW.PrintLast Go.Proofs.YtehfcnndjhjkoaaW.PrintMore
set_option linter.unusedVariables false
set_option linter.unusedSimpArgs false
theorem encode_fn (x : Int) (W : World) : Calls Try.prog 112 #[.int .i64 x] W fun e w' => e = .returned (.bool (decide (x < 0))) ∧ ∃ q, w' = W.drewN q := by
  go_enter Try.func112, Try.ntmps112
  go_wp2
  go_ret
  exact ⟨rfl, 0, rfl⟩
theorem encode_gives (w : World) : Gives 112 #[] (fun x => decide (x < 0)) w := fun W x _ => encode_fn x W
theorem contains_neg (A : Option Addr) (c : Nat) (l : List Int) (r : Bool) (w : World) (hr : Kd.C (Kd.int .i64) w A l.length l) (hm : l.length ≤ 10000) (hn : negs l = r) :
    Calls Try.prog 111 #[.slice A l.length c, .func (.func 112) #[] #[]] w fun e w' => e = .returned (.bool r) ∧ Below w.heap.size w w' := by
  subst hn
  refine (containsFunc_c (fun x => decide (x < 0)) 112 #[] (enters_of Try.func112 (by kernel_rfl) rfl) A c l w hr (by omega) (encode_gives w)).mono ?_
  rintro e w' ⟨rfl, q, rfl⟩
  exact ⟨rfl, pw_below_drewN (Below.refl _ _) q⟩
/-- The array that is made of a row and a block. -/
theorem enc_end {w W : World} {Aj : Option Addr} {cj n gD N : Nat} {sh D F : List Int} (hb : Below w.heap.size w W) (hr : Kd.R (Kd.int .i64) 3 W w.heap.size (fun _ => True) (.slice Aj n cj) sh) (hB : W.heap[gD]? = some (.cells (rowI D) 3 (0, 0))) (hg : w.heap.size ≤ gD)
    (hne : ∀ k, (Value.slice Aj n cj).ownBlock = some k → ¬ k = gD) (hD : D.length = N) (hF : D = F) (hN : N ≤ 1000000) :
    ∃ v1_ v2_ : Value, Ending.returned (.tuple #[.agg #[.bool false, .slice Aj n cj, .slice (some ⟨gD, 0, none⟩) N N], .int .i64 0]) = .returned (.tuple #[.agg #[.bool false, v1_, v2_], .int .i64 0]) ∧ Kd.R (Kd.int .i64) 3 W w.heap.size (fun k_ => some k_ ≠ (v2_ : Value).ownBlock) v1_ sh ∧ Kd.R (Kd.int .i64) 3 W w.heap.size (fun k_ => some k_ ≠ (v1_ : Value).ownBlock) v2_ F ∧ Below w.heap.size w W := by
  subst hF hD
  have h2 := R_of_blk hB hg (by omega)
  refine ⟨_, _, rfl, Kd.R_reok rfl hr fun k hk e => ?_, Kd.R_reok rfl h2 fun k hk e => ?_, hb⟩
  · exact hne k hk (by simpa [Value.ownBlock] using e)
  · have : gD = k := by simpa [Value.ownBlock] using hk
    exact hne k e.symm this.symm
set_option maxHeartbeats 2000000 in
set_option maxRecDepth 100000 in
theorem encode_no (k0 : Nat) (a : Bool) (Aa1 : Option Addr) (ca1 : Nat) (la1 : List Int) (Aa2 : Option Addr) (ca2 : Nat) (la2 : List Int) (b : Bool) (Ab1 : Option Addr) (cb1 : Nat) (lb1 : List Int) (Ab2 : Option Addr) (cb2 : Nat) (lb2 : List Int) (w : World) (ha1 : Kd.C (Kd.int .i64) w Aa1 la1.length la1) (ka1 : la1.length ≤ ca1) (ha2 : Kd.C (Kd.int .i64) w Aa2 la2.length la2) (ka2 : la2.length ≤ ca2) (hb1 : Kd.C (Kd.int .i64) w Ab1 lb1.length lb1) (kb1 : lb1.length ≤ cb1) (hb2 : Kd.C (Kd.int .i64) w Ab2 lb2.length lb2) (kb2 : lb2.length ≤ cb2) (v : Int) (hv : impl_valid.f k0 [⟨a, la1, la2⟩, ⟨b, lb1, lb2⟩] = some v) (hv0 : v ≠ 0) :
    Calls Try.prog 50 #[.agg #[.bool a, .slice Aa1 la1.length ca1, .slice Aa2 la2.length ca2], .agg #[.bool b, .slice Ab1 lb1.length cb1, .slice Ab2 lb2.length cb2]] w fun e w' => ∃ v1_ v2_ : Value, e = .returned (.tuple #[.agg #[.bool false, v1_, v2_], .int .i64 v]) ∧ Kd.R (Kd.int .i64) 3 w' w.heap.size (fun k_ => some k_ ≠ (v2_ : Value).ownBlock) v1_ [] ∧ Kd.R (Kd.int .i64) 3 w' w.heap.size (fun k_ => some k_ ≠ (v1_ : Value).ownBlock) v2_ [] ∧ Below w.heap.size w w' := by
  have Ha1 := Aside0.mk ha1
  have Ka1 := Aside0.mk ka1
  clear ha1 ka1
  have Ha2 := Aside0.mk ha2
  have Ka2 := Aside0.mk ka2
  clear ha2 ka2
  have Hb1 := Aside0.mk hb1
  have Kb1 := Aside0.mk kb1
  clear hb1 kb1
  have Hb2 := Aside0.mk hb2
  have Kb2 := Aside0.mk kb2
  clear hb2 kb2
  have HV := Aside0.mk hv
  clear hv
  have c0 : (v == 0) = false := beq_eq_false_iff_ne.mpr hv0
  have c1 : (v != 0) = true := bne_iff_ne.mpr hv0
  clear hv0
  have HS := Aside0.mk (Sx.start w)
  go_enter Try.func50, Try.ntmps50
  go_wp2_with (first | ((with_reducible refine gate_dst (N := 2) rfl ?_); refine box_event ?hg (N := 2) ?hd (cs := #[.bool a, .slice Aa1 la1.length ca1, .slice Aa2 la2.length ca2]) (t := 28) ?hr ?_; (case hd => rfl); (case hg => rfl); (case hr => first | (go_simp; done) | (go_simp; rfl)); intro gK hg1 w1 hx1 hb1; have nS : Aside0 (Sx w w1 [(.blk gK #[.bool a, .slice Aa1 la1.length ca1, .slice Aa2 la2.length ca2] 28)]) := Aside0.mk (HS.out.box hg1 hx1 hb1); clear HS; have HS := nS; clear nS hg1 hx1 hb1) | ((with_reducible refine gate_dst (N := 3) rfl ?_); refine box_event ?hg (N := 3) ?hd (cs := #[.bool b, .slice Ab1 lb1.length cb1, .slice Ab2 lb2.length cb2]) (t := 28) ?hr ?_; (case hd => rfl); (case hg => rfl); (case hr => first | (go_simp; done) | (go_simp; rfl)); intro gB hg2 w2 hx2 hb2; have nS : Aside0 (Sx w w2 [(.blk gB #[.bool b, .slice Ab1 lb1.length cb1, .slice Ab2 lb2.length cb2] 28), (.blk gK #[.bool a, .slice Aa1 la1.length ca1, .slice Aa2 la2.length ca2] 28)]) := Aside0.mk (HS.out.box hg2 hx2 hb2); clear HS; have HS := nS; clear nS hg2 hx2 hb2) | ((with_reducible refine gate_dst (N := 4) rfl ?_); refine box_event ?hg (N := 4) ?hd (cs := #[.bool false, .slice none 0 0, .slice none 0 0]) (t := 28) ?hr ?_; (case hd => rfl); (case hg => rfl); (case hr => first | (go_simp; done) | (go_simp; rfl)); intro gR hg3 w3 hx3 hb3; have nS : Aside0 (Sx w w3 [(.blk gR #[.bool false, .slice none 0 0, .slice none 0 0] 28), (.blk gB #[.bool b, .slice Ab1 lb1.length cb1, .slice Ab2 lb2.length cb2] 28), (.blk gK #[.bool a, .slice Aa1 la1.length ca1, .slice Aa2 la2.length ca2] 28)]) := Aside0.mk (HS.out.box hg3 hx3 hb3); clear HS; have HS := nS; clear nS hg3 hx3 hb3) | ((with_reducible refine gate_dst (N := 17) rfl ?_); refine wpList_load_row rfl 28 (.tmp 2) rfl gK rfl 28 #[.bool a, .slice Aa1 la1.length ca1, .slice Aa2 la2.length ca2] (0, 0) _ (HS.out.blk 2 rfl) Try.underlying28 rfl (by kernel_rfl) ?_) | ((with_reducible refine gate_dst (N := 18) rfl ?_); refine wpList_load_row rfl 28 (.tmp 3) rfl gB rfl 28 #[.bool b, .slice Ab1 lb1.length cb1, .slice Ab2 lb2.length cb2] (0, 0) _ (HS.out.blk 1 rfl) Try.underlying28 rfl (by kernel_rfl) ?_) | ((with_reducible refine gate_dst (N := 19) rfl ?_); refine lit_event ?hg (N := 19) ?hd (cs := #[.bool a, .slice Aa1 la1.length ca1, .slice Aa2 la2.length ca2, .bool b, .slice Ab1 lb1.length cb1, .slice Ab2 lb2.length cb2]) (t := 28) (n := 2) ?hr ?_; (case hd => rfl); (case hg => rfl); (case hr => first | (go_simp; done) | (go_simp; rfl)); intro gV hg4 w4 hx4 hb4; have nS : Aside0 (Sx w w4 [(.blk gV #[.bool a, .slice Aa1 la1.length ca1, .slice Aa2 la2.length ca2, .bool b, .slice Ab1 lb1.length cb1, .slice Ab2 lb2.length cb2] 28), (.blk gR #[.bool false, .slice none 0 0, .slice none 0 0] 28), (.blk gB #[.bool b, .slice Ab1 lb1.length cb1, .slice Ab2 lb2.length cb2] 28), (.blk gK #[.bool a, .slice Aa1 la1.length ca1, .slice Aa2 la2.length ca2] 28)]) := Aside0.mk (HS.out.box hg4 hx4 hb4); clear HS; have HS := nS; clear nS hg4 hx4 hb4) | (go_at_call 58; refine (impl_valid.calls k0 _ 2 [⟨a, la1, la2⟩, ⟨b, lb1, lb2⟩] v _ (pair_C (HS.out.blk 0 rfl) (Kd.C_below Ha1.out HS.out.below) Ka1.out (Kd.C_below Ha2.out HS.out.below) Ka2.out (Kd.C_below Hb1.out HS.out.below) Kb1.out (Kd.C_below Hb2.out HS.out.below) Kb2.out) (Nat.le_refl _) HV.out).mono ?_; rintro e w5 ⟨rfl, hb5⟩; have nS : Aside0 (Sx w w5 [(.blk gV #[.bool a, .slice Aa1 la1.length ca1, .slice Aa2 la2.length ca2, .bool b, .slice Ab1 lb1.length cb1, .slice Ab2 lb2.length cb2] 28), (.blk gR #[.bool false, .slice none 0 0, .slice none 0 0] 28), (.blk gB #[.bool b, .slice Ab1 lb1.length cb1, .slice Ab2 lb2.length cb2] 28), (.blk gK #[.bool a, .slice Aa1 la1.length ca1, .slice Aa2 la2.length ca2] 28)]) := Aside0.mk (HS.out.step hb5); clear HS; have HS := nS; clear nS hb5) | ((with_reducible refine gate_store rfl ?_); refine store_named rfl 28 (.tmp 4) (.tmp 23) rfl gR #[.bool false, .slice none 0 0, .slice none 0 0] rfl rfl 28 #[.bool false, .slice none 0 0, .slice none 0 0] (HS.out.blk 1 rfl) (by kernel_rfl) rfl (by simp [Value.oneCell']) ?_; intro w6 hx6 hb6; have nS : Aside0 (Sx w w6 [(.blk gV #[.bool a, .slice Aa1 la1.length ca1, .slice Aa2 la2.length ca2, .bool b, .slice Ab1 lb1.length cb1, .slice Ab2 lb2.length cb2] 28), (.blk gR #[.bool false, .slice none 0 0, .slice none 0 0] 28), (.blk gB #[.bool b, .slice Ab1 lb1.length cb1, .slice Ab2 lb2.length cb2] 28), (.blk gK #[.bool a, .slice Aa1 la1.length ca1, .slice Aa2 la2.length ca2] 28)]) := Aside0.mk (HS.out.put 1 rfl hx6 hb6); clear HS; have HS := nS; clear nS hx6 hb6))
  refine bodyPost_ret (results_ct rfl _ _ gR 28 #[.bool false, .slice none 0 0, .slice none 0 0] (0, 0) _ rfl (HS.out.blk 1 rfl) Try.underlying28 rfl (by kernel_rfl)) rfl ?_
  exact ⟨_, _, rfl, Kd.R_nil _ _ _ _ _, Kd.R_nil _ _ _ _ _, HS.out.below⟩
set_option maxHeartbeats 2000000 in
set_option maxRecDepth 100000 in
theorem encode_list (k0 : Nat) (a : Bool) (Aa1 : Option Addr) (ca1 : Nat) (la1 : List Int) (Aa2 : Option Addr) (ca2 : Nat) (la2 : List Int) (b : Bool) (Ab1 : Option Addr) (cb1 : Nat) (lb1 : List Int) (Ab2 : Option Addr) (cb2 : Nat) (lb2 : List Int) (w : World) (ha1 : Kd.C (Kd.int .i64) w Aa1 la1.length la1) (ka1 : la1.length ≤ ca1) (ha2 : Kd.C (Kd.int .i64) w Aa2 la2.length la2) (ka2 : la2.length ≤ ca2) (hb1 : Kd.C (Kd.int .i64) w Ab1 lb1.length lb1) (kb1 : lb1.length ≤ cb1) (hb2 : Kd.C (Kd.int .i64) w Ab2 lb2.length lb2) (kb2 : lb2.length ≤ cb2) (v : Int) (hv : impl_valid.f k0 [⟨a, la1, la2⟩, ⟨b, lb1, lb2⟩] = some 0) (hlo : impl_listOk.f a la1 la2 = some v) (hv0 : v ≠ 0) :
    Calls Try.prog 50 #[.agg #[.bool a, .slice Aa1 la1.length ca1, .slice Aa2 la2.length ca2], .agg #[.bool b, .slice Ab1 lb1.length cb1, .slice Ab2 lb2.length cb2]] w fun e w' => ∃ v1_ v2_ : Value, e = .returned (.tuple #[.agg #[.bool false, v1_, v2_], .int .i64 v]) ∧ Kd.R (Kd.int .i64) 3 w' w.heap.size (fun k_ => some k_ ≠ (v2_ : Value).ownBlock) v1_ [] ∧ Kd.R (Kd.int .i64) 3 w' w.heap.size (fun k_ => some k_ ≠ (v1_ : Value).ownBlock) v2_ [] ∧ Below w.heap.size w w' := by
  have Ha1 := Aside0.mk ha1
  have Ka1 := Aside0.mk ka1
  clear ha1 ka1
  have Ha2 := Aside0.mk ha2
  have Ka2 := Aside0.mk ka2
  clear ha2 ka2
  have Hb1 := Aside0.mk hb1
  have Kb1 := Aside0.mk kb1
  clear hb1 kb1
  have Hb2 := Aside0.mk hb2
  have Kb2 := Aside0.mk kb2
  clear hb2 kb2
  have HV := Aside0.mk hv
  clear hv
  have HLO := Aside0.mk hlo
  clear hlo
  have c0 : (v == 0) = false := beq_eq_false_iff_ne.mpr hv0
  have c1 : (v != 0) = true := bne_iff_ne.mpr hv0
  clear hv0
  have HS := Aside0.mk (Sx.start w)
  go_enter Try.func50, Try.ntmps50
  go_wp2_with (first | ((with_reducible refine gate_dst (N := 2) rfl ?_); refine box_event ?hg (N := 2) ?hd (cs := #[.bool a, .slice Aa1 la1.length ca1, .slice Aa2 la2.length ca2]) (t := 28) ?hr ?_; (case hd => rfl); (case hg => rfl); (case hr => first | (go_simp; done) | (go_simp; rfl)); intro gK hg1 w1 hx1 hb1; have nS : Aside0 (Sx w w1 [(.blk gK #[.bool a, .slice Aa1 la1.length ca1, .slice Aa2 la2.length ca2] 28)]) := Aside0.mk (HS.out.box hg1 hx1 hb1); clear HS; have HS := nS; clear nS hg1 hx1 hb1) | ((with_reducible refine gate_dst (N := 3) rfl ?_); refine box_event ?hg (N := 3) ?hd (cs := #[.bool b, .slice Ab1 lb1.length cb1, .slice Ab2 lb2.length cb2]) (t := 28) ?hr ?_; (case hd => rfl); (case hg => rfl); (case hr => first | (go_simp; done) | (go_simp; rfl)); intro gB hg2 w2 hx2 hb2; have nS : Aside0 (Sx w w2 [(.blk gB #[.bool b, .slice Ab1 lb1.length cb1, .slice Ab2 lb2.length cb2] 28), (.blk gK #[.bool a, .slice Aa1 la1.length ca1, .slice Aa2 la2.length ca2] 28)]) := Aside0.mk (HS.out.box hg2 hx2 hb2); clear HS; have HS := nS; clear nS hg2 hx2 hb2) | ((with_reducible refine gate_dst (N := 4) rfl ?_); refine box_event ?hg (N := 4) ?hd (cs := #[.bool false, .slice none 0 0, .slice none 0 0]) (t := 28) ?hr ?_; (case hd => rfl); (case hg => rfl); (case hr => first | (go_simp; done) | (go_simp; rfl)); intro gR hg3 w3 hx3 hb3; have nS : Aside0 (Sx w w3 [(.blk gR #[.bool false, .slice none 0 0, .slice none 0 0] 28), (.blk gB #[.bool b, .slice Ab1 lb1.length cb1, .slice Ab2 lb2.length cb2] 28), (.blk gK #[.bool a, .slice Aa1 la1.length ca1, .slice Aa2 la2.length ca2] 28)]) := Aside0.mk (HS.out.box hg3 hx3 hb3); clear HS; have HS := nS; clear nS hg3 hx3 hb3) | ((with_reducible refine gate_dst (N := 17) rfl ?_); refine wpList_load_row rfl 28 (.tmp 2) rfl gK rfl 28 #[.bool a, .slice Aa1 la1.length ca1, .slice Aa2 la2.length ca2] (0, 0) _ (HS.out.blk 2 rfl) Try.underlying28 rfl (by kernel_rfl) ?_) | ((with_reducible refine gate_dst (N := 18) rfl ?_); refine wpList_load_row rfl 28 (.tmp 3) rfl gB rfl 28 #[.bool b, .slice Ab1 lb1.length cb1, .slice Ab2 lb2.length cb2] (0, 0) _ (HS.out.blk 1 rfl) Try.underlying28 rfl (by kernel_rfl) ?_) | ((with_reducible refine gate_dst (N := 19) rfl ?_); refine lit_event ?hg (N := 19) ?hd (cs := #[.bool a, .slice Aa1 la1.length ca1, .slice Aa2 la2.length ca2, .bool b, .slice Ab1 lb1.length cb1, .slice Ab2 lb2.length cb2]) (t := 28) (n := 2) ?hr ?_; (case hd => rfl); (case hg => rfl); (case hr => first | (go_simp; done) | (go_simp; rfl)); intro gV hg4 w4 hx4 hb4; have nS : Aside0 (Sx w w4 [(.blk gV #[.bool a, .slice Aa1 la1.length ca1, .slice Aa2 la2.length ca2, .bool b, .slice Ab1 lb1.length cb1, .slice Ab2 lb2.length cb2] 28), (.blk gR #[.bool false, .slice none 0 0, .slice none 0 0] 28), (.blk gB #[.bool b, .slice Ab1 lb1.length cb1, .slice Ab2 lb2.length cb2] 28), (.blk gK #[.bool a, .slice Aa1 la1.length ca1, .slice Aa2 la2.length ca2] 28)]) := Aside0.mk (HS.out.box hg4 hx4 hb4); clear HS; have HS := nS; clear nS hg4 hx4 hb4) | (go_at_call 58; refine (impl_valid.calls k0 _ 2 [⟨a, la1, la2⟩, ⟨b, lb1, lb2⟩] 0 _ (pair_C (HS.out.blk 0 rfl) (Kd.C_below Ha1.out HS.out.below) Ka1.out (Kd.C_below Ha2.out HS.out.below) Ka2.out (Kd.C_below Hb1.out HS.out.below) Kb1.out (Kd.C_below Hb2.out HS.out.below) Kb2.out) (Nat.le_refl _) HV.out).mono ?_; rintro e w5 ⟨rfl, hb5⟩; have nS : Aside0 (Sx w w5 [(.blk gV #[.bool a, .slice Aa1 la1.length ca1, .slice Aa2 la2.length ca2, .bool b, .slice Ab1 lb1.length cb1, .slice Ab2 lb2.length cb2] 28), (.blk gR #[.bool false, .slice none 0 0, .slice none 0 0] 28), (.blk gB #[.bool b, .slice Ab1 lb1.length cb1, .slice Ab2 lb2.length cb2] 28), (.blk gK #[.bool a, .slice Aa1 la1.length ca1, .slice Aa2 la2.length ca2] 28)]) := Aside0.mk (HS.out.step hb5); clear HS; have HS := nS; clear nS hb5) | ((with_reducible refine gate_dst (N := 25) rfl ?_); refine wpList_load_row rfl 28 (.tmp 2) rfl gK rfl 28 #[.bool a, .slice Aa1 la1.length ca1, .slice Aa2 la2.length ca2] (0, 0) _ (HS.out.blk 3 rfl) Try.underlying28 rfl (by kernel_rfl) ?_) | (go_at_call 99; refine (impl_listOk.calls a Aa1 ca1 la1 Aa2 ca2 la2 v _ (Kd.C_below Ha1.out HS.out.below) Ka1.out (Kd.C_below Ha2.out HS.out.below) Ka2.out HLO.out).mono ?_; rintro e w6 ⟨rfl, hb6⟩; have nS : Aside0 (Sx w w6 [(.blk gV #[.bool a, .slice Aa1 la1.length ca1, .slice Aa2 la2.length ca2, .bool b, .slice Ab1 lb1.length cb1, .slice Ab2 lb2.length cb2] 28), (.blk gR #[.bool false, .slice none 0 0, .slice none 0 0] 28), (.blk gB #[.bool b, .slice Ab1 lb1.length cb1, .slice Ab2 lb2.length cb2] 28), (.blk gK #[.bool a, .slice Aa1 la1.length ca1, .slice Aa2 la2.length ca2] 28)]) := Aside0.mk (HS.out.step hb6); clear HS; have HS := nS; clear nS hb6) | ((with_reducible refine gate_store rfl ?_); refine store_named rfl 28 (.tmp 4) (.tmp 29) rfl gR #[.bool false, .slice none 0 0, .slice none 0 0] rfl rfl 28 #[.bool false, .slice none 0 0, .slice none 0 0] (HS.out.blk 1 rfl) (by kernel_rfl) rfl (by simp [Value.oneCell']) ?_; intro w7 hx7 hb7; have nS : Aside0 (Sx w w7 [(.blk gV #[.bool a, .slice Aa1 la1.length ca1, .slice Aa2 la2.length ca2, .bool b, .slice Ab1 lb1.length cb1, .slice Ab2 lb2.length cb2] 28), (.blk gR #[.bool false, .slice none 0 0, .slice none 0 0] 28), (.blk gB #[.bool b, .slice Ab1 lb1.length cb1, .slice Ab2 lb2.length cb2] 28), (.blk gK #[.bool a, .slice Aa1 la1.length ca1, .slice Aa2 la2.length ca2] 28)]) := Aside0.mk (HS.out.put 1 rfl hx7 hb7); clear HS; have HS := nS; clear nS hx7 hb7))
  refine bodyPost_ret (results_ct rfl _ _ gR 28 #[.bool false, .slice none 0 0, .slice none 0 0] (0, 0) _ rfl (HS.out.blk 1 rfl) Try.underlying28 rfl (by kernel_rfl)) rfl ?_
  exact ⟨_, _, rfl, Kd.R_nil _ _ _ _ _, Kd.R_nil _ _ _ _ _, HS.out.below⟩
set_option maxHeartbeats 2000000 in
set_option maxRecDepth 100000 in
theorem encode_neg (k0 : Nat) (a : Bool) (Aa1 : Option Addr) (ca1 : Nat) (la1 : List Int) (Aa2 : Option Addr) (ca2 : Nat) (la2 : List Int) (b : Bool) (Ab1 : Option Addr) (cb1 : Nat) (lb1 : List Int) (Ab2 : Option Addr) (cb2 : Nat) (lb2 : List Int) (w : World) (ha1 : Kd.C (Kd.int .i64) w Aa1 la1.length la1) (ka1 : la1.length ≤ ca1) (ha2 : Kd.C (Kd.int .i64) w Aa2 la2.length la2) (ka2 : la2.length ≤ ca2) (hb1 : Kd.C (Kd.int .i64) w Ab1 lb1.length lb1) (kb1 : lb1.length ≤ cb1) (hb2 : Kd.C (Kd.int .i64) w Ab2 lb2.length lb2) (kb2 : lb2.length ≤ cb2) (hv : impl_valid.f k0 [⟨a, la1, la2⟩, ⟨b, lb1, lb2⟩] = some 0) (hlo : impl_listOk.f a la1 la2 = some 0) (hn2 : la2.length ≤ 10000) (hng : negs la2 = true)  :
    Calls Try.prog 50 #[.agg #[.bool a, .slice Aa1 la1.length ca1, .slice Aa2 la2.length ca2], .agg #[.bool b, .slice Ab1 lb1.length cb1, .slice Ab2 lb2.length cb2]] w fun e w' => ∃ v1_ v2_ : Value, e = .returned (.tuple #[.agg #[.bool false, v1_, v2_], .int .i64 3]) ∧ Kd.R (Kd.int .i64) 3 w' w.heap.size (fun k_ => some k_ ≠ (v2_ : Value).ownBlock) v1_ [] ∧ Kd.R (Kd.int .i64) 3 w' w.heap.size (fun k_ => some k_ ≠ (v1_ : Value).ownBlock) v2_ [] ∧ Below w.heap.size w w' := by
  have Ha1 := Aside0.mk ha1
  have Ka1 := Aside0.mk ka1
  clear ha1 ka1
  have Ha2 := Aside0.mk ha2
  have Ka2 := Aside0.mk ka2
  clear ha2 ka2
  have Hb1 := Aside0.mk hb1
  have Kb1 := Aside0.mk kb1
  clear hb1 kb1
  have Hb2 := Aside0.mk hb2
  have Kb2 := Aside0.mk kb2
  clear hb2 kb2
  have HV := Aside0.mk hv
  clear hv
  have HLO := Aside0.mk hlo
  clear hlo
  have HNG := Aside0.mk hng
  clear hng
  have HS := Aside0.mk (Sx.start w)
  go_enter Try.func50, Try.ntmps50
  go_wp2_with (first | ((with_reducible refine gate_dst (N := 2) rfl ?_); refine box_event ?hg (N := 2) ?hd (cs := #[.bool a, .slice Aa1 la1.length ca1, .slice Aa2 la2.length ca2]) (t := 28) ?hr ?_; (case hd => rfl); (case hg => rfl); (case hr => first | (go_simp; done) | (go_simp; rfl)); intro gK hg1 w1 hx1 hb1; have nS : Aside0 (Sx w w1 [(.blk gK #[.bool a, .slice Aa1 la1.length ca1, .slice Aa2 la2.length ca2] 28)]) := Aside0.mk (HS.out.box hg1 hx1 hb1); clear HS; have HS := nS; clear nS hg1 hx1 hb1) | ((with_reducible refine gate_dst (N := 3) rfl ?_); refine box_event ?hg (N := 3) ?hd (cs := #[.bool b, .slice Ab1 lb1.length cb1, .slice Ab2 lb2.length cb2]) (t := 28) ?hr ?_; (case hd => rfl); (case hg => rfl); (case hr => first | (go_simp; done) | (go_simp; rfl)); intro gB hg2 w2 hx2 hb2; have nS : Aside0 (Sx w w2 [(.blk gB #[.bool b, .slice Ab1 lb1.length cb1, .slice Ab2 lb2.length cb2] 28), (.blk gK #[.bool a, .slice Aa1 la1.length ca1, .slice Aa2 la2.length ca2] 28)]) := Aside0.mk (HS.out.box hg2 hx2 hb2); clear HS; have HS := nS; clear nS hg2 hx2 hb2) | ((with_reducible refine gate_dst (N := 4) rfl ?_); refine box_event ?hg (N := 4) ?hd (cs := #[.bool false, .slice none 0 0, .slice none 0 0]) (t := 28) ?hr ?_; (case hd => rfl); (case hg => rfl); (case hr => first | (go_simp; done) | (go_simp; rfl)); intro gR hg3 w3 hx3 hb3; have nS : Aside0 (Sx w w3 [(.blk gR #[.bool false, .slice none 0 0, .slice none 0 0] 28), (.blk gB #[.bool b, .slice Ab1 lb1.length cb1, .slice Ab2 lb2.length cb2] 28), (.blk gK #[.bool a, .slice Aa1 la1.length ca1, .slice Aa2 la2.length ca2] 28)]) := Aside0.mk (HS.out.box hg3 hx3 hb3); clear HS; have HS := nS; clear nS hg3 hx3 hb3) | ((with_reducible refine gate_dst (N := 17) rfl ?_); refine wpList_load_row rfl 28 (.tmp 2) rfl gK rfl 28 #[.bool a, .slice Aa1 la1.length ca1, .slice Aa2 la2.length ca2] (0, 0) _ (HS.out.blk 2 rfl) Try.underlying28 rfl (by kernel_rfl) ?_) | ((with_reducible refine gate_dst (N := 18) rfl ?_); refine wpList_load_row rfl 28 (.tmp 3) rfl gB rfl 28 #[.bool b, .slice Ab1 lb1.length cb1, .slice Ab2 lb2.length cb2] (0, 0) _ (HS.out.blk 1 rfl) Try.underlying28 rfl (by kernel_rfl) ?_) | ((with_reducible refine gate_dst (N := 19) rfl ?_); refine lit_event ?hg (N := 19) ?hd (cs := #[.bool a, .slice Aa1 la1.length ca1, .slice Aa2 la2.length ca2, .bool b, .slice Ab1 lb1.length cb1, .slice Ab2 lb2.length cb2]) (t := 28) (n := 2) ?hr ?_; (case hd => rfl); (case hg => rfl); (case hr => first | (go_simp; done) | (go_simp; rfl)); intro gV hg4 w4 hx4 hb4; have nS : Aside0 (Sx w w4 [(.blk gV #[.bool a, .slice Aa1 la1.length ca1, .slice Aa2 la2.length ca2, .bool b, .slice Ab1 lb1.length cb1, .slice Ab2 lb2.length cb2] 28), (.blk gR #[.bool false, .slice none 0 0, .slice none 0 0] 28), (.blk gB #[.bool b, .slice Ab1 lb1.length cb1, .slice Ab2 lb2.length cb2] 28), (.blk gK #[.bool a, .slice Aa1 la1.length ca1, .slice Aa2 la2.length ca2] 28)]) := Aside0.mk (HS.out.box hg4 hx4 hb4); clear HS; have HS := nS; clear nS hg4 hx4 hb4) | (go_at_call 58; refine (impl_valid.calls k0 _ 2 [⟨a, la1, la2⟩, ⟨b, lb1, lb2⟩] 0 _ (pair_C (HS.out.blk 0 rfl) (Kd.C_below Ha1.out HS.out.below) Ka1.out (Kd.C_below Ha2.out HS.out.below) Ka2.out (Kd.C_below Hb1.out HS.out.below) Kb1.out (Kd.C_below Hb2.out HS.out.below) Kb2.out) (Nat.le_refl _) HV.out).mono ?_; rintro e w5 ⟨rfl, hb5⟩; have nS : Aside0 (Sx w w5 [(.blk gV #[.bool a, .slice Aa1 la1.length ca1, .slice Aa2 la2.length ca2, .bool b, .slice Ab1 lb1.length cb1, .slice Ab2 lb2.length cb2] 28), (.blk gR #[.bool false, .slice none 0 0, .slice none 0 0] 28), (.blk gB #[.bool b, .slice Ab1 lb1.length cb1, .slice Ab2 lb2.length cb2] 28), (.blk gK #[.bool a, .slice Aa1 la1.length ca1, .slice Aa2 la2.length ca2] 28)]) := Aside0.mk (HS.out.step hb5); clear HS; have HS := nS; clear nS hb5) | ((with_reducible refine gate_dst (N := 25) rfl ?_); refine wpList_load_row rfl 28 (.tmp 2) rfl gK rfl 28 #[.bool a, .slice Aa1 la1.length ca1, .slice Aa2 la2.length ca2] (0, 0) _ (HS.out.blk 3 rfl) Try.underlying28 rfl (by kernel_rfl) ?_) | (go_at_call 99; refine (impl_listOk.calls a Aa1 ca1 la1 Aa2 ca2 la2 0 _ (Kd.C_below Ha1.out HS.out.below) Ka1.out (Kd.C_below Ha2.out HS.out.below) Ka2.out HLO.out).mono ?_; rintro e w6 ⟨rfl, hb6⟩; have nS : Aside0 (Sx w w6 [(.blk gV #[.bool a, .slice Aa1 la1.length ca1, .slice Aa2 la2.length ca2, .bool b, .slice Ab1 lb1.length cb1, .slice Ab2 lb2.length cb2] 28), (.blk gR #[.bool false, .slice none 0 0, .slice none 0 0] 28), (.blk gB #[.bool b, .slice Ab1 lb1.length cb1, .slice Ab2 lb2.length cb2] 28), (.blk gK #[.bool a, .slice Aa1 la1.length ca1, .slice Aa2 la2.length ca2] 28)]) := Aside0.mk (HS.out.step hb6); clear HS; have HS := nS; clear nS hb6) | ((with_reducible refine gate_dst (N := 32) rfl ?_); refine ev_load rfl 22 (.tmp 31) rfl ⟨gK, 2, none⟩ rfl (.slice Aa2 la2.length ca2) ((blk_cell (HS.out.blk 3 rfl) 2).trans rfl) (by kernel_rfl) ?_) | (go_at_call 111; refine (contains_neg Aa2 ca2 la2 true _ (Kd.C_below Ha2.out HS.out.below) hn2 HNG.out).mono ?_; rintro e w7 ⟨rfl, hb7⟩; have nS : Aside0 (Sx w w7 [(.blk gV #[.bool a, .slice Aa1 la1.length ca1, .slice Aa2 la2.length ca2, .bool b, .slice Ab1 lb1.length cb1, .slice Ab2 lb2.length cb2] 28), (.blk gR #[.bool false, .slice none 0 0, .slice none 0 0] 28), (.blk gB #[.bool b, .slice Ab1 lb1.length cb1, .slice Ab2 lb2.length cb2] 28), (.blk gK #[.bool a, .slice Aa1 la1.length ca1, .slice Aa2 la2.length ca2] 28)]) := Aside0.mk (HS.out.step hb7); clear HS; have HS := nS; clear nS hb7) | ((with_reducible refine gate_store rfl ?_); refine store_named rfl 28 (.tmp 4) (.tmp 38) rfl gR #[.bool false, .slice none 0 0, .slice none 0 0] rfl rfl 28 #[.bool false, .slice none 0 0, .slice none 0 0] (HS.out.blk 1 rfl) (by kernel_rfl) rfl (by simp [Value.oneCell']) ?_; intro w8 hx8 hb8; have nS : Aside0 (Sx w w8 [(.blk gV #[.bool a, .slice Aa1 la1.length ca1, .slice Aa2 la2.length ca2, .bool b, .slice Ab1 lb1.length cb1, .slice Ab2 lb2.length cb2] 28), (.blk gR #[.bool false, .slice none 0 0, .slice none 0 0] 28), (.blk gB #[.bool b, .slice Ab1 lb1.length cb1, .slice Ab2 lb2.length cb2] 28), (.blk gK #[.bool a, .slice Aa1 la1.length ca1, .slice Aa2 la2.length ca2] 28)]) := Aside0.mk (HS.out.put 1 rfl hx8 hb8); clear HS; have HS := nS; clear nS hx8 hb8))
  refine bodyPost_ret (results_ct rfl _ _ gR 28 #[.bool false, .slice none 0 0, .slice none 0 0] (0, 0) _ rfl (HS.out.blk 1 rfl) Try.underlying28 rfl (by kernel_rfl)) rfl ?_
  exact ⟨_, _, rfl, Kd.R_nil _ _ _ _ _, Kd.R_nil _ _ _ _ _, HS.out.below⟩
set_option maxHeartbeats 2000000 in
set_option maxRecDepth 100000 in
theorem encode_char (k0 : Nat) (a : Bool) (Aa1 : Option Addr) (ca1 : Nat) (la1 : List Int) (Aa2 : Option Addr) (ca2 : Nat) (la2 : List Int) (b : Bool) (Ab1 : Option Addr) (cb1 : Nat) (lb1 : List Int) (Ab2 : Option Addr) (cb2 : Nat) (lb2 : List Int) (w : World) (ha1 : Kd.C (Kd.int .i64) w Aa1 la1.length la1) (ka1 : la1.length ≤ ca1) (ha2 : Kd.C (Kd.int .i64) w Aa2 la2.length la2) (ka2 : la2.length ≤ ca2) (hb1 : Kd.C (Kd.int .i64) w Ab1 lb1.length lb1) (kb1 : lb1.length ≤ cb1) (hb2 : Kd.C (Kd.int .i64) w Ab2 lb2.length lb2) (kb2 : lb2.length ≤ cb2) (hv : impl_valid.f k0 [⟨a, la1, la2⟩, ⟨b, lb1, lb2⟩] = some 0) (hlo : impl_listOk.f a la1 la2 = some 0) (hn2 : la2.length ≤ 10000) (hng : negs la2 = false) (hb : b = true) :
    Calls Try.prog 50 #[.agg #[.bool a, .slice Aa1 la1.length ca1, .slice Aa2 la2.length ca2], .agg #[.bool b, .slice Ab1 lb1.length cb1, .slice Ab2 lb2.length cb2]] w fun e w' => ∃ v1_ v2_ : Value, e = .returned (.tuple #[.agg #[.bool false, v1_, v2_], .int .i64 3]) ∧ Kd.R (Kd.int .i64) 3 w' w.heap.size (fun k_ => some k_ ≠ (v2_ : Value).ownBlock) v1_ [] ∧ Kd.R (Kd.int .i64) 3 w' w.heap.size (fun k_ => some k_ ≠ (v1_ : Value).ownBlock) v2_ [] ∧ Below w.heap.size w w' := by
  have Ha1 := Aside0.mk ha1
  have Ka1 := Aside0.mk ka1
  clear ha1 ka1
  have Ha2 := Aside0.mk ha2
  have Ka2 := Aside0.mk ka2
  clear ha2 ka2
  have Hb1 := Aside0.mk hb1
  have Kb1 := Aside0.mk kb1
  clear hb1 kb1
  have Hb2 := Aside0.mk hb2
  have Kb2 := Aside0.mk kb2
  clear hb2 kb2
  subst hb
  have HV := Aside0.mk hv
  clear hv
  have HLO := Aside0.mk hlo
  clear hlo
  have HNG := Aside0.mk hng
  clear hng
  have HS := Aside0.mk (Sx.start w)
  go_enter Try.func50, Try.ntmps50
  go_wp2_with (first | ((with_reducible refine gate_dst (N := 2) rfl ?_); refine box_event ?hg (N := 2) ?hd (cs := #[.bool a, .slice Aa1 la1.length ca1, .slice Aa2 la2.length ca2]) (t := 28) ?hr ?_; (case hd => rfl); (case hg => rfl); (case hr => first | (go_simp; done) | (go_simp; rfl)); intro gK hg1 w1 hx1 hb1; have nS : Aside0 (Sx w w1 [(.blk gK #[.bool a, .slice Aa1 la1.length ca1, .slice Aa2 la2.length ca2] 28)]) := Aside0.mk (HS.out.box hg1 hx1 hb1); clear HS; have HS := nS; clear nS hg1 hx1 hb1) | ((with_reducible refine gate_dst (N := 3) rfl ?_); refine box_event ?hg (N := 3) ?hd (cs := #[.bool true, .slice Ab1 lb1.length cb1, .slice Ab2 lb2.length cb2]) (t := 28) ?hr ?_; (case hd => rfl); (case hg => rfl); (case hr => first | (go_simp; done) | (go_simp; rfl)); intro gB hg2 w2 hx2 hb2; have nS : Aside0 (Sx w w2 [(.blk gB #[.bool true, .slice Ab1 lb1.length cb1, .slice Ab2 lb2.length cb2] 28), (.blk gK #[.bool a, .slice Aa1 la1.length ca1, .slice Aa2 la2.length ca2] 28)]) := Aside0.mk (HS.out.box hg2 hx2 hb2); clear HS; have HS := nS; clear nS hg2 hx2 hb2) | ((with_reducible refine gate_dst (N := 4) rfl ?_); refine box_event ?hg (N := 4) ?hd (cs := #[.bool false, .slice none 0 0, .slice none 0 0]) (t := 28) ?hr ?_; (case hd => rfl); (case hg => rfl); (case hr => first | (go_simp; done) | (go_simp; rfl)); intro gR hg3 w3 hx3 hb3; have nS : Aside0 (Sx w w3 [(.blk gR #[.bool false, .slice none 0 0, .slice none 0 0] 28), (.blk gB #[.bool true, .slice Ab1 lb1.length cb1, .slice Ab2 lb2.length cb2] 28), (.blk gK #[.bool a, .slice Aa1 la1.length ca1, .slice Aa2 la2.length ca2] 28)]) := Aside0.mk (HS.out.box hg3 hx3 hb3); clear HS; have HS := nS; clear nS hg3 hx3 hb3) | ((with_reducible refine gate_dst (N := 17) rfl ?_); refine wpList_load_row rfl 28 (.tmp 2) rfl gK rfl 28 #[.bool a, .slice Aa1 la1.length ca1, .slice Aa2 la2.length ca2] (0, 0) _ (HS.out.blk 2 rfl) Try.underlying28 rfl (by kernel_rfl) ?_) | ((with_reducible refine gate_dst (N := 18) rfl ?_); refine wpList_load_row rfl 28 (.tmp 3) rfl gB rfl 28 #[.bool true, .slice Ab1 lb1.length cb1, .slice Ab2 lb2.length cb2] (0, 0) _ (HS.out.blk 1 rfl) Try.underlying28 rfl (by kernel_rfl) ?_) | ((with_reducible refine gate_dst (N := 19) rfl ?_); refine lit_event ?hg (N := 19) ?hd (cs := #[.bool a, .slice Aa1 la1.length ca1, .slice Aa2 la2.length ca2, .bool true, .slice Ab1 lb1.length cb1, .slice Ab2 lb2.length cb2]) (t := 28) (n := 2) ?hr ?_; (case hd => rfl); (case hg => rfl); (case hr => first | (go_simp; done) | (go_simp; rfl)); intro gV hg4 w4 hx4 hb4; have nS : Aside0 (Sx w w4 [(.blk gV #[.bool a, .slice Aa1 la1.length ca1, .slice Aa2 la2.length ca2, .bool true, .slice Ab1 lb1.length cb1, .slice Ab2 lb2.length cb2] 28), (.blk gR #[.bool false, .slice none 0 0, .slice none 0 0] 28), (.blk gB #[.bool true, .slice Ab1 lb1.length cb1, .slice Ab2 lb2.length cb2] 28), (.blk gK #[.bool a, .slice Aa1 la1.length ca1, .slice Aa2 la2.length ca2] 28)]) := Aside0.mk (HS.out.box hg4 hx4 hb4); clear HS; have HS := nS; clear nS hg4 hx4 hb4) | (go_at_call 58; refine (impl_valid.calls k0 _ 2 [⟨a, la1, la2⟩, ⟨true, lb1, lb2⟩] 0 _ (pair_C (HS.out.blk 0 rfl) (Kd.C_below Ha1.out HS.out.below) Ka1.out (Kd.C_below Ha2.out HS.out.below) Ka2.out (Kd.C_below Hb1.out HS.out.below) Kb1.out (Kd.C_below Hb2.out HS.out.below) Kb2.out) (Nat.le_refl _) HV.out).mono ?_; rintro e w5 ⟨rfl, hb5⟩; have nS : Aside0 (Sx w w5 [(.blk gV #[.bool a, .slice Aa1 la1.length ca1, .slice Aa2 la2.length ca2, .bool true, .slice Ab1 lb1.length cb1, .slice Ab2 lb2.length cb2] 28), (.blk gR #[.bool false, .slice none 0 0, .slice none 0 0] 28), (.blk gB #[.bool true, .slice Ab1 lb1.length cb1, .slice Ab2 lb2.length cb2] 28), (.blk gK #[.bool a, .slice Aa1 la1.length ca1, .slice Aa2 la2.length ca2] 28)]) := Aside0.mk (HS.out.step hb5); clear HS; have HS := nS; clear nS hb5) | ((with_reducible refine gate_dst (N := 25) rfl ?_); refine wpList_load_row rfl 28 (.tmp 2) rfl gK rfl 28 #[.bool a, .slice Aa1 la1.length ca1, .slice Aa2 la2.length ca2] (0, 0) _ (HS.out.blk 3 rfl) Try.underlying28 rfl (by kernel_rfl) ?_) | (go_at_call 99; refine (impl_listOk.calls a Aa1 ca1 la1 Aa2 ca2 la2 0 _ (Kd.C_below Ha1.out HS.out.below) Ka1.out (Kd.C_below Ha2.out HS.out.below) Ka2.out HLO.out).mono ?_; rintro e w6 ⟨rfl, hb6⟩; have nS : Aside0 (Sx w w6 [(.blk gV #[.bool a, .slice Aa1 la1.length ca1, .slice Aa2 la2.length ca2, .bool true, .slice Ab1 lb1.length cb1, .slice Ab2 lb2.length cb2] 28), (.blk gR #[.bool false, .slice none 0 0, .slice none 0 0] 28), (.blk gB #[.bool true, .slice Ab1 lb1.length cb1, .slice Ab2 lb2.length cb2] 28), (.blk gK #[.bool a, .slice Aa1 la1.length ca1, .slice Aa2 la2.length ca2] 28)]) := Aside0.mk (HS.out.step hb6); clear HS; have HS := nS; clear nS hb6) | ((with_reducible refine gate_dst (N := 32) rfl ?_); refine ev_load rfl 22 (.tmp 31) rfl ⟨gK, 2, none⟩ rfl (.slice Aa2 la2.length ca2) ((blk_cell (HS.out.blk 3 rfl) 2).trans rfl) (by kernel_rfl) ?_) | (go_at_call 111; refine (contains_neg Aa2 ca2 la2 false _ (Kd.C_below Ha2.out HS.out.below) hn2 HNG.out).mono ?_; rintro e w7 ⟨rfl, hb7⟩; have nS : Aside0 (Sx w w7 [(.blk gV #[.bool a, .slice Aa1 la1.length ca1, .slice Aa2 la2.length ca2, .bool true, .slice Ab1 lb1.length cb1, .slice Ab2 lb2.length cb2] 28), (.blk gR #[.bool false, .slice none 0 0, .slice none 0 0] 28), (.blk gB #[.bool true, .slice Ab1 lb1.length cb1, .slice Ab2 lb2.length cb2] 28), (.blk gK #[.bool a, .slice Aa1 la1.length ca1, .slice Aa2 la2.length ca2] 28)]) := Aside0.mk (HS.out.step hb7); clear HS; have HS := nS; clear nS hb7) | ((with_reducible refine wpList_guarded ?hw ?_); (case hw => first | rfl | (go_simp; done))) | ((with_reducible refine gate_dst (N := 36) rfl ?_); refine ev_load rfl 4 (.tmp 35) rfl ⟨gB, 0, none⟩ rfl (.bool true) ((blk_cell (HS.out.blk 2 rfl) 0).trans rfl) (by kernel_rfl) ?_) | ((with_reducible refine gate_store rfl ?_); refine store_named rfl 28 (.tmp 4) (.tmp 38) rfl gR #[.bool false, .slice none 0 0, .slice none 0 0] rfl rfl 28 #[.bool false, .slice none 0 0, .slice none 0 0] (HS.out.blk 1 rfl) (by kernel_rfl) rfl (by simp [Value.oneCell']) ?_; intro w8 hx8 hb8; have nS : Aside0 (Sx w w8 [(.blk gV #[.bool a, .slice Aa1 la1.length ca1, .slice Aa2 la2.length ca2, .bool true, .slice Ab1 lb1.length cb1, .slice Ab2 lb2.length cb2] 28), (.blk gR #[.bool false, .slice none 0 0, .slice none 0 0] 28), (.blk gB #[.bool true, .slice Ab1 lb1.length cb1, .slice Ab2 lb2.length cb2] 28), (.blk gK #[.bool a, .slice Aa1 la1.length ca1, .slice Aa2 la2.length ca2] 28)]) := Aside0.mk (HS.out.put 1 rfl hx8 hb8); clear HS; have HS := nS; clear nS hx8 hb8))
  refine bodyPost_ret (results_ct rfl _ _ gR 28 #[.bool false, .slice none 0 0, .slice none 0 0] (0, 0) _ rfl (HS.out.blk 1 rfl) Try.underlying28 rfl (by kernel_rfl)) rfl ?_
  exact ⟨_, _, rfl, Kd.R_nil _ _ _ _ _, Kd.R_nil _ _ _ _ _, HS.out.below⟩
set_option maxHeartbeats 2000000 in
set_option maxRecDepth 100000 in
theorem encode_lim (k0 : Nat) (a : Bool) (Aa1 : Option Addr) (ca1 : Nat) (la1 : List Int) (Aa2 : Option Addr) (ca2 : Nat) (la2 : List Int) (b : Bool) (Ab1 : Option Addr) (cb1 : Nat) (lb1 : List Int) (Ab2 : Option Addr) (cb2 : Nat) (lb2 : List Int) (w : World) (ha1 : Kd.C (Kd.int .i64) w Aa1 la1.length la1) (ka1 : la1.length ≤ ca1) (ha2 : Kd.C (Kd.int .i64) w Aa2 la2.length la2) (ka2 : la2.length ≤ ca2) (hb1 : Kd.C (Kd.int .i64) w Ab1 lb1.length lb1) (kb1 : lb1.length ≤ cb1) (hb2 : Kd.C (Kd.int .i64) w Ab2 lb2.length lb2) (kb2 : lb2.length ≤ cb2) (hv : impl_valid.f k0 [⟨a, la1, la2⟩, ⟨b, lb1, lb2⟩] = some 0) (hlo : impl_listOk.f a la1 la2 = some 0) (hn2 : la2.length ≤ 10000) (hng : negs la2 = false) (b1 : la1.length ≤ 10000) (b2 : lb1.length ≤ 10000) (k1 : Nat) (hj : impl_shapeOk.f k1 (la1 ++ lb1) = some (0, false)) (hb : b = false)  :
    Calls Try.prog 50 #[.agg #[.bool a, .slice Aa1 la1.length ca1, .slice Aa2 la2.length ca2], .agg #[.bool b, .slice Ab1 lb1.length cb1, .slice Ab2 lb2.length cb2]] w fun e w' => ∃ v1_ v2_ : Value, e = .returned (.tuple #[.agg #[.bool false, v1_, v2_], .int .i64 7]) ∧ Kd.R (Kd.int .i64) 3 w' w.heap.size (fun k_ => some k_ ≠ (v2_ : Value).ownBlock) v1_ [] ∧ Kd.R (Kd.int .i64) 3 w' w.heap.size (fun k_ => some k_ ≠ (v1_ : Value).ownBlock) v2_ [] ∧ Below w.heap.size w w' := by
  have Ha1 := Aside0.mk ha1
  have Ka1 := Aside0.mk ka1
  clear ha1 ka1
  have Ha2 := Aside0.mk ha2
  have Ka2 := Aside0.mk ka2
  clear ha2 ka2
  have Hb1 := Aside0.mk hb1
  have Kb1 := Aside0.mk kb1
  clear hb1 kb1
  have Hb2 := Aside0.mk hb2
  have Kb2 := Aside0.mk kb2
  clear hb2 kb2
  subst hb
  have HJ := Aside0.mk hj
  clear hj
  have HV := Aside0.mk hv
  clear hv
  have HLO := Aside0.mk hlo
  clear hlo
  have HNG := Aside0.mk hng
  clear hng
  have HS := Aside0.mk (Sx.start w)
  go_enter Try.func50, Try.ntmps50
  go_wp2_with (first | ((with_reducible refine gate_dst (N := 2) rfl ?_); refine box_event ?hg (N := 2) ?hd (cs := #[.bool a, .slice Aa1 la1.length ca1, .slice Aa2 la2.length ca2]) (t := 28) ?hr ?_; (case hd => rfl); (case hg => rfl); (case hr => first | (go_simp; done) | (go_simp; rfl)); intro gK hg1 w1 hx1 hb1; have nS : Aside0 (Sx w w1 [(.blk gK #[.bool a, .slice Aa1 la1.length ca1, .slice Aa2 la2.length ca2] 28)]) := Aside0.mk (HS.out.box hg1 hx1 hb1); clear HS; have HS := nS; clear nS hg1 hx1 hb1) | ((with_reducible refine gate_dst (N := 3) rfl ?_); refine box_event ?hg (N := 3) ?hd (cs := #[.bool false, .slice Ab1 lb1.length cb1, .slice Ab2 lb2.length cb2]) (t := 28) ?hr ?_; (case hd => rfl); (case hg => rfl); (case hr => first | (go_simp; done) | (go_simp; rfl)); intro gB hg2 w2 hx2 hb2; have nS : Aside0 (Sx w w2 [(.blk gB #[.bool false, .slice Ab1 lb1.length cb1, .slice Ab2 lb2.length cb2] 28), (.blk gK #[.bool a, .slice Aa1 la1.length ca1, .slice Aa2 la2.length ca2] 28)]) := Aside0.mk (HS.out.box hg2 hx2 hb2); clear HS; have HS := nS; clear nS hg2 hx2 hb2) | ((with_reducible refine gate_dst (N := 4) rfl ?_); refine box_event ?hg (N := 4) ?hd (cs := #[.bool false, .slice none 0 0, .slice none 0 0]) (t := 28) ?hr ?_; (case hd => rfl); (case hg => rfl); (case hr => first | (go_simp; done) | (go_simp; rfl)); intro gR hg3 w3 hx3 hb3; have nS : Aside0 (Sx w w3 [(.blk gR #[.bool false, .slice none 0 0, .slice none 0 0] 28), (.blk gB #[.bool false, .slice Ab1 lb1.length cb1, .slice Ab2 lb2.length cb2] 28), (.blk gK #[.bool a, .slice Aa1 la1.length ca1, .slice Aa2 la2.length ca2] 28)]) := Aside0.mk (HS.out.box hg3 hx3 hb3); clear HS; have HS := nS; clear nS hg3 hx3 hb3) | ((with_reducible refine gate_dst (N := 17) rfl ?_); refine wpList_load_row rfl 28 (.tmp 2) rfl gK rfl 28 #[.bool a, .slice Aa1 la1.length ca1, .slice Aa2 la2.length ca2] (0, 0) _ (HS.out.blk 2 rfl) Try.underlying28 rfl (by kernel_rfl) ?_) | ((with_reducible refine gate_dst (N := 18) rfl ?_); refine wpList_load_row rfl 28 (.tmp 3) rfl gB rfl 28 #[.bool false, .slice Ab1 lb1.length cb1, .slice Ab2 lb2.length cb2] (0, 0) _ (HS.out.blk 1 rfl) Try.underlying28 rfl (by kernel_rfl) ?_) | ((with_reducible refine gate_dst (N := 19) rfl ?_); refine lit_event ?hg (N := 19) ?hd (cs := #[.bool a, .slice Aa1 la1.length ca1, .slice Aa2 la2.length ca2, .bool false, .slice Ab1 lb1.length cb1, .slice Ab2 lb2.length cb2]) (t := 28) (n := 2) ?hr ?_; (case hd => rfl); (case hg => rfl); (case hr => first | (go_simp; done) | (go_simp; rfl)); intro gV hg4 w4 hx4 hb4; have nS : Aside0 (Sx w w4 [(.blk gV #[.bool a, .slice Aa1 la1.length ca1, .slice Aa2 la2.length ca2, .bool false, .slice Ab1 lb1.length cb1, .slice Ab2 lb2.length cb2] 28), (.blk gR #[.bool false, .slice none 0 0, .slice none 0 0] 28), (.blk gB #[.bool false, .slice Ab1 lb1.length cb1, .slice Ab2 lb2.length cb2] 28), (.blk gK #[.bool a, .slice Aa1 la1.length ca1, .slice Aa2 la2.length ca2] 28)]) := Aside0.mk (HS.out.box hg4 hx4 hb4); clear HS; have HS := nS; clear nS hg4 hx4 hb4) | (go_at_call 58; refine (impl_valid.calls k0 _ 2 [⟨a, la1, la2⟩, ⟨false, lb1, lb2⟩] 0 _ (pair_C (HS.out.blk 0 rfl) (Kd.C_below Ha1.out HS.out.below) Ka1.out (Kd.C_below Ha2.out HS.out.below) Ka2.out (Kd.C_below Hb1.out HS.out.below) Kb1.out (Kd.C_below Hb2.out HS.out.below) Kb2.out) (Nat.le_refl _) HV.out).mono ?_; rintro e w5 ⟨rfl, hb5⟩; have nS : Aside0 (Sx w w5 [(.blk gV #[.bool a, .slice Aa1 la1.length ca1, .slice Aa2 la2.length ca2, .bool false, .slice Ab1 lb1.length cb1, .slice Ab2 lb2.length cb2] 28), (.blk gR #[.bool false, .slice none 0 0, .slice none 0 0] 28), (.blk gB #[.bool false, .slice Ab1 lb1.length cb1, .slice Ab2 lb2.length cb2] 28), (.blk gK #[.bool a, .slice Aa1 la1.length ca1, .slice Aa2 la2.length ca2] 28)]) := Aside0.mk (HS.out.step hb5); clear HS; have HS := nS; clear nS hb5) | ((with_reducible refine gate_dst (N := 25) rfl ?_); refine wpList_load_row rfl 28 (.tmp 2) rfl gK rfl 28 #[.bool a, .slice Aa1 la1.length ca1, .slice Aa2 la2.length ca2] (0, 0) _ (HS.out.blk 3 rfl) Try.underlying28 rfl (by kernel_rfl) ?_) | (go_at_call 99; refine (impl_listOk.calls a Aa1 ca1 la1 Aa2 ca2 la2 0 _ (Kd.C_below Ha1.out HS.out.below) Ka1.out (Kd.C_below Ha2.out HS.out.below) Ka2.out HLO.out).mono ?_; rintro e w6 ⟨rfl, hb6⟩; have nS : Aside0 (Sx w w6 [(.blk gV #[.bool a, .slice Aa1 la1.length ca1, .slice Aa2 la2.length ca2, .bool false, .slice Ab1 lb1.length cb1, .slice Ab2 lb2.length cb2] 28), (.blk gR #[.bool false, .slice none 0 0, .slice none 0 0] 28), (.blk gB #[.bool false, .slice Ab1 lb1.length cb1, .slice Ab2 lb2.length cb2] 28), (.blk gK #[.bool a, .slice Aa1 la1.length ca1, .slice Aa2 la2.length ca2] 28)]) := Aside0.mk (HS.out.step hb6); clear HS; have HS := nS; clear nS hb6) | ((with_reducible refine gate_dst (N := 32) rfl ?_); refine ev_load rfl 22 (.tmp 31) rfl ⟨gK, 2, none⟩ rfl (.slice Aa2 la2.length ca2) ((blk_cell (HS.out.blk 3 rfl) 2).trans rfl) (by kernel_rfl) ?_) | (go_at_call 111; refine (contains_neg Aa2 ca2 la2 false _ (Kd.C_below Ha2.out HS.out.below) hn2 HNG.out).mono ?_; rintro e w7 ⟨rfl, hb7⟩; have nS : Aside0 (Sx w w7 [(.blk gV #[.bool a, .slice Aa1 la1.length ca1, .slice Aa2 la2.length ca2, .bool false, .slice Ab1 lb1.length cb1, .slice Ab2 lb2.length cb2] 28), (.blk gR #[.bool false, .slice none 0 0, .slice none 0 0] 28), (.blk gB #[.bool false, .slice Ab1 lb1.length cb1, .slice Ab2 lb2.length cb2] 28), (.blk gK #[.bool a, .slice Aa1 la1.length ca1, .slice Aa2 la2.length ca2] 28)]) := Aside0.mk (HS.out.step hb7); clear HS; have HS := nS; clear nS hb7) | ((with_reducible refine wpList_guarded ?hw ?_); (case hw => first | rfl | (go_simp; done))) | ((with_reducible refine gate_dst (N := 36) rfl ?_); refine ev_load rfl 4 (.tmp 35) rfl ⟨gB, 0, none⟩ rfl (.bool false) ((blk_cell (HS.out.blk 2 rfl) 0).trans rfl) (by kernel_rfl) ?_) | ((with_reducible refine gate_dst (N := 41) rfl ?_); refine ev_load rfl 22 (.tmp 40) rfl ⟨gK, 1, none⟩ rfl (.slice Aa1 la1.length ca1) ((blk_cell (HS.out.blk 3 rfl) 1).trans rfl) (by kernel_rfl) ?_) | ((with_reducible refine gate_dst (N := 43) rfl ?_); refine ev_load rfl 22 (.tmp 42) rfl ⟨gB, 1, none⟩ rfl (.slice Ab1 lb1.length cb1) ((blk_cell (HS.out.blk 2 rfl) 1).trans rfl) (by kernel_rfl) ?_) | (go_at_call 113; refine (joined_any k1 (0, false) Aa1 ca1 la1 Ab1 cb1 lb1 _ (Kd.C_below Ha1.out HS.out.below) Ka1.out (Kd.C_below Hb1.out HS.out.below) Kb1.out b1 b2 HJ.out).mono ?_; rintro e w8 ⟨Aj, cj, rfl, hr8, hb8⟩; have nS : Aside0 (Sx w w8 [(.row (.slice Aj (la1.length + lb1.length) cj) (la1 ++ lb1)), (.blk gV #[.bool a, .slice Aa1 la1.length ca1, .slice Aa2 la2.length ca2, .bool false, .slice Ab1 lb1.length cb1, .slice Ab2 lb2.length cb2] 28), (.blk gR #[.bool false, .slice none 0 0, .slice none 0 0] 28), (.blk gB #[.bool false, .slice Ab1 lb1.length cb1, .slice Ab2 lb2.length cb2] 28), (.blk gK #[.bool a, .slice Aa1 la1.length ca1, .slice Aa2 la2.length ca2] 28)]) := Aside0.mk (HS.out.addRow hb8 hr8); clear HS; have HS := nS; clear nS hb8 hr8) | ((with_reducible refine gate_store rfl ?_); refine store_named rfl 28 (.tmp 4) (.tmp 49) rfl gR #[.bool false, .slice none 0 0, .slice none 0 0] rfl rfl 28 #[.bool false, .slice none 0 0, .slice none 0 0] (HS.out.blk 2 rfl) (by kernel_rfl) rfl (by simp [Value.oneCell']) ?_; intro w9 hx9 hb9; have nS : Aside0 (Sx w w9 [(.row (.slice Aj (la1.length + lb1.length) cj) (la1 ++ lb1)), (.blk gV #[.bool a, .slice Aa1 la1.length ca1, .slice Aa2 la2.length ca2, .bool false, .slice Ab1 lb1.length cb1, .slice Ab2 lb2.length cb2] 28), (.blk gR #[.bool false, .slice none 0 0, .slice none 0 0] 28), (.blk gB #[.bool false, .slice Ab1 lb1.length cb1, .slice Ab2 lb2.length cb2] 28), (.blk gK #[.bool a, .slice Aa1 la1.length ca1, .slice Aa2 la2.length ca2] 28)]) := Aside0.mk (HS.out.put 2 rfl hx9 hb9); clear HS; have HS := nS; clear nS hx9 hb9))
  refine bodyPost_ret (results_ct rfl _ _ gR 28 #[.bool false, .slice none 0 0, .slice none 0 0] (0, 0) _ rfl (HS.out.blk 2 rfl) Try.underlying28 rfl (by kernel_rfl)) rfl ?_
  exact ⟨_, _, rfl, Kd.R_nil _ _ _ _ _, Kd.R_nil _ _ _ _ _, HS.out.below⟩
set_option maxHeartbeats 2000000 in
set_option maxRecDepth 100000 in
theorem encode_ok (k0 : Nat) (rj : Int) (a : Bool) (Aa1 : Option Addr) (ca1 : Nat) (la1 : List Int) (Aa2 : Option Addr) (ca2 : Nat) (la2 : List Int) (b : Bool) (Ab1 : Option Addr) (cb1 : Nat) (lb1 : List Int) (Ab2 : Option Addr) (cb2 : Nat) (lb2 : List Int) (w : World) (ha1 : Kd.C (Kd.int .i64) w Aa1 la1.length la1) (ka1 : la1.length ≤ ca1) (ha2 : Kd.C (Kd.int .i64) w Aa2 la2.length la2) (ka2 : la2.length ≤ ca2) (hb1 : Kd.C (Kd.int .i64) w Ab1 lb1.length lb1) (kb1 : lb1.length ≤ cb1) (hb2 : Kd.C (Kd.int .i64) w Ab2 lb2.length lb2) (kb2 : lb2.length ≤ cb2) (hv : impl_valid.f k0 [⟨a, la1, la2⟩, ⟨b, lb1, lb2⟩] = some 0) (hlo : impl_listOk.f a la1 la2 = some 0) (hn2 : la2.length ≤ 10000) (hng : negs la2 = false) (b1 : la1.length ≤ 10000) (b2 : lb1.length ≤ 10000) (k1 : Nat) (hj : impl_shapeOk.f k1 (la1 ++ lb1) = some (rj, true)) (hb : b = false) (N : Nat) (hN : la2.length * lb2.length = N) (hN2 : N ≤ 10000) (hn3 : lb2.length ≤ 10000) (hr1 : ∀ x ∈ la2, 0 ≤ x ∧ x ≤ 1000000000000000) (hr2 : ∀ x ∈ lb2, -1000000000000000 ≤ x ∧ x ≤ 1000000000000000) :
    Calls Try.prog 50 #[.agg #[.bool a, .slice Aa1 la1.length ca1, .slice Aa2 la2.length ca2], .agg #[.bool b, .slice Ab1 lb1.length cb1, .slice Ab2 lb2.length cb2]] w fun e w' => ∃ v1_ v2_ : Value, e = .returned (.tuple #[.agg #[.bool false, v1_, v2_], .int .i64 0]) ∧ Kd.R (Kd.int .i64) 3 w' w.heap.size (fun k_ => some k_ ≠ (v2_ : Value).ownBlock) v1_ (la1 ++ lb1) ∧ Kd.R (Kd.int .i64) 3 w' w.heap.size (fun k_ => some k_ ≠ (v1_ : Value).ownBlock) v2_ (encOut la2 lb2 lb2.length 0 (List.replicate N 0)) ∧ Below w.heap.size w w' := by
  have Ha1 := Aside0.mk ha1
  have Ka1 := Aside0.mk ka1
  clear ha1 ka1
  have Ha2 := Aside0.mk ha2
  have Ka2 := Aside0.mk ka2
  clear ha2 ka2
  have Hb1 := Aside0.mk hb1
  have Kb1 := Aside0.mk kb1
  clear hb1 kb1
  have Hb2 := Aside0.mk hb2
  have Kb2 := Aside0.mk kb2
  clear hb2 kb2
  subst hb
  have HJ := Aside0.mk hj
  clear hj
  have HV := Aside0.mk hv
  clear hv
  have HLO := Aside0.mk hlo
  clear hlo
  have HNG := Aside0.mk hng
  clear hng
  have HN := Aside0.mk hN
  have HR1 := Aside0.mk hr1
  have HR2 := Aside0.mk hr2
  have hw : IntKind.i64.wrap ((la2.length : Int) * (lb2.length : Int)) = (N : Int) := by rw [← hN, IntWalk.i64_in _ (by constructor <;> (have e : (la2.length : Int) * (lb2.length : Int) = ((la2.length * lb2.length : Nat) : Int) := by push_cast; rfl) <;> omega)]; push_cast; rfl
  have hmk := make_rowN N (by omega)
  clear hN hr1 hr2
  have HS := Aside0.mk (Sx.start w)
  go_enter Try.func50, Try.ntmps50
  go_wp2_with (first | ((with_reducible refine gate_dst (N := 2) rfl ?_); refine box_event ?hg (N := 2) ?hd (cs := #[.bool a, .slice Aa1 la1.length ca1, .slice Aa2 la2.length ca2]) (t := 28) ?hr ?_; (case hd => rfl); (case hg => rfl); (case hr => first | (go_simp; done) | (go_simp; rfl)); intro gK hg1 w1 hx1 hb1; have nS : Aside0 (Sx w w1 [(.blk gK #[.bool a, .slice Aa1 la1.length ca1, .slice Aa2 la2.length ca2] 28)]) := Aside0.mk (HS.out.box hg1 hx1 hb1); clear HS; have HS := nS; clear nS hg1 hx1 hb1) | ((with_reducible refine gate_dst (N := 3) rfl ?_); refine box_event ?hg (N := 3) ?hd (cs := #[.bool false, .slice Ab1 lb1.length cb1, .slice Ab2 lb2.length cb2]) (t := 28) ?hr ?_; (case hd => rfl); (case hg => rfl); (case hr => first | (go_simp; done) | (go_simp; rfl)); intro gB hg2 w2 hx2 hb2; have nS : Aside0 (Sx w w2 [(.blk gB #[.bool false, .slice Ab1 lb1.length cb1, .slice Ab2 lb2.length cb2] 28), (.blk gK #[.bool a, .slice Aa1 la1.length ca1, .slice Aa2 la2.length ca2] 28)]) := Aside0.mk (HS.out.box hg2 hx2 hb2); clear HS; have HS := nS; clear nS hg2 hx2 hb2) | ((with_reducible refine gate_dst (N := 4) rfl ?_); refine box_event ?hg (N := 4) ?hd (cs := #[.bool false, .slice none 0 0, .slice none 0 0]) (t := 28) ?hr ?_; (case hd => rfl); (case hg => rfl); (case hr => first | (go_simp; done) | (go_simp; rfl)); intro gR hg3 w3 hx3 hb3; have nS : Aside0 (Sx w w3 [(.blk gR #[.bool false, .slice none 0 0, .slice none 0 0] 28), (.blk gB #[.bool false, .slice Ab1 lb1.length cb1, .slice Ab2 lb2.length cb2] 28), (.blk gK #[.bool a, .slice Aa1 la1.length ca1, .slice Aa2 la2.length ca2] 28)]) := Aside0.mk (HS.out.box hg3 hx3 hb3); clear HS; have HS := nS; clear nS hg3 hx3 hb3) | ((with_reducible refine gate_dst (N := 17) rfl ?_); refine wpList_load_row rfl 28 (.tmp 2) rfl gK rfl 28 #[.bool a, .slice Aa1 la1.length ca1, .slice Aa2 la2.length ca2] (0, 0) _ (HS.out.blk 2 rfl) Try.underlying28 rfl (by kernel_rfl) ?_) | ((with_reducible refine gate_dst (N := 18) rfl ?_); refine wpList_load_row rfl 28 (.tmp 3) rfl gB rfl 28 #[.bool false, .slice Ab1 lb1.length cb1, .slice Ab2 lb2.length cb2] (0, 0) _ (HS.out.blk 1 rfl) Try.underlying28 rfl (by kernel_rfl) ?_) | ((with_reducible refine gate_dst (N := 19) rfl ?_); refine lit_event ?hg (N := 19) ?hd (cs := #[.bool a, .slice Aa1 la1.length ca1, .slice Aa2 la2.length ca2, .bool false, .slice Ab1 lb1.length cb1, .slice Ab2 lb2.length cb2]) (t := 28) (n := 2) ?hr ?_; (case hd => rfl); (case hg => rfl); (case hr => first | (go_simp; done) | (go_simp; rfl)); intro gV hg4 w4 hx4 hb4; have nS : Aside0 (Sx w w4 [(.blk gV #[.bool a, .slice Aa1 la1.length ca1, .slice Aa2 la2.length ca2, .bool false, .slice Ab1 lb1.length cb1, .slice Ab2 lb2.length cb2] 28), (.blk gR #[.bool false, .slice none 0 0, .slice none 0 0] 28), (.blk gB #[.bool false, .slice Ab1 lb1.length cb1, .slice Ab2 lb2.length cb2] 28), (.blk gK #[.bool a, .slice Aa1 la1.length ca1, .slice Aa2 la2.length ca2] 28)]) := Aside0.mk (HS.out.box hg4 hx4 hb4); clear HS; have HS := nS; clear nS hg4 hx4 hb4) | (go_at_call 58; refine (impl_valid.calls k0 _ 2 [⟨a, la1, la2⟩, ⟨false, lb1, lb2⟩] 0 _ (pair_C (HS.out.blk 0 rfl) (Kd.C_below Ha1.out HS.out.below) Ka1.out (Kd.C_below Ha2.out HS.out.below) Ka2.out (Kd.C_below Hb1.out HS.out.below) Kb1.out (Kd.C_below Hb2.out HS.out.below) Kb2.out) (Nat.le_refl _) HV.out).mono ?_; rintro e w5 ⟨rfl, hb5⟩; have nS : Aside0 (Sx w w5 [(.blk gV #[.bool a, .slice Aa1 la1.length ca1, .slice Aa2 la2.length ca2, .bool false, .slice Ab1 lb1.length cb1, .slice Ab2 lb2.length cb2] 28), (.blk gR #[.bool false, .slice none 0 0, .slice none 0 0] 28), (.blk gB #[.bool false, .slice Ab1 lb1.length cb1, .slice Ab2 lb2.length cb2] 28), (.blk gK #[.bool a, .slice Aa1 la1.length ca1, .slice Aa2 la2.length ca2] 28)]) := Aside0.mk (HS.out.step hb5); clear HS; have HS := nS; clear nS hb5) | ((with_reducible refine gate_dst (N := 25) rfl ?_); refine wpList_load_row rfl 28 (.tmp 2) rfl gK rfl 28 #[.bool a, .slice Aa1 la1.length ca1, .slice Aa2 la2.length ca2] (0, 0) _ (HS.out.blk 3 rfl) Try.underlying28 rfl (by kernel_rfl) ?_) | (go_at_call 99; refine (impl_listOk.calls a Aa1 ca1 la1 Aa2 ca2 la2 0 _ (Kd.C_below Ha1.out HS.out.below) Ka1.out (Kd.C_below Ha2.out HS.out.below) Ka2.out HLO.out).mono ?_; rintro e w6 ⟨rfl, hb6⟩; have nS : Aside0 (Sx w w6 [(.blk gV #[.bool a, .slice Aa1 la1.length ca1, .slice Aa2 la2.length ca2, .bool false, .slice Ab1 lb1.length cb1, .slice Ab2 lb2.length cb2] 28), (.blk gR #[.bool false, .slice none 0 0, .slice none 0 0] 28), (.blk gB #[.bool false, .slice Ab1 lb1.length cb1, .slice Ab2 lb2.length cb2] 28), (.blk gK #[.bool a, .slice Aa1 la1.length ca1, .slice Aa2 la2.length ca2] 28)]) := Aside0.mk (HS.out.step hb6); clear HS; have HS := nS; clear nS hb6) | ((with_reducible refine gate_dst (N := 32) rfl ?_); refine ev_load rfl 22 (.tmp 31) rfl ⟨gK, 2, none⟩ rfl (.slice Aa2 la2.length ca2) ((blk_cell (HS.out.blk 3 rfl) 2).trans rfl) (by kernel_rfl) ?_) | (go_at_call 111; refine (contains_neg Aa2 ca2 la2 false _ (Kd.C_below Ha2.out HS.out.below) hn2 HNG.out).mono ?_; rintro e w7 ⟨rfl, hb7⟩; have nS : Aside0 (Sx w w7 [(.blk gV #[.bool a, .slice Aa1 la1.length ca1, .slice Aa2 la2.length ca2, .bool false, .slice Ab1 lb1.length cb1, .slice Ab2 lb2.length cb2] 28), (.blk gR #[.bool false, .slice none 0 0, .slice none 0 0] 28), (.blk gB #[.bool false, .slice Ab1 lb1.length cb1, .slice Ab2 lb2.length cb2] 28), (.blk gK #[.bool a, .slice Aa1 la1.length ca1, .slice Aa2 la2.length ca2] 28)]) := Aside0.mk (HS.out.step hb7); clear HS; have HS := nS; clear nS hb7) | ((with_reducible refine wpList_guarded ?hw ?_); (case hw => first | rfl | (go_simp; done))) | ((with_reducible refine gate_dst (N := 36) rfl ?_); refine ev_load rfl 4 (.tmp 35) rfl ⟨gB, 0, none⟩ rfl (.bool false) ((blk_cell (HS.out.blk 2 rfl) 0).trans rfl) (by kernel_rfl) ?_) | ((with_reducible refine gate_dst (N := 41) rfl ?_); refine ev_load rfl 22 (.tmp 40) rfl ⟨gK, 1, none⟩ rfl (.slice Aa1 la1.length ca1) ((blk_cell (HS.out.blk 3 rfl) 1).trans rfl) (by kernel_rfl) ?_) | ((with_reducible refine gate_dst (N := 43) rfl ?_); refine ev_load rfl 22 (.tmp 42) rfl ⟨gB, 1, none⟩ rfl (.slice Ab1 lb1.length cb1) ((blk_cell (HS.out.blk 2 rfl) 1).trans rfl) (by kernel_rfl) ?_) | (go_at_call 113; refine (joined_any k1 (rj, true) Aa1 ca1 la1 Ab1 cb1 lb1 _ (Kd.C_below Ha1.out HS.out.below) Ka1.out (Kd.C_below Hb1.out HS.out.below) Kb1.out b1 b2 HJ.out).mono ?_; rintro e w8 ⟨Aj, cj, rfl, hr8, hb8⟩; have nS : Aside0 (Sx w w8 [(.row (.slice Aj (la1.length + lb1.length) cj) (la1 ++ lb1)), (.blk gV #[.bool a, .slice Aa1 la1.length ca1, .slice Aa2 la2.length ca2, .bool false, .slice Ab1 lb1.length cb1, .slice Ab2 lb2.length cb2] 28), (.blk gR #[.bool false, .slice none 0 0, .slice none 0 0] 28), (.blk gB #[.bool false, .slice Ab1 lb1.length cb1, .slice Ab2 lb2.length cb2] 28), (.blk gK #[.bool a, .slice Aa1 la1.length ca1, .slice Aa2 la2.length ca2] 28)]) := Aside0.mk (HS.out.addRow hb8 hr8); clear HS; have HS := nS; clear nS hb8 hr8) | ((with_reducible refine gate_dst (N := 52) rfl ?_); refine ev_load rfl 22 (.tmp 51) rfl ⟨gK, 2, none⟩ rfl (.slice Aa2 la2.length ca2) ((blk_cell (HS.out.blk 4 rfl) 2).trans rfl) (by kernel_rfl) ?_) | ((with_reducible refine gate_dst (N := 55) rfl ?_); refine ev_load rfl 22 (.tmp 54) rfl ⟨gB, 2, none⟩ rfl (.slice Ab2 lb2.length cb2) ((blk_cell (HS.out.blk 3 rfl) 2).trans rfl) (by kernel_rfl) ?_) | ((with_reducible refine gate_dst (N := 58) rfl ?_); refine lit_event ?hg (N := 58) ?hd (cs := (rowI (List.replicate N 0))) (t := 3) (n := N) ?hr ?_; (case hd => rfl); (case hg => rfl); (case hr => first | (go_simp; done) | (go_simp; rfl)); intro gD hg9 w9 hx9 hb9; have nS : Aside0 (Sx w w9 [(.blk gD (rowI (List.replicate N 0)) 3), (.row (.slice Aj (la1.length + lb1.length) cj) (la1 ++ lb1)), (.blk gV #[.bool a, .slice Aa1 la1.length ca1, .slice Aa2 la2.length ca2, .bool false, .slice Ab1 lb1.length cb1, .slice Ab2 lb2.length cb2] 28), (.blk gR #[.bool false, .slice none 0 0, .slice none 0 0] 28), (.blk gB #[.bool false, .slice Ab1 lb1.length cb1, .slice Ab2 lb2.length cb2] 28), (.blk gK #[.bool a, .slice Aa1 la1.length ca1, .slice Aa2 la2.length ca2] 28)]) := Aside0.mk (HS.out.box hg9 hx9 hb9); clear HS; have HS := nS; clear nS hg9 hx9 hb9) | ((with_reducible refine gate_dst (N := 10) rfl ?_); refine box_event ?hg (N := 10) ?hd (cs := #[.bool false, .slice none 0 0, .slice none 0 0]) (t := 28) ?hr ?_; (case hd => rfl); (case hg => rfl); (case hr => first | (go_simp; done) | (go_simp; rfl)); intro gO hg10 w10 hx10 hb10; have nS : Aside0 (Sx w w10 [(.blk gO #[.bool false, .slice none 0 0, .slice none 0 0] 28), (.blk gD (rowI (List.replicate N 0)) 3), (.row (.slice Aj (la1.length + lb1.length) cj) (la1 ++ lb1)), (.blk gV #[.bool a, .slice Aa1 la1.length ca1, .slice Aa2 la2.length ca2, .bool false, .slice Ab1 lb1.length cb1, .slice Ab2 lb2.length cb2] 28), (.blk gR #[.bool false, .slice none 0 0, .slice none 0 0] 28), (.blk gB #[.bool false, .slice Ab1 lb1.length cb1, .slice Ab2 lb2.length cb2] 28), (.blk gK #[.bool a, .slice Aa1 la1.length ca1, .slice Aa2 la2.length ca2] 28)]) := Aside0.mk (HS.out.box hg10 hx10 hb10); clear HS; have HS := nS; clear nS hg10 hx10 hb10) | ((with_reducible refine gate_store rfl ?_); refine store_named rfl 28 (.tmp 10) (.tmp 59) rfl gO #[.bool false, .slice Aj (la1.length + lb1.length) cj, .slice (some ⟨gD, 0, none⟩) N N] rfl rfl 28 #[.bool false, .slice none 0 0, .slice none 0 0] (HS.out.blk 0 rfl) (by kernel_rfl) rfl (by simp [Value.oneCell']) ?_; intro w11 hx11 hb11; have nS : Aside0 (Sx w w11 [(.blk gO #[.bool false, .slice Aj (la1.length + lb1.length) cj, .slice (some ⟨gD, 0, none⟩) N N] 28), (.blk gD (rowI (List.replicate N 0)) 3), (.row (.slice Aj (la1.length + lb1.length) cj) (la1 ++ lb1)), (.blk gV #[.bool a, .slice Aa1 la1.length ca1, .slice Aa2 la2.length ca2, .bool false, .slice Ab1 lb1.length cb1, .slice Ab2 lb2.length cb2] 28), (.blk gR #[.bool false, .slice none 0 0, .slice none 0 0] 28), (.blk gB #[.bool false, .slice Ab1 lb1.length cb1, .slice Ab2 lb2.length cb2] 28), (.blk gK #[.bool a, .slice Aa1 la1.length ca1, .slice Aa2 la2.length ca2] 28)]) := Aside0.mk (HS.out.put 0 rfl hx11 hb11); clear HS; have HS := nS; clear nS hx11 hb11) | ((with_reducible refine gate_dst (N := 61) rfl ?_); refine ev_load rfl 22 (.tmp 60) rfl ⟨gB, 2, none⟩ rfl (.slice Ab2 lb2.length cb2) ((blk_cell (HS.out.blk 5 rfl) 2).trans rfl) (by kernel_rfl) ?_))
  go_loopw [11, 12, 13, 14, 15, 16, 63] (fun _ _ _ _ _ _ z wr => ∃ (j : Nat) (D : List Int), z = .int .i64 (j : Int) ∧ Aside0 (j ≤ lb2.length) ∧ Aside0 (D.length = N) ∧ Aside0 (encOut la2 lb2 (lb2.length - j) j D = (encOut la2 lb2 lb2.length 0 (List.replicate N 0))) ∧ Aside0 (Sx w wr [(.blk gO #[.bool false, .slice Aj (la1.length + lb1.length) cj, .slice (some ⟨gD, 0, none⟩) N N] 28), (.blk gD (rowI D) 3), (.row (.slice Aj (la1.length + lb1.length) cj) (la1 ++ lb1)), (.blk gV #[.bool a, .slice Aa1 la1.length ca1, .slice Aa2 la2.length ca2, .bool false, .slice Ab1 lb1.length cb1, .slice Ab2 lb2.length cb2] 28), (.blk gR #[.bool false, .slice none 0 0, .slice none 0 0] 28), (.blk gB #[.bool false, .slice Ab1 lb1.length cb1, .slice Ab2 lb2.length cb2] 28), (.blk gK #[.bool a, .slice Aa1 la1.length ca1, .slice Aa2 la2.length ca2] 28)])) (fun _ _ _ _ _ _ z _ => lb2.length - (intOf z).toNat)
  case atStart => exact ⟨0, _, rfl, ⟨Nat.zero_le _⟩, ⟨List.length_replicate⟩, ⟨rfl⟩, HS⟩
  case round =>
    clear HS
    obtain ⟨j, D, rfl, hj, hD, hE, HS⟩ := hrel
    by_cases hlt : j < lb2.length
    · obtain ⟨ad, rfl, y1⟩ := Kd.at_int (Kd.C_below Hb2.out HS.out.below) (j : Int) (by omega) (by omega)
      rw [Int.toNat_natCast] at y1
      have hb := HR2.out _ (rd_mem' lb2 j hlt)
      obtain ⟨x_, hx_⟩ : ∃ x, rd lb2 (j : Int) = x := ⟨_, rfl⟩
      have HX := Aside0.mk hx_
      rw [hx_] at y1 hb
      have p0 : 0 ≤ (j : Int) := by omega
      have p1 : (j : Int) < (lb2.length : Int) := by omega
      have HLT := Aside0.mk hlt
      have hE' : Aside0 (encOut la2 lb2 (lb2.length - (j + 1)) (j + 1) (encIn la2 lb2.length j la2.length x_ D) = (encOut la2 lb2 lb2.length 0 (List.replicate N 0))) := Aside0.mk (by have := hE.out; rw [show lb2.length - j = (lb2.length - (j + 1)) + 1 by omega, encOut, hx_] at this; exact this)
      obtain ⟨MID, hMID⟩ : ∃ M, encIn la2 lb2.length j la2.length x_ D = M := ⟨_, rfl⟩
      have HM := Aside0.mk hMID
      rw [hMID] at hE'
      have HBD := Aside0.mk hb
      clear hE hMID hx_ hb
      go_wp2_with (first | ((with_reducible refine gate_dst (N := 69) rfl ?_); refine ev_load rfl 22 (.tmp 68) rfl ⟨gK, 2, none⟩ rfl (.slice Aa2 la2.length ca2) ((blk_cell (HS.out.blk 6 rfl) 2).trans rfl) (by kernel_rfl) ?_))
      go_loopw [12, 13, 14, 15, 16] (fun l z _ _ _ wr => ∃ (k : Nat) (left zz : Int) (D : List Int), l = .int .i64 left ∧ z = .int .i64 zz ∧ Aside0 (zz = (k : Int) - 1) ∧ Aside0 (k ≤ la2.length) ∧ Aside0 (-1000000000000000 ≤ left ∧ left ≤ 1000000000000000) ∧ Aside0 (D.length = N) ∧ Aside0 (encIn la2 lb2.length j k left D = MID) ∧ Aside0 (Sx w wr [(.blk gO #[.bool false, .slice Aj (la1.length + lb1.length) cj, .slice (some ⟨gD, 0, none⟩) N N] 28), (.blk gD (rowI D) 3), (.row (.slice Aj (la1.length + lb1.length) cj) (la1 ++ lb1)), (.blk gV #[.bool a, .slice Aa1 la1.length ca1, .slice Aa2 la2.length ca2, .bool false, .slice Ab1 lb1.length cb1, .slice (some ad) lb2.length cb2] 28), (.blk gR #[.bool false, .slice none 0 0, .slice none 0 0] 28), (.blk gB #[.bool false, .slice Ab1 lb1.length cb1, .slice (some ad) lb2.length cb2] 28), (.blk gK #[.bool a, .slice Aa1 la1.length ca1, .slice Aa2 la2.length ca2] 28)])) (fun _ z _ _ _ _ => (intOf z + 1).toNat)
      case atStart => exact ⟨la2.length, x_, (la2.length : Int) - 1, D, rfl, rfl, ⟨rfl⟩, ⟨Nat.le_refl _⟩, HBD, hD, HM, HS⟩
      case round =>
        clear HS HM HBD HX hD
        obtain ⟨k, left, zz, D, rfl, rfl, hzz, hk, hlb, hD, HM, HS⟩ := hrel
        by_cases hk0 : 0 < k
        · obtain ⟨k', rfl⟩ : ∃ k', k = k' + 1 := ⟨k - 1, by omega⟩
          obtain rfl : zz = (k' : Int) := by have := hzz.out; omega
          have hkl : k' < la2.length := by have := hk.out; omega
          obtain ⟨ad2, rfl, y2⟩ := Kd.at_int (Kd.C_below Ha2.out HS.out.below) (k' : Int) (by omega) (by omega)
          rw [Int.toNat_natCast] at y2
          have hb := HR1.out _ (rd_mem' la2 k' hkl)
          obtain ⟨b_, hb_⟩ : ∃ b, rd la2 (k' : Int) = b := ⟨_, rfl⟩
          rw [hb_] at y2 hb
          have hl := hlb.out
          have hdb := dgt_bounds b_ left hb.1 hb.2 hl.1 hl.2
          have hfb := lft_bounds b_ left hb.1 hl.1 hl.2
          have hre := residue_eq b_ left hb.1 hb.2
          have hM := HM.out
          rw [encIn, hb_] at hM
          obtain ⟨d_, hd_⟩ : ∃ d, dgt b_ left = d := ⟨_, rfl⟩
          rw [hd_] at hdb hre hM
          have HRE := Aside0.mk hre
          have hlin := lin2_lt hkl HLT.out
          rw [HN.out] at hlin
          obtain ⟨q, hq⟩ : ∃ q : Nat, k' * lb2.length = q := ⟨_, rfl⟩
          obtain ⟨ix, hix⟩ : ∃ ix : Nat, q + j = ix := ⟨_, rfl⟩
          rw [hq, hix] at hlin hM
          have hq2 : q ≤ 10000 := by omega
          have hw1 : IntKind.i64.wrap ((k' : Int) * (lb2.length : Int)) = (q : Int) := by
            have e : (k' : Int) * (lb2.length : Int) = (q : Int) := by rw [← hq]; push_cast; rfl
            rw [e]; exact IntWalk.i64_in _ (by omega)
          have hw2 : IntKind.i64.wrap ((q : Int) + (j : Int)) = (ix : Int) := by
            have e : (q : Int) + (j : Int) = (ix : Int) := by rw [← hix]; push_cast; rfl
            rw [e]; exact IntWalk.i64_in _ (by omega)
          have HM2 := Aside0.mk hM
          have HL := Aside0.mk (show ix < D.length by rw [hD.out]; omega)
          have HD2 := Aside0.mk (show (D.set ix d_).length = N by rw [List.length_set]; exact hD.out)
          have p2 : 0 ≤ (k' : Int) := by omega
          have p3 : (k' : Int) < (la2.length : Int) := by omega
          have p4 : 0 ≤ (ix : Int) := by omega
          have p5 : (ix : Int) < (N : Int) := by omega
          clear hM hre hq hix hlin hq2 hD HM hzz hlb hb_
          by_cases hbz : b_ = 0
          · subst hbz
            have HF := Aside0.mk (show lft 0 left = 0 from rfl)
            clear hfb hd_
            go_wp2_with (first | ((with_reducible refine gate_dst (N := 77) rfl ?_); refine ev_load rfl 22 (.tmp 76) rfl ⟨gK, 2, none⟩ rfl (.slice (some ad2) la2.length ca2) ((blk_cell (HS.out.blk 6 rfl) 2).trans rfl) (by kernel_rfl) ?_) | (go_at_call 114; refine (impl_residue.calls 0 left d_ none _ HRE.out).mono ?_; rintro e wy1 ⟨rfl, hdy1⟩; have hby1 := Drawn0.below hdy1; clear hdy1; have nS : Aside0 (Sx w wy1 [(.blk gO #[.bool false, .slice Aj (la1.length + lb1.length) cj, .slice (some ⟨gD, 0, none⟩) N N] 28), (.blk gD (rowI D) 3), (.row (.slice Aj (la1.length + lb1.length) cj) (la1 ++ lb1)), (.blk gV #[.bool a, .slice Aa1 la1.length ca1, .slice (some ad2) la2.length ca2, .bool false, .slice Ab1 lb1.length cb1, .slice (some ad) lb2.length cb2] 28), (.blk gR #[.bool false, .slice none 0 0, .slice none 0 0] 28), (.blk gB #[.bool false, .slice Ab1 lb1.length cb1, .slice (some ad) lb2.length cb2] 28), (.blk gK #[.bool a, .slice Aa1 la1.length ca1, .slice (some ad2) la2.length ca2] 28)]) := Aside0.mk (HS.out.step hby1); clear HS; have HS := nS; clear nS hby1) | ((with_reducible refine gate_dst (N := 88) rfl ?_); refine ev_load rfl 22 (.tmp 87) rfl ⟨gO, 2, none⟩ rfl (.slice (some ⟨gD, 0, none⟩) N N) ((blk_cell (HS.out.blk 0 rfl) 2).trans rfl) (by kernel_rfl) ?_) | ((with_reducible refine gate_dst (N := 91) rfl ?_); refine ev_load rfl 22 (.tmp 90) rfl ⟨gB, 2, none⟩ rfl (.slice (some ad) lb2.length cb2) ((blk_cell (HS.out.blk 5 rfl) 2).trans rfl) (by kernel_rfl) ?_) | ((with_reducible refine gate_store rfl ?_); refine ev_store_row rfl 3 (.tmp 97) (.tmp 96) rfl gD ix rfl d_ rfl D (HS.out.blk 1 rfl) HL.out (by kernel_rfl) ?_; intro wz hxz hbz; have nS : Aside0 (Sx w wz [(.blk gO #[.bool false, .slice Aj (la1.length + lb1.length) cj, .slice (some ⟨gD, 0, none⟩) N N] 28), (.blk gD (rowI (D.set ix d_)) 3), (.row (.slice Aj (la1.length + lb1.length) cj) (la1 ++ lb1)), (.blk gV #[.bool a, .slice Aa1 la1.length ca1, .slice (some ad2) la2.length ca2, .bool false, .slice Ab1 lb1.length cb1, .slice (some ad) lb2.length cb2] 28), (.blk gR #[.bool false, .slice none 0 0, .slice none 0 0] 28), (.blk gB #[.bool false, .slice Ab1 lb1.length cb1, .slice (some ad) lb2.length cb2] 28), (.blk gK #[.bool a, .slice Aa1 la1.length ca1, .slice (some ad2) la2.length ca2] 28)]) := Aside0.mk (HS.out.put 1 rfl hxz hbz); clear HS; have HS := nS; clear nS hxz hbz))
            go_roundw
            case rel => exact ⟨k', 0, (k' : Int) - 1, _, rfl, rfl, ⟨rfl⟩, ⟨by omega⟩, ⟨by omega⟩, HD2, ⟨by rw [← HF.out]; exact HM2.out⟩, HS⟩
            case measure => simp [intOf] <;> omega
          · have c3 : (b_ == 0) = false := beq_eq_false_iff_ne.mpr hbz
            have c4 : (b_ != 0) = true := bne_iff_ne.mpr hbz
            obtain ⟨f_, hf_⟩ : ∃ f, lft b_ left = f := ⟨_, rfl⟩
            have hqo : (left - d_).tdiv b_ = f_ := by
              rw [← hf_, ← hd_]
              simp only [lft, dgt, if_neg hbz]
              exact tdiv_exact _ _ (by omega)
            rw [hf_] at hfb HM2
            have hw3 : IntKind.i64.wrap f_ = f_ := IntWalk.i64_in _ (by omega)
            have hw4 : IntKind.i64.wrap (left - d_) = left - d_ := IntWalk.i64_in _ (by omega)
            have HFB := Aside0.mk hfb
            have HNZ := Aside0.mk hbz
            clear hf_ hd_ hbz
            go_wp2_with (first | ((with_reducible refine gate_dst (N := 77) rfl ?_); refine ev_load rfl 22 (.tmp 76) rfl ⟨gK, 2, none⟩ rfl (.slice (some ad2) la2.length ca2) ((blk_cell (HS.out.blk 6 rfl) 2).trans rfl) (by kernel_rfl) ?_) | (go_at_call 114; refine (impl_residue.calls b_ left d_ none _ HRE.out).mono ?_; rintro e wy1 ⟨rfl, hdy1⟩; have hby1 := Drawn0.below hdy1; clear hdy1; have nS : Aside0 (Sx w wy1 [(.blk gO #[.bool false, .slice Aj (la1.length + lb1.length) cj, .slice (some ⟨gD, 0, none⟩) N N] 28), (.blk gD (rowI D) 3), (.row (.slice Aj (la1.length + lb1.length) cj) (la1 ++ lb1)), (.blk gV #[.bool a, .slice Aa1 la1.length ca1, .slice (some ad2) la2.length ca2, .bool false, .slice Ab1 lb1.length cb1, .slice (some ad) lb2.length cb2] 28), (.blk gR #[.bool false, .slice none 0 0, .slice none 0 0] 28), (.blk gB #[.bool false, .slice Ab1 lb1.length cb1, .slice (some ad) lb2.length cb2] 28), (.blk gK #[.bool a, .slice Aa1 la1.length ca1, .slice (some ad2) la2.length ca2] 28)]) := Aside0.mk (HS.out.step hby1); clear HS; have HS := nS; clear nS hby1) | ((with_reducible refine gate_dst (N := 88) rfl ?_); refine ev_load rfl 22 (.tmp 87) rfl ⟨gO, 2, none⟩ rfl (.slice (some ⟨gD, 0, none⟩) N N) ((blk_cell (HS.out.blk 0 rfl) 2).trans rfl) (by kernel_rfl) ?_) | ((with_reducible refine gate_dst (N := 91) rfl ?_); refine ev_load rfl 22 (.tmp 90) rfl ⟨gB, 2, none⟩ rfl (.slice (some ad) lb2.length cb2) ((blk_cell (HS.out.blk 5 rfl) 2).trans rfl) (by kernel_rfl) ?_) | ((with_reducible refine gate_store rfl ?_); refine ev_store_row rfl 3 (.tmp 97) (.tmp 96) rfl gD ix rfl d_ rfl D (HS.out.blk 1 rfl) HL.out (by kernel_rfl) ?_; intro wz hxz hbz; have nS : Aside0 (Sx w wz [(.blk gO #[.bool false, .slice Aj (la1.length + lb1.length) cj, .slice (some ⟨gD, 0, none⟩) N N] 28), (.blk gD (rowI (D.set ix d_)) 3), (.row (.slice Aj (la1.length + lb1.length) cj) (la1 ++ lb1)), (.blk gV #[.bool a, .slice Aa1 la1.length ca1, .slice (some ad2) la2.length ca2, .bool false, .slice Ab1 lb1.length cb1, .slice (some ad) lb2.length cb2] 28), (.blk gR #[.bool false, .slice none 0 0, .slice none 0 0] 28), (.blk gB #[.bool false, .slice Ab1 lb1.length cb1, .slice (some ad) lb2.length cb2] 28), (.blk gK #[.bool a, .slice Aa1 la1.length ca1, .slice (some ad2) la2.length ca2] 28)]) := Aside0.mk (HS.out.put 1 rfl hxz hbz); clear HS; have HS := nS; clear nS hxz hbz))
            case isTrue => exact absurd (by assumption) HNZ.out
            go_roundw
            case rel => exact ⟨k', f_, (k' : Int) - 1, _, rfl, rfl, ⟨rfl⟩, ⟨by omega⟩, HFB, HD2, HM2, HS⟩
            case measure => simp [intOf] <;> omega
        · obtain rfl : k = 0 := by omega
          obtain rfl : zz = -1 := by have := hzz.out; omega
          have HM' := Aside0.mk (show D = MID from HM.out)
          obtain rfl := HM'.out
          clear HM' HM hzz
          go_wp2
          go_roundw
          case rel => exact ⟨j + 1, D, by push_cast; rfl, ⟨HLT.out⟩, hD, hE', HS⟩
          case measure => simp [intOf] <;> omega
    · obtain rfl : j = lb2.length := by have := hj.out; omega
      have HE := Aside0.mk (show D = (encOut la2 lb2 lb2.length 0 (List.replicate N 0)) from by have := hE.out; rw [Nat.sub_self] at this; exact this)
      clear hE
      go_wp2_with (first | ((with_reducible refine gate_dst (N := 106) rfl ?_); refine wpList_load_row rfl 28 (.tmp 10) rfl gO rfl 28 #[.bool false, .slice Aj (la1.length + lb1.length) cj, .slice (some ⟨gD, 0, none⟩) N N] (0, 0) _ (HS.out.blk 0 rfl) Try.underlying28 rfl (by kernel_rfl) ?_) | ((with_reducible refine gate_store rfl ?_); refine store_named rfl 28 (.tmp 4) (.tmp 106) rfl gR #[.bool false, .slice Aj (la1.length + lb1.length) cj, .slice (some ⟨gD, 0, none⟩) N N] rfl rfl 28 #[.bool false, .slice none 0 0, .slice none 0 0] (HS.out.blk 4 rfl) (by kernel_rfl) rfl (by simp [Value.oneCell']) ?_; intro wz1 hxz1 hbz1; have nS : Aside0 (Sx w wz1 [(.blk gO #[.bool false, .slice Aj (la1.length + lb1.length) cj, .slice (some ⟨gD, 0, none⟩) N N] 28), (.blk gD (rowI D) 3), (.row (.slice Aj (la1.length + lb1.length) cj) (la1 ++ lb1)), (.blk gV #[.bool a, .slice Aa1 la1.length ca1, .slice Aa2 la2.length ca2, .bool false, .slice Ab1 lb1.length cb1, .slice Ab2 lb2.length cb2] 28), (.blk gR #[.bool false, .slice Aj (la1.length + lb1.length) cj, .slice (some ⟨gD, 0, none⟩) N N] 28), (.blk gB #[.bool false, .slice Ab1 lb1.length cb1, .slice Ab2 lb2.length cb2] 28), (.blk gK #[.bool a, .slice Aa1 la1.length ca1, .slice Aa2 la2.length ca2] 28)]) := Aside0.mk (HS.out.put 4 rfl hxz1 hbz1); clear HS; have HS := nS; clear nS hxz1 hbz1))
      refine bodyPost_ret (results_ct rfl _ _ gR 28 #[.bool false, .slice Aj (la1.length + lb1.length) cj, .slice (some ⟨gD, 0, none⟩) N N] (0, 0) _ rfl (HS.out.blk 4 rfl) Try.underlying28 rfl (by kernel_rfl)) rfl ?_
      exact enc_end HS.out.below (HS.out.row 2 rfl) (HS.out.blk 1 rfl) (HS.out.get 1 rfl).2 (fun k h1 h2 => (List.pairwise_iff_getElem.1 HS.out.nod 1 2 (by simp) (by simp) (by decide)) k h2 h1) hD.out HE.out (by omega)
def impl_Encode.f (a : Bool) (l1 l2 : List Int) (b : Bool) (m1 m2 : List Int) : Option ArrAns := if okLens l1 l2 m1 m2 then some (encV a l1 l2 b m1 m2) else none
theorem impl_Encode.calls (a : Bool) (Aa1 : Option Addr) (ca1 : Nat) (la1 : List Int) (Aa2 : Option Addr) (ca2 : Nat) (la2 : List Int) (b : Bool) (Ab1 : Option Addr) (cb1 : Nat) (lb1 : List Int) (Ab2 : Option Addr) (cb2 : Nat) (lb2 : List Int) (r1 : Bool) (r2 r3 : List Int) (r4 : Int) (w : World) (ha1 : Kd.C (Kd.int .i64) w Aa1 la1.length la1) (ka1 : la1.length ≤ ca1) (ha2 : Kd.C (Kd.int .i64) w Aa2 la2.length la2) (ka2 : la2.length ≤ ca2) (hb1 : Kd.C (Kd.int .i64) w Ab1 lb1.length lb1) (kb1 : lb1.length ≤ cb1) (hb2 : Kd.C (Kd.int .i64) w Ab2 lb2.length lb2) (kb2 : lb2.length ≤ cb2) (h : impl_Encode.f a la1 la2 b lb1 lb2 = some (r1, r2, r3, r4)) :
    Calls Try.prog 50 #[.agg #[.bool a, .slice Aa1 la1.length ca1, .slice Aa2 la2.length ca2], .agg #[.bool b, .slice Ab1 lb1.length cb1, .slice Ab2 lb2.length cb2]] w fun e w' => ∃ v1_ v2_ : Value, e = .returned (.tuple #[.agg #[.bool r1, v1_, v2_], .int .i64 r4]) ∧ Kd.R (Kd.int .i64) 3 w' w.heap.size (fun k_ => some k_ ≠ (v2_ : Value).ownBlock) v1_ r2 ∧ Kd.R (Kd.int .i64) 3 w' w.heap.size (fun k_ => some k_ ≠ (v1_ : Value).ownBlock) v2_ r3 ∧ Below w.heap.size w w' := by
  unfold impl_Encode.f at h
  split at h
  · rename_i hl
    have h := Option.some.inj h
    simp only [okLens, Bool.and_eq_true, decide_eq_true_eq] at hl
    obtain ⟨k0, hk0⟩ := (valid_ev2 a la1 la2 b lb1 lb2 (by omega) (by omega)).rounds
    rw [encV_eq] at h
    by_cases hv : (arrOk a la1 la2 && arrOk b lb1 lb2) = true
    · rw [if_pos hv] at hk0 h
      have hv' := hv
      simp only [Bool.and_eq_true] at hv'
      have n1 := arrOk_len hv'.1
      have n2 := arrOk_len hv'.2
      have hc1 := arrOk_cells hv'.1
      have hc2 := arrOk_cells hv'.2
      have hlo := listOk_eq a la1 la2
      by_cases hc : listC a la1 = 0
      · rw [if_pos hc] at h
        rw [hc] at hlo
        unfold encA at h
        cases hn : negs la2 with
        | true =>
          rw [hn, if_pos (by simp)] at h
          cases h
          exact encode_neg k0 a Aa1 ca1 la1 Aa2 ca2 la2 b Ab1 cb1 lb1 Ab2 cb2 lb2 w ha1 ka1 ha2 ka2 hb1 kb1 hb2 kb2 hk0 hlo n1.2 hn
        | false =>
          cases hb : b with
          | true =>
            rw [hn, hb, if_pos (by simp)] at h
            cases h
            rw [← hb]
            exact encode_char k0 a Aa1 ca1 la1 Aa2 ca2 la2 b Ab1 cb1 lb1 Ab2 cb2 lb2 w ha1 ka1 ha2 ka2 hb1 kb1 hb2 kb2 hk0 hlo n1.2 hn hb
          | false =>
            rw [hn, hb, if_neg (by simp)] at h
            rw [← hb]
            by_cases ho : shOk (la1 ++ lb1) = true
            · rw [if_pos ho] at h
              obtain ⟨ks, hks⟩ := (shapeOk_yes ho).rounds
              have hp := (shOk_prod ho).2
              rw [prod_append, arrOk_prod hv'.1, arrOk_prod hv'.2] at hp
              have e : (la2.length : Int) * (lb2.length : Int) = ((la2.length * lb2.length : Nat) : Int) := by push_cast; rfl
              have hr1 : ∀ x ∈ la2, 0 ≤ x ∧ x ≤ 1000000000000000 := fun x hx => ⟨by
                have := List.any_eq_false.1 hn x hx
                simpa using this, (hc1 x hx).2⟩
              cases h
              exact encode_ok k0 _ a Aa1 ca1 la1 Aa2 ca2 la2 b Ab1 cb1 lb1 Ab2 cb2 lb2 w ha1 ka1 ha2 ka2 hb1 kb1 hb2 kb2 hk0 hlo n1.2 hn (by omega) (by omega) ks hks hb _ rfl (by omega) n2.2 hr1 hc2
            · rw [if_neg ho] at h
              obtain ⟨ks, hks⟩ := (shapeOk_no ho).rounds
              cases h
              exact encode_lim k0 a Aa1 ca1 la1 Aa2 ca2 la2 b Ab1 cb1 lb1 Ab2 cb2 lb2 w ha1 ka1 ha2 ka2 hb1 kb1 hb2 kb2 hk0 hlo n1.2 hn (by omega) (by omega) ks hks hb
      · rw [if_neg hc] at h
        cases h
        exact encode_list k0 a Aa1 ca1 la1 Aa2 ca2 la2 b Ab1 cb1 lb1 Ab2 cb2 lb2 w ha1 ka1 ha2 ka2 hb1 kb1 hb2 kb2 (listC a la1) hk0 hlo hc
    · rw [if_neg hv] at hk0 h
      cases h
      exact encode_no k0 a Aa1 ca1 la1 Aa2 ca2 la2 b Ab1 cb1 lb1 Ab2 cb2 lb2 w ha1 ka1 ha2 ka2 hb1 kb1 hb2 kb2 3 hk0 (by decide)
  · cases h
end Go.Proofs.Ytehfcnndjhjkoaa.PA

namespace Go.Proofs.Ytehfcnndjhjkoaa.PA
open Go.RowKit Go.Proofs.YtehfcnndjhjkoaaW.PrintWords Go.Proofs.YtehfcnndjhjkoaaW.PrintLast Go.Proofs.YtehfcnndjhjkoaaW.PrintMore
set_option linter.unusedVariables false
set_option linter.unusedSimpArgs false
/-- A pair of rows of numbers, made between two sizes of the heap. -/
structure PrD where
  lo : Nat
  hi : Nat
  v1 : Value
  v2 : Value
  l1 : List Int
  l2 : List Int
def Pr (W : World) (d : PrD) : Prop := Kd.R (Kd.int .i64) 3 W d.lo (fun k => k < d.hi ∧ some k ≠ d.v2.ownBlock) d.v1 d.l1 ∧ Kd.R (Kd.int .i64) 3 W d.lo (fun k => k < d.hi ∧ some k ≠ d.v1.ownBlock) d.v2 d.l2
abbrev Bk := Nat × Array Value × TypeId
structure St (w W : World) (bl : List Bk) (ps : List PrD) : Prop where
  below : Below w.heap.size w W
  blk : ∀ p ∈ bl, W.heap[p.1]? = some (.cells p.2.1 p.2.2 (0, 0)) ∧ w.heap.size ≤ p.1 ∧ p.2.2 ≠ 3
  nod : bl.Pairwise (fun p q => p.1 ≠ q.1)
  pr : ∀ d ∈ ps, Pr W d ∧ w.heap.size ≤ d.lo ∧ d.hi ≤ W.heap.size
  far : ps.Pairwise (fun d e => e.hi ≤ d.lo)
theorem St.start (w : World) : St w w [] [] := ⟨Below.refl _ _, (fun _ h => nomatch h), .nil, (fun _ h => nomatch h), .nil⟩
theorem Pr.step {W W' : World} {d : PrD} (h : Pr W d) (hb : Below W.heap.size W W') : Pr W' d := ⟨Kd.R_below h.1 hb, Kd.R_below h.2 hb⟩
theorem St.step {w W W' : World} {bl : List Bk} {ps : List PrD} (h : St w W bl ps) (hb : Below W.heap.size W W') : St w W' bl ps :=
  ⟨below_step h.below hb, fun p hp => ⟨blk_below (h.blk p hp).1 hb, (h.blk p hp).2⟩, h.nod, fun d hd => ⟨(h.pr d hd).1.step hb, (h.pr d hd).2.1, Nat.le_trans (h.pr d hd).2.2 hb.size⟩, h.far⟩
theorem St.at {w W : World} {bl : List Bk} {ps : List PrD} (h : St w W bl ps) {g : Nat} {cs : Array Value} {t : TypeId} (hm : (g, cs, t) ∈ bl) : W.heap[g]? = some (.cells cs t (0, 0)) := (h.blk _ hm).1
theorem St.box {w W W' : World} {bl : List Bk} {ps : List PrD} (h : St w W bl ps) {g : Nat} {cs : Array Value} {t : TypeId} (hg : g = W.heap.size) (hB : W'.heap[g]? = some (.cells cs t (0, 0))) (hb : Below W.heap.size W W') (ht : t ≠ 3) : St w W' ((g, cs, t) :: bl) ps := by
  have h' := h.step hb
  refine ⟨h'.below, fun p hp => ?_, .cons (fun p hp e => ?_) h.nod, h'.pr, h.far⟩
  · rcases List.mem_cons.1 hp with rfl | hp
    · exact ⟨hB, hg ▸ h.below.size, ht⟩
    · exact h'.blk p hp
  · have := blk_lt (h.blk p hp).1
    simp only at e; omega
theorem St.alloc {w W : World} {bl : List Bk} {ps : List PrD} (h : St w W bl ps) (cs : Array Value) (t : TypeId) (ht : t ≠ 3) : St w (W.alloc (.cells cs t)) ((W.heap.size, cs, t) :: bl) ps := h.box rfl (blk_new W _) (below_alloc (Below.refl _ _) _) ht
theorem St.drew {w W : World} {bl : List Bk} {ps : List PrD} (h : St w W bl ps) : St w W.drew bl ps := h.step (below_drew (Below.refl _ _))
theorem St.drewN {w W : World} {bl : List Bk} {ps : List PrD} (h : St w W bl ps) (n : Nat) : St w (W.drewN n) bl ps := h.step (pw_below_drewN (Below.refl _ _) n)
theorem St.put {w W w1 : World} {bl : List Bk} {ps : List PrD} (h : St w W bl ps) (i : Nat) {g : Nat} {cs cs1 : Array Value} {t : TypeId} (hi : bl[i]? = some (g, cs, t)) (hs : w1.heap[g]? = some (.cells cs1 t (0, 0))) (hk : But1 g W w1) : St w w1 (bl.set i (g, cs1, t)) ps := by
  obtain ⟨hlt, hie⟩ := List.getElem?_eq_some_iff.1 hi
  have hm : (g, cs, t) ∈ bl := List.mem_of_getElem? hi
  have hg := h.blk _ hm
  have hnod := List.pairwise_iff_getElem.1 h.nod
  have hoth : ∀ (j : Nat) (hj : j < bl.length), j ≠ i → (bl[j]).1 ≠ g := fun j hj hne => by
    rcases Nat.lt_or_gt_of_ne hne with hl | hl
    · have := hnod j i hj hlt hl; rw [hie] at this; exact this
    · have := hnod i j hlt hj hl; rw [hie] at this; exact fun e => this e.symm
  refine ⟨h.below.trans (hk.below _ hg.2.1), fun p hp => ?_, ?_, fun d hd => ⟨?_, (h.pr d hd).2.1, ?_⟩, h.far⟩
  · obtain ⟨j, hj, e⟩ := List.getElem_of_mem hp
    rw [List.length_set] at hj
    rw [List.getElem_set] at e
    split at e
    · subst e; exact ⟨hs, hg.2⟩
    · rename_i hne
      have hp' := h.blk p (e ▸ List.getElem_mem hj)
      exact ⟨hk.blk hp'.1 (e ▸ hoth j hj (fun e => hne e.symm)), hp'.2⟩
  · refine List.pairwise_iff_getElem.2 fun a b ha hb hab => ?_
    rw [List.length_set] at ha hb
    rw [List.getElem_set, List.getElem_set]
    split
    · rename_i e1
      split
      · rename_i e2; omega
      · rename_i e2; exact fun e => hoth b hb (fun e => e2 e.symm) e.symm
    · rename_i e1
      split
      · exact hoth a ha (fun e => e1 e.symm)
      · exact hnod a b ha hb hab
  · exact ⟨hk.row (h.pr d hd).1.1 hg.1 (fun e => hg.2.2 e.symm), hk.row (h.pr d hd).1.2 hg.1 (fun e => hg.2.2 e.symm)⟩
  · exact Nat.le_trans (h.pr d hd).2.2 (hk.below _ hg.2.1).size
theorem Pr.ne {W : World} {d : PrD} (h : Pr W d) : ∀ k, some k = d.v1.ownBlock → ¬ some k = d.v2.ownBlock := fun k hk => (h.1.1 k hk.symm).2
theorem Pr.in1 {W : World} {d : PrD} (h : Pr W d) : ∀ k, some k = d.v1.ownBlock → d.lo ≤ k ∧ k < d.hi := fun k hk => ⟨Kd.R_base h.1 k hk.symm, (h.1.1 k hk.symm).1⟩
theorem Pr.in2 {W : World} {d : PrD} (h : Pr W d) : ∀ k, some k = d.v2.ownBlock → d.lo ≤ k ∧ k < d.hi := fun k hk => ⟨Kd.R_base h.2 k hk.symm, (h.2.1 k hk.symm).1⟩
theorem St.add {w W W' : World} {bl : List Bk} {ps : List PrD} (h : St w W bl ps) (hb : Below W.heap.size W W') {B : Nat} (hle : W.heap.size ≤ B) {v1 v2 : Value} {l1 l2 : List Int} {ok2 : Nat → Prop}
    (R1 : Kd.R (Kd.int .i64) 3 W' B (fun k => some k ≠ v2.ownBlock) v1 l1) (R2 : Kd.R (Kd.int .i64) 3 W' B ok2 v2 l2) : St w W' bl (⟨W.heap.size, W'.heap.size, v1, v2, l1, l2⟩ :: ps) := by
  have h' := h.step hb
  refine ⟨h'.below, h'.blk, h'.nod, fun d hd => ?_, .cons (fun d hd => (h.pr d hd).2.2) h.far⟩
  rcases List.mem_cons.1 hd with rfl | hd
  · refine ⟨⟨Kd.R_reok rfl (Kd.R_lower R1 hle) (fun k hk => ⟨Kd.R_lt R1 k hk, R1.1 k hk⟩), Kd.R_reok rfl (Kd.R_lower R2 hle) (fun k hk => ⟨Kd.R_lt R2 k hk, fun e => R1.1 k e.symm hk.symm⟩)⟩, h.below.size, Nat.le_refl _⟩
  · exact h'.pr d hd
theorem St.prAt {w W : World} {bl : List Bk} {ps : List PrD} (h : St w W bl ps) {d : PrD} (hd : d ∈ ps) : Pr W d := (h.pr d hd).1
theorem St.idx {w W : World} {bl : List Bk} {ps : List PrD} (h : St w W bl ps) (i : Nat) {g : Nat} {cs : Array Value} {t : TypeId} (hi : bl[i]? = some (g, cs, t)) : W.heap[g]? = some (.cells cs t (0, 0)) := (h.blk _ (List.mem_of_getElem? hi)).1
theorem St.nth {w W : World} {bl : List Bk} {ps : List PrD} (h : St w W bl ps) (j : Nat) {d : PrD} (hj : ps[j]? = some d) : Pr W d := h.prAt (List.mem_of_getElem? hj)
theorem St.sub {w W : World} {bl : List Bk} {ps ps' : List PrD} (h : St w W bl ps) (hs : ps'.Sublist ps) : St w W bl ps' := ⟨h.below, h.blk, h.nod, fun d hd => h.pr d (hs.subset hd), h.far.sublist hs⟩
theorem Pr.c1 {W : World} {lo hi n c : Nat} {A : Option Addr} {v2 : Value} {l1 l2 : List Int} (h : Pr W ⟨lo, hi, .slice A n c, v2, l1, l2⟩) : n = l1.length ∧ Kd.C (Kd.int .i64) W A l1.length l1 ∧ l1.length ≤ c :=
  by obtain ⟨e, k, c⟩ := Kd.R_reads' h.1; exact ⟨e, c, e ▸ k⟩
theorem Pr.c2 {W : World} {lo hi n c : Nat} {A : Option Addr} {v1 : Value} {l1 l2 : List Int} (h : Pr W ⟨lo, hi, v1, .slice A n c, l1, l2⟩) : n = l2.length ∧ Kd.C (Kd.int .i64) W A l2.length l2 ∧ l2.length ≤ c :=
  by obtain ⟨e, k, c⟩ := Kd.R_reads' h.2; exact ⟨e, c, e ▸ k⟩
theorem St.mark {w W W' : World} {bl : List Bk} {ps : List PrD} (h : St w W bl ps) (i : Nat) {d : PrD} (hi : ps[i]? = some d) {m1 m2 : List Int} {ok1 ok2 : Nat → Prop} (hk : Kept W W' (fun k => some k = d.v1.ownBlock ∨ some k = d.v2.ownBlock))
    (R1 : Kd.R (Kd.int .i64) 3 W' w.heap.size ok1 d.v1 m1) (R2 : Kd.R (Kd.int .i64) 3 W' w.heap.size ok2 d.v2 m2) (hb : Below w.heap.size w W') : St w W' bl (ps.set i ⟨d.lo, d.hi, d.v1, d.v2, m1, m2⟩) := by
  obtain ⟨hlt, hie⟩ := List.getElem?_eq_some_iff.1 hi
  have hd : d ∈ ps := List.mem_of_getElem? hi
  have hp := h.pr d hd
  have hfar := List.pairwise_iff_getElem.1 h.far
  have hin : ∀ k, (some k = d.v1.ownBlock ∨ some k = d.v2.ownBlock) → d.lo ≤ k ∧ k < d.hi := fun k hk => by
    rcases hk with hk | hk
    · exact hp.1.in1 k hk
    · exact hp.1.in2 k hk
  refine ⟨hb, fun p hp' => ⟨?_, (h.blk p hp').2⟩, h.nod, fun e he => ?_, ?_⟩
  · refine blk_kept (h.blk p hp').1 hk fun hs => ?_
    have hb' := (h.blk p hp').1
    rcases hs with hs | hs
    · obtain ⟨cells, hc⟩ := own_typed (Kd.own_of_R hp.1.1) p.1 hs.symm
      rw [hc] at hb'; injection hb' with hb'; injection hb' with _ hb'; exact (h.blk p hp').2.2 hb'.symm
    · obtain ⟨cells, hc⟩ := own_typed (Kd.own_of_R hp.1.2) p.1 hs.symm
      rw [hc] at hb'; injection hb' with hb'; injection hb' with _ hb'; exact (h.blk p hp').2.2 hb'.symm
  · obtain ⟨j, hj, ej⟩ := List.getElem_of_mem he
    rw [List.length_set] at hj
    rw [List.getElem_set] at ej
    split at ej
    · subst ej
      refine ⟨⟨?_, ?_⟩, hp.2.1, Nat.le_trans hp.2.2 hk.1⟩
      · exact Kd.R_of_own (Kd.own_raise (Kd.own_of_R R1) (fun k hk => (hp.1.in1 k hk.symm).1)) (fun k hk => ⟨(hp.1.in1 k hk.symm).2, hp.1.ne k hk.symm⟩)
      · exact Kd.R_of_own (Kd.own_raise (Kd.own_of_R R2) (fun k hk => (hp.1.in2 k hk.symm).1)) (fun k hk => ⟨(hp.1.in2 k hk.symm).2, fun e => hp.1.ne k e hk.symm⟩)
    · rename_i hne
      have he' : e ∈ ps := ej ▸ List.getElem_mem hj
      have hq := h.pr e he'
      have hdis : ∀ k, e.lo ≤ k → k < e.hi → ¬ (some k = d.v1.ownBlock ∨ some k = d.v2.ownBlock) := fun k h1 h2 hs => by
        have h3 := hin k hs
        rcases Nat.lt_or_gt_of_ne hne with hl | hl
        · have := hfar i j hlt hj hl; rw [hie, ej] at this; omega
        · have := hfar j i hj hlt hl; rw [hie, ej] at this; omega
      refine ⟨⟨?_, ?_⟩, hq.2.1, Nat.le_trans hq.2.2 hk.1⟩
      · exact Kd.R_mono (Kd.R_step (Kd.R_bound hq.1.1) (fun k hok hlt' => hk.2 k hlt' (hdis k hok.2.1 hok.1.1))) (fun k hok => hok.1)
      · exact Kd.R_mono (Kd.R_step (Kd.R_bound hq.1.2) (fun k hok hlt' => hk.2 k hlt' (hdis k hok.2.1 hok.1.1))) (fun k hok => hok.1)
  · refine List.pairwise_iff_getElem.2 fun a b ha hb' hab => ?_
    rw [List.length_set] at ha hb'
    have hab' := hfar a b ha hb' hab
    have ea : ((ps.set i ⟨d.lo, d.hi, d.v1, d.v2, m1, m2⟩)[a]'(by rw [List.length_set]; exact ha)).lo = (ps[a]).lo := by
      rw [List.getElem_set]; split
      · rename_i e; subst e; rw [hie]
      · rfl
    have eb : ((ps.set i ⟨d.lo, d.hi, d.v1, d.v2, m1, m2⟩)[b]'(by rw [List.length_set]; exact hb')).hi = (ps[b]).hi := by
      rw [List.getElem_set]; split
      · rename_i e; subst e; rw [hie]
      · rfl
    rw [ea, eb]; exact hab'
theorem cells3 {W : World} {g : Nat} {t : TypeId} {x y z : Value} (h : W.heap[g]? = some (.cells #[x, y, z] t (0, 0))) : W.cell? ⟨g, 0, none⟩ = some x ∧ W.cell? ⟨g, 1, none⟩ = some y ∧ W.cell? ⟨g, 2, none⟩ = some z :=
  ⟨(blk_cell h 0).trans rfl, (blk_cell h 1).trans rfl, (blk_cell h 2).trans rfl⟩
theorem St.cells2 {w W : World} {bl : List Bk} {ps : List PrD} {g1 g2 : Nat} {x1 y1 z1 x2 y2 z2 : Value} {t1 t2 : TypeId} (h : St w W bl ps) (m1 : (g1, #[x1, y1, z1], t1) ∈ bl) (m2 : (g2, #[x2, y2, z2], t2) ∈ bl) :
    W.cell? ⟨g1, 0, none⟩ = some x1 ∧ W.cell? ⟨g1, 1, none⟩ = some y1 ∧ W.cell? ⟨g1, 2, none⟩ = some z1 ∧ W.cell? ⟨g2, 0, none⟩ = some x2 ∧ W.cell? ⟨g2, 1, none⟩ = some y2 ∧ W.cell? ⟨g2, 2, none⟩ = some z2 :=
  ⟨(cells3 (h.at m1)).1, (cells3 (h.at m1)).2.1, (cells3 (h.at m1)).2.2, cells3 (h.at m2)⟩
theorem But1.set3 {W : World} {g : Nat} (x y z : Value) : But1 g W (((W.setCell ⟨g, 0, none⟩ x).setCell ⟨g, 1, none⟩ y).setCell ⟨g, 2, none⟩ z) :=
  ⟨fun k hk => (Below.heap_setCell _ _ _ k hk).trans ((Below.heap_setCell _ _ _ k hk).trans (Below.heap_setCell _ _ _ k hk)), fun B hB => (((Below.refl B W).setCell (p := ⟨g, 0, none⟩) hB x).setCell (p := ⟨g, 1, none⟩) hB y).setCell (p := ⟨g, 2, none⟩) hB z⟩
theorem St.set3 {w W : World} {bl : List Bk} {ps : List PrD} {g : Nat} {a b c : Value} {t : TypeId} (h : St w W ((g, #[a, b, c], t) :: bl) ps) (x y z : Value) :
    St w (((W.setCell ⟨g, 0, none⟩ x).setCell ⟨g, 1, none⟩ y).setCell ⟨g, 2, none⟩ z) ((g, #[x, y, z], t) :: bl) ps := by
  have s := blk_set (blk_set (blk_set (h.at (g := g) (cs := #[a, b, c]) (t := t) List.mem_cons_self) 0 x) 1 y) 2 z
  exact h.put 0 rfl (by simpa using s) (But1.set3 x y z)
/-- What a call that gives an array and a code leaves, its answer laid in a box. -/
def Got (w : World) (bl : List Bk) (ps : List PrD) (t : TypeId) (b : Bool) (l1 l2 : List Int) (cd : Int) (v6 v7 : Value) (W : World) : Prop :=
  ∃ g A1 c1 A2 c2 lo hi, v6 = .pointer (some ⟨g, 0, none⟩) ∧ v7 = .int .i64 cd ∧ St w W ((g, #[.bool b, .slice A1 l1.length c1, .slice A2 l2.length c2], t) :: bl) (⟨lo, hi, .slice A1 l1.length c1, .slice A2 l2.length c2, l1, l2⟩ :: ps)
theorem gotA {w W : World} {bl : List Bk} {ps ps' : List PrD} {t : TypeId} {b : Bool} {l1 l2 : List Int} {cd : Int} {A1 A2 : Option Addr} {c1 c2 lo hi : Nat} (h : St w W bl (⟨lo, hi, .slice A1 l1.length c1, .slice A2 l2.length c2, l1, l2⟩ :: ps')) (hs : ps.Sublist ps') (ht : t ≠ 3) :
    Got w bl ps t b l1 l2 cd (.pointer (some ⟨W.heap.size, 0, none⟩)) (.int .i64 cd) (W.alloc (.cells #[.bool b, .slice A1 l1.length c1, .slice A2 l2.length c2] t)) :=
  ⟨_, A1, c1, A2, c2, lo, hi, rfl, rfl, (h.alloc _ t ht).sub (hs.cons_cons _)⟩
theorem gotB {w W : World} {bl : List Bk} {ps ps' : List PrD} {t : TypeId} {b : Bool} {l1 l2 : List Int} {cd : Int} {A1 A2 : Option Addr} {c1 c2 lo hi g : Nat} {x y z : Value} (h : St w W ((g, #[x, y, z], t) :: bl) (⟨lo, hi, .slice A1 l1.length c1, .slice A2 l2.length c2, l1, l2⟩ :: ps')) (hs : ps.Sublist ps') :
    Got w bl ps t b l1 l2 cd (.pointer (some ⟨g, 0, none⟩)) (.int .i64 cd) (((W.setCell ⟨g, 0, none⟩ (.bool b)).setCell ⟨g, 1, none⟩ (.slice A1 l1.length c1)).setCell ⟨g, 2, none⟩ (.slice A2 l2.length c2)) :=
  ⟨g, A1, c1, A2, c2, lo, hi, rfl, rfl, (h.set3 _ _ _).sub (hs.cons_cons _)⟩
theorem Got.drew {w W : World} {bl : List Bk} {ps : List PrD} {t : TypeId} {b : Bool} {l1 l2 : List Int} {cd : Int} {v6 v7 : Value} (h : Got w bl ps t b l1 l2 cd v6 v7 W) : Got w bl ps t b l1 l2 cd v6 v7 W.drew := by
  obtain ⟨g, A1, c1, A2, c2, lo, hi, e1, e2, hs⟩ := h
  exact ⟨g, A1, c1, A2, c2, lo, hi, e1, e2, hs.drew⟩
/-- A pair that is marked: what the law's function asks. -/
theorem St.ready {w W : World} {bl : List Bk} {ps : List PrD} (h : St w W bl ps) {d : PrD} (hd : d ∈ ps) :
    Kd.R (Kd.int .i64) 3 W w.heap.size (fun k => some k = d.v1.ownBlock) d.v1 d.l1 ∧ (∀ k, some k = d.v1.ownBlock → ¬ some k = d.v2.ownBlock) ∧ Kd.R (Kd.int .i64) 3 W w.heap.size (fun k => some k = d.v2.ownBlock) d.v2 d.l2 ∧ (∀ k, some k = d.v2.ownBlock → ¬ some k = d.v1.ownBlock) :=
  ⟨Kd.R_tight rfl (Kd.R_lower (h.prAt hd).1 (h.pr d hd).2.1), (h.prAt hd).ne, Kd.R_tight rfl (Kd.R_lower (h.prAt hd).2 (h.pr d hd).2.1), fun k h2 h1 => (h.prAt hd).ne k h1 h2⟩
theorem St.ready' {w W : World} {bl : List Bk} {ps : List PrD} (h : St w W bl ps) (j : Nat) {d : PrD} (hj : ps[j]? = some d) :
    Kd.R (Kd.int .i64) 3 W w.heap.size (fun k => some k = d.v1.ownBlock) d.v1 d.l1 ∧ (∀ k, some k = d.v1.ownBlock → ¬ some k = d.v2.ownBlock) ∧ Kd.R (Kd.int .i64) 3 W w.heap.size (fun k => some k = d.v2.ownBlock) d.v2 d.l2 ∧ (∀ k, some k = d.v2.ownBlock → ¬ some k = d.v1.ownBlock) := h.ready (List.mem_of_getElem? hj)
/-- 'held' at rows whose lengths are written another way. -/
theorem held_n (k : Nat) (b : Bool) (A1 A2 : Option Addr) (n1 n2 c1 c2 : Nat) (l1 l2 : List Int) (a r : Int) (w : World) (e1 : n1 = l1.length) (e2 : n2 = l2.length) (h1 : Kd.C (Kd.int .i64) w A1 l1.length l1) (k1 : l1.length ≤ c1) (h2 : Kd.C (Kd.int .i64) w A2 l2.length l2) (k2 : l2.length ≤ c2)
    (h : laws_heldArray.f k b l1 l2 a = some r) : Calls Try.prog 25 #[.agg #[.bool b, .slice A1 n1 c1, .slice A2 n2 c2], .int .i64 a] w fun e w' => e = .returned (.int .i64 r) ∧ Below w.heap.size w w' := by
  subst e1 e2
  exact laws_heldArray.calls k b A1 c1 l1 A2 c2 l2 a r w h1 k1 h2 k2 h
end Go.Proofs.Ytehfcnndjhjkoaa.PA

namespace Go.Proofs.Ytehfcnndjhjkoaa.PA
open Go.RowKit Go.Proofs.YtehfcnndjhjkoaaW.PrintWords Go.Proofs.YtehfcnndjhjkoaaW.PrintLast Go.Proofs.YtehfcnndjhjkoaaW.PrintMore
set_option linter.unusedVariables false
set_option linter.unusedSimpArgs false
set_option maxHeartbeats 8000000 in
set_option maxRecDepth 100000 in
theorem lawEncode_y (kta ktb kea keb ks kev kh kk1 kk2 kk3 : Nat) (a : Bool) (Aa1 : Option Addr) (ca1 : Nat) (la1 : List Int) (Aa2 : Option Addr) (ca2 : Nat) (la2 : List Int) (b : Bool) (Ab1 : Option Addr) (cb1 : Nat) (lb1 : List Int) (Ab2 : Option Addr) (cb2 : Nat) (lb2 : List Int) (v1 : Bool) (v2 v3 : List Int) (v4 : Int) (s1 : Int) (s2 : Int) (k1 : Int) (m11 m12 : List Int) (k2 : Int) (m21 m22 : List Int) (k3 : Int) (m31 m32 : List Int) (w : World) (ha1 : Kd.C (Kd.int .i64) w Aa1 la1.length la1) (ka1 : la1.length ≤ ca1) (ha2 : Kd.C (Kd.int .i64) w Aa2 la2.length la2) (ka2 : la2.length ≤ ca2) (hb1 : Kd.C (Kd.int .i64) w Ab1 lb1.length lb1) (kb1 : lb1.length ≤ cb1) (hb2 : Kd.C (Kd.int .i64) w Ab2 lb2.length lb2) (kb2 : lb2.length ≤ cb2)
    (hta : laws_toArray.f kta a la1 la2 = some (a, la1, la2))
    (hea : laws_eqArray.f kea a la1 la2 a la1 la2 = some true)
    (htb : laws_toArray.f ktb b lb1 lb2 = some (b, lb1, lb2))
    (heb : laws_eqArray.f keb b lb1 lb2 b lb1 lb2 = some true)
    (hsp : spec_Encode.f ks a la1 la2 b lb1 lb2 = some (v1, v2, v3, v4))
    (him : impl_Encode.f a la1 la2 b lb1 lb2 = some (v1, v2, v3, v4))
    (hev : laws_eqArray.f kev v1 v2 v3 v1 v2 v3 = some true)
    (hz1 : laws_szArray.f a la1 la2 1048576 = some s1)
    (pz1 : 0 ≤ s1)
    (hz2 : laws_szArray.f b lb1 lb2 s1 = some s2)
    (pz2 : 0 ≤ s2)
    (hm1 : laws_markArray.f kk1 a la1 la2 1 = some (k1, m11, m12))
    (pm1 : 0 ≤ k1)
    (lm11 : la1.length = m11.length)
    (lm12 : la2.length = m12.length)
    (hm2 : laws_markArray.f kk2 b lb1 lb2 k1 = some (k2, m21, m22))
    (pm2 : 0 ≤ k2)
    (lm21 : lb1.length = m21.length)
    (lm22 : lb2.length = m22.length)
    (hm3 : laws_markArray.f kk3 v1 v2 v3 1 = some (k3, m31, m32))
    (pm3 : 0 ≤ k3)
    (lm31 : v2.length = m31.length)
    (lm32 : v3.length = m32.length)
    (hhG : laws_heldArray.f kh v1 m31 m32 1 = some k3) :
    Calls Try.prog 14 #[.agg #[.bool a, .slice Aa1 la1.length ca1, .slice Aa2 la2.length ca2], .agg #[.bool b, .slice Ab1 lb1.length cb1, .slice Ab2 lb2.length cb2]] w fun e w' => e = .returned (.bool true) ∧ Below w.heap.size w w' := by
  have Ha1 := Aside0.mk ha1
  have Ka1 := Aside0.mk ka1
  have Ha2 := Aside0.mk ha2
  have Ka2 := Aside0.mk ka2
  have Hb1 := Aside0.mk hb1
  have Kb1 := Aside0.mk kb1
  have Hb2 := Aside0.mk hb2
  have Kb2 := Aside0.mk kb2
  replace hta := Aside0.mk hta
  replace hea := Aside0.mk hea
  replace htb := Aside0.mk htb
  replace heb := Aside0.mk heb
  replace hsp := Aside0.mk hsp
  replace him := Aside0.mk him
  replace hev := Aside0.mk hev
  replace hz1 := Aside0.mk hz1
  replace hz2 := Aside0.mk hz2
  replace hm1 := Aside0.mk hm1
  replace lm11 := Aside0.mk lm11
  replace lm12 := Aside0.mk lm12
  replace hm2 := Aside0.mk hm2
  replace lm21 := Aside0.mk lm21
  replace lm22 := Aside0.mk lm22
  replace hm3 := Aside0.mk hm3
  replace lm31 := Aside0.mk lm31
  replace lm32 := Aside0.mk lm32
  replace hhG := Aside0.mk hhG
  clear ha1 ka1 ha2 ka2 hb1 kb1 hb2 kb2
  have qpz1 : decide (s1 < 0) = false := decide_eq_false (by omega)
  have qpz2 : decide (s2 < 0) = false := decide_eq_false (by omega)
  have qpm1 : decide (k1 < 0) = false := decide_eq_false (by omega)
  have qpm2 : decide (k2 < 0) = false := decide_eq_false (by omega)
  have qpm3 : decide (k3 < 0) = false := decide_eq_false (by omega)
  have HS := Aside0.mk (St.start w)
  go_enter Try.func14, Try.ntmps14
  go_upto_region 1 with (first | ((with_reducible refine gate_dst (N := 2) rfl ?_); refine box_event ?hg (N := 2) ?hd (cs := #[.bool a, .slice Aa1 la1.length ca1, .slice Aa2 la2.length ca2]) (t := 24) ?hr ?_; (case hd => rfl); (case hg => rfl); (case hr => first | (go_simp; done) | (go_simp; rfl)); intro g1 hg1 w1 hx1 hb1; have nS := Aside0.mk (HS.out.box hg1 hx1 hb1 (by decide)); clear HS; have HS := nS; clear nS hg1 hx1 hb1) | ((with_reducible refine gate_dst (N := 3) rfl ?_); refine box_event ?hg (N := 3) ?hd (cs := #[.bool b, .slice Ab1 lb1.length cb1, .slice Ab2 lb2.length cb2]) (t := 24) ?hr ?_; (case hd => rfl); (case hg => rfl); (case hr => first | (go_simp; done) | (go_simp; rfl)); intro g2 hg2 w2 hx2 hb2; have nS := Aside0.mk (HS.out.box hg2 hx2 hb2 (by decide)); clear HS; have HS := nS; clear nS hg2 hx2 hb2))
  go_upto_region 2 with (fail)
  go_upto_region 3 with (first | ((with_reducible refine gate_dst (N := 17) rfl ?_); refine wpList_load_row rfl 24 (.tmp 2) rfl g1 rfl 24 #[.bool a, .slice Aa1 la1.length ca1, .slice Aa2 la2.length ca2] (0, 0) _ (HS.out.idx 1 rfl) Try.underlying24 rfl (by kernel_rfl) ?_) | (go_at_call 15; refine (laws_szArray.calls a _ _ la1 _ _ la2 1048576 s1 _ (by (with_reducible repeat (first | refine Kd.C_drew ?_ | refine Kd.C_drewN ?_ _ | refine Kd.C_alloc ?_ _)); exact (Kd.C_below Ha1.out HS.out.below)) Ka1.out (by (with_reducible repeat (first | refine Kd.C_drew ?_ | refine Kd.C_drewN ?_ _ | refine Kd.C_alloc ?_ _)); exact (Kd.C_below Ha2.out HS.out.below)) Ka2.out hz1.out).mono ?_; rintro e w3 ⟨rfl, hb3⟩; have nS := Aside0.mk (St.step (by repeat (first | (with_reducible exact HS.out) | (with_reducible apply St.drew) | (with_reducible apply St.drewN) | (with_reducible apply St.alloc) | decide)) hb3); clear HS; have HS := nS; clear nS hb3))
  go_upto_region 5 with (fail)
  go_upto_region 6 with (first | ((with_reducible refine gate_dst (N := 22) rfl ?_); refine wpList_load_row rfl 24 (.tmp 3) rfl g2 rfl 24 #[.bool b, .slice Ab1 lb1.length cb1, .slice Ab2 lb2.length cb2] (0, 0) _ (HS.out.idx 0 rfl) Try.underlying24 rfl (by kernel_rfl) ?_) | (go_at_call 15; refine (laws_szArray.calls b _ _ lb1 _ _ lb2 s1 s2 _ (by (with_reducible repeat (first | refine Kd.C_drew ?_ | refine Kd.C_drewN ?_ _ | refine Kd.C_alloc ?_ _)); exact (Kd.C_below Hb1.out HS.out.below)) Kb1.out (by (with_reducible repeat (first | refine Kd.C_drew ?_ | refine Kd.C_drewN ?_ _ | refine Kd.C_alloc ?_ _)); exact (Kd.C_below Hb2.out HS.out.below)) Kb2.out hz2.out).mono ?_; rintro e w4 ⟨rfl, hb4⟩; have nS := Aside0.mk (St.step (by repeat (first | (with_reducible exact HS.out) | (with_reducible apply St.drew) | (with_reducible apply St.drewN) | (with_reducible apply St.alloc) | decide)) hb4); clear HS; have HS := nS; clear nS hb4))
  go_upto_region 8 with (fail)
  go_cut [6, 7] (fun v6 v7 wc => Got w [(g2, #[.bool b, .slice Ab1 lb1.length cb1, .slice Ab2 lb2.length cb2], 24), (g1, #[.bool a, .slice Aa1 la1.length ca1, .slice Aa2 la2.length ca2], 24)] ([] : List PrD) 28 v1 v2 v3 v4 v6 v7 wc)
  case first =>
    go_region_held3 (fun w' => w'.cell? ⟨g1, 0, none⟩ = some (.bool a) ∧ w'.cell? ⟨g1, 1, none⟩ = some (.slice Aa1 la1.length ca1) ∧ w'.cell? ⟨g1, 2, none⟩ = some (.slice Aa2 la2.length ca2) ∧ w'.cell? ⟨g2, 0, none⟩ = some (.bool b) ∧ w'.cell? ⟨g2, 1, none⟩ = some (.slice Ab1 lb1.length cb1) ∧ w'.cell? ⟨g2, 2, none⟩ = some (.slice Ab2 lb2.length cb2)) ((apply St.cells2 (w := w) (t1 := 24) (t2 := 24); (repeat (first | (with_reducible exact HS.out) | (with_reducible apply St.drew) | (with_reducible apply St.drewN) | (with_reducible apply St.alloc) | (with_reducible apply St.set3) | decide)); all_goals simp)) (first | (go_at_call_of 18 (Value.agg #[Value.bool a, Value.slice Aa1 la1.length ca1, Value.slice Aa2 la2.length ca2]); refine (laws_toArray.calls kta a _ _ la1 _ _ la2 a la1 la2 _ (by (with_reducible repeat (first | refine Kd.C_drew ?_ | refine Kd.C_drewN ?_ _ | refine Kd.C_alloc ?_ _)); exact (Kd.C_below Ha1.out HS.out.below)) Ka1.out (by (with_reducible repeat (first | refine Kd.C_drew ?_ | refine Kd.C_drewN ?_ _ | refine Kd.C_alloc ?_ _)); exact (Kd.C_below Ha2.out HS.out.below)) Ka2.out hta.out).mono ?_; rintro e w5 ⟨x5, y5, rfl, hx5, hy5, hb5⟩; obtain ⟨Ax5, cx5, rfl⟩ := Kd.R_slice hx5; obtain ⟨Ay5, cy5, rfl⟩ := Kd.R_slice hy5; have nS := Aside0.mk (St.add (by repeat (first | (with_reducible exact HS.out) | (with_reducible apply St.drew) | (with_reducible apply St.drewN) | (with_reducible apply St.alloc) | decide)) hb5 (Nat.le_refl _) hx5 hy5); clear HS; have HS := nS; clear nS hb5 hx5 hy5) | (go_at_call_of 18 (Value.agg #[Value.bool b, Value.slice Ab1 lb1.length cb1, Value.slice Ab2 lb2.length cb2]); refine (laws_toArray.calls ktb b _ _ lb1 _ _ lb2 b lb1 lb2 _ (by (with_reducible repeat (first | refine Kd.C_drew ?_ | refine Kd.C_drewN ?_ _ | refine Kd.C_alloc ?_ _)); exact (Kd.C_below Hb1.out HS.out.below)) Kb1.out (by (with_reducible repeat (first | refine Kd.C_drew ?_ | refine Kd.C_drewN ?_ _ | refine Kd.C_alloc ?_ _)); exact (Kd.C_below Hb2.out HS.out.below)) Kb2.out htb.out).mono ?_; rintro e w6 ⟨x6, y6, rfl, hx6, hy6, hb6⟩; obtain ⟨Ax6, cx6, rfl⟩ := Kd.R_slice hx6; obtain ⟨Ay6, cy6, rfl⟩ := Kd.R_slice hy6; have nS := Aside0.mk (St.add (by repeat (first | (with_reducible exact HS.out) | (with_reducible apply St.drew) | (with_reducible apply St.drewN) | (with_reducible apply St.alloc) | decide)) hb6 (Nat.le_refl _) hx6 hy6); clear HS; have HS := nS; clear nS hb6 hx6 hy6) | (go_at_call 49; refine (spec_Encode.calls ks a Ax5 cx5 la1 Ay5 cy5 la2 b Ax6 cx6 lb1 Ay6 cy6 lb2 v1 v2 v3 v4 _ (by (with_reducible repeat (first | refine Kd.C_drew ?_ | refine Kd.C_drewN ?_ _ | refine Kd.C_alloc ?_ _)); exact (HS.out.nth 1 rfl).c1.2.1) (HS.out.nth 1 rfl).c1.2.2 (by (with_reducible repeat (first | refine Kd.C_drew ?_ | refine Kd.C_drewN ?_ _ | refine Kd.C_alloc ?_ _)); exact (HS.out.nth 1 rfl).c2.2.1) (HS.out.nth 1 rfl).c2.2.2 (by (with_reducible repeat (first | refine Kd.C_drew ?_ | refine Kd.C_drewN ?_ _ | refine Kd.C_alloc ?_ _)); exact (HS.out.nth 0 rfl).c1.2.1) (HS.out.nth 0 rfl).c1.2.2 (by (with_reducible repeat (first | refine Kd.C_drew ?_ | refine Kd.C_drewN ?_ _ | refine Kd.C_alloc ?_ _)); exact (HS.out.nth 0 rfl).c2.2.1) (HS.out.nth 0 rfl).c2.2.2 hsp.out).mono ?_; rintro e w7 ⟨x7, y7, rfl, hx7, hy7, hb7⟩; obtain ⟨Ax7, cx7, rfl⟩ := Kd.R_slice hx7; obtain ⟨Ay7, cy7, rfl⟩ := Kd.R_slice hy7; have nS := Aside0.mk (St.add (by repeat (first | (with_reducible exact HS.out) | (with_reducible apply St.drew) | (with_reducible apply St.drewN) | (with_reducible apply St.alloc) | decide)) hb7 (Nat.le_refl _) hx7 hy7); clear HS; have HS := nS; clear nS hb7 hx7 hy7; have hz_ := Aside0.mk (HS.out.idx 0 rfl); have hx0_ := (cells3 hz_.out).1; have hx1_ := (cells3 hz_.out).2.1; have hx2_ := (cells3 hz_.out).2.2; have hy0_ := blk_frozen hz_.out 0; have hy1_ := blk_frozen hz_.out 1; have hy2_ := blk_frozen hz_.out 2))
    all_goals
      go_wp2_with fail
      go_meet
      case rel =>
        (try (with_reducible refine Got.drew ?_))
        first | (with_reducible refine gotB HS.out ?_) | (with_reducible refine gotA HS.out ?_ (show 28 ≠ 3 by decide))
        repeat (first | (with_reducible exact List.Sublist.refl _) | (with_reducible exact List.nil_sublist _) | (with_reducible apply List.Sublist.cons_cons) | (with_reducible apply List.Sublist.cons))
  case rest =>
    obtain ⟨g8, Az8, cz8, Bz8, dz8, lo8, hi8, rfl, rfl, hs8⟩ := hcut; have HS := Aside0.mk hs8; clear hs8
    go_upto_region 10 with (first | ((with_reducible refine gate_dst (N := 35) rfl ?_); refine wpList_load_row rfl 24 (.tmp 2) rfl g1 rfl 24 #[.bool a, .slice Aa1 la1.length ca1, .slice Aa2 la2.length ca2] (0, 0) _ (HS.out.idx 2 rfl) Try.underlying24 rfl (by kernel_rfl) ?_) | (go_at_call_of 18 (Value.agg #[Value.bool a, Value.slice Aa1 la1.length ca1, Value.slice Aa2 la2.length ca2]); refine (laws_toArray.calls kta a _ _ la1 _ _ la2 a la1 la2 _ (by (with_reducible repeat (first | refine Kd.C_drew ?_ | refine Kd.C_drewN ?_ _ | refine Kd.C_alloc ?_ _)); exact (Kd.C_below Ha1.out HS.out.below)) Ka1.out (by (with_reducible repeat (first | refine Kd.C_drew ?_ | refine Kd.C_drewN ?_ _ | refine Kd.C_alloc ?_ _)); exact (Kd.C_below Ha2.out HS.out.below)) Ka2.out hta.out).mono ?_; rintro e w9 ⟨x9, y9, rfl, hx9, hy9, hb9⟩; obtain ⟨Ax9, cx9, rfl⟩ := Kd.R_slice hx9; obtain ⟨Ay9, cy9, rfl⟩ := Kd.R_slice hy9; have nS := Aside0.mk (St.add (by repeat (first | (with_reducible exact HS.out) | (with_reducible apply St.drew) | (with_reducible apply St.drewN) | (with_reducible apply St.alloc) | decide)) hb9 (Nat.le_refl _) hx9 hy9); clear HS; have HS := nS; clear nS hb9 hx9 hy9) | ((with_reducible refine gate_dst (N := 8) rfl ?_); refine box_event ?hg (N := 8) ?hd (cs := #[.bool false, .slice none 0 0, .slice none 0 0]) (t := 28) ?hr ?_; (case hd => rfl); (case hg => rfl); (case hr => first | (go_simp; done) | (go_simp; rfl)); intro g10 hg10 w10 hx10 hb10; have nS := Aside0.mk (HS.out.box hg10 hx10 hb10 (by decide)); clear HS; have HS := nS; clear nS hg10 hx10 hb10) | ((with_reducible refine gate_store rfl ?_); refine store_named rfl 28 (.tmp 8) (.tmp 36) rfl g10 #[.bool a, .slice Ax9 la1.length cx9, .slice Ay9 la2.length cy9] rfl rfl 28 #[.bool false, .slice none 0 0, .slice none 0 0] (HS.out.idx 0 rfl) (by kernel_rfl) rfl (by simp [Value.oneCell']) ?_; intro w11 hx11 hb11; have nS := Aside0.mk (HS.out.put 0 rfl hx11 hb11); simp only [List.set_cons_zero, List.set_cons_succ] at nS; clear HS; have HS := nS; clear nS hx11 hb11))
    go_upto_region 11 with (first | ((with_reducible refine gate_dst (N := 37) rfl ?_); refine wpList_load_row rfl 24 (.tmp 3) rfl g2 rfl 24 #[.bool b, .slice Ab1 lb1.length cb1, .slice Ab2 lb2.length cb2] (0, 0) _ (HS.out.idx 2 rfl) Try.underlying24 rfl (by kernel_rfl) ?_) | (go_at_call_of 18 (Value.agg #[Value.bool b, Value.slice Ab1 lb1.length cb1, Value.slice Ab2 lb2.length cb2]); refine (laws_toArray.calls ktb b _ _ lb1 _ _ lb2 b lb1 lb2 _ (by (with_reducible repeat (first | refine Kd.C_drew ?_ | refine Kd.C_drewN ?_ _ | refine Kd.C_alloc ?_ _)); exact (Kd.C_below Hb1.out HS.out.below)) Kb1.out (by (with_reducible repeat (first | refine Kd.C_drew ?_ | refine Kd.C_drewN ?_ _ | refine Kd.C_alloc ?_ _)); exact (Kd.C_below Hb2.out HS.out.below)) Kb2.out htb.out).mono ?_; rintro e w12 ⟨x12, y12, rfl, hx12, hy12, hb12⟩; obtain ⟨Ax12, cx12, rfl⟩ := Kd.R_slice hx12; obtain ⟨Ay12, cy12, rfl⟩ := Kd.R_slice hy12; have nS := Aside0.mk (St.add (by repeat (first | (with_reducible exact HS.out) | (with_reducible apply St.drew) | (with_reducible apply St.drewN) | (with_reducible apply St.alloc) | decide)) hb12 (Nat.le_refl _) hx12 hy12); clear HS; have HS := nS; clear nS hb12 hx12 hy12) | ((with_reducible refine gate_dst (N := 9) rfl ?_); refine box_event ?hg (N := 9) ?hd (cs := #[.bool false, .slice none 0 0, .slice none 0 0]) (t := 28) ?hr ?_; (case hd => rfl); (case hg => rfl); (case hr => first | (go_simp; done) | (go_simp; rfl)); intro g13 hg13 w13 hx13 hb13; have nS := Aside0.mk (HS.out.box hg13 hx13 hb13 (by decide)); clear HS; have HS := nS; clear nS hg13 hx13 hb13) | ((with_reducible refine gate_store rfl ?_); refine store_named rfl 28 (.tmp 9) (.tmp 38) rfl g13 #[.bool b, .slice Ax12 lb1.length cx12, .slice Ay12 lb2.length cy12] rfl rfl 28 #[.bool false, .slice none 0 0, .slice none 0 0] (HS.out.idx 0 rfl) (by kernel_rfl) rfl (by simp [Value.oneCell']) ?_; intro w14 hx14 hb14; have nS := Aside0.mk (HS.out.put 0 rfl hx14 hb14); simp only [List.set_cons_zero, List.set_cons_succ] at nS; clear HS; have HS := nS; clear nS hx14 hb14))
    go_upto_region 12 with (first | ((with_reducible refine gate_dst (N := 40) rfl ?_); refine wpList_load_row rfl 28 (.tmp 8) rfl g10 rfl 28 #[.bool a, .slice Ax9 la1.length cx9, .slice Ay9 la2.length cy9] (0, 0) _ (HS.out.idx 1 rfl) Try.underlying28 rfl (by kernel_rfl) ?_) | ((with_reducible refine gate_dst (N := 41) rfl ?_); refine wpList_load_row rfl 28 (.tmp 9) rfl g13 rfl 28 #[.bool b, .slice Ax12 lb1.length cx12, .slice Ay12 lb2.length cy12] (0, 0) _ (HS.out.idx 0 rfl) Try.underlying28 rfl (by kernel_rfl) ?_) | (go_at_call 50; refine (impl_Encode.calls a Ax9 cx9 la1 Ay9 cy9 la2 b Ax12 cx12 lb1 Ay12 cy12 lb2 v1 v2 v3 v4 _ (by (with_reducible repeat (first | refine Kd.C_drew ?_ | refine Kd.C_drewN ?_ _ | refine Kd.C_alloc ?_ _)); exact (HS.out.nth 1 rfl).c1.2.1) (HS.out.nth 1 rfl).c1.2.2 (by (with_reducible repeat (first | refine Kd.C_drew ?_ | refine Kd.C_drewN ?_ _ | refine Kd.C_alloc ?_ _)); exact (HS.out.nth 1 rfl).c2.2.1) (HS.out.nth 1 rfl).c2.2.2 (by (with_reducible repeat (first | refine Kd.C_drew ?_ | refine Kd.C_drewN ?_ _ | refine Kd.C_alloc ?_ _)); exact (HS.out.nth 0 rfl).c1.2.1) (HS.out.nth 0 rfl).c1.2.2 (by (with_reducible repeat (first | refine Kd.C_drew ?_ | refine Kd.C_drewN ?_ _ | refine Kd.C_alloc ?_ _)); exact (HS.out.nth 0 rfl).c2.2.1) (HS.out.nth 0 rfl).c2.2.2 him.out).mono ?_; rintro e w15 ⟨x15, y15, rfl, hx15, hy15, hb15⟩; obtain ⟨Ax15, cx15, rfl⟩ := Kd.R_slice hx15; obtain ⟨Ay15, cy15, rfl⟩ := Kd.R_slice hy15; have nS := Aside0.mk (St.add (by repeat (first | (with_reducible exact HS.out) | (with_reducible apply St.drew) | (with_reducible apply St.drewN) | (with_reducible apply St.alloc) | decide)) hb15 (Nat.le_refl _) hx15 hy15); clear HS; have HS := nS; clear nS hb15 hx15 hy15) | ((with_reducible refine gate_dst (N := 10) rfl ?_); refine box_event ?hg (N := 10) ?hd (cs := #[.bool false, .slice none 0 0, .slice none 0 0]) (t := 28) ?hr ?_; (case hd => rfl); (case hg => rfl); (case hr => first | (go_simp; done) | (go_simp; rfl)); intro g16 hg16 w16 hx16 hb16; have nS := Aside0.mk (HS.out.box hg16 hx16 hb16 (by decide)); clear HS; have HS := nS; clear nS hg16 hx16 hb16) | ((with_reducible refine gate_store rfl ?_); refine store_named rfl 28 (.tmp 10) (.tmp 43) rfl g16 #[.bool v1, .slice Ax15 v2.length cx15, .slice Ay15 v3.length cy15] rfl rfl 28 #[.bool false, .slice none 0 0, .slice none 0 0] (HS.out.idx 0 rfl) (by kernel_rfl) rfl (by simp [Value.oneCell']) ?_; intro w17 hx17 hb17; have nS := Aside0.mk (HS.out.put 0 rfl hx17 hb17); simp only [List.set_cons_zero, List.set_cons_succ] at nS; clear HS; have HS := nS; clear nS hx17 hb17))
    go_upto_region 14 with (first | ((with_reducible refine gate_dst (N := 45) rfl ?_); refine wpList_load_row rfl 28 (.tmp 10) rfl g16 rfl 28 #[.bool v1, .slice Ax15 v2.length cx15, .slice Ay15 v3.length cy15] (0, 0) _ (HS.out.idx 0 rfl) Try.underlying28 rfl (by kernel_rfl) ?_) | ((with_reducible refine gate_dst (N := 46) rfl ?_); refine wpList_load_row rfl 28 (.tmp 6) rfl g8 rfl 28 #[.bool v1, .slice Az8 v2.length cz8, .slice Bz8 v3.length dz8] (0, 0) _ (HS.out.idx 3 rfl) Try.underlying28 rfl (by kernel_rfl) ?_) | (go_at_call 21; refine (laws_eqArray.calls kev v1 Ax15 cx15 v2 Ay15 cy15 v3 v1 Az8 cz8 v2 Bz8 dz8 v3 true _ (by (with_reducible repeat (first | refine Kd.C_drew ?_ | refine Kd.C_drewN ?_ _ | refine Kd.C_alloc ?_ _)); exact (HS.out.nth 0 rfl).c1.2.1) (HS.out.nth 0 rfl).c1.2.2 (by (with_reducible repeat (first | refine Kd.C_drew ?_ | refine Kd.C_drewN ?_ _ | refine Kd.C_alloc ?_ _)); exact (HS.out.nth 0 rfl).c2.2.1) (HS.out.nth 0 rfl).c2.2.2 (by (with_reducible repeat (first | refine Kd.C_drew ?_ | refine Kd.C_drewN ?_ _ | refine Kd.C_alloc ?_ _)); exact (HS.out.nth 3 rfl).c1.2.1) (HS.out.nth 3 rfl).c1.2.2 (by (with_reducible repeat (first | refine Kd.C_drew ?_ | refine Kd.C_drewN ?_ _ | refine Kd.C_alloc ?_ _)); exact (HS.out.nth 3 rfl).c2.2.1) (HS.out.nth 3 rfl).c2.2.2 hev.out).mono ?_; rintro e w18 ⟨rfl, hb18⟩; have nS := Aside0.mk (St.step (by repeat (first | (with_reducible exact HS.out) | (with_reducible apply St.drew) | (with_reducible apply St.drewN) | (with_reducible apply St.alloc) | decide)) hb18); clear HS; have HS := nS; clear nS hb18))
    go_region_held3 (fun w' => w'.cell? ⟨g10, 0, none⟩ = some (.bool a) ∧ w'.cell? ⟨g10, 1, none⟩ = some (.slice Ax9 la1.length cx9) ∧ w'.cell? ⟨g10, 2, none⟩ = some (.slice Ay9 la2.length cy9) ∧ w'.cell? ⟨g1, 0, none⟩ = some (.bool a) ∧ w'.cell? ⟨g1, 1, none⟩ = some (.slice Aa1 la1.length ca1) ∧ w'.cell? ⟨g1, 2, none⟩ = some (.slice Aa2 la2.length ca2)) ((apply St.cells2 (w := w) (t1 := 28) (t2 := 24); (repeat (first | (with_reducible exact HS.out) | (with_reducible apply St.drew) | (with_reducible apply St.drewN) | (with_reducible apply St.alloc) | (with_reducible apply St.set3) | decide)); all_goals simp)) (first | (go_at_call_of 18 (Value.agg #[Value.bool a, Value.slice Aa1 la1.length ca1, Value.slice Aa2 la2.length ca2]); refine (laws_toArray.calls kta a _ _ la1 _ _ la2 a la1 la2 _ (by (with_reducible repeat (first | refine Kd.C_drew ?_ | refine Kd.C_drewN ?_ _ | refine Kd.C_alloc ?_ _)); exact (Kd.C_below Ha1.out HS.out.below)) Ka1.out (by (with_reducible repeat (first | refine Kd.C_drew ?_ | refine Kd.C_drewN ?_ _ | refine Kd.C_alloc ?_ _)); exact (Kd.C_below Ha2.out HS.out.below)) Ka2.out hta.out).mono ?_; rintro e w19 ⟨x19, y19, rfl, hx19, hy19, hb19⟩; obtain ⟨Ax19, cx19, rfl⟩ := Kd.R_slice hx19; obtain ⟨Ay19, cy19, rfl⟩ := Kd.R_slice hy19; have nS := Aside0.mk (St.add (by repeat (first | (with_reducible exact HS.out) | (with_reducible apply St.drew) | (with_reducible apply St.drewN) | (with_reducible apply St.alloc) | decide)) hb19 (Nat.le_refl _) hx19 hy19); clear HS; have HS := nS; clear nS hb19 hx19 hy19) | (go_at_call 21; refine (laws_eqArray.calls kea a Ax9 cx9 la1 Ay9 cy9 la2 a Ax19 cx19 la1 Ay19 cy19 la2 true _ (by (with_reducible repeat (first | refine Kd.C_drew ?_ | refine Kd.C_drewN ?_ _ | refine Kd.C_alloc ?_ _)); exact (HS.out.nth 3 rfl).c1.2.1) (HS.out.nth 3 rfl).c1.2.2 (by (with_reducible repeat (first | refine Kd.C_drew ?_ | refine Kd.C_drewN ?_ _ | refine Kd.C_alloc ?_ _)); exact (HS.out.nth 3 rfl).c2.2.1) (HS.out.nth 3 rfl).c2.2.2 (by (with_reducible repeat (first | refine Kd.C_drew ?_ | refine Kd.C_drewN ?_ _ | refine Kd.C_alloc ?_ _)); exact (HS.out.nth 0 rfl).c1.2.1) (HS.out.nth 0 rfl).c1.2.2 (by (with_reducible repeat (first | refine Kd.C_drew ?_ | refine Kd.C_drewN ?_ _ | refine Kd.C_alloc ?_ _)); exact (HS.out.nth 0 rfl).c2.2.1) (HS.out.nth 0 rfl).c2.2.2 hea.out).mono ?_; rintro e w20 ⟨rfl, hb20⟩; have nS := Aside0.mk (St.step (by repeat (first | (with_reducible exact HS.out) | (with_reducible apply St.drew) | (with_reducible apply St.drewN) | (with_reducible apply St.alloc) | decide)) hb20); clear HS; have HS := nS; clear nS hb20))
    go_upto_region 16 with (fail)
    go_region_held3 (fun w' => w'.cell? ⟨g13, 0, none⟩ = some (.bool b) ∧ w'.cell? ⟨g13, 1, none⟩ = some (.slice Ax12 lb1.length cx12) ∧ w'.cell? ⟨g13, 2, none⟩ = some (.slice Ay12 lb2.length cy12) ∧ w'.cell? ⟨g2, 0, none⟩ = some (.bool b) ∧ w'.cell? ⟨g2, 1, none⟩ = some (.slice Ab1 lb1.length cb1) ∧ w'.cell? ⟨g2, 2, none⟩ = some (.slice Ab2 lb2.length cb2)) ((apply St.cells2 (w := w) (t1 := 28) (t2 := 24); (repeat (first | (with_reducible exact HS.out) | (with_reducible apply St.drew) | (with_reducible apply St.drewN) | (with_reducible apply St.alloc) | (with_reducible apply St.set3) | decide)); all_goals simp)) (first | (go_at_call_of 18 (Value.agg #[Value.bool b, Value.slice Ab1 lb1.length cb1, Value.slice Ab2 lb2.length cb2]); refine (laws_toArray.calls ktb b _ _ lb1 _ _ lb2 b lb1 lb2 _ (by (with_reducible repeat (first | refine Kd.C_drew ?_ | refine Kd.C_drewN ?_ _ | refine Kd.C_alloc ?_ _)); exact (Kd.C_below Hb1.out HS.out.below)) Kb1.out (by (with_reducible repeat (first | refine Kd.C_drew ?_ | refine Kd.C_drewN ?_ _ | refine Kd.C_alloc ?_ _)); exact (Kd.C_below Hb2.out HS.out.below)) Kb2.out htb.out).mono ?_; rintro e w21 ⟨x21, y21, rfl, hx21, hy21, hb21⟩; obtain ⟨Ax21, cx21, rfl⟩ := Kd.R_slice hx21; obtain ⟨Ay21, cy21, rfl⟩ := Kd.R_slice hy21; have nS := Aside0.mk (St.add (by repeat (first | (with_reducible exact HS.out) | (with_reducible apply St.drew) | (with_reducible apply St.drewN) | (with_reducible apply St.alloc) | decide)) hb21 (Nat.le_refl _) hx21 hy21); clear HS; have HS := nS; clear nS hb21 hx21 hy21) | (go_at_call 21; refine (laws_eqArray.calls keb b Ax12 cx12 lb1 Ay12 cy12 lb2 b Ax21 cx21 lb1 Ay21 cy21 lb2 true _ (by (with_reducible repeat (first | refine Kd.C_drew ?_ | refine Kd.C_drewN ?_ _ | refine Kd.C_alloc ?_ _)); exact (HS.out.nth 3 rfl).c1.2.1) (HS.out.nth 3 rfl).c1.2.2 (by (with_reducible repeat (first | refine Kd.C_drew ?_ | refine Kd.C_drewN ?_ _ | refine Kd.C_alloc ?_ _)); exact (HS.out.nth 3 rfl).c2.2.1) (HS.out.nth 3 rfl).c2.2.2 (by (with_reducible repeat (first | refine Kd.C_drew ?_ | refine Kd.C_drewN ?_ _ | refine Kd.C_alloc ?_ _)); exact (HS.out.nth 0 rfl).c1.2.1) (HS.out.nth 0 rfl).c1.2.2 (by (with_reducible repeat (first | refine Kd.C_drew ?_ | refine Kd.C_drewN ?_ _ | refine Kd.C_alloc ?_ _)); exact (HS.out.nth 0 rfl).c2.2.1) (HS.out.nth 0 rfl).c2.2.2 heb.out).mono ?_; rintro e w22 ⟨rfl, hb22⟩; have nS := Aside0.mk (St.step (by repeat (first | (with_reducible exact HS.out) | (with_reducible apply St.drew) | (with_reducible apply St.drewN) | (with_reducible apply St.alloc) | decide)) hb22); clear HS; have HS := nS; clear nS hb22))
    go_upto_region 18 with (fail)
    go_upto_region 19 with (fail)
    go_upto_region 20 with (first | ((with_reducible refine gate_dst (N := 64) rfl ?_); refine wpList_load_row rfl 28 (.tmp 8) rfl g10 rfl 28 #[.bool a, .slice Ax9 la1.length cx9, .slice Ay9 la2.length cy9] (0, 0) _ (HS.out.idx 2 rfl) Try.underlying28 rfl (by kernel_rfl) ?_) | (go_at_call 23; have hr_ := HS.out.ready' 4 rfl; refine (laws_markArray.calls kk1 a (fun k => some k = ((.slice Ax9 la1.length cx9) : Value).ownBlock) (.slice Ax9 la1.length cx9) la1 (fun k => some k = ((.slice Ay9 la2.length cy9) : Value).ownBlock) (.slice Ay9 la2.length cy9) la2 1 k1 m11 m12 w w22 HS.out.below hr_.1 hr_.2.1 hr_.2.2.1 hr_.2.2.2 hm1.out).mono ?_; clear hr_; rintro e w23 ⟨rfl, hx23, hy23, hb23, hk23⟩; have nS := Aside0.mk (HS.out.mark 4 rfl hk23 hx23 hy23 hb23); simp only [List.set_cons_zero, List.set_cons_succ] at nS; clear HS; have HS := nS; clear nS hk23 hx23 hy23 hb23))
    go_upto_region 21 with (first | ((with_reducible refine gate_dst (N := 67) rfl ?_); refine wpList_load_row rfl 28 (.tmp 9) rfl g13 rfl 28 #[.bool b, .slice Ax12 lb1.length cx12, .slice Ay12 lb2.length cy12] (0, 0) _ (HS.out.idx 1 rfl) Try.underlying28 rfl (by kernel_rfl) ?_) | (go_at_call 23; have hr_ := HS.out.ready' 3 rfl; refine (laws_markArray.calls kk2 b (fun k => some k = ((.slice Ax12 lb1.length cx12) : Value).ownBlock) (.slice Ax12 lb1.length cx12) lb1 (fun k => some k = ((.slice Ay12 lb2.length cy12) : Value).ownBlock) (.slice Ay12 lb2.length cy12) lb2 k1 k2 m21 m22 w w23 HS.out.below hr_.1 hr_.2.1 hr_.2.2.1 hr_.2.2.2 hm2.out).mono ?_; clear hr_; rintro e w24 ⟨rfl, hx24, hy24, hb24, hk24⟩; have nS := Aside0.mk (HS.out.mark 3 rfl hk24 hx24 hy24 hb24); simp only [List.set_cons_zero, List.set_cons_succ] at nS; clear HS; have HS := nS; clear nS hk24 hx24 hy24 hb24))
    have gc0_ := cells3 (HS.out.idx 0 rfl); have gd0_ := gc0_.2; replace gc0_ := gc0_.1; have ge0_ := gd0_.2; replace gd0_ := gd0_.1
    have gc1_ := cells3 (HS.out.idx 3 rfl); have gd1_ := gc1_.2; replace gc1_ := gc1_.1; have ge1_ := gd1_.2; replace gd1_ := gd1_.1
    go_upto_region 23 with (first | (go_at_call 21; refine (laws_eqArray.calls kev v1 Ax15 cx15 v2 Ay15 cy15 v3 v1 Az8 cz8 v2 Bz8 dz8 v3 true _ (by (with_reducible repeat (first | refine Kd.C_drew ?_ | refine Kd.C_drewN ?_ _ | refine Kd.C_alloc ?_ _)); exact (HS.out.nth 2 rfl).c1.2.1) (HS.out.nth 2 rfl).c1.2.2 (by (with_reducible repeat (first | refine Kd.C_drew ?_ | refine Kd.C_drewN ?_ _ | refine Kd.C_alloc ?_ _)); exact (HS.out.nth 2 rfl).c2.2.1) (HS.out.nth 2 rfl).c2.2.2 (by (with_reducible repeat (first | refine Kd.C_drew ?_ | refine Kd.C_drewN ?_ _ | refine Kd.C_alloc ?_ _)); exact (HS.out.nth 5 rfl).c1.2.1) (HS.out.nth 5 rfl).c1.2.2 (by (with_reducible repeat (first | refine Kd.C_drew ?_ | refine Kd.C_drewN ?_ _ | refine Kd.C_alloc ?_ _)); exact (HS.out.nth 5 rfl).c2.2.1) (HS.out.nth 5 rfl).c2.2.2 hev.out).mono ?_; rintro e w25 ⟨rfl, hb25⟩; have nS := Aside0.mk (St.step (by repeat (first | (with_reducible exact HS.out) | (with_reducible apply St.drew) | (with_reducible apply St.drewN) | (with_reducible apply St.alloc) | decide)) hb25); clear HS; have HS := nS; clear nS hb25))
    clear gc0_ gd0_ ge0_ gc1_ gd1_ ge1_
    go_upto_region 24 with (fail)
    go_upto_region 25 with (first | ((with_reducible refine gate_dst (N := 83) rfl ?_); refine wpList_load_row rfl 28 (.tmp 10) rfl g16 rfl 28 #[.bool v1, .slice Ax15 v2.length cx15, .slice Ay15 v3.length cy15] (0, 0) _ (HS.out.idx 0 rfl) Try.underlying28 rfl (by kernel_rfl) ?_) | (go_at_call 23; have hr_ := HS.out.ready' 2 rfl; refine (laws_markArray.calls kk3 v1 (fun k => some k = ((.slice Ax15 v2.length cx15) : Value).ownBlock) (.slice Ax15 v2.length cx15) v2 (fun k => some k = ((.slice Ay15 v3.length cy15) : Value).ownBlock) (.slice Ay15 v3.length cy15) v3 1 k3 m31 m32 w w25 HS.out.below hr_.1 hr_.2.1 hr_.2.2.1 hr_.2.2.2 hm3.out).mono ?_; clear hr_; rintro e w26 ⟨rfl, hx26, hy26, hb26, hk26⟩; have nS := Aside0.mk (HS.out.mark 2 rfl hk26 hx26 hy26 hb26); simp only [List.set_cons_zero, List.set_cons_succ] at nS; clear HS; have HS := nS; clear nS hk26 hx26 hy26 hb26))
    go_upto_region 26 with (fail)
    go_upto_region 27 with (first | ((with_reducible refine gate_dst (N := 86) rfl ?_); refine wpList_load_row rfl 28 (.tmp 10) rfl g16 rfl 28 #[.bool v1, .slice Ax15 v2.length cx15, .slice Ay15 v3.length cy15] (0, 0) _ (HS.out.idx 0 rfl) Try.underlying28 rfl (by kernel_rfl) ?_) | (go_at_call 25; refine (held_n kh v1 Ax15 Ay15 _ _ cx15 cy15 m31 m32 1 k3 _ lm31.out lm32.out (by (with_reducible repeat (first | refine Kd.C_drew ?_ | refine Kd.C_drewN ?_ _ | refine Kd.C_alloc ?_ _)); exact (HS.out.nth 2 rfl).c1.2.1) (HS.out.nth 2 rfl).c1.2.2 (by (with_reducible repeat (first | refine Kd.C_drew ?_ | refine Kd.C_drewN ?_ _ | refine Kd.C_alloc ?_ _)); exact (HS.out.nth 2 rfl).c2.2.1) (HS.out.nth 2 rfl).c2.2.2 hhG.out).mono ?_; rintro e w27 ⟨rfl, hb27⟩; have nS := Aside0.mk (St.step (by repeat (first | (with_reducible exact HS.out) | (with_reducible apply St.drew) | (with_reducible apply St.drewN) | (with_reducible apply St.alloc) | decide)) hb27); clear HS; have HS := nS; clear nS hb27))
    go_upto_region 29 with (fail)
    go_upto_region 31 with (fail)
    go_cut [15, 16] (fun v6 v7 wc => Got w [(g16, #[.bool v1, .slice Ax15 v2.length cx15, .slice Ay15 v3.length cy15], 28), (g13, #[.bool b, .slice Ax12 lb1.length cx12, .slice Ay12 lb2.length cy12], 28), (g10, #[.bool a, .slice Ax9 la1.length cx9, .slice Ay9 la2.length cy9], 28), (g8, #[.bool v1, .slice Az8 v2.length cz8, .slice Bz8 v3.length dz8], 28), (g2, #[.bool b, .slice Ab1 lb1.length cb1, .slice Ab2 lb2.length cb2], 24), (g1, #[.bool a, .slice Aa1 la1.length ca1, .slice Aa2 la2.length ca2], 24)] ([⟨w14.heap.size, w15.heap.size, .slice Ax15 v2.length cx15, .slice Ay15 v3.length cy15, m31, m32⟩, ⟨lo8, hi8, .slice Az8 v2.length cz8, .slice Bz8 v3.length dz8, v2, v3⟩] : List PrD) 28 v1 v2 v3 v4 v6 v7 wc)
    case first =>
      go_region_held3 (fun w' => w'.cell? ⟨g1, 0, none⟩ = some (.bool a) ∧ w'.cell? ⟨g1, 1, none⟩ = some (.slice Aa1 la1.length ca1) ∧ w'.cell? ⟨g1, 2, none⟩ = some (.slice Aa2 la2.length ca2) ∧ w'.cell? ⟨g2, 0, none⟩ = some (.bool b) ∧ w'.cell? ⟨g2, 1, none⟩ = some (.slice Ab1 lb1.length cb1) ∧ w'.cell? ⟨g2, 2, none⟩ = some (.slice Ab2 lb2.length cb2)) ((apply St.cells2 (w := w) (t1 := 24) (t2 := 24); (repeat (first | (with_reducible exact HS.out) | (with_reducible apply St.drew) | (with_reducible apply St.drewN) | (with_reducible apply St.alloc) | (with_reducible apply St.set3) | decide)); all_goals simp)) (first | (go_at_call_of 18 (Value.agg #[Value.bool a, Value.slice Aa1 la1.length ca1, Value.slice Aa2 la2.length ca2]); refine (laws_toArray.calls kta a _ _ la1 _ _ la2 a la1 la2 _ (by (with_reducible repeat (first | refine Kd.C_drew ?_ | refine Kd.C_drewN ?_ _ | refine Kd.C_alloc ?_ _)); exact (Kd.C_below Ha1.out HS.out.below)) Ka1.out (by (with_reducible repeat (first | refine Kd.C_drew ?_ | refine Kd.C_drewN ?_ _ | refine Kd.C_alloc ?_ _)); exact (Kd.C_below Ha2.out HS.out.below)) Ka2.out hta.out).mono ?_; rintro e w28 ⟨x28, y28, rfl, hx28, hy28, hb28⟩; obtain ⟨Ax28, cx28, rfl⟩ := Kd.R_slice hx28; obtain ⟨Ay28, cy28, rfl⟩ := Kd.R_slice hy28; have nS := Aside0.mk (St.add (by repeat (first | (with_reducible exact HS.out) | (with_reducible apply St.drew) | (with_reducible apply St.drewN) | (with_reducible apply St.alloc) | decide)) hb28 (Nat.le_refl _) hx28 hy28); clear HS; have HS := nS; clear nS hb28 hx28 hy28) | (go_at_call_of 18 (Value.agg #[Value.bool b, Value.slice Ab1 lb1.length cb1, Value.slice Ab2 lb2.length cb2]); refine (laws_toArray.calls ktb b _ _ lb1 _ _ lb2 b lb1 lb2 _ (by (with_reducible repeat (first | refine Kd.C_drew ?_ | refine Kd.C_drewN ?_ _ | refine Kd.C_alloc ?_ _)); exact (Kd.C_below Hb1.out HS.out.below)) Kb1.out (by (with_reducible repeat (first | refine Kd.C_drew ?_ | refine Kd.C_drewN ?_ _ | refine Kd.C_alloc ?_ _)); exact (Kd.C_below Hb2.out HS.out.below)) Kb2.out htb.out).mono ?_; rintro e w29 ⟨x29, y29, rfl, hx29, hy29, hb29⟩; obtain ⟨Ax29, cx29, rfl⟩ := Kd.R_slice hx29; obtain ⟨Ay29, cy29, rfl⟩ := Kd.R_slice hy29; have nS := Aside0.mk (St.add (by repeat (first | (with_reducible exact HS.out) | (with_reducible apply St.drew) | (with_reducible apply St.drewN) | (with_reducible apply St.alloc) | decide)) hb29 (Nat.le_refl _) hx29 hy29); clear HS; have HS := nS; clear nS hb29 hx29 hy29) | (go_at_call 50; refine (impl_Encode.calls a Ax28 cx28 la1 Ay28 cy28 la2 b Ax29 cx29 lb1 Ay29 cy29 lb2 v1 v2 v3 v4 _ (by (with_reducible repeat (first | refine Kd.C_drew ?_ | refine Kd.C_drewN ?_ _ | refine Kd.C_alloc ?_ _)); exact (HS.out.nth 1 rfl).c1.2.1) (HS.out.nth 1 rfl).c1.2.2 (by (with_reducible repeat (first | refine Kd.C_drew ?_ | refine Kd.C_drewN ?_ _ | refine Kd.C_alloc ?_ _)); exact (HS.out.nth 1 rfl).c2.2.1) (HS.out.nth 1 rfl).c2.2.2 (by (with_reducible repeat (first | refine Kd.C_drew ?_ | refine Kd.C_drewN ?_ _ | refine Kd.C_alloc ?_ _)); exact (HS.out.nth 0 rfl).c1.2.1) (HS.out.nth 0 rfl).c1.2.2 (by (with_reducible repeat (first | refine Kd.C_drew ?_ | refine Kd.C_drewN ?_ _ | refine Kd.C_alloc ?_ _)); exact (HS.out.nth 0 rfl).c2.2.1) (HS.out.nth 0 rfl).c2.2.2 him.out).mono ?_; rintro e w30 ⟨x30, y30, rfl, hx30, hy30, hb30⟩; obtain ⟨Ax30, cx30, rfl⟩ := Kd.R_slice hx30; obtain ⟨Ay30, cy30, rfl⟩ := Kd.R_slice hy30; have nS := Aside0.mk (St.add (by repeat (first | (with_reducible exact HS.out) | (with_reducible apply St.drew) | (with_reducible apply St.drewN) | (with_reducible apply St.alloc) | decide)) hb30 (Nat.le_refl _) hx30 hy30); clear HS; have HS := nS; clear nS hb30 hx30 hy30; have hz_ := Aside0.mk (HS.out.idx 0 rfl); have hx0_ := (cells3 hz_.out).1; have hx1_ := (cells3 hz_.out).2.1; have hx2_ := (cells3 hz_.out).2.2; have hy0_ := blk_frozen hz_.out 0; have hy1_ := blk_frozen hz_.out 1; have hy2_ := blk_frozen hz_.out 2))
      all_goals
        go_wp2_with fail
        go_meet
        case rel =>
          (try (with_reducible refine Got.drew ?_))
          first | (with_reducible refine gotB HS.out ?_) | (with_reducible refine gotA HS.out ?_ (show 28 ≠ 3 by decide))
          repeat (first | (with_reducible exact List.Sublist.refl _) | (with_reducible exact List.nil_sublist _) | (with_reducible apply List.Sublist.cons_cons) | (with_reducible apply List.Sublist.cons))
    case rest =>
      obtain ⟨g31, Az31, cz31, Bz31, dz31, lo31, hi31, rfl, rfl, hs31⟩ := hcut; have HS := Aside0.mk hs31; clear hs31
      go_upto_region 34 with (first | ((with_reducible refine gate_dst (N := 102) rfl ?_); refine wpList_load_row rfl 28 (.tmp 15) rfl g31 rfl 28 #[.bool v1, .slice Az31 v2.length cz31, .slice Bz31 v3.length dz31] (0, 0) _ (HS.out.idx 0 rfl) Try.underlying28 rfl (by kernel_rfl) ?_) | ((with_reducible refine gate_dst (N := 103) rfl ?_); refine wpList_load_row rfl 28 (.tmp 6) rfl g8 rfl 28 #[.bool v1, .slice Az8 v2.length cz8, .slice Bz8 v3.length dz8] (0, 0) _ (HS.out.idx 4 rfl) Try.underlying28 rfl (by kernel_rfl) ?_) | (go_at_call 21; refine (laws_eqArray.calls kev v1 Az31 cz31 v2 Bz31 dz31 v3 v1 Az8 cz8 v2 Bz8 dz8 v3 true _ (by (with_reducible repeat (first | refine Kd.C_drew ?_ | refine Kd.C_drewN ?_ _ | refine Kd.C_alloc ?_ _)); exact (HS.out.nth 0 rfl).c1.2.1) (HS.out.nth 0 rfl).c1.2.2 (by (with_reducible repeat (first | refine Kd.C_drew ?_ | refine Kd.C_drewN ?_ _ | refine Kd.C_alloc ?_ _)); exact (HS.out.nth 0 rfl).c2.2.1) (HS.out.nth 0 rfl).c2.2.2 (by (with_reducible repeat (first | refine Kd.C_drew ?_ | refine Kd.C_drewN ?_ _ | refine Kd.C_alloc ?_ _)); exact (HS.out.nth 2 rfl).c1.2.1) (HS.out.nth 2 rfl).c1.2.2 (by (with_reducible repeat (first | refine Kd.C_drew ?_ | refine Kd.C_drewN ?_ _ | refine Kd.C_alloc ?_ _)); exact (HS.out.nth 2 rfl).c2.2.1) (HS.out.nth 2 rfl).c2.2.2 hev.out).mono ?_; rintro e w32 ⟨rfl, hb32⟩; have nS := Aside0.mk (St.step (by repeat (first | (with_reducible exact HS.out) | (with_reducible apply St.drew) | (with_reducible apply St.drewN) | (with_reducible apply St.alloc) | decide)) hb32); clear HS; have HS := nS; clear nS hb32))
      go_upto_region 35 with (fail)
      go_upto_region 36 with (first | ((with_reducible refine gate_dst (N := 111) rfl ?_); refine wpList_load_row rfl 28 (.tmp 10) rfl g16 rfl 28 #[.bool v1, .slice Ax15 v2.length cx15, .slice Ay15 v3.length cy15] (0, 0) _ (HS.out.idx 1 rfl) Try.underlying28 rfl (by kernel_rfl) ?_) | (go_at_call 25; refine (held_n kh v1 Ax15 Ay15 _ _ cx15 cy15 m31 m32 1 k3 _ lm31.out lm32.out (by (with_reducible repeat (first | refine Kd.C_drew ?_ | refine Kd.C_drewN ?_ _ | refine Kd.C_alloc ?_ _)); exact (HS.out.nth 1 rfl).c1.2.1) (HS.out.nth 1 rfl).c1.2.2 (by (with_reducible repeat (first | refine Kd.C_drew ?_ | refine Kd.C_drewN ?_ _ | refine Kd.C_alloc ?_ _)); exact (HS.out.nth 1 rfl).c2.2.1) (HS.out.nth 1 rfl).c2.2.2 hhG.out).mono ?_; rintro e w33 ⟨rfl, hb33⟩; have nS := Aside0.mk (St.step (by repeat (first | (with_reducible exact HS.out) | (with_reducible apply St.drew) | (with_reducible apply St.drewN) | (with_reducible apply St.alloc) | decide)) hb33); clear HS; have HS := nS; clear nS hb33))
      go_upto_region 38 with (fail)
      go_upto_region 40 with (fail)
      go_wp2_with fail
      go_ret
      exact ⟨rfl, HS.out.below⟩
set_option maxHeartbeats 8000000 in
set_option maxRecDepth 100000 in
theorem lawEncode_n1 (a : Bool) (Aa1 : Option Addr) (ca1 : Nat) (la1 : List Int) (Aa2 : Option Addr) (ca2 : Nat) (la2 : List Int) (b : Bool) (Ab1 : Option Addr) (cb1 : Nat) (lb1 : List Int) (Ab2 : Option Addr) (cb2 : Nat) (lb2 : List Int)  (w : World) (ha1 : Kd.C (Kd.int .i64) w Aa1 la1.length la1) (ka1 : la1.length ≤ ca1) (ha2 : Kd.C (Kd.int .i64) w Aa2 la2.length la2) (ka2 : la2.length ≤ ca2) (hb1 : Kd.C (Kd.int .i64) w Ab1 lb1.length lb1) (kb1 : lb1.length ≤ cb1) (hb2 : Kd.C (Kd.int .i64) w Ab2 lb2.length lb2) (kb2 : lb2.length ≤ cb2)
    (hz1 : laws_szArray.f a la1 la2 1048576 = some (-1)) :
    Calls Try.prog 14 #[.agg #[.bool a, .slice Aa1 la1.length ca1, .slice Aa2 la2.length ca2], .agg #[.bool b, .slice Ab1 lb1.length cb1, .slice Ab2 lb2.length cb2]] w fun e w' => e = .returned (.bool true) ∧ Below w.heap.size w w' := by
  have Ha1 := Aside0.mk ha1
  have Ka1 := Aside0.mk ka1
  have Ha2 := Aside0.mk ha2
  have Ka2 := Aside0.mk ka2
  have Hb1 := Aside0.mk hb1
  have Kb1 := Aside0.mk kb1
  have Hb2 := Aside0.mk hb2
  have Kb2 := Aside0.mk kb2
  replace hz1 := Aside0.mk hz1
  clear ha1 ka1 ha2 ka2 hb1 kb1 hb2 kb2
  have HS := Aside0.mk (St.start w)
  go_enter Try.func14, Try.ntmps14
  go_upto_region 1 with (first | ((with_reducible refine gate_dst (N := 2) rfl ?_); refine box_event ?hg (N := 2) ?hd (cs := #[.bool a, .slice Aa1 la1.length ca1, .slice Aa2 la2.length ca2]) (t := 24) ?hr ?_; (case hd => rfl); (case hg => rfl); (case hr => first | (go_simp; done) | (go_simp; rfl)); intro g1 hg1 w1 hx1 hb1; have nS := Aside0.mk (HS.out.box hg1 hx1 hb1 (by decide)); clear HS; have HS := nS; clear nS hg1 hx1 hb1) | ((with_reducible refine gate_dst (N := 3) rfl ?_); refine box_event ?hg (N := 3) ?hd (cs := #[.bool b, .slice Ab1 lb1.length cb1, .slice Ab2 lb2.length cb2]) (t := 24) ?hr ?_; (case hd => rfl); (case hg => rfl); (case hr => first | (go_simp; done) | (go_simp; rfl)); intro g2 hg2 w2 hx2 hb2; have nS := Aside0.mk (HS.out.box hg2 hx2 hb2 (by decide)); clear HS; have HS := nS; clear nS hg2 hx2 hb2))
  go_upto_region 2 with (fail)
  go_wp2_with (first | ((with_reducible refine gate_dst (N := 17) rfl ?_); refine wpList_load_row rfl 24 (.tmp 2) rfl g1 rfl 24 #[.bool a, .slice Aa1 la1.length ca1, .slice Aa2 la2.length ca2] (0, 0) _ (HS.out.idx 1 rfl) Try.underlying24 rfl (by kernel_rfl) ?_) | (go_at_call 15; refine (laws_szArray.calls a _ _ la1 _ _ la2 1048576 (-1) _ (by (with_reducible repeat (first | refine Kd.C_drew ?_ | refine Kd.C_drewN ?_ _ | refine Kd.C_alloc ?_ _)); exact (Kd.C_below Ha1.out HS.out.below)) Ka1.out (by (with_reducible repeat (first | refine Kd.C_drew ?_ | refine Kd.C_drewN ?_ _ | refine Kd.C_alloc ?_ _)); exact (Kd.C_below Ha2.out HS.out.below)) Ka2.out hz1.out).mono ?_; rintro e w3 ⟨rfl, hb3⟩; have nS := Aside0.mk (St.step (by repeat (first | (with_reducible exact HS.out) | (with_reducible apply St.drew) | (with_reducible apply St.drewN) | (with_reducible apply St.alloc) | decide)) hb3); clear HS; have HS := nS; clear nS hb3))
  go_ret
  exact ⟨rfl, HS.out.below⟩
set_option maxHeartbeats 8000000 in
set_option maxRecDepth 100000 in
theorem lawEncode_n2 (a : Bool) (Aa1 : Option Addr) (ca1 : Nat) (la1 : List Int) (Aa2 : Option Addr) (ca2 : Nat) (la2 : List Int) (b : Bool) (Ab1 : Option Addr) (cb1 : Nat) (lb1 : List Int) (Ab2 : Option Addr) (cb2 : Nat) (lb2 : List Int) (s1 : Int) (w : World) (ha1 : Kd.C (Kd.int .i64) w Aa1 la1.length la1) (ka1 : la1.length ≤ ca1) (ha2 : Kd.C (Kd.int .i64) w Aa2 la2.length la2) (ka2 : la2.length ≤ ca2) (hb1 : Kd.C (Kd.int .i64) w Ab1 lb1.length lb1) (kb1 : lb1.length ≤ cb1) (hb2 : Kd.C (Kd.int .i64) w Ab2 lb2.length lb2) (kb2 : lb2.length ≤ cb2)
    (hz1 : laws_szArray.f a la1 la2 1048576 = some s1) (pz1 : 0 ≤ s1) (hz2 : laws_szArray.f b lb1 lb2 s1 = some (-1)) :
    Calls Try.prog 14 #[.agg #[.bool a, .slice Aa1 la1.length ca1, .slice Aa2 la2.length ca2], .agg #[.bool b, .slice Ab1 lb1.length cb1, .slice Ab2 lb2.length cb2]] w fun e w' => e = .returned (.bool true) ∧ Below w.heap.size w w' := by
  have Ha1 := Aside0.mk ha1
  have Ka1 := Aside0.mk ka1
  have Ha2 := Aside0.mk ha2
  have Ka2 := Aside0.mk ka2
  have Hb1 := Aside0.mk hb1
  have Kb1 := Aside0.mk kb1
  have Hb2 := Aside0.mk hb2
  have Kb2 := Aside0.mk kb2
  replace hz1 := Aside0.mk hz1
  replace hz2 := Aside0.mk hz2
  clear ha1 ka1 ha2 ka2 hb1 kb1 hb2 kb2
  have qpz1 : decide (s1 < 0) = false := decide_eq_false (by omega)
  have HS := Aside0.mk (St.start w)
  go_enter Try.func14, Try.ntmps14
  go_upto_region 1 with (first | ((with_reducible refine gate_dst (N := 2) rfl ?_); refine box_event ?hg (N := 2) ?hd (cs := #[.bool a, .slice Aa1 la1.length ca1, .slice Aa2 la2.length ca2]) (t := 24) ?hr ?_; (case hd => rfl); (case hg => rfl); (case hr => first | (go_simp; done) | (go_simp; rfl)); intro g1 hg1 w1 hx1 hb1; have nS := Aside0.mk (HS.out.box hg1 hx1 hb1 (by decide)); clear HS; have HS := nS; clear nS hg1 hx1 hb1) | ((with_reducible refine gate_dst (N := 3) rfl ?_); refine box_event ?hg (N := 3) ?hd (cs := #[.bool b, .slice Ab1 lb1.length cb1, .slice Ab2 lb2.length cb2]) (t := 24) ?hr ?_; (case hd => rfl); (case hg => rfl); (case hr => first | (go_simp; done) | (go_simp; rfl)); intro g2 hg2 w2 hx2 hb2; have nS := Aside0.mk (HS.out.box hg2 hx2 hb2 (by decide)); clear HS; have HS := nS; clear nS hg2 hx2 hb2))
  go_upto_region 2 with (fail)
  go_upto_region 3 with (first | ((with_reducible refine gate_dst (N := 17) rfl ?_); refine wpList_load_row rfl 24 (.tmp 2) rfl g1 rfl 24 #[.bool a, .slice Aa1 la1.length ca1, .slice Aa2 la2.length ca2] (0, 0) _ (HS.out.idx 1 rfl) Try.underlying24 rfl (by kernel_rfl) ?_) | (go_at_call 15; refine (laws_szArray.calls a _ _ la1 _ _ la2 1048576 s1 _ (by (with_reducible repeat (first | refine Kd.C_drew ?_ | refine Kd.C_drewN ?_ _ | refine Kd.C_alloc ?_ _)); exact (Kd.C_below Ha1.out HS.out.below)) Ka1.out (by (with_reducible repeat (first | refine Kd.C_drew ?_ | refine Kd.C_drewN ?_ _ | refine Kd.C_alloc ?_ _)); exact (Kd.C_below Ha2.out HS.out.below)) Ka2.out hz1.out).mono ?_; rintro e w3 ⟨rfl, hb3⟩; have nS := Aside0.mk (St.step (by repeat (first | (with_reducible exact HS.out) | (with_reducible apply St.drew) | (with_reducible apply St.drewN) | (with_reducible apply St.alloc) | decide)) hb3); clear HS; have HS := nS; clear nS hb3))
  go_upto_region 5 with (fail)
  go_wp2_with (first | ((with_reducible refine gate_dst (N := 22) rfl ?_); refine wpList_load_row rfl 24 (.tmp 3) rfl g2 rfl 24 #[.bool b, .slice Ab1 lb1.length cb1, .slice Ab2 lb2.length cb2] (0, 0) _ (HS.out.idx 0 rfl) Try.underlying24 rfl (by kernel_rfl) ?_) | (go_at_call 15; refine (laws_szArray.calls b _ _ lb1 _ _ lb2 s1 (-1) _ (by (with_reducible repeat (first | refine Kd.C_drew ?_ | refine Kd.C_drewN ?_ _ | refine Kd.C_alloc ?_ _)); exact (Kd.C_below Hb1.out HS.out.below)) Kb1.out (by (with_reducible repeat (first | refine Kd.C_drew ?_ | refine Kd.C_drewN ?_ _ | refine Kd.C_alloc ?_ _)); exact (Kd.C_below Hb2.out HS.out.below)) Kb2.out hz2.out).mono ?_; rintro e w4 ⟨rfl, hb4⟩; have nS := Aside0.mk (St.step (by repeat (first | (with_reducible exact HS.out) | (with_reducible apply St.drew) | (with_reducible apply St.drewN) | (with_reducible apply St.alloc) | decide)) hb4); clear HS; have HS := nS; clear nS hb4))
  go_ret
  exact ⟨rfl, HS.out.below⟩
theorem lawEncode (a : Bool) (Aa1 : Option Addr) (ca1 : Nat) (la1 : List Int) (Aa2 : Option Addr) (ca2 : Nat) (la2 : List Int) (b : Bool) (Ab1 : Option Addr) (cb1 : Nat) (lb1 : List Int) (Ab2 : Option Addr) (cb2 : Nat) (lb2 : List Int) (w : World) (ha1 : Kd.C (Kd.int .i64) w Aa1 la1.length la1) (ka1 : la1.length ≤ ca1) (ha2 : Kd.C (Kd.int .i64) w Aa2 la2.length la2) (ka2 : la2.length ≤ ca2) (hb1 : Kd.C (Kd.int .i64) w Ab1 lb1.length lb1) (kb1 : lb1.length ≤ cb1) (hb2 : Kd.C (Kd.int .i64) w Ab2 lb2.length lb2) (kb2 : lb2.length ≤ cb2) (na1 : la1.length ≤ maxLen) (na2 : la2.length ≤ maxLen) (nb1 : lb1.length ≤ maxLen) (nb2 : lb2.length ≤ maxLen) :
    Calls Try.prog 14 #[.agg #[.bool a, .slice Aa1 la1.length ca1, .slice Aa2 la2.length ca2], .agg #[.bool b, .slice Ab1 lb1.length cb1, .slice Ab2 lb2.length cb2]] w fun e w' => e = .returned (.bool true) ∧ Below w.heap.size w w' := by
  by_cases z1 : (la1.length : Int) + la2.length ≤ (1048576 : Int)
  · have f1 : laws_szArray.f a la1 la2 ((1048576 : Int)) = some ((1048576 : Int) - la1.length - la2.length) := (szArray_eq a la1 la2 _ (by omega) (by omega) na1 na2).trans (by rw [if_pos z1])
    by_cases z2 : (lb1.length : Int) + lb2.length ≤ (1048576 : Int) - la1.length - la2.length
    · have f2 : laws_szArray.f b lb1 lb2 ((1048576 : Int) - la1.length - la2.length) = some ((1048576 : Int) - la1.length - la2.length - lb1.length - lb2.length) := (szArray_eq b lb1 lb2 _ (by omega) (by omega) nb1 nb2).trans (by rw [if_pos z2])
      obtain ⟨v1, v2, v3, v4, hv⟩ : ∃ v1 v2 v3 v4, encV a la1 la2 b lb1 lb2 = (v1, v2, v3, v4) := ⟨_, _, _, _, rfl⟩
      have hs := specEncode_ev a la1 la2 b lb1 lb2 (by omega) (by omega) (by omega) (by omega)
      have him : impl_Encode.f a la1 la2 b lb1 lb2 = some (encV a la1 la2 b lb1 lb2) := by unfold impl_Encode.f; rw [if_pos (okLens_of (by omega) (by omega) (by omega) (by omega))]
      have hn := encV_len a la1 la2 b lb1 lb2
      rw [hv] at hs him hn
      simp only at hn
      obtain ⟨ks, hsp⟩ := hs.rounds
      obtain ⟨kta, hta⟩ := (toArray_ev a la1 la2 (by omega) (by omega)).rounds
      obtain ⟨kea, hea⟩ := (eqArray_self a la1 la2 (by omega) (by omega)).rounds
      obtain ⟨ktb, htb⟩ := (toArray_ev b lb1 lb2 (by omega) (by omega)).rounds
      obtain ⟨keb, heb⟩ := (eqArray_self b lb1 lb2 (by omega) (by omega)).rounds
      obtain ⟨kev, hev⟩ := (eqArray_self v1 v2 v3 (by omega) (by omega)).rounds
      obtain ⟨kk1, hm1⟩ := (markArray_ev a la1 la2 (1) (by omega) (by omega) (by omega) (by omega)).rounds
      obtain ⟨kk2, hm2⟩ := (markArray_ev b lb1 lb2 ((1 : Int) + la1.length + la2.length) (by omega) (by omega) (by omega) (by omega)).rounds
      obtain ⟨kk3, hm3⟩ := (markArray_ev v1 v2 v3 1 (by omega) (by omega) (by omega) (by omega)).rounds
      obtain ⟨kh, hh⟩ := (heldArray_ev v1 v2.length v3.length 1 (by omega) (by omega) (by omega) (by omega)).rounds
      exact lawEncode_y kta ktb kea keb ks kev kh kk1 kk2 kk3 a Aa1 ca1 la1 Aa2 ca2 la2 b Ab1 cb1 lb1 Ab2 cb2 lb2 v1 v2 v3 v4 _ _ _ _ _ _ _ _ _ _ _ w ha1 ka1 ha2 ka2 hb1 kb1 hb2 kb2 hta hea htb heb hsp him hev f1 (by omega) f2 (by omega) hm1 (by omega) (upFrom_len _ _).symm (upFrom_len _ _).symm hm2 (by omega) (upFrom_len _ _).symm (upFrom_len _ _).symm hm3 (by omega) (upFrom_len _ _).symm (upFrom_len _ _).symm hh
    · exact lawEncode_n2 a Aa1 ca1 la1 Aa2 ca2 la2 b Ab1 cb1 lb1 Ab2 cb2 lb2 _ w ha1 ka1 ha2 ka2 hb1 kb1 hb2 kb2 f1 (by omega) ((szArray_eq b lb1 lb2 _ (by omega) (by omega) nb1 nb2).trans (by rw [if_neg z2]))
  · exact lawEncode_n1 a Aa1 ca1 la1 Aa2 ca2 la2 b Ab1 cb1 lb1 Ab2 cb2 lb2  w ha1 ka1 ha2 ka2 hb1 kb1 hb2 kb2 ((szArray_eq a la1 la2 _ (by omega) (by omega) na1 na2).trans (by rw [if_neg z1]))
end Go.Proofs.Ytehfcnndjhjkoaa.PA

namespace Go.Proofs.Ytehfcnndjhjkoaa.PA
open Go.ChangeShapes Go.WideShapes Go.ChangeAt Go.RowKit Go.Deep Go.Proofs.YtehfcnndjhjkoaaW.PrintWords Go.Proofs.YtehfcnndjhjkoaaW.PrintLast Go.Proofs.YtehfcnndjhjkoaaW.PrintMore

/-- A slice of whole numbers that came in: what it reads as. -/
structure Sl (W : World) (A : Option Addr) (l : List Int) (c : Nat) : Prop where
  reads : ReadsInt W .i64 A l.length l
  max : l.length ≤ maxLen
  wf : ∀ x ∈ l, (Lit.int .i64 x).wf = true
  cap : l.length ≤ c

theorem slice_cell {H : Type} {enc : TypeId × Value → H} {P : Program} {W : World} {fuel : Nat} {t e : TypeId} {cs : List Value} {x : DataW H × List MemPlace}
    (ht : P.underlying t = some (.slice e)) (he : P.underlying e = some (.int .i64)) (hc : P.cellsOf e = 1)
    (hf : DataW.trod enc P W 0 (fun _ => true) true fuel t cs = some x) : ∃ A l c, cs = [.slice A l.length c] ∧ Sl W A l c := by
  rcases open_ints ht he hc hf with ⟨hcs, _⟩ | ⟨a, n, c, zs, hcs, _, hl, hm, hz, _, hcell, hwz⟩
  · obtain ⟨l, e1, h1, h2, h3, h4⟩ := ReadsInt.ofRowC (k := .i64) (w := W) (a := none) (len := 0) (cap := 0) (zs := []) (.inl ⟨rfl, rfl, rfl, rfl⟩)
    refine ⟨none, l, 0, ?_, h1, h2, h3, h4⟩
    rw [← e1]; exact hcs
  · obtain ⟨l, e1, h1, h2, h3, h4⟩ := ReadsInt.ofRowC (k := .i64) (w := W) (a := some a) (len := n) (cap := c) (zs := zs) (.inr ⟨a, rfl, hl, hm, by simpa using hz, hcell, hwz⟩)
    refine ⟨some a, l, c, ?_, h1, h2, h3, h4⟩
    rw [← e1]; exact hcs


theorem open_bss {H : Type} {enc : TypeId × Value → H} {P : Program} {W : World} {t e : TypeId} {f0 f1 f2 : Field} {v : Value} {d : DataW H} {p : List MemPlace} {r : Reach} {b0 : Nat}
    (hs : P.underlying t = some (.struct #[f0, f1, f2])) (hone : oneCellFields P #[f0, f1, f2] = true) (hC : P.cellsOf t = 3)
    (h0 : P.underlying f0.type = some .bool) (h1 : P.underlying f1.type = some (.slice e)) (h2 : P.underlying f2.type = some (.slice e)) (he : P.underlying e = some (.int .i64)) (hc : P.cellsOf e = 1)
    (hv : Value.okWide P W r b0 t v) (h : DataW.Trod enc P W 0 (fun _ => true) true t v d p) :
    ∃ (a : Bool) (A1 : Option Addr) (l1 : List Int) (c1 : Nat) (A2 : Option Addr) (l2 : List Int) (c2 : Nat), v = .agg #[.bool a, .slice A1 l1.length c1, .slice A2 l2.length c2] ∧ Sl W A1 l1 c1 ∧ Sl W A2 l2 c2 := by
  obtain ⟨v0, v1, v2, y0, y1, y2, n, rfl, _, _, k0, k1, k2⟩ := Go.Joins.open_agg3 hs hone hC hv h
  obtain ⟨A1, l1, c1, e1, s1⟩ := slice_cell h1 he hc k1
  obtain ⟨A2, l2, c2, e2, s2⟩ := slice_cell h2 he hc k2
  obtain ⟨a, e0, _⟩ := DataW.trod_bool h0 k0
  simp only [List.cons.injEq, and_true] at e0 e1 e2
  subst e0 e1 e2
  exact ⟨a, A1, l1, c1, A2, l2, c2, rfl, s1, s2⟩

end Go.Proofs.Ytehfcnndjhjkoaa.PA
