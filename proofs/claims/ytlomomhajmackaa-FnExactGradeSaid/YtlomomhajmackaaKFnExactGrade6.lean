import Derived.Test.YtlomomhajmackaaKFnExactGrade5
import Derived.Deep.RegionHeld3
import Derived.Deep.DeepCutAuto
import Derived.ProofKit
import Derived.OpenShut
import Derived.ChangeOld
import Derived.Below
import Derived.SizedLaws
import Derived.Lib.SmallJoins
import Derived.Deep.Fields

namespace Go.Proofs.Ytlomomhajmackaa.PA
open Go.RowKit Go.Proofs.YtlomomhajmackaaW.PrintWords Go.Proofs.YtlomomhajmackaaW.PrintLast Go.Proofs.YtlomomhajmackaaW.PrintMore
set_option linter.unusedVariables false
set_option linter.unusedSimpArgs false
def grd (l : List Int) (d : Bool) : List Int := (pls l.length).mergeSort (fun x y => decide (kyG l d x < kyG l d y ∨ (kyG l d x = kyG l d y ∧ x ≤ y)))
theorem pls_nodup (n : Nat) : (pls n).Nodup := (pls_sorted n).imp fun h e => by omega
theorem grd_perm (l : List Int) (d : Bool) : (grd l d).Perm (pls l.length) := List.mergeSort_perm _ _
theorem grd_sorted (l : List Int) (d : Bool) : (grd l d).Pairwise (Lt (kyG l d)) := by
  have h : (grd l d).Pairwise fun x y => decide (kyG l d x < kyG l d y ∨ (kyG l d x = kyG l d y ∧ x ≤ y)) = true := List.pairwise_mergeSort (by intro a b c; simp only [decide_eq_true_eq]; omega) (by intro a b; simp only [Bool.or_eq_true, decide_eq_true_eq]; omega) _
  have hn : (grd l d).Pairwise (· ≠ ·) := (grd_perm l d).symm.nodup (pls_nodup _)
  refine (h.and hn).imp fun {x y} h => ?_
  obtain ⟨h1, h2⟩ := h
  simp only [decide_eq_true_eq] at h1
  unfold Lt; omega
theorem grd_eq {l C : List Int} {d : Bool} (hp : C.Perm (pls l.length)) (hs : C.Pairwise (Lt (kyG l d))) : C = grd l d := sorted_unique hs (grd_sorted l d) (hp.trans (grd_perm l d).symm)
theorem grd_len (l : List Int) (d : Bool) : (grd l d).length = l.length := by rw [(grd_perm l d).length_eq, pls_len]
def gradeV (a : Bool) (l1 l2 : List Int) (d : Bool) : ArrAns := if arrOk a l1 l2 = true then (if l1.length = 1 then (false, l1, grd l2 d, 0) else noArr 4) else noArr 3
theorem kyG_lt (l : List Int) (d : Bool) (x y : Int) : kyG l d y < kyG l d x ↔ ((d = false ∧ rd l (y - 1) < rd l (x - 1)) ∨ (d = true ∧ rd l (y - 1) > rd l (x - 1))) := by
  unfold kyG; cases d <;> simp <;> omega
/-- The merge of two ordered lists. -/
theorem merge_loop (l : List Int) (d : Bool) (hl : l.length ≤ 10000) : ∀ (m : Nat) (A B out : List Int), A.length + B.length = m → out.length + m ≤ 10000 → (∀ x ∈ A, 1 ≤ x ∧ x ≤ (l.length : Int)) → (∀ x ∈ B, 1 ≤ x ∧ x ≤ (l.length : Int)) →
    A.Pairwise (Lt (kyG l d)) → B.Pairwise (Lt (kyG l d)) → (∀ x ∈ A, ∀ y ∈ B, x < y) → ∃ C, Ev (fun k => spec_l6Merge.l1 k l d A B out) (out ++ C) ∧ C.Perm (A ++ B) ∧ C.Pairwise (Lt (kyG l d)) := by
  intro m
  induction m with
  | zero =>
    intro A B out hm ho hA hB sA sB hAB
    have a0 : A = [] := List.length_eq_zero_iff.1 (by omega)
    have b0 : B = [] := List.length_eq_zero_iff.1 (by omega)
    subst a0 b0
    refine ⟨[], evRound (Ev.now _) fun k => ?_, by simp, .nil⟩
    simp only [spec_l6Merge.l1]
    rw [if_neg (by simp [wrap64])]
    simp
  | succ m ih =>
    intro A B out hm ho hA hB sA sB hAB
    -- the head of B is taken
    have takeB : ∀ y B', B = y :: B' → (∀ x ∈ A, Lt (kyG l d) y x) → ∃ C, Ev (fun k => spec_l6Merge.l1 k l d A (B.drop (1 : Int).toNat) (out ++ [rd B 0])) (out ++ C) ∧ C.Perm (A ++ B) ∧ C.Pairwise (Lt (kyG l d)) := by
      intro y B' e hy
      subst e
      obtain ⟨C, h1, h2, h3⟩ := ih A B' (out ++ [y]) (by simp at hm; omega) (by first | (simp; done) | (simp; omega)) hA (fun x hx => hB x (List.mem_cons_of_mem _ hx)) sA (List.pairwise_cons.1 sB).2 (fun x hx z hz => hAB x hx z (List.mem_cons_of_mem _ hz))
      refine ⟨y :: C, by simpa [rd] using h1, (h2.cons y).trans List.perm_middle.symm, List.pairwise_cons.2 ⟨fun z hz => ?_, h3⟩⟩
      rcases List.mem_append.1 (h2.mem_iff.1 hz) with h | h
      · exact hy z h
      · exact (List.pairwise_cons.1 sB).1 z h
    have takeA : ∀ x A', A = x :: A' → (∀ y ∈ B, Lt (kyG l d) x y) → ∃ C, Ev (fun k => spec_l6Merge.l1 k l d (A.drop (1 : Int).toNat) B (out ++ [rd A 0])) (out ++ C) ∧ C.Perm (A ++ B) ∧ C.Pairwise (Lt (kyG l d)) := by
      intro x A' e hx
      subst e
      obtain ⟨C, h1, h2, h3⟩ := ih A' B (out ++ [x]) (by simp at hm; omega) (by first | (simp; done) | (simp; omega)) (fun z hz => hA z (List.mem_cons_of_mem _ hz)) hB (List.pairwise_cons.1 sA).2 sB (fun z hz y hy => hAB z (List.mem_cons_of_mem _ hz) y hy)
      refine ⟨x :: C, by simpa [rd] using h1, h2.cons x, List.pairwise_cons.2 ⟨fun z hz => ?_, h3⟩⟩
      rcases List.mem_append.1 (h2.mem_iff.1 hz) with h | h
      · exact (List.pairwise_cons.1 sA).1 z h
      · exact hx z h
    have ho' : out.length < 17592186044416 := by omega
    match hA' : A, hB' : B with
    | [], [] => simp at hm
    | [], y :: B' =>
      obtain ⟨C, h1, h2, h3⟩ := takeB y B' rfl (by simp)
      refine ⟨C, evRound (f := fun k => spec_l6Merge.j2 k l d [] (y :: B') out true false) (evRound h1 fun k => ?_) fun k => ?_, h2, h3⟩
      · simp only [spec_l6Merge.j2]
        rw [if_neg (by decide), if_pos trivial, if_pos (by first | (simp; done) | (simp; omega)), if_pos ho', if_pos (by first | (simp; done) | (simp; omega))]
      · simp only [spec_l6Merge.l1]
        rw [w64 (by simp at hm ⊢; omega) (by simp at hm ⊢; omega), if_pos (by first | (simp; done) | (simp; omega)), if_neg (by simp)]
        rfl
    | x :: A', [] =>
      obtain ⟨C, h1, h2, h3⟩ := takeA x A' rfl (by simp)
      refine ⟨C, evRound (f := fun k => spec_l6Merge.j2 k l d (x :: A') [] out false false) (evRound h1 fun k => ?_) fun k => ?_, h2, h3⟩
      · simp only [spec_l6Merge.j2]
        rw [if_neg (by decide), if_neg (by decide), if_pos (by first | (simp; done) | (simp; omega)), if_pos ho', if_pos (by first | (simp; done) | (simp; omega))]
      · simp only [spec_l6Merge.l1]
        rw [w64 (by simp at hm ⊢; omega) (by simp at hm ⊢; omega), if_pos (by first | (simp; done) | (simp; omega)), if_pos (by first | (simp; done) | (simp; omega)), show (((x :: A').length : Int) == 0) = false from beq_eq_false_iff_ne.mpr (by first | (simp; done) | (simp; omega))]
        rfl
    | x :: A', y :: B' =>
      have bx := hA x (List.mem_cons_self ..)
      have by_ := hB y (List.mem_cons_self ..)
      have hxy := hAB x (List.mem_cons_self ..) y (List.mem_cons_self ..)
      have hrx : rd (x :: A') 0 = x := rfl
      have hry : rd (y :: B') 0 = y := rfl
      have hfirst : ∀ (R : List Int), Ev (fun k => spec_l6Merge.j2 k l d (x :: A') (y :: B') out false true) R → Ev (fun k => spec_l6Merge.l1 k l d (x :: A') (y :: B') out) R := fun R h => by
        refine evRound h fun k => ?_
        simp only [spec_l6Merge.l1]
        rw [w64 (by simp at hm ⊢; omega) (by simp at hm ⊢; omega), if_pos (by first | (simp; done) | (simp; omega)), if_pos (by first | (simp; done) | (simp; omega)), show (((x :: A').length : Int) == 0) = false from beq_eq_false_iff_ne.mpr (by first | (simp; done) | (simp; omega)), show decide (((y :: B').length : Int) > 0) = true from decide_eq_true (by first | (simp; done) | (simp; omega))]
      have la0 : 0 < ((x :: A').length : Int) := by rw [List.length_cons]; omega
      have lb0 : 0 < ((y :: B').length : Int) := by rw [List.length_cons]; omega
      have la1 : 1 ≤ ((x :: A').length : Int) := by omega
      have lb1 : 1 ≤ ((y :: B').length : Int) := by omega
      have wx : wrap64 (x - 1) = x - 1 := w64 (by omega) (by omega)
      have wy : wrap64 (y - 1) = y - 1 := w64 (by omega) (by omega)
      have hk := kyG_lt l d x y
      by_cases hlt : kyG l d y < kyG l d x
      · obtain ⟨C, h1, h2, h3⟩ := takeB y B' rfl (fun z hz => by
          rcases List.mem_cons.1 hz with h | h
          · subst h; exact .inl hlt
          · exact Lt.trans (.inl hlt) ((List.pairwise_cons.1 sA).1 z h))
        refine ⟨C, hfirst _ (evRound h1 fun k => ?_), h2, h3⟩
        have hk := hk.1 hlt
        simp only [spec_l6Merge.j2, hrx, hry, wx, wy]
        rw [if_pos trivial, if_pos la0, if_pos (by omega), if_pos (by omega), if_pos lb0, if_pos (by omega), if_pos (by omega)]
        rcases hk with ⟨e, h⟩ | ⟨e, h⟩
        · subst e
          rw [if_pos h, if_neg (by decide), if_pos ho', if_pos lb1]
        · subst e
          rw [if_neg (by omega), if_pos h, if_pos rfl, if_pos ho', if_pos lb1]
      · obtain ⟨C, h1, h2, h3⟩ := takeA x A' rfl (fun z hz => by
          have hxy' : Lt (kyG l d) x y := by unfold Lt; omega
          rcases List.mem_cons.1 hz with h | h
          · subst h; exact hxy'
          · exact Lt.trans hxy' ((List.pairwise_cons.1 sB).1 z h))
        refine ⟨C, hfirst _ (evRound h1 fun k => ?_), h2, h3⟩
        have hk : ¬ ((d = false ∧ rd l (y - 1) < rd l (x - 1)) ∨ (d = true ∧ rd l (y - 1) > rd l (x - 1))) := fun h => hlt (hk.2 h)
        simp only [spec_l6Merge.j2, hrx, hry, wx, wy]
        rw [if_pos trivial, if_pos la0, if_pos (by omega), if_pos (by omega), if_pos lb0, if_pos (by omega), if_pos (by omega)]
        cases d with
        | false =>
          have : ¬ rd l (y - 1) < rd l (x - 1) := fun h => hk (.inl ⟨rfl, h⟩)
          rw [if_neg this]
          by_cases h5 : rd l (y - 1) > rd l (x - 1)
          · rw [if_pos h5, if_neg (by decide), if_pos ho', if_pos la1]
          · rw [if_neg h5, if_pos ho', if_pos la1]
        | true =>
          have : ¬ rd l (y - 1) > rd l (x - 1) := fun h => hk (.inr ⟨rfl, h⟩)
          by_cases h5 : rd l (y - 1) < rd l (x - 1)
          · rw [if_pos h5, if_pos rfl, if_neg this, if_pos ho', if_pos la1]
          · rw [if_neg h5, if_neg this, if_pos ho', if_pos la1]
/-- The places from one on. -/
def seg (a m : Nat) : List Int := (List.range m).map fun (i : Nat) => ((a + i : Nat) : Int) + 1
theorem seg_pls (n : Nat) : seg 0 n = pls n := by simp [seg, pls]
theorem seg_mem {a m : Nat} {x : Int} (h : x ∈ seg a m) : (a : Int) + 1 ≤ x ∧ x ≤ (a : Int) + m := by
  simp only [seg, List.mem_map, List.mem_range] at h
  obtain ⟨i, hi, rfl⟩ := h; omega
theorem seg_app (a m n : Nat) : seg a m ++ seg (a + m) n = seg a (m + n) := by
  simp only [seg, List.range_add, List.map_append, List.map_map]
  congr 1
  apply List.map_congr_left
  intro i _
  simp; omega
theorem merge_ev (l : List Int) (d : Bool) (hl : l.length ≤ 10000) : ∀ (m a : Nat), a + m ≤ l.length → ∃ C, Ev (fun k => spec_l6Merge.f k l (a : Int) ((a + m : Nat) : Int) d) C ∧ C.Perm (seg a m) ∧ C.Pairwise (Lt (kyG l d)) := by
  intro m
  induction m using Nat.strongRecOn with
  | _ m ih =>
    intro a ha
    by_cases hm : m < 2
    · have h0 : ∀ (r : List Int), Ev (fun k => spec_l6Merge.l0 k ((a + m : Nat) : Int) [] (a : Int)) r → Ev (fun k => spec_l6Merge.f k l (a : Int) ((a + m : Nat) : Int) d) r := fun r h => by
        refine evRound h fun k => ?_
        simp only [spec_l6Merge.f]
        rw [w64 (by omega) (by omega), if_pos (by omega)]
      have hend : ∀ (o : List Int), Ev (fun k => spec_l6Merge.l0 k ((a + m : Nat) : Int) o ((a + m : Nat) : Int)) o := fun o => by
        refine evRound (Ev.now _) fun k => ?_
        simp only [spec_l6Merge.l0]
        rw [if_neg (by omega)]
      match m, hm, ha, h0, hend with
      | 0, _, ha, h0, hend => exact ⟨[], h0 _ (hend []), by simp [seg], .nil⟩
      | 1, _, ha, h0, hend =>
        refine ⟨[(a : Int) + 1], h0 _ (evRound (hend [(a : Int) + 1]) fun k => ?_), by simp [seg], by simp⟩
        simp only [spec_l6Merge.l0]
        rw [if_pos (by omega), if_pos (by simp), w64 (by omega) (by omega)]
        congr 1
    · obtain ⟨C1, e1, p1, s1⟩ := ih (m / 2) (by omega) a (by omega)
      obtain ⟨C2, e2, p2, s2⟩ := ih (m - m / 2) (by omega) (a + m / 2) (by omega)
      have hlen1 : C1.length = m / 2 := by rw [p1.length_eq]; simp [seg]
      have hlen2 : C2.length = m - m / 2 := by rw [p2.length_eq]; simp [seg]
      obtain ⟨C, e, p, s⟩ := merge_loop l d hl m C1 C2 [] (by omega) (by first | (simp; done) | (simp; omega)) (fun x hx => by have := seg_mem (p1.mem_iff.1 hx); omega) (fun x hx => by have := seg_mem (p2.mem_iff.1 hx); omega) s1 s2 (fun x hx y hy => by have := seg_mem (p1.mem_iff.1 hx); have := seg_mem (p2.mem_iff.1 hy); omega)
      refine ⟨C, ?_, (p.trans (p1.append p2)).trans (by rw [seg_app, show m / 2 + (m - m / 2) = m by omega]), s⟩
      have hmid : wrap64 (Int.tdiv (wrap64 ((a : Int) + ((a + m : Nat) : Int))) 2) = ((a + m / 2 : Nat) : Int) := by
        rw [w64 (x := (a : Int) + ((a + m : Nat) : Int)) (by omega) (by omega), Int.tdiv_eq_ediv_of_nonneg (by omega), w64 (by omega) (by omega)]
        omega
      refine evRound (f := fun k => (spec_l6Merge.f k l (a : Int) ((a + m / 2 : Nat) : Int) d).bind fun t107 => ((spec_l6Merge.f k l ((a + m / 2 : Nat) : Int) ((a + m : Nat) : Int) d).bind fun t110 => (spec_l6Merge.l1 k l d t107 t110 (([] : List Int))))) ?_ fun k => ?_
      · refine e1.bind ?_
        rw [show ((a + m : Nat) : Int) = ((a + m / 2 + (m - m / 2) : Nat) : Int) by omega]
        refine e2.bind ?_
        simpa using e
      · simp only [spec_l6Merge.f]
        rw [w64 (x := ((a + m : Nat) : Int) - (a : Int)) (by omega) (by omega), if_neg (by omega), hmid]
/-- The inner loop of the selection. -/
theorem sel_inner (l : List Int) (d : Bool) (D : List Bool) (c1 : Bool) (s1 : List Int) (o1 : Bool) (o2 out : List Int) (hl : l.length ≤ 2000) (hD : D.length = l.length) (ho : out.length ≤ 2000) (hex : ∃ j : Nat, j < l.length ∧ rdOf false D (j : Int) = false) :
    ∀ (t i : Nat) (b : Int), i + t = l.length → ((b = -1 ∧ ∀ j : Nat, j < i → rdOf false D (j : Int) = true) ∨ (∃ q : Nat, b = (q : Int) ∧ q < i ∧ rdOf false D (q : Int) = false ∧ ∀ j : Nat, j < i → rdOf false D (j : Int) = false → j = q ∨ Lt (kyG l d) ((q : Int) + 1) ((j : Int) + 1))) →
    ∃ m : Nat, m < l.length ∧ rdOf false D (m : Int) = false ∧ (∀ j : Nat, j < l.length → rdOf false D (j : Int) = false → j = m ∨ Lt (kyG l d) ((m : Int) + 1) ((j : Int) + 1)) ∧
      ∀ r, Ev (fun k => spec_Grade.l0 k d (D.set m true) c1 s1 l o1 o2 (out ++ [(m : Int) + 1])) r → Ev (fun k => spec_Grade.l1 k d D b (i : Int) c1 s1 l o1 o2 out) r := by
  intro t
  induction t with
  | zero =>
    intro i b hi hb
    have hi : i = l.length := by omega
    subst hi
    rcases hb with ⟨_, h⟩ | ⟨q, rfl, hq, hf, hmin⟩
    · obtain ⟨j, hj, e⟩ := hex
      rw [h j hj] at e; cases e
    · refine ⟨q, hq, hf, hmin, fun r h => evRound h fun k => ?_⟩
      simp only [spec_Grade.l1]
      rw [if_neg (by omega), if_pos (by omega), if_pos (by omega), if_pos (by omega), w64 (by omega) (by omega), Int.toNat_natCast]
  | succ t ih =>
    intro i b hi hb
    have hnext : wrap64 ((i : Int) + 1) = ((i + 1 : Nat) : Int) := by rw [w64 (by omega) (by omega)]; omega
    by_cases hdi : rdOf false D (i : Int) = true
    · have hb' : ((b = -1 ∧ ∀ j : Nat, j < i + 1 → rdOf false D (j : Int) = true) ∨ (∃ q : Nat, b = (q : Int) ∧ q < i + 1 ∧ rdOf false D (q : Int) = false ∧ ∀ j : Nat, j < i + 1 → rdOf false D (j : Int) = false → j = q ∨ Lt (kyG l d) ((q : Int) + 1) ((j : Int) + 1))) := by
        rcases hb with ⟨e, h⟩ | ⟨q, e, hq, hf, hmin⟩
        · refine .inl ⟨e, fun j hj => ?_⟩
          by_cases hji : j = i
          · rw [hji]; exact hdi
          · exact h j (by omega)
        · refine .inr ⟨q, e, by omega, hf, fun j hj hjf => ?_⟩
          by_cases hji : j = i
          · rw [hji, hdi] at hjf; cases hjf
          · exact hmin j (by omega) hjf
      obtain ⟨m, m1, m2, m3, m4⟩ := ih (i + 1) b (by omega) hb'
      refine ⟨m, m1, m2, m3, fun r h => evRound (m4 r h) fun k => ?_⟩
      simp only [spec_Grade.l1]
      rw [if_pos (by omega), if_pos (by omega), if_pos (by omega), if_pos hdi, hnext]
    · have hdi' : rdOf false D (i : Int) = false := by simpa using hdi
      rcases hb with ⟨e, h⟩ | ⟨q, e, hq, hf, hmin⟩
      · obtain ⟨m, m1, m2, m3, m4⟩ := ih (i + 1) (i : Int) (by omega) (.inr ⟨i, rfl, by omega, hdi', fun j hj hjf => by
          by_cases hji : j = i
          · exact .inl hji
          · rw [h j (by omega)] at hjf; cases hjf⟩)
        refine ⟨m, m1, m2, m3, fun r h => evRound (m4 r h) fun k => ?_⟩
        simp only [spec_Grade.l1]
        rw [if_pos (by omega), if_pos (by omega), if_pos (by omega), if_neg hdi, if_pos (by omega), hnext]
      · subst e
        have hk := kyG_lt l d ((q : Int) + 1) ((i : Int) + 1)
        rw [Int.add_sub_cancel, Int.add_sub_cancel] at hk
        by_cases hlt : kyG l d ((i : Int) + 1) < kyG l d ((q : Int) + 1)
        · obtain ⟨m, m1, m2, m3, m4⟩ := ih (i + 1) (i : Int) (by omega) (.inr ⟨i, rfl, by omega, hdi', fun j hj hjf => by
            by_cases hji : j = i
            · exact .inl hji
            · refine .inr ?_
              rcases hmin j (by omega) hjf with h | h
              · subst h; exact .inl hlt
              · exact Lt.trans (.inl hlt) h⟩)
          refine ⟨m, m1, m2, m3, fun r h => evRound (m4 r h) fun k => ?_⟩
          have hk := hk.1 hlt
          simp only [spec_Grade.l1]
          rw [if_pos (by omega), if_pos (by omega), if_pos (by omega), if_neg hdi, if_neg (by omega), if_pos (by omega), if_pos (by omega), hnext]
          rcases hk with ⟨e, h7⟩ | ⟨e, h7⟩
          · subst e
            rw [if_pos h7, if_neg (by decide)]
          · subst e
            rw [if_neg (by omega), if_pos h7, if_pos rfl]
        · obtain ⟨m, m1, m2, m3, m4⟩ := ih (i + 1) (q : Int) (by omega) (.inr ⟨q, rfl, by omega, hf, fun j hj hjf => by
            by_cases hji : j = i
            · subst hji; refine .inr ?_; unfold Lt; omega
            · exact hmin j (by omega) hjf⟩)
          refine ⟨m, m1, m2, m3, fun r h => evRound (m4 r h) fun k => ?_⟩
          have hk : ¬ ((d = false ∧ rd l (i : Int) < rd l (q : Int)) ∨ (d = true ∧ rd l (i : Int) > rd l (q : Int))) := fun h => hlt (hk.2 h)
          simp only [spec_Grade.l1]
          rw [if_pos (by omega), if_pos (by omega), if_pos (by omega), if_neg hdi, if_neg (by omega), if_pos (by omega), if_pos (by omega), hnext]
          cases d with
          | false =>
            have h6 : ¬ rd l (i : Int) < rd l (q : Int) := fun h => hk (.inl ⟨rfl, h⟩)
            rw [if_neg h6]
            by_cases h5 : rd l (i : Int) > rd l (q : Int)
            · rw [if_pos h5, if_neg (by decide)]
            · rw [if_neg h5]
          | true =>
            have h6 : ¬ rd l (i : Int) > rd l (q : Int) := fun h => hk (.inr ⟨rfl, h⟩)
            by_cases h5 : rd l (i : Int) < rd l (q : Int)
            · rw [if_pos h5, if_pos rfl, if_neg h6]
            · rw [if_neg h5, if_neg h6]
theorem rdOf_set (D : List Bool) (m j : Nat) (hm : m < D.length) : rdOf false (D.set m true) (j : Int) = if j = m then true else rdOf false D (j : Int) := by
  simp only [rdOf, Int.toNat_natCast, List.getD_eq_getElem?_getD, List.getElem?_set]
  by_cases h : j = m
  · subst h; simp [hm]
  · have h' : ¬ m = j := fun e => h e.symm
    simp [h, h']
theorem sel_outer (l : List Int) (d : Bool) (c1 : Bool) (s1 : List Int) (o1 : Bool) (o2 : List Int) (hl : l.length ≤ 2000) : ∀ (t : Nat) (D : List Bool) (out rem : List Int), rem.length = t → D.length = l.length → (out ++ rem).Perm (pls l.length) → (∀ j : Nat, j < l.length → (rdOf false D (j : Int) = false ↔ ((j : Int) + 1) ∈ rem)) →
    out.Pairwise (Lt (kyG l d)) → (∀ x ∈ out, ∀ y ∈ rem, Lt (kyG l d) x y) → ∃ C, Ev (fun k => spec_Grade.l0 k d D c1 s1 l o1 o2 out) (o1, o2, C, 0) ∧ C.Perm (pls l.length) ∧ C.Pairwise (Lt (kyG l d)) := by
  intro t
  induction t with
  | zero =>
    intro D out rem hr hD hp hm hs hb
    have r0 : rem = [] := List.length_eq_zero_iff.1 hr
    subst r0
    rw [List.append_nil] at hp
    have hlen : out.length = l.length := by rw [hp.length_eq, pls_len]
    refine ⟨out, evRound (Ev.now _) fun k => ?_, hp, hs⟩
    simp only [spec_Grade.l0]
    rw [if_neg (by omega)]
  | succ t ih =>
    intro D out rem hr hD hp hm hs hb
    have hlen : out.length + rem.length = l.length := by rw [← List.length_append, hp.length_eq, pls_len]
    obtain ⟨x, rem', e⟩ : ∃ x rem', rem = x :: rem' := by
      cases rem with
      | nil => simp at hr
      | cons x r => exact ⟨x, r, rfl⟩
    have hx : x ∈ rem := by rw [e]; exact List.mem_cons_self ..
    have hxr := pls_mem.1 (hp.mem_iff.1 (List.mem_append_right out hx))
    have hex : ∃ j : Nat, j < l.length ∧ rdOf false D (j : Int) = false := ⟨(x - 1).toNat, by omega, (hm _ (by omega)).2 (by rw [show (((x - 1).toNat : Nat) : Int) + 1 = x by omega]; exact hx)⟩
    obtain ⟨m, m1, m2, m3, m4⟩ := sel_inner l d D c1 s1 o1 o2 out hl hD (by omega) hex l.length 0 (-1) (by omega) (.inl ⟨rfl, fun j hj => by omega⟩)
    have hmr : ((m : Int) + 1) ∈ rem := (hm m m1).1 m2
    have hnd : (out ++ rem).Nodup := hp.symm.nodup (pls_nodup _)
    have hndr : rem.Nodup := (List.nodup_append.1 hnd).2.1
    have hpe := List.perm_cons_erase hmr
    obtain ⟨C, h1, h2, h3⟩ := ih (D.set m true) (out ++ [(m : Int) + 1]) (rem.erase ((m : Int) + 1)) (by have := hpe.length_eq; simp at this; omega) (by simpa using hD) (by rw [List.append_assoc]; exact (hpe.symm.append_left out).trans hp)
      (fun j hj => by
        rw [rdOf_set D m j (by omega), hndr.mem_erase_iff]
        by_cases hjm : j = m
        · subst hjm; simp
        · rw [if_neg hjm, hm j hj]
          constructor
          · intro h; exact ⟨by omega, h⟩
          · intro h; exact h.2)
      (List.pairwise_append.2 ⟨hs, by simp, fun x hx y hy => by rw [List.mem_singleton.1 hy]; exact hb x hx _ hmr⟩)
      (fun x hx y hy => by
        have hy' := (hndr.mem_erase_iff.1 hy)
        rcases List.mem_append.1 hx with h | h
        · exact hb x h y hy'.2
        · rw [List.mem_singleton.1 h]
          have hyr := pls_mem.1 (hp.mem_iff.1 (List.mem_append_right out hy'.2))
          have hye : (((y - 1).toNat : Nat) : Int) + 1 = y := by omega
          rcases m3 (y - 1).toNat (by omega) ((hm _ (by omega)).2 (by rw [hye]; exact hy'.2)) with h | h
          · exact absurd (by omega) hy'.1
          · rw [hye] at h; exact h)
    refine ⟨C, evRound (m4 _ h1) fun k => ?_, h2, h3⟩
    simp only [spec_Grade.l0]
    rw [if_pos (by omega)]
    rfl
def okLens1 (l1 l2 : List Int) : Bool := decide (l1.length ≤ 35184372088832) && decide (l2.length ≤ 35184372088832)
theorem okLens1_of {l1 l2 : List Int} (h1 : l1.length ≤ 35184372088832) (h2 : l2.length ≤ 35184372088832) : okLens1 l1 l2 = true := by
  simp [okLens1, h1, h2]
theorem l4NoneG : spec_l4None.f = some (false, [], []) := rfl
theorem specGrade_ev (a : Bool) (l1 l2 : List Int) (d : Bool) (h1 : l1.length ≤ 35184372088832) (h2 : l2.length ≤ 35184372088832) : Ev (fun k => spec_Grade.f k a l1 l2 d) (gradeV a l1 l2 d) := by
  have hA := specArrayOk_ev a l1 l2 h1 h2
  unfold gradeV
  simp only [spec_Grade.f]
  refine hA.bind ?_
  cases hA' : arrOk a l1 l2 with
  | false =>
    refine evVal (r := noArr 3) (evEq fun k => ?_) (by rw [if_neg (by decide)])
    rw [if_neg (by decide), l4NoneG, Option.bind_some]
    rfl
  | true =>
    have n1 := arrOk_len hA'
    rw [if_pos rfl]
    by_cases h0 : l1.length = 1
    · rw [if_pos h0]
      have h0' : (l1.length : Int) = 1 := by omega
      by_cases hbig : (l2.length : Int) > 2000
      · obtain ⟨C, e, p, s⟩ := merge_ev l2 d n1.2 l2.length 0 (by omega)
        rw [grd_eq (by rw [← seg_pls]; exact p) s] at e
        have e' : Ev (fun k => spec_l6Merge.f k l2 0 (l2.length : Int) d) (grd l2 d) := by simpa using e
        refine Ev.congr (fun k => ?_) (e'.bind (f := fun _ t125 => some (false, l1, t125, 0)) (Ev.now _))
        rw [if_pos rfl, if_pos h0', l3Ints_eq l1 (by omega), Option.bind_some, if_pos hbig]
      · obtain ⟨C, e, p, s⟩ := sel_outer l2 d a l1 false l1 (by omega) l2.length (List.replicate l2.length false) [] (pls l2.length) (pls_len _) (by simp) (by simp) (fun j hj => by
          constructor
          · intro _; exact pls_mem.2 ⟨by omega, by omega⟩
          · intro _; simp [rdOf, List.getD_eq_getElem?_getD, hj]) .nil (by simp)
        rw [grd_eq p s] at e
        refine Ev.congr (fun k => ?_) e
        rw [if_pos rfl, if_pos h0', l3Ints_eq l1 (by omega), Option.bind_some, if_neg hbig, if_pos (by omega), if_pos (by omega), Int.toNat_natCast]
    · rw [if_neg h0]
      refine evEq fun k => ?_
      rw [if_pos rfl, if_neg (by omega), l4NoneG, Option.bind_some]
      rfl
theorem gradeV_len (a : Bool) (l1 l2 : List Int) (d : Bool) : (gradeV a l1 l2 d).2.1.length ≤ 10000 ∧ (gradeV a l1 l2 d).2.2.1.length ≤ 10000 := by
  unfold gradeV
  split
  · rename_i h
    have := arrOk_len h
    split
    · refine ⟨?_, ?_⟩
      · show l1.length ≤ 10000; omega
      · show (grd l2 d).length ≤ 10000; rw [grd_len]; omega
    · exact ⟨by simp [noArr], by simp [noArr]⟩
  · exact ⟨by simp [noArr], by simp [noArr]⟩
end Go.Proofs.Ytlomomhajmackaa.PA

namespace Go.Proofs.Ytlomomhajmackaa.PA
open Go.RowKit Go.Proofs.YtlomomhajmackaaW.PrintWords Go.Proofs.YtlomomhajmackaaW.PrintLast Go.Proofs.YtlomomhajmackaaW.PrintMore
set_option linter.unusedVariables false
set_option linter.unusedSimpArgs false
theorem shape_one {a : Bool} {l1 l2 : List Int} (h : arrOk a l1 l2 = true) (h1 : l1.length = 1) : l1 = [(l2.length : Int)] := by
  obtain ⟨x, rfl⟩ := List.length_eq_one_iff.1 h1
  have := arrOk_prod h
  simpa [prod] using this
def impl_Grade.f (a : Bool) (l1 l2 : List Int) (d : Bool) : Option ArrAns := if okLens1 l1 l2 then some (gradeV a l1 l2 d) else none
theorem impl_Grade.calls (a : Bool) (Aa1 : Option Addr) (ca1 : Nat) (la1 : List Int) (Aa2 : Option Addr) (ca2 : Nat) (la2 : List Int) (d : Bool) (r1 : Bool) (r2 r3 : List Int) (r4 : Int) (w : World) (ha1 : Kd.C (Kd.int .i64) w Aa1 la1.length la1) (ka1 : la1.length ≤ ca1) (ha2 : Kd.C (Kd.int .i64) w Aa2 la2.length la2) (ka2 : la2.length ≤ ca2) (h : impl_Grade.f a la1 la2 d = some (r1, r2, r3, r4)) :
    Calls Try.prog 17 #[.agg #[.bool a, .slice Aa1 la1.length ca1, .slice Aa2 la2.length ca2], .bool d] w fun e w' => ∃ v1_ v2_ : Value, e = .returned (.tuple #[.agg #[.bool r1, v1_, v2_], .int .i64 r4]) ∧ Kd.R (Kd.int .i64) 3 w' w.heap.size (fun k_ => some k_ ≠ (v2_ : Value).ownBlock) v1_ r2 ∧ Kd.R (Kd.int .i64) 3 w' w.heap.size (fun k_ => some k_ ≠ (v1_ : Value).ownBlock) v2_ r3 ∧ Below w.heap.size w w' := by
  unfold impl_Grade.f at h
  split at h
  · rename_i hl
    have h := Option.some.inj h
    simp only [okLens1, Bool.and_eq_true, decide_eq_true_eq] at hl
    obtain ⟨k0, hk0⟩ := (valid_ev1 a la1 la2 (by omega)).rounds
    unfold gradeV at h
    by_cases hv : arrOk a la1 la2 = true
    · rw [if_pos hv] at hk0 h
      have n1 := arrOk_len hv
      have hc := arrOk_cells hv
      by_cases h0 : la1.length = 1
      · rw [if_pos h0] at h
        have hsh := shape_one hv h0
        cases h
        refine (grade_yes k0 a Aa1 ca1 la1 Aa2 ca2 la2 d w ha1 ka1 ha2 ka2 hk0 h0 hc n1.2).mono ?_
        rintro e w' ⟨C, hp, hs, v1, v2, he, h1, h2, hb⟩
        rw [grd_eq hp hs] at h2
        rw [← hsh] at h1
        exact ⟨v1, v2, he, h1, h2, hb⟩
      · rw [if_neg h0] at h
        cases h
        exact grade_rank k0 a Aa1 ca1 la1 Aa2 ca2 la2 d w ha1 ka1 ha2 ka2 hk0 h0
    · rw [if_neg hv] at hk0 h
      cases h
      exact grade_no k0 a Aa1 ca1 la1 Aa2 ca2 la2 d w ha1 ka1 ha2 ka2 3 hk0 (by decide)
  · cases h
end Go.Proofs.Ytlomomhajmackaa.PA

namespace Go.Proofs.Ytlomomhajmackaa.PA
open Go.RowKit Go.Proofs.YtlomomhajmackaaW.PrintWords Go.Proofs.YtlomomhajmackaaW.PrintLast Go.Proofs.YtlomomhajmackaaW.PrintMore
set_option linter.unusedVariables false
set_option linter.unusedSimpArgs false
/-- A pair of rows of numbers, made between two sizes of the heap. -/
structure PrD where
  lo : Nat
  hi : Nat
  v1 : Value
  v2 : Value
  l1 : List Int
  l2 : List Int
def Pr (W : World) (d : PrD) : Prop := Kd.R (Kd.int .i64) 3 W d.lo (fun k => k < d.hi ∧ some k ≠ d.v2.ownBlock) d.v1 d.l1 ∧ Kd.R (Kd.int .i64) 3 W d.lo (fun k => k < d.hi ∧ some k ≠ d.v1.ownBlock) d.v2 d.l2
abbrev Bk := Nat × Array Value × TypeId
structure St (w W : World) (bl : List Bk) (ps : List PrD) : Prop where
  below : Below w.heap.size w W
  blk : ∀ p ∈ bl, W.heap[p.1]? = some (.cells p.2.1 p.2.2 (0, 0)) ∧ w.heap.size ≤ p.1 ∧ p.2.2 ≠ 3
  nod : bl.Pairwise (fun p q => p.1 ≠ q.1)
  pr : ∀ d ∈ ps, Pr W d ∧ w.heap.size ≤ d.lo ∧ d.hi ≤ W.heap.size
  far : ps.Pairwise (fun d e => e.hi ≤ d.lo)
theorem St.start (w : World) : St w w [] [] := ⟨Below.refl _ _, (fun _ h => nomatch h), .nil, (fun _ h => nomatch h), .nil⟩
theorem Pr.step {W W' : World} {d : PrD} (h : Pr W d) (hb : Below W.heap.size W W') : Pr W' d := ⟨Kd.R_below h.1 hb, Kd.R_below h.2 hb⟩
theorem St.step {w W W' : World} {bl : List Bk} {ps : List PrD} (h : St w W bl ps) (hb : Below W.heap.size W W') : St w W' bl ps :=
  ⟨below_step h.below hb, fun p hp => ⟨blk_below (h.blk p hp).1 hb, (h.blk p hp).2⟩, h.nod, fun d hd => ⟨(h.pr d hd).1.step hb, (h.pr d hd).2.1, Nat.le_trans (h.pr d hd).2.2 hb.size⟩, h.far⟩
theorem St.at {w W : World} {bl : List Bk} {ps : List PrD} (h : St w W bl ps) {g : Nat} {cs : Array Value} {t : TypeId} (hm : (g, cs, t) ∈ bl) : W.heap[g]? = some (.cells cs t (0, 0)) := (h.blk _ hm).1
theorem St.box {w W W' : World} {bl : List Bk} {ps : List PrD} (h : St w W bl ps) {g : Nat} {cs : Array Value} {t : TypeId} (hg : g = W.heap.size) (hB : W'.heap[g]? = some (.cells cs t (0, 0))) (hb : Below W.heap.size W W') (ht : t ≠ 3) : St w W' ((g, cs, t) :: bl) ps := by
  have h' := h.step hb
  refine ⟨h'.below, fun p hp => ?_, .cons (fun p hp e => ?_) h.nod, h'.pr, h.far⟩
  · rcases List.mem_cons.1 hp with rfl | hp
    · exact ⟨hB, hg ▸ h.below.size, ht⟩
    · exact h'.blk p hp
  · have := blk_lt (h.blk p hp).1
    simp only at e; omega
theorem St.alloc {w W : World} {bl : List Bk} {ps : List PrD} (h : St w W bl ps) (cs : Array Value) (t : TypeId) (ht : t ≠ 3) : St w (W.alloc (.cells cs t)) ((W.heap.size, cs, t) :: bl) ps := h.box rfl (blk_new W _) (below_alloc (Below.refl _ _) _) ht
theorem St.drew {w W : World} {bl : List Bk} {ps : List PrD} (h : St w W bl ps) : St w W.drew bl ps := h.step (below_drew (Below.refl _ _))
theorem St.drewN {w W : World} {bl : List Bk} {ps : List PrD} (h : St w W bl ps) (n : Nat) : St w (W.drewN n) bl ps := h.step (pw_below_drewN (Below.refl _ _) n)
theorem St.put {w W w1 : World} {bl : List Bk} {ps : List PrD} (h : St w W bl ps) (i : Nat) {g : Nat} {cs cs1 : Array Value} {t : TypeId} (hi : bl[i]? = some (g, cs, t)) (hs : w1.heap[g]? = some (.cells cs1 t (0, 0))) (hk : But1 g W w1) : St w w1 (bl.set i (g, cs1, t)) ps := by
  obtain ⟨hlt, hie⟩ := List.getElem?_eq_some_iff.1 hi
  have hm : (g, cs, t) ∈ bl := List.mem_of_getElem? hi
  have hg := h.blk _ hm
  have hnod := List.pairwise_iff_getElem.1 h.nod
  have hoth : ∀ (j : Nat) (hj : j < bl.length), j ≠ i → (bl[j]).1 ≠ g := fun j hj hne => by
    rcases Nat.lt_or_gt_of_ne hne with hl | hl
    · have := hnod j i hj hlt hl; rw [hie] at this; exact this
    · have := hnod i j hlt hj hl; rw [hie] at this; exact fun e => this e.symm
  refine ⟨h.below.trans (hk.below _ hg.2.1), fun p hp => ?_, ?_, fun d hd => ⟨?_, (h.pr d hd).2.1, ?_⟩, h.far⟩
  · obtain ⟨j, hj, e⟩ := List.getElem_of_mem hp
    rw [List.length_set] at hj
    rw [List.getElem_set] at e
    split at e
    · subst e; exact ⟨hs, hg.2⟩
    · rename_i hne
      have hp' := h.blk p (e ▸ List.getElem_mem hj)
      exact ⟨hk.blk hp'.1 (e ▸ hoth j hj (fun e => hne e.symm)), hp'.2⟩
  · refine List.pairwise_iff_getElem.2 fun a b ha hb hab => ?_
    rw [List.length_set] at ha hb
    rw [List.getElem_set, List.getElem_set]
    split
    · rename_i e1
      split
      · rename_i e2; omega
      · rename_i e2; exact fun e => hoth b hb (fun e => e2 e.symm) e.symm
    · rename_i e1
      split
      · exact hoth a ha (fun e => e1 e.symm)
      · exact hnod a b ha hb hab
  · exact ⟨hk.row (h.pr d hd).1.1 hg.1 (fun e => hg.2.2 e.symm), hk.row (h.pr d hd).1.2 hg.1 (fun e => hg.2.2 e.symm)⟩
  · exact Nat.le_trans (h.pr d hd).2.2 (hk.below _ hg.2.1).size
theorem Pr.ne {W : World} {d : PrD} (h : Pr W d) : ∀ k, some k = d.v1.ownBlock → ¬ some k = d.v2.ownBlock := fun k hk => (h.1.1 k hk.symm).2
theorem Pr.in1 {W : World} {d : PrD} (h : Pr W d) : ∀ k, some k = d.v1.ownBlock → d.lo ≤ k ∧ k < d.hi := fun k hk => ⟨Kd.R_base h.1 k hk.symm, (h.1.1 k hk.symm).1⟩
theorem Pr.in2 {W : World} {d : PrD} (h : Pr W d) : ∀ k, some k = d.v2.ownBlock → d.lo ≤ k ∧ k < d.hi := fun k hk => ⟨Kd.R_base h.2 k hk.symm, (h.2.1 k hk.symm).1⟩
theorem St.add {w W W' : World} {bl : List Bk} {ps : List PrD} (h : St w W bl ps) (hb : Below W.heap.size W W') {B : Nat} (hle : W.heap.size ≤ B) {v1 v2 : Value} {l1 l2 : List Int} {ok2 : Nat → Prop}
    (R1 : Kd.R (Kd.int .i64) 3 W' B (fun k => some k ≠ v2.ownBlock) v1 l1) (R2 : Kd.R (Kd.int .i64) 3 W' B ok2 v2 l2) : St w W' bl (⟨W.heap.size, W'.heap.size, v1, v2, l1, l2⟩ :: ps) := by
  have h' := h.step hb
  refine ⟨h'.below, h'.blk, h'.nod, fun d hd => ?_, .cons (fun d hd => (h.pr d hd).2.2) h.far⟩
  rcases List.mem_cons.1 hd with rfl | hd
  · refine ⟨⟨Kd.R_reok rfl (Kd.R_lower R1 hle) (fun k hk => ⟨Kd.R_lt R1 k hk, R1.1 k hk⟩), Kd.R_reok rfl (Kd.R_lower R2 hle) (fun k hk => ⟨Kd.R_lt R2 k hk, fun e => R1.1 k e.symm hk.symm⟩)⟩, h.below.size, Nat.le_refl _⟩
  · exact h'.pr d hd
theorem St.prAt {w W : World} {bl : List Bk} {ps : List PrD} (h : St w W bl ps) {d : PrD} (hd : d ∈ ps) : Pr W d := (h.pr d hd).1
theorem St.idx {w W : World} {bl : List Bk} {ps : List PrD} (h : St w W bl ps) (i : Nat) {g : Nat} {cs : Array Value} {t : TypeId} (hi : bl[i]? = some (g, cs, t)) : W.heap[g]? = some (.cells cs t (0, 0)) := (h.blk _ (List.mem_of_getElem? hi)).1
theorem St.nth {w W : World} {bl : List Bk} {ps : List PrD} (h : St w W bl ps) (j : Nat) {d : PrD} (hj : ps[j]? = some d) : Pr W d := h.prAt (List.mem_of_getElem? hj)
theorem Pr.c1 {W : World} {lo hi n c : Nat} {A : Option Addr} {v2 : Value} {l1 l2 : List Int} (h : Pr W ⟨lo, hi, .slice A n c, v2, l1, l2⟩) : n = l1.length ∧ Kd.C (Kd.int .i64) W A l1.length l1 ∧ l1.length ≤ c :=
  by obtain ⟨e, k, c⟩ := Kd.R_reads' h.1; exact ⟨e, c, e ▸ k⟩
theorem Pr.c2 {W : World} {lo hi n c : Nat} {A : Option Addr} {v1 : Value} {l1 l2 : List Int} (h : Pr W ⟨lo, hi, v1, .slice A n c, l1, l2⟩) : n = l2.length ∧ Kd.C (Kd.int .i64) W A l2.length l2 ∧ l2.length ≤ c :=
  by obtain ⟨e, k, c⟩ := Kd.R_reads' h.2; exact ⟨e, c, e ▸ k⟩
theorem St.mark {w W W' : World} {bl : List Bk} {ps : List PrD} (h : St w W bl ps) (i : Nat) {d : PrD} (hi : ps[i]? = some d) {m1 m2 : List Int} {ok1 ok2 : Nat → Prop} (hk : Kept W W' (fun k => some k = d.v1.ownBlock ∨ some k = d.v2.ownBlock))
    (R1 : Kd.R (Kd.int .i64) 3 W' w.heap.size ok1 d.v1 m1) (R2 : Kd.R (Kd.int .i64) 3 W' w.heap.size ok2 d.v2 m2) (hb : Below w.heap.size w W') : St w W' bl (ps.set i ⟨d.lo, d.hi, d.v1, d.v2, m1, m2⟩) := by
  obtain ⟨hlt, hie⟩ := List.getElem?_eq_some_iff.1 hi
  have hd : d ∈ ps := List.mem_of_getElem? hi
  have hp := h.pr d hd
  have hfar := List.pairwise_iff_getElem.1 h.far
  have hin : ∀ k, (some k = d.v1.ownBlock ∨ some k = d.v2.ownBlock) → d.lo ≤ k ∧ k < d.hi := fun k hk => by
    rcases hk with hk | hk
    · exact hp.1.in1 k hk
    · exact hp.1.in2 k hk
  refine ⟨hb, fun p hp' => ⟨?_, (h.blk p hp').2⟩, h.nod, fun e he => ?_, ?_⟩
  · refine blk_kept (h.blk p hp').1 hk fun hs => ?_
    have hb' := (h.blk p hp').1
    rcases hs with hs | hs
    · obtain ⟨cells, hc⟩ := own_typed (Kd.own_of_R hp.1.1) p.1 hs.symm
      rw [hc] at hb'; injection hb' with hb'; injection hb' with _ hb'; exact (h.blk p hp').2.2 hb'.symm
    · obtain ⟨cells, hc⟩ := own_typed (Kd.own_of_R hp.1.2) p.1 hs.symm
      rw [hc] at hb'; injection hb' with hb'; injection hb' with _ hb'; exact (h.blk p hp').2.2 hb'.symm
  · obtain ⟨j, hj, ej⟩ := List.getElem_of_mem he
    rw [List.length_set] at hj
    rw [List.getElem_set] at ej
    split at ej
    · subst ej
      refine ⟨⟨?_, ?_⟩, hp.2.1, Nat.le_trans hp.2.2 hk.1⟩
      · exact Kd.R_of_own (Kd.own_raise (Kd.own_of_R R1) (fun k hk => (hp.1.in1 k hk.symm).1)) (fun k hk => ⟨(hp.1.in1 k hk.symm).2, hp.1.ne k hk.symm⟩)
      · exact Kd.R_of_own (Kd.own_raise (Kd.own_of_R R2) (fun k hk => (hp.1.in2 k hk.symm).1)) (fun k hk => ⟨(hp.1.in2 k hk.symm).2, fun e => hp.1.ne k e hk.symm⟩)
    · rename_i hne
      have he' : e ∈ ps := ej ▸ List.getElem_mem hj
      have hq := h.pr e he'
      have hdis : ∀ k, e.lo ≤ k → k < e.hi → ¬ (some k = d.v1.ownBlock ∨ some k = d.v2.ownBlock) := fun k h1 h2 hs => by
        have h3 := hin k hs
        rcases Nat.lt_or_gt_of_ne hne with hl | hl
        · have := hfar i j hlt hj hl; rw [hie, ej] at this; omega
        · have := hfar j i hj hlt hl; rw [hie, ej] at this; omega
      refine ⟨⟨?_, ?_⟩, hq.2.1, Nat.le_trans hq.2.2 hk.1⟩
      · exact Kd.R_mono (Kd.R_step (Kd.R_bound hq.1.1) (fun k hok hlt' => hk.2 k hlt' (hdis k hok.2.1 hok.1.1))) (fun k hok => hok.1)
      · exact Kd.R_mono (Kd.R_step (Kd.R_bound hq.1.2) (fun k hok hlt' => hk.2 k hlt' (hdis k hok.2.1 hok.1.1))) (fun k hok => hok.1)
  · refine List.pairwise_iff_getElem.2 fun a b ha hb' hab => ?_
    rw [List.length_set] at ha hb'
    have hab' := hfar a b ha hb' hab
    have ea : ((ps.set i ⟨d.lo, d.hi, d.v1, d.v2, m1, m2⟩)[a]'(by rw [List.length_set]; exact ha)).lo = (ps[a]).lo := by
      rw [List.getElem_set]; split
      · rename_i e; subst e; rw [hie]
      · rfl
    have eb : ((ps.set i ⟨d.lo, d.hi, d.v1, d.v2, m1, m2⟩)[b]'(by rw [List.length_set]; exact hb')).hi = (ps[b]).hi := by
      rw [List.getElem_set]; split
      · rename_i e; subst e; rw [hie]
      · rfl
    rw [ea, eb]; exact hab'
theorem cells3 {W : World} {g : Nat} {t : TypeId} {x y z : Value} (h : W.heap[g]? = some (.cells #[x, y, z] t (0, 0))) : W.cell? ⟨g, 0, none⟩ = some x ∧ W.cell? ⟨g, 1, none⟩ = some y ∧ W.cell? ⟨g, 2, none⟩ = some z :=
  ⟨(blk_cell h 0).trans rfl, (blk_cell h 1).trans rfl, (blk_cell h 2).trans rfl⟩
theorem St.cells2 {w W : World} {bl : List Bk} {ps : List PrD} {g1 g2 : Nat} {x1 y1 z1 x2 y2 z2 : Value} {t1 t2 : TypeId} (h : St w W bl ps) (m1 : (g1, #[x1, y1, z1], t1) ∈ bl) (m2 : (g2, #[x2, y2, z2], t2) ∈ bl) :
    W.cell? ⟨g1, 0, none⟩ = some x1 ∧ W.cell? ⟨g1, 1, none⟩ = some y1 ∧ W.cell? ⟨g1, 2, none⟩ = some z1 ∧ W.cell? ⟨g2, 0, none⟩ = some x2 ∧ W.cell? ⟨g2, 1, none⟩ = some y2 ∧ W.cell? ⟨g2, 2, none⟩ = some z2 :=
  ⟨(cells3 (h.at m1)).1, (cells3 (h.at m1)).2.1, (cells3 (h.at m1)).2.2, cells3 (h.at m2)⟩
theorem But1.set3 {W : World} {g : Nat} (x y z : Value) : But1 g W (((W.setCell ⟨g, 0, none⟩ x).setCell ⟨g, 1, none⟩ y).setCell ⟨g, 2, none⟩ z) :=
  ⟨fun k hk => (Below.heap_setCell _ _ _ k hk).trans ((Below.heap_setCell _ _ _ k hk).trans (Below.heap_setCell _ _ _ k hk)), fun B hB => (((Below.refl B W).setCell (p := ⟨g, 0, none⟩) hB x).setCell (p := ⟨g, 1, none⟩) hB y).setCell (p := ⟨g, 2, none⟩) hB z⟩
theorem St.set3 {w W : World} {bl : List Bk} {ps : List PrD} {g : Nat} {a b c : Value} {t : TypeId} (h : St w W ((g, #[a, b, c], t) :: bl) ps) (x y z : Value) :
    St w (((W.setCell ⟨g, 0, none⟩ x).setCell ⟨g, 1, none⟩ y).setCell ⟨g, 2, none⟩ z) ((g, #[x, y, z], t) :: bl) ps := by
  have s := blk_set (blk_set (blk_set (h.at (g := g) (cs := #[a, b, c]) (t := t) List.mem_cons_self) 0 x) 1 y) 2 z
  exact h.put 0 rfl (by simpa using s) (But1.set3 x y z)
/-- What a call that gives an array and a code leaves, its answer laid in a box. -/
def Got (w : World) (bl : List Bk) (ps : List PrD) (t : TypeId) (b : Bool) (l1 l2 : List Int) (cd : Int) (v6 v7 : Value) (W : World) : Prop :=
  ∃ g A1 c1 A2 c2 lo hi, v6 = .pointer (some ⟨g, 0, none⟩) ∧ v7 = .int .i64 cd ∧ St w W ((g, #[.bool b, .slice A1 l1.length c1, .slice A2 l2.length c2], t) :: bl) (⟨lo, hi, .slice A1 l1.length c1, .slice A2 l2.length c2, l1, l2⟩ :: ps)
theorem Got.drew {w W : World} {bl : List Bk} {ps : List PrD} {t : TypeId} {b : Bool} {l1 l2 : List Int} {cd : Int} {v6 v7 : Value} (h : Got w bl ps t b l1 l2 cd v6 v7 W) : Got w bl ps t b l1 l2 cd v6 v7 W.drew := by
  obtain ⟨g, A1, c1, A2, c2, lo, hi, e1, e2, hs⟩ := h
  exact ⟨g, A1, c1, A2, c2, lo, hi, e1, e2, hs.drew⟩
/-- A pair that is marked: what the law's function asks. -/
theorem St.ready {w W : World} {bl : List Bk} {ps : List PrD} (h : St w W bl ps) {d : PrD} (hd : d ∈ ps) :
    Kd.R (Kd.int .i64) 3 W w.heap.size (fun k => some k = d.v1.ownBlock) d.v1 d.l1 ∧ (∀ k, some k = d.v1.ownBlock → ¬ some k = d.v2.ownBlock) ∧ Kd.R (Kd.int .i64) 3 W w.heap.size (fun k => some k = d.v2.ownBlock) d.v2 d.l2 ∧ (∀ k, some k = d.v2.ownBlock → ¬ some k = d.v1.ownBlock) :=
  ⟨Kd.R_tight rfl (Kd.R_lower (h.prAt hd).1 (h.pr d hd).2.1), (h.prAt hd).ne, Kd.R_tight rfl (Kd.R_lower (h.prAt hd).2 (h.pr d hd).2.1), fun k h2 h1 => (h.prAt hd).ne k h1 h2⟩
theorem St.ready' {w W : World} {bl : List Bk} {ps : List PrD} (h : St w W bl ps) (j : Nat) {d : PrD} (hj : ps[j]? = some d) :
    Kd.R (Kd.int .i64) 3 W w.heap.size (fun k => some k = d.v1.ownBlock) d.v1 d.l1 ∧ (∀ k, some k = d.v1.ownBlock → ¬ some k = d.v2.ownBlock) ∧ Kd.R (Kd.int .i64) 3 W w.heap.size (fun k => some k = d.v2.ownBlock) d.v2 d.l2 ∧ (∀ k, some k = d.v2.ownBlock → ¬ some k = d.v1.ownBlock) := h.ready (List.mem_of_getElem? hj)
/-- 'held' at rows whose lengths are written another way. -/
theorem held_n (k : Nat) (b : Bool) (A1 A2 : Option Addr) (n1 n2 c1 c2 : Nat) (l1 l2 : List Int) (a r : Int) (w : World) (e1 : n1 = l1.length) (e2 : n2 = l2.length) (h1 : Kd.C (Kd.int .i64) w A1 l1.length l1) (k1 : l1.length ≤ c1) (h2 : Kd.C (Kd.int .i64) w A2 l2.length l2) (k2 : l2.length ≤ c2)
    (h : laws_heldArray.f k b l1 l2 a = some r) : Calls Try.prog 13 #[.agg #[.bool b, .slice A1 n1 c1, .slice A2 n2 c2], .int .i64 a] w fun e w' => e = .returned (.int .i64 r) ∧ Below w.heap.size w w' := by
  subst e1 e2
  exact laws_heldArray.calls k b A1 c1 l1 A2 c2 l2 a r w h1 k1 h2 k2 h
end Go.Proofs.Ytlomomhajmackaa.PA

namespace Go.Proofs.Ytlomomhajmackaa.PA
open Go.RowKit Go.Proofs.YtlomomhajmackaaW.PrintWords Go.Proofs.YtlomomhajmackaaW.PrintLast Go.Proofs.YtlomomhajmackaaW.PrintMore
set_option linter.unusedVariables false
set_option linter.unusedSimpArgs false
set_option maxHeartbeats 8000000 in
set_option maxRecDepth 100000 in
theorem lawGrade_y (kta kea ks kev kh kk1 kk2 : Nat) (a : Bool) (Aa1 : Option Addr) (ca1 : Nat) (la1 : List Int) (Aa2 : Option Addr) (ca2 : Nat) (la2 : List Int) (b : Bool) (v1 : Bool) (v2 v3 : List Int) (v4 : Int) (s1 : Int) (k1 : Int) (m11 m12 : List Int) (k2 : Int) (m21 m22 : List Int) (w : World) (ha1 : Kd.C (Kd.int .i64) w Aa1 la1.length la1) (ka1 : la1.length ≤ ca1) (ha2 : Kd.C (Kd.int .i64) w Aa2 la2.length la2) (ka2 : la2.length ≤ ca2)
    (hta : laws_toArray.f kta a la1 la2 = some (a, la1, la2))
    (hea : laws_eqArray.f kea a la1 la2 a la1 la2 = some true)
    (hsp : spec_Grade.f ks a la1 la2 b = some (v1, v2, v3, v4))
    (him : impl_Grade.f a la1 la2 b = some (v1, v2, v3, v4))
    (hev : laws_eqArray.f kev v1 v2 v3 v1 v2 v3 = some true)
    (hz1 : laws_szArray.f a la1 la2 1048576 = some s1)
    (pz1 : 0 ≤ s1)
    (hm1 : laws_markArray.f kk1 a la1 la2 1 = some (k1, m11, m12))
    (pm1 : 0 ≤ k1)
    (lm11 : la1.length = m11.length)
    (lm12 : la2.length = m12.length)
    (hm2 : laws_markArray.f kk2 v1 v2 v3 1 = some (k2, m21, m22))
    (pm2 : 0 ≤ k2)
    (lm21 : v2.length = m21.length)
    (lm22 : v3.length = m22.length)
    (hhG : laws_heldArray.f kh v1 m21 m22 1 = some k2) :
    Calls Try.prog 5 #[.agg #[.bool a, .slice Aa1 la1.length ca1, .slice Aa2 la2.length ca2], .bool b] w fun e w' => e = .returned (.bool true) ∧ Below w.heap.size w w' := by
  have Ha1 := Aside0.mk ha1
  have Ka1 := Aside0.mk ka1
  have Ha2 := Aside0.mk ha2
  have Ka2 := Aside0.mk ka2
  replace hta := Aside0.mk hta
  replace hea := Aside0.mk hea
  replace hsp := Aside0.mk hsp
  replace him := Aside0.mk him
  replace hev := Aside0.mk hev
  replace hz1 := Aside0.mk hz1
  replace hm1 := Aside0.mk hm1
  replace lm11 := Aside0.mk lm11
  replace lm12 := Aside0.mk lm12
  replace hm2 := Aside0.mk hm2
  replace lm21 := Aside0.mk lm21
  replace lm22 := Aside0.mk lm22
  replace hhG := Aside0.mk hhG
  clear ha1 ka1 ha2 ka2
  have qpz1 : decide (s1 < 0) = false := decide_eq_false (by omega)
  have qpm1 : decide (k1 < 0) = false := decide_eq_false (by omega)
  have qpm2 : decide (k2 < 0) = false := decide_eq_false (by omega)
  have HS := Aside0.mk (St.start w)
  go_enter Try.func5, Try.ntmps5
  go_upto_region 1 with (first | ((with_reducible refine gate_dst (N := 2) rfl ?_); refine box_event ?hg (N := 2) ?hd (cs := #[.bool a, .slice Aa1 la1.length ca1, .slice Aa2 la2.length ca2]) (t := 24) ?hr ?_; (case hd => rfl); (case hg => rfl); (case hr => first | (go_simp; done) | (go_simp; rfl)); intro g1 hg1 w1 hx1 hb1; have nS := Aside0.mk (HS.out.box hg1 hx1 hb1 (by decide)); clear HS; have HS := nS; clear nS hg1 hx1 hb1))
  go_upto_region 2 with (fail)
  go_upto_region 3 with (first | ((with_reducible refine gate_dst (N := 16) rfl ?_); refine wpList_load_row rfl 24 (.tmp 2) rfl g1 rfl 24 #[.bool a, .slice Aa1 la1.length ca1, .slice Aa2 la2.length ca2] (0, 0) _ (HS.out.idx 0 rfl) Try.underlying24 rfl (by kernel_rfl) ?_) | (go_at_call 7; refine (laws_szArray.calls a _ _ la1 _ _ la2 1048576 s1 _ (by (with_reducible repeat (first | refine Kd.C_drew ?_ | refine Kd.C_drewN ?_ _ | refine Kd.C_alloc ?_ _)); exact (Kd.C_below Ha1.out HS.out.below)) Ka1.out (by (with_reducible repeat (first | refine Kd.C_drew ?_ | refine Kd.C_drewN ?_ _ | refine Kd.C_alloc ?_ _)); exact (Kd.C_below Ha2.out HS.out.below)) Ka2.out hz1.out).mono ?_; rintro e w2 ⟨rfl, hb2⟩; have nS := Aside0.mk (St.step (by repeat (first | (with_reducible exact HS.out) | (with_reducible apply St.drew) | (with_reducible apply St.drewN) | (with_reducible apply St.alloc) | decide)) hb2); clear HS; have HS := nS; clear nS hb2))
  go_upto_region 5 with (fail)
  go_upto_region 6 with (first | ((with_reducible refine gate_dst (N := 22) rfl ?_); refine wpList_load_row rfl 24 (.tmp 2) rfl g1 rfl 24 #[.bool a, .slice Aa1 la1.length ca1, .slice Aa2 la2.length ca2] (0, 0) _ (HS.out.idx 0 rfl) Try.underlying24 rfl (by kernel_rfl) ?_) | (go_at_call_of 9 (Value.agg #[Value.bool a, Value.slice Aa1 la1.length ca1, Value.slice Aa2 la2.length ca2]); refine (laws_toArray.calls kta a _ _ la1 _ _ la2 a la1 la2 _ (by (with_reducible repeat (first | refine Kd.C_drew ?_ | refine Kd.C_drewN ?_ _ | refine Kd.C_alloc ?_ _)); exact (Kd.C_below Ha1.out HS.out.below)) Ka1.out (by (with_reducible repeat (first | refine Kd.C_drew ?_ | refine Kd.C_drewN ?_ _ | refine Kd.C_alloc ?_ _)); exact (Kd.C_below Ha2.out HS.out.below)) Ka2.out hta.out).mono ?_; rintro e w3 ⟨x3, y3, rfl, hx3, hy3, hb3⟩; obtain ⟨Ax3, cx3, rfl⟩ := Kd.R_slice hx3; obtain ⟨Ay3, cy3, rfl⟩ := Kd.R_slice hy3; have nS := Aside0.mk (St.add (by repeat (first | (with_reducible exact HS.out) | (with_reducible apply St.drew) | (with_reducible apply St.drewN) | (with_reducible apply St.alloc) | decide)) hb3 (Nat.le_refl _) hx3 hy3); clear HS; have HS := nS; clear nS hb3 hx3 hy3) | (go_at_call 16; refine (spec_Grade.calls ks a Ax3 cx3 la1 Ay3 cy3 la2 b v1 v2 v3 v4 _ (by (with_reducible repeat (first | refine Kd.C_drew ?_ | refine Kd.C_drewN ?_ _ | refine Kd.C_alloc ?_ _)); exact (HS.out.nth 0 rfl).c1.2.1) (HS.out.nth 0 rfl).c1.2.2 (by (with_reducible repeat (first | refine Kd.C_drew ?_ | refine Kd.C_drewN ?_ _ | refine Kd.C_alloc ?_ _)); exact (HS.out.nth 0 rfl).c2.2.1) (HS.out.nth 0 rfl).c2.2.2 hsp.out).mono ?_; rintro e w4 ⟨x4, y4, rfl, hx4, hy4, hb4⟩; obtain ⟨Ax4, cx4, rfl⟩ := Kd.R_slice hx4; obtain ⟨Ay4, cy4, rfl⟩ := Kd.R_slice hy4; have nS := Aside0.mk (St.add (by repeat (first | (with_reducible exact HS.out) | (with_reducible apply St.drew) | (with_reducible apply St.drewN) | (with_reducible apply St.alloc) | decide)) hb4 (Nat.le_refl _) hx4 hy4); clear HS; have HS := nS; clear nS hb4 hx4 hy4) | ((with_reducible refine gate_dst (N := 6) rfl ?_); refine box_event ?hg (N := 6) ?hd (cs := #[.bool false, .slice none 0 0, .slice none 0 0]) (t := 26) ?hr ?_; (case hd => rfl); (case hg => rfl); (case hr => first | (go_simp; done) | (go_simp; rfl)); intro g5 hg5 w5 hx5 hb5; have nS := Aside0.mk (HS.out.box hg5 hx5 hb5 (by decide)); clear HS; have HS := nS; clear nS hg5 hx5 hb5) | ((with_reducible refine gate_store rfl ?_); refine store_named rfl 26 (.tmp 6) (.tmp 26) rfl g5 #[.bool v1, .slice Ax4 v2.length cx4, .slice Ay4 v3.length cy4] rfl rfl 26 #[.bool false, .slice none 0 0, .slice none 0 0] (HS.out.idx 0 rfl) (by kernel_rfl) rfl (by simp [Value.oneCell']) ?_; intro w6 hx6 hb6; have nS := Aside0.mk (HS.out.put 0 rfl hx6 hb6); simp only [List.set_cons_zero, List.set_cons_succ] at nS; clear HS; have HS := nS; clear nS hx6 hb6))
  go_upto_region 7 with (first | ((with_reducible refine gate_dst (N := 28) rfl ?_); refine wpList_load_row rfl 24 (.tmp 2) rfl g1 rfl 24 #[.bool a, .slice Aa1 la1.length ca1, .slice Aa2 la2.length ca2] (0, 0) _ (HS.out.idx 1 rfl) Try.underlying24 rfl (by kernel_rfl) ?_) | (go_at_call_of 9 (Value.agg #[Value.bool a, Value.slice Aa1 la1.length ca1, Value.slice Aa2 la2.length ca2]); refine (laws_toArray.calls kta a _ _ la1 _ _ la2 a la1 la2 _ (by (with_reducible repeat (first | refine Kd.C_drew ?_ | refine Kd.C_drewN ?_ _ | refine Kd.C_alloc ?_ _)); exact (Kd.C_below Ha1.out HS.out.below)) Ka1.out (by (with_reducible repeat (first | refine Kd.C_drew ?_ | refine Kd.C_drewN ?_ _ | refine Kd.C_alloc ?_ _)); exact (Kd.C_below Ha2.out HS.out.below)) Ka2.out hta.out).mono ?_; rintro e w7 ⟨x7, y7, rfl, hx7, hy7, hb7⟩; obtain ⟨Ax7, cx7, rfl⟩ := Kd.R_slice hx7; obtain ⟨Ay7, cy7, rfl⟩ := Kd.R_slice hy7; have nS := Aside0.mk (St.add (by repeat (first | (with_reducible exact HS.out) | (with_reducible apply St.drew) | (with_reducible apply St.drewN) | (with_reducible apply St.alloc) | decide)) hb7 (Nat.le_refl _) hx7 hy7); clear HS; have HS := nS; clear nS hb7 hx7 hy7) | ((with_reducible refine gate_dst (N := 8) rfl ?_); refine box_event ?hg (N := 8) ?hd (cs := #[.bool false, .slice none 0 0, .slice none 0 0]) (t := 26) ?hr ?_; (case hd => rfl); (case hg => rfl); (case hr => first | (go_simp; done) | (go_simp; rfl)); intro g8 hg8 w8 hx8 hb8; have nS := Aside0.mk (HS.out.box hg8 hx8 hb8 (by decide)); clear HS; have HS := nS; clear nS hg8 hx8 hb8) | ((with_reducible refine gate_store rfl ?_); refine store_named rfl 26 (.tmp 8) (.tmp 29) rfl g8 #[.bool a, .slice Ax7 la1.length cx7, .slice Ay7 la2.length cy7] rfl rfl 26 #[.bool false, .slice none 0 0, .slice none 0 0] (HS.out.idx 0 rfl) (by kernel_rfl) rfl (by simp [Value.oneCell']) ?_; intro w9 hx9 hb9; have nS := Aside0.mk (HS.out.put 0 rfl hx9 hb9); simp only [List.set_cons_zero, List.set_cons_succ] at nS; clear HS; have HS := nS; clear nS hx9 hb9))
  go_upto_region 8 with (first | ((with_reducible refine gate_dst (N := 31) rfl ?_); refine wpList_load_row rfl 26 (.tmp 8) rfl g8 rfl 26 #[.bool a, .slice Ax7 la1.length cx7, .slice Ay7 la2.length cy7] (0, 0) _ (HS.out.idx 0 rfl) Try.underlying26 rfl (by kernel_rfl) ?_) | (go_at_call 17; refine (impl_Grade.calls a Ax7 cx7 la1 Ay7 cy7 la2 b v1 v2 v3 v4 _ (by (with_reducible repeat (first | refine Kd.C_drew ?_ | refine Kd.C_drewN ?_ _ | refine Kd.C_alloc ?_ _)); exact (HS.out.nth 0 rfl).c1.2.1) (HS.out.nth 0 rfl).c1.2.2 (by (with_reducible repeat (first | refine Kd.C_drew ?_ | refine Kd.C_drewN ?_ _ | refine Kd.C_alloc ?_ _)); exact (HS.out.nth 0 rfl).c2.2.1) (HS.out.nth 0 rfl).c2.2.2 him.out).mono ?_; rintro e w10 ⟨x10, y10, rfl, hx10, hy10, hb10⟩; obtain ⟨Ax10, cx10, rfl⟩ := Kd.R_slice hx10; obtain ⟨Ay10, cy10, rfl⟩ := Kd.R_slice hy10; have nS := Aside0.mk (St.add (by repeat (first | (with_reducible exact HS.out) | (with_reducible apply St.drew) | (with_reducible apply St.drewN) | (with_reducible apply St.alloc) | decide)) hb10 (Nat.le_refl _) hx10 hy10); clear HS; have HS := nS; clear nS hb10 hx10 hy10) | ((with_reducible refine gate_dst (N := 9) rfl ?_); refine box_event ?hg (N := 9) ?hd (cs := #[.bool false, .slice none 0 0, .slice none 0 0]) (t := 26) ?hr ?_; (case hd => rfl); (case hg => rfl); (case hr => first | (go_simp; done) | (go_simp; rfl)); intro g11 hg11 w11 hx11 hb11; have nS := Aside0.mk (HS.out.box hg11 hx11 hb11 (by decide)); clear HS; have HS := nS; clear nS hg11 hx11 hb11) | ((with_reducible refine gate_store rfl ?_); refine store_named rfl 26 (.tmp 9) (.tmp 34) rfl g11 #[.bool v1, .slice Ax10 v2.length cx10, .slice Ay10 v3.length cy10] rfl rfl 26 #[.bool false, .slice none 0 0, .slice none 0 0] (HS.out.idx 0 rfl) (by kernel_rfl) rfl (by simp [Value.oneCell']) ?_; intro w12 hx12 hb12; have nS := Aside0.mk (HS.out.put 0 rfl hx12 hb12); simp only [List.set_cons_zero, List.set_cons_succ] at nS; clear HS; have HS := nS; clear nS hx12 hb12))
  go_upto_region 10 with (first | ((with_reducible refine gate_dst (N := 36) rfl ?_); refine wpList_load_row rfl 26 (.tmp 9) rfl g11 rfl 26 #[.bool v1, .slice Ax10 v2.length cx10, .slice Ay10 v3.length cy10] (0, 0) _ (HS.out.idx 0 rfl) Try.underlying26 rfl (by kernel_rfl) ?_) | ((with_reducible refine gate_dst (N := 37) rfl ?_); refine wpList_load_row rfl 26 (.tmp 6) rfl g5 rfl 26 #[.bool v1, .slice Ax4 v2.length cx4, .slice Ay4 v3.length cy4] (0, 0) _ (HS.out.idx 2 rfl) Try.underlying26 rfl (by kernel_rfl) ?_) | (go_at_call 11; refine (laws_eqArray.calls kev v1 Ax10 cx10 v2 Ay10 cy10 v3 v1 Ax4 cx4 v2 Ay4 cy4 v3 true _ (by (with_reducible repeat (first | refine Kd.C_drew ?_ | refine Kd.C_drewN ?_ _ | refine Kd.C_alloc ?_ _)); exact (HS.out.nth 0 rfl).c1.2.1) (HS.out.nth 0 rfl).c1.2.2 (by (with_reducible repeat (first | refine Kd.C_drew ?_ | refine Kd.C_drewN ?_ _ | refine Kd.C_alloc ?_ _)); exact (HS.out.nth 0 rfl).c2.2.1) (HS.out.nth 0 rfl).c2.2.2 (by (with_reducible repeat (first | refine Kd.C_drew ?_ | refine Kd.C_drewN ?_ _ | refine Kd.C_alloc ?_ _)); exact (HS.out.nth 2 rfl).c1.2.1) (HS.out.nth 2 rfl).c1.2.2 (by (with_reducible repeat (first | refine Kd.C_drew ?_ | refine Kd.C_drewN ?_ _ | refine Kd.C_alloc ?_ _)); exact (HS.out.nth 2 rfl).c2.2.1) (HS.out.nth 2 rfl).c2.2.2 hev.out).mono ?_; rintro e w13 ⟨rfl, hb13⟩; have nS := Aside0.mk (St.step (by repeat (first | (with_reducible exact HS.out) | (with_reducible apply St.drew) | (with_reducible apply St.drewN) | (with_reducible apply St.alloc) | decide)) hb13); clear HS; have HS := nS; clear nS hb13))
  go_region_held3 (fun w' => w'.cell? ⟨g8, 0, none⟩ = some (.bool a) ∧ w'.cell? ⟨g8, 1, none⟩ = some (.slice Ax7 la1.length cx7) ∧ w'.cell? ⟨g8, 2, none⟩ = some (.slice Ay7 la2.length cy7) ∧ w'.cell? ⟨g1, 0, none⟩ = some (.bool a) ∧ w'.cell? ⟨g1, 1, none⟩ = some (.slice Aa1 la1.length ca1) ∧ w'.cell? ⟨g1, 2, none⟩ = some (.slice Aa2 la2.length ca2)) ((apply St.cells2 (w := w) (t1 := 26) (t2 := 24); (repeat (first | (with_reducible exact HS.out) | (with_reducible apply St.drew) | (with_reducible apply St.drewN) | (with_reducible apply St.alloc) | (with_reducible apply St.set3) | decide)); all_goals simp)) (first | (go_at_call_of 9 (Value.agg #[Value.bool a, Value.slice Aa1 la1.length ca1, Value.slice Aa2 la2.length ca2]); refine (laws_toArray.calls kta a _ _ la1 _ _ la2 a la1 la2 _ (by (with_reducible repeat (first | refine Kd.C_drew ?_ | refine Kd.C_drewN ?_ _ | refine Kd.C_alloc ?_ _)); exact (Kd.C_below Ha1.out HS.out.below)) Ka1.out (by (with_reducible repeat (first | refine Kd.C_drew ?_ | refine Kd.C_drewN ?_ _ | refine Kd.C_alloc ?_ _)); exact (Kd.C_below Ha2.out HS.out.below)) Ka2.out hta.out).mono ?_; rintro e w14 ⟨x14, y14, rfl, hx14, hy14, hb14⟩; obtain ⟨Ax14, cx14, rfl⟩ := Kd.R_slice hx14; obtain ⟨Ay14, cy14, rfl⟩ := Kd.R_slice hy14; have nS := Aside0.mk (St.add (by repeat (first | (with_reducible exact HS.out) | (with_reducible apply St.drew) | (with_reducible apply St.drewN) | (with_reducible apply St.alloc) | decide)) hb14 (Nat.le_refl _) hx14 hy14); clear HS; have HS := nS; clear nS hb14 hx14 hy14) | (go_at_call 11; refine (laws_eqArray.calls kea a Ax7 cx7 la1 Ay7 cy7 la2 a Ax14 cx14 la1 Ay14 cy14 la2 true _ (by (with_reducible repeat (first | refine Kd.C_drew ?_ | refine Kd.C_drewN ?_ _ | refine Kd.C_alloc ?_ _)); exact (HS.out.nth 2 rfl).c1.2.1) (HS.out.nth 2 rfl).c1.2.2 (by (with_reducible repeat (first | refine Kd.C_drew ?_ | refine Kd.C_drewN ?_ _ | refine Kd.C_alloc ?_ _)); exact (HS.out.nth 2 rfl).c2.2.1) (HS.out.nth 2 rfl).c2.2.2 (by (with_reducible repeat (first | refine Kd.C_drew ?_ | refine Kd.C_drewN ?_ _ | refine Kd.C_alloc ?_ _)); exact (HS.out.nth 0 rfl).c1.2.1) (HS.out.nth 0 rfl).c1.2.2 (by (with_reducible repeat (first | refine Kd.C_drew ?_ | refine Kd.C_drewN ?_ _ | refine Kd.C_alloc ?_ _)); exact (HS.out.nth 0 rfl).c2.2.1) (HS.out.nth 0 rfl).c2.2.2 hea.out).mono ?_; rintro e w15 ⟨rfl, hb15⟩; have nS := Aside0.mk (St.step (by repeat (first | (with_reducible exact HS.out) | (with_reducible apply St.drew) | (with_reducible apply St.drewN) | (with_reducible apply St.alloc) | decide)) hb15); clear HS; have HS := nS; clear nS hb15))
  go_upto_region 12 with (fail)
  go_upto_region 13 with (fail)
  go_upto_region 14 with (first | ((with_reducible refine gate_dst (N := 50) rfl ?_); refine wpList_load_row rfl 26 (.tmp 8) rfl g8 rfl 26 #[.bool a, .slice Ax7 la1.length cx7, .slice Ay7 la2.length cy7] (0, 0) _ (HS.out.idx 1 rfl) Try.underlying26 rfl (by kernel_rfl) ?_) | (go_at_call 12; have hr_ := HS.out.ready' 2 rfl; refine (laws_markArray.calls kk1 a (fun k => some k = ((.slice Ax7 la1.length cx7) : Value).ownBlock) (.slice Ax7 la1.length cx7) la1 (fun k => some k = ((.slice Ay7 la2.length cy7) : Value).ownBlock) (.slice Ay7 la2.length cy7) la2 1 k1 m11 m12 w w15 HS.out.below hr_.1 hr_.2.1 hr_.2.2.1 hr_.2.2.2 hm1.out).mono ?_; clear hr_; rintro e w16 ⟨rfl, hx16, hy16, hb16, hk16⟩; have nS := Aside0.mk (HS.out.mark 2 rfl hk16 hx16 hy16 hb16); simp only [List.set_cons_zero, List.set_cons_succ] at nS; clear HS; have HS := nS; clear nS hk16 hx16 hy16 hb16))
  have gc0_ := cells3 (HS.out.idx 0 rfl); have gd0_ := gc0_.2; replace gc0_ := gc0_.1; have ge0_ := gd0_.2; replace gd0_ := gd0_.1
  have gc1_ := cells3 (HS.out.idx 2 rfl); have gd1_ := gc1_.2; replace gc1_ := gc1_.1; have ge1_ := gd1_.2; replace gd1_ := gd1_.1
  go_upto_region 16 with (first | (go_at_call 11; refine (laws_eqArray.calls kev v1 Ax10 cx10 v2 Ay10 cy10 v3 v1 Ax4 cx4 v2 Ay4 cy4 v3 true _ (by (with_reducible repeat (first | refine Kd.C_drew ?_ | refine Kd.C_drewN ?_ _ | refine Kd.C_alloc ?_ _)); exact (HS.out.nth 1 rfl).c1.2.1) (HS.out.nth 1 rfl).c1.2.2 (by (with_reducible repeat (first | refine Kd.C_drew ?_ | refine Kd.C_drewN ?_ _ | refine Kd.C_alloc ?_ _)); exact (HS.out.nth 1 rfl).c2.2.1) (HS.out.nth 1 rfl).c2.2.2 (by (with_reducible repeat (first | refine Kd.C_drew ?_ | refine Kd.C_drewN ?_ _ | refine Kd.C_alloc ?_ _)); exact (HS.out.nth 3 rfl).c1.2.1) (HS.out.nth 3 rfl).c1.2.2 (by (with_reducible repeat (first | refine Kd.C_drew ?_ | refine Kd.C_drewN ?_ _ | refine Kd.C_alloc ?_ _)); exact (HS.out.nth 3 rfl).c2.2.1) (HS.out.nth 3 rfl).c2.2.2 hev.out).mono ?_; rintro e w17 ⟨rfl, hb17⟩; have nS := Aside0.mk (St.step (by repeat (first | (with_reducible exact HS.out) | (with_reducible apply St.drew) | (with_reducible apply St.drewN) | (with_reducible apply St.alloc) | decide)) hb17); clear HS; have HS := nS; clear nS hb17))
  clear gc0_ gd0_ ge0_ gc1_ gd1_ ge1_
  go_upto_region 17 with (fail)
  go_upto_region 18 with (first | ((with_reducible refine gate_dst (N := 66) rfl ?_); refine wpList_load_row rfl 26 (.tmp 9) rfl g11 rfl 26 #[.bool v1, .slice Ax10 v2.length cx10, .slice Ay10 v3.length cy10] (0, 0) _ (HS.out.idx 0 rfl) Try.underlying26 rfl (by kernel_rfl) ?_) | (go_at_call 12; have hr_ := HS.out.ready' 1 rfl; refine (laws_markArray.calls kk2 v1 (fun k => some k = ((.slice Ax10 v2.length cx10) : Value).ownBlock) (.slice Ax10 v2.length cx10) v2 (fun k => some k = ((.slice Ay10 v3.length cy10) : Value).ownBlock) (.slice Ay10 v3.length cy10) v3 1 k2 m21 m22 w w17 HS.out.below hr_.1 hr_.2.1 hr_.2.2.1 hr_.2.2.2 hm2.out).mono ?_; clear hr_; rintro e w18 ⟨rfl, hx18, hy18, hb18, hk18⟩; have nS := Aside0.mk (HS.out.mark 1 rfl hk18 hx18 hy18 hb18); simp only [List.set_cons_zero, List.set_cons_succ] at nS; clear HS; have HS := nS; clear nS hk18 hx18 hy18 hb18))
  go_upto_region 19 with (fail)
  go_upto_region 20 with (first | ((with_reducible refine gate_dst (N := 69) rfl ?_); refine wpList_load_row rfl 26 (.tmp 9) rfl g11 rfl 26 #[.bool v1, .slice Ax10 v2.length cx10, .slice Ay10 v3.length cy10] (0, 0) _ (HS.out.idx 0 rfl) Try.underlying26 rfl (by kernel_rfl) ?_) | (go_at_call 13; refine (held_n kh v1 Ax10 Ay10 _ _ cx10 cy10 m21 m22 1 k2 _ lm21.out lm22.out (by (with_reducible repeat (first | refine Kd.C_drew ?_ | refine Kd.C_drewN ?_ _ | refine Kd.C_alloc ?_ _)); exact (HS.out.nth 1 rfl).c1.2.1) (HS.out.nth 1 rfl).c1.2.2 (by (with_reducible repeat (first | refine Kd.C_drew ?_ | refine Kd.C_drewN ?_ _ | refine Kd.C_alloc ?_ _)); exact (HS.out.nth 1 rfl).c2.2.1) (HS.out.nth 1 rfl).c2.2.2 hhG.out).mono ?_; rintro e w19 ⟨rfl, hb19⟩; have nS := Aside0.mk (St.step (by repeat (first | (with_reducible exact HS.out) | (with_reducible apply St.drew) | (with_reducible apply St.drewN) | (with_reducible apply St.alloc) | decide)) hb19); clear HS; have HS := nS; clear nS hb19))
  go_upto_region 22 with (fail)
  go_upto_region 24 with (fail)
  go_upto_region 25 with (first | ((with_reducible refine gate_dst (N := 78) rfl ?_); refine wpList_load_row rfl 24 (.tmp 2) rfl g1 rfl 24 #[.bool a, .slice Aa1 la1.length ca1, .slice Aa2 la2.length ca2] (0, 0) _ (HS.out.idx 3 rfl) Try.underlying24 rfl (by kernel_rfl) ?_) | (go_at_call_of 9 (Value.agg #[Value.bool a, Value.slice Aa1 la1.length ca1, Value.slice Aa2 la2.length ca2]); refine (laws_toArray.calls kta a _ _ la1 _ _ la2 a la1 la2 _ (by (with_reducible repeat (first | refine Kd.C_drew ?_ | refine Kd.C_drewN ?_ _ | refine Kd.C_alloc ?_ _)); exact (Kd.C_below Ha1.out HS.out.below)) Ka1.out (by (with_reducible repeat (first | refine Kd.C_drew ?_ | refine Kd.C_drewN ?_ _ | refine Kd.C_alloc ?_ _)); exact (Kd.C_below Ha2.out HS.out.below)) Ka2.out hta.out).mono ?_; rintro e w20 ⟨x20, y20, rfl, hx20, hy20, hb20⟩; obtain ⟨Ax20, cx20, rfl⟩ := Kd.R_slice hx20; obtain ⟨Ay20, cy20, rfl⟩ := Kd.R_slice hy20; have nS := Aside0.mk (St.add (by repeat (first | (with_reducible exact HS.out) | (with_reducible apply St.drew) | (with_reducible apply St.drewN) | (with_reducible apply St.alloc) | decide)) hb20 (Nat.le_refl _) hx20 hy20); clear HS; have HS := nS; clear nS hb20 hx20 hy20) | (go_at_call 17; refine (impl_Grade.calls a Ax20 cx20 la1 Ay20 cy20 la2 b v1 v2 v3 v4 _ (by (with_reducible repeat (first | refine Kd.C_drew ?_ | refine Kd.C_drewN ?_ _ | refine Kd.C_alloc ?_ _)); exact (HS.out.nth 0 rfl).c1.2.1) (HS.out.nth 0 rfl).c1.2.2 (by (with_reducible repeat (first | refine Kd.C_drew ?_ | refine Kd.C_drewN ?_ _ | refine Kd.C_alloc ?_ _)); exact (HS.out.nth 0 rfl).c2.2.1) (HS.out.nth 0 rfl).c2.2.2 him.out).mono ?_; rintro e w21 ⟨x21, y21, rfl, hx21, hy21, hb21⟩; obtain ⟨Ax21, cx21, rfl⟩ := Kd.R_slice hx21; obtain ⟨Ay21, cy21, rfl⟩ := Kd.R_slice hy21; have nS := Aside0.mk (St.add (by repeat (first | (with_reducible exact HS.out) | (with_reducible apply St.drew) | (with_reducible apply St.drewN) | (with_reducible apply St.alloc) | decide)) hb21 (Nat.le_refl _) hx21 hy21); clear HS; have HS := nS; clear nS hb21 hx21 hy21) | ((with_reducible refine gate_dst (N := 14) rfl ?_); refine box_event ?hg (N := 14) ?hd (cs := #[.bool false, .slice none 0 0, .slice none 0 0]) (t := 26) ?hr ?_; (case hd => rfl); (case hg => rfl); (case hr => first | (go_simp; done) | (go_simp; rfl)); intro g22 hg22 w22 hx22 hb22; have nS := Aside0.mk (HS.out.box hg22 hx22 hb22 (by decide)); clear HS; have HS := nS; clear nS hg22 hx22 hb22) | ((with_reducible refine gate_store rfl ?_); refine store_named rfl 26 (.tmp 14) (.tmp 82) rfl g22 #[.bool v1, .slice Ax21 v2.length cx21, .slice Ay21 v3.length cy21] rfl rfl 26 #[.bool false, .slice none 0 0, .slice none 0 0] (HS.out.idx 0 rfl) (by kernel_rfl) rfl (by simp [Value.oneCell']) ?_; intro w23 hx23 hb23; have nS := Aside0.mk (HS.out.put 0 rfl hx23 hb23); simp only [List.set_cons_zero, List.set_cons_succ] at nS; clear HS; have HS := nS; clear nS hx23 hb23))
  go_upto_region 27 with (first | ((with_reducible refine gate_dst (N := 84) rfl ?_); refine wpList_load_row rfl 26 (.tmp 14) rfl g22 rfl 26 #[.bool v1, .slice Ax21 v2.length cx21, .slice Ay21 v3.length cy21] (0, 0) _ (HS.out.idx 0 rfl) Try.underlying26 rfl (by kernel_rfl) ?_) | ((with_reducible refine gate_dst (N := 85) rfl ?_); refine wpList_load_row rfl 26 (.tmp 6) rfl g5 rfl 26 #[.bool v1, .slice Ax4 v2.length cx4, .slice Ay4 v3.length cy4] (0, 0) _ (HS.out.idx 3 rfl) Try.underlying26 rfl (by kernel_rfl) ?_) | (go_at_call 11; refine (laws_eqArray.calls kev v1 Ax21 cx21 v2 Ay21 cy21 v3 v1 Ax4 cx4 v2 Ay4 cy4 v3 true _ (by (with_reducible repeat (first | refine Kd.C_drew ?_ | refine Kd.C_drewN ?_ _ | refine Kd.C_alloc ?_ _)); exact (HS.out.nth 0 rfl).c1.2.1) (HS.out.nth 0 rfl).c1.2.2 (by (with_reducible repeat (first | refine Kd.C_drew ?_ | refine Kd.C_drewN ?_ _ | refine Kd.C_alloc ?_ _)); exact (HS.out.nth 0 rfl).c2.2.1) (HS.out.nth 0 rfl).c2.2.2 (by (with_reducible repeat (first | refine Kd.C_drew ?_ | refine Kd.C_drewN ?_ _ | refine Kd.C_alloc ?_ _)); exact (HS.out.nth 5 rfl).c1.2.1) (HS.out.nth 5 rfl).c1.2.2 (by (with_reducible repeat (first | refine Kd.C_drew ?_ | refine Kd.C_drewN ?_ _ | refine Kd.C_alloc ?_ _)); exact (HS.out.nth 5 rfl).c2.2.1) (HS.out.nth 5 rfl).c2.2.2 hev.out).mono ?_; rintro e w24 ⟨rfl, hb24⟩; have nS := Aside0.mk (St.step (by repeat (first | (with_reducible exact HS.out) | (with_reducible apply St.drew) | (with_reducible apply St.drewN) | (with_reducible apply St.alloc) | decide)) hb24); clear HS; have HS := nS; clear nS hb24))
  go_upto_region 28 with (fail)
  go_upto_region 29 with (first | ((with_reducible refine gate_dst (N := 93) rfl ?_); refine wpList_load_row rfl 26 (.tmp 9) rfl g11 rfl 26 #[.bool v1, .slice Ax10 v2.length cx10, .slice Ay10 v3.length cy10] (0, 0) _ (HS.out.idx 1 rfl) Try.underlying26 rfl (by kernel_rfl) ?_) | (go_at_call 13; refine (held_n kh v1 Ax10 Ay10 _ _ cx10 cy10 m21 m22 1 k2 _ lm21.out lm22.out (by (with_reducible repeat (first | refine Kd.C_drew ?_ | refine Kd.C_drewN ?_ _ | refine Kd.C_alloc ?_ _)); exact (HS.out.nth 3 rfl).c1.2.1) (HS.out.nth 3 rfl).c1.2.2 (by (with_reducible repeat (first | refine Kd.C_drew ?_ | refine Kd.C_drewN ?_ _ | refine Kd.C_alloc ?_ _)); exact (HS.out.nth 3 rfl).c2.2.1) (HS.out.nth 3 rfl).c2.2.2 hhG.out).mono ?_; rintro e w25 ⟨rfl, hb25⟩; have nS := Aside0.mk (St.step (by repeat (first | (with_reducible exact HS.out) | (with_reducible apply St.drew) | (with_reducible apply St.drewN) | (with_reducible apply St.alloc) | decide)) hb25); clear HS; have HS := nS; clear nS hb25))
  go_upto_region 31 with (fail)
  go_upto_region 33 with (fail)
  go_wp2_with fail
  go_ret
  exact ⟨rfl, HS.out.below⟩
set_option maxHeartbeats 8000000 in
set_option maxRecDepth 100000 in
theorem lawGrade_n1 (a : Bool) (Aa1 : Option Addr) (ca1 : Nat) (la1 : List Int) (Aa2 : Option Addr) (ca2 : Nat) (la2 : List Int) (b : Bool)  (w : World) (ha1 : Kd.C (Kd.int .i64) w Aa1 la1.length la1) (ka1 : la1.length ≤ ca1) (ha2 : Kd.C (Kd.int .i64) w Aa2 la2.length la2) (ka2 : la2.length ≤ ca2)
    (hz1 : laws_szArray.f a la1 la2 1048576 = some (-1)) :
    Calls Try.prog 5 #[.agg #[.bool a, .slice Aa1 la1.length ca1, .slice Aa2 la2.length ca2], .bool b] w fun e w' => e = .returned (.bool true) ∧ Below w.heap.size w w' := by
  have Ha1 := Aside0.mk ha1
  have Ka1 := Aside0.mk ka1
  have Ha2 := Aside0.mk ha2
  have Ka2 := Aside0.mk ka2
  replace hz1 := Aside0.mk hz1
  clear ha1 ka1 ha2 ka2
  have HS := Aside0.mk (St.start w)
  go_enter Try.func5, Try.ntmps5
  go_upto_region 1 with (first | ((with_reducible refine gate_dst (N := 2) rfl ?_); refine box_event ?hg (N := 2) ?hd (cs := #[.bool a, .slice Aa1 la1.length ca1, .slice Aa2 la2.length ca2]) (t := 24) ?hr ?_; (case hd => rfl); (case hg => rfl); (case hr => first | (go_simp; done) | (go_simp; rfl)); intro g1 hg1 w1 hx1 hb1; have nS := Aside0.mk (HS.out.box hg1 hx1 hb1 (by decide)); clear HS; have HS := nS; clear nS hg1 hx1 hb1))
  go_upto_region 2 with (fail)
  go_wp2_with (first | ((with_reducible refine gate_dst (N := 16) rfl ?_); refine wpList_load_row rfl 24 (.tmp 2) rfl g1 rfl 24 #[.bool a, .slice Aa1 la1.length ca1, .slice Aa2 la2.length ca2] (0, 0) _ (HS.out.idx 0 rfl) Try.underlying24 rfl (by kernel_rfl) ?_) | (go_at_call 7; refine (laws_szArray.calls a _ _ la1 _ _ la2 1048576 (-1) _ (by (with_reducible repeat (first | refine Kd.C_drew ?_ | refine Kd.C_drewN ?_ _ | refine Kd.C_alloc ?_ _)); exact (Kd.C_below Ha1.out HS.out.below)) Ka1.out (by (with_reducible repeat (first | refine Kd.C_drew ?_ | refine Kd.C_drewN ?_ _ | refine Kd.C_alloc ?_ _)); exact (Kd.C_below Ha2.out HS.out.below)) Ka2.out hz1.out).mono ?_; rintro e w2 ⟨rfl, hb2⟩; have nS := Aside0.mk (St.step (by repeat (first | (with_reducible exact HS.out) | (with_reducible apply St.drew) | (with_reducible apply St.drewN) | (with_reducible apply St.alloc) | decide)) hb2); clear HS; have HS := nS; clear nS hb2))
  go_ret
  exact ⟨rfl, HS.out.below⟩
theorem lawGrade (a : Bool) (Aa1 : Option Addr) (ca1 : Nat) (la1 : List Int) (Aa2 : Option Addr) (ca2 : Nat) (la2 : List Int) (b : Bool) (w : World) (ha1 : Kd.C (Kd.int .i64) w Aa1 la1.length la1) (ka1 : la1.length ≤ ca1) (ha2 : Kd.C (Kd.int .i64) w Aa2 la2.length la2) (ka2 : la2.length ≤ ca2) (na1 : la1.length ≤ maxLen) (na2 : la2.length ≤ maxLen) :
    Calls Try.prog 5 #[.agg #[.bool a, .slice Aa1 la1.length ca1, .slice Aa2 la2.length ca2], .bool b] w fun e w' => e = .returned (.bool true) ∧ Below w.heap.size w w' := by
  by_cases z1 : (la1.length : Int) + la2.length ≤ (1048576 : Int)
  · have f1 : laws_szArray.f a la1 la2 ((1048576 : Int)) = some ((1048576 : Int) - la1.length - la2.length) := (szArray_eq a la1 la2 _ (by omega) (by omega) na1 na2).trans (by rw [if_pos z1])
    obtain ⟨v1, v2, v3, v4, hv⟩ : ∃ v1 v2 v3 v4, gradeV a la1 la2 b = (v1, v2, v3, v4) := ⟨_, _, _, _, rfl⟩
    have hs := specGrade_ev a la1 la2 b (by omega) (by omega)
    have him : impl_Grade.f a la1 la2 b = some (gradeV a la1 la2 b) := by unfold impl_Grade.f; rw [if_pos (okLens1_of (by omega) (by omega))]
    have hn := gradeV_len a la1 la2 b
    rw [hv] at hs him hn
    simp only at hn
    obtain ⟨ks, hsp⟩ := hs.rounds
    obtain ⟨kta, hta⟩ := (toArray_ev a la1 la2 (by omega) (by omega)).rounds
    obtain ⟨kea, hea⟩ := (eqArray_self a la1 la2 (by omega) (by omega)).rounds
    obtain ⟨kev, hev⟩ := (eqArray_self v1 v2 v3 (by omega) (by omega)).rounds
    obtain ⟨kk1, hm1⟩ := (markArray_ev a la1 la2 (1) (by omega) (by omega) (by omega) (by omega)).rounds
    obtain ⟨kk2, hm2⟩ := (markArray_ev v1 v2 v3 1 (by omega) (by omega) (by omega) (by omega)).rounds
    obtain ⟨kh, hh⟩ := (heldArray_ev v1 v2.length v3.length 1 (by omega) (by omega) (by omega) (by omega)).rounds
    exact lawGrade_y kta kea ks kev kh kk1 kk2 a Aa1 ca1 la1 Aa2 ca2 la2 b v1 v2 v3 v4 _ _ _ _ _ _ _ w ha1 ka1 ha2 ka2 hta hea hsp him hev f1 (by omega) hm1 (by omega) (upFrom_len _ _).symm (upFrom_len _ _).symm hm2 (by omega) (upFrom_len _ _).symm (upFrom_len _ _).symm hh
  · exact lawGrade_n1 a Aa1 ca1 la1 Aa2 ca2 la2 b  w ha1 ka1 ha2 ka2 ((szArray_eq a la1 la2 _ (by omega) (by omega) na1 na2).trans (by rw [if_neg z1]))
end Go.Proofs.Ytlomomhajmackaa.PA

namespace Go.Proofs.Ytlomomhajmackaa.PA
open Go.ChangeShapes Go.WideShapes Go.ChangeAt Go.RowKit Go.Deep Go.Proofs.YtlomomhajmackaaW.PrintWords Go.Proofs.YtlomomhajmackaaW.PrintLast Go.Proofs.YtlomomhajmackaaW.PrintMore

/-- A slice of whole numbers that came in: what it reads as. -/
structure Sl (W : World) (A : Option Addr) (l : List Int) (c : Nat) : Prop where
  reads : ReadsInt W .i64 A l.length l
  max : l.length ≤ maxLen
  wf : ∀ x ∈ l, (Lit.int .i64 x).wf = true
  cap : l.length ≤ c

theorem slice_cell {H : Type} {enc : TypeId × Value → H} {P : Program} {W : World} {fuel : Nat} {t e : TypeId} {cs : List Value} {x : DataW H × List MemPlace}
    (ht : P.underlying t = some (.slice e)) (he : P.underlying e = some (.int .i64)) (hc : P.cellsOf e = 1)
    (hf : DataW.trod enc P W 0 (fun _ => true) true fuel t cs = some x) : ∃ A l c, cs = [.slice A l.length c] ∧ Sl W A l c := by
  rcases open_ints ht he hc hf with ⟨hcs, _⟩ | ⟨a, n, c, zs, hcs, _, hl, hm, hz, _, hcell, hwz⟩
  · obtain ⟨l, e1, h1, h2, h3, h4⟩ := ReadsInt.ofRowC (k := .i64) (w := W) (a := none) (len := 0) (cap := 0) (zs := []) (.inl ⟨rfl, rfl, rfl, rfl⟩)
    refine ⟨none, l, 0, ?_, h1, h2, h3, h4⟩
    rw [← e1]; exact hcs
  · obtain ⟨l, e1, h1, h2, h3, h4⟩ := ReadsInt.ofRowC (k := .i64) (w := W) (a := some a) (len := n) (cap := c) (zs := zs) (.inr ⟨a, rfl, hl, hm, by simpa using hz, hcell, hwz⟩)
    refine ⟨some a, l, c, ?_, h1, h2, h3, h4⟩
    rw [← e1]; exact hcs


theorem open_bss {H : Type} {enc : TypeId × Value → H} {P : Program} {W : World} {t e : TypeId} {f0 f1 f2 : Field} {v : Value} {d : DataW H} {p : List MemPlace} {r : Reach} {b0 : Nat}
    (hs : P.underlying t = some (.struct #[f0, f1, f2])) (hone : oneCellFields P #[f0, f1, f2] = true) (hC : P.cellsOf t = 3)
    (h0 : P.underlying f0.type = some .bool) (h1 : P.underlying f1.type = some (.slice e)) (h2 : P.underlying f2.type = some (.slice e)) (he : P.underlying e = some (.int .i64)) (hc : P.cellsOf e = 1)
    (hv : Value.okWide P W r b0 t v) (h : DataW.Trod enc P W 0 (fun _ => true) true t v d p) :
    ∃ (a : Bool) (A1 : Option Addr) (l1 : List Int) (c1 : Nat) (A2 : Option Addr) (l2 : List Int) (c2 : Nat), v = .agg #[.bool a, .slice A1 l1.length c1, .slice A2 l2.length c2] ∧ Sl W A1 l1 c1 ∧ Sl W A2 l2 c2 := by
  obtain ⟨v0, v1, v2, y0, y1, y2, n, rfl, _, _, k0, k1, k2⟩ := Go.Joins.open_agg3 hs hone hC hv h
  obtain ⟨A1, l1, c1, e1, s1⟩ := slice_cell h1 he hc k1
  obtain ⟨A2, l2, c2, e2, s2⟩ := slice_cell h2 he hc k2
  obtain ⟨a, e0, _⟩ := DataW.trod_bool h0 k0
  simp only [List.cons.injEq, and_true] at e0 e1 e2
  subst e0 e1 e2
  exact ⟨a, A1, l1, c1, A2, l2, c2, rfl, s1, s2⟩

end Go.Proofs.Ytlomomhajmackaa.PA
