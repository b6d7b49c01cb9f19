import Derived.Test.YtipjhbngbaifeaaKFnExactTurnView2

namespace Go.Proofs.Ytipjhbngbaifeaa.PA
open Go.RowKit Go.Proofs.YtipjhbngbaifeaaW.PrintWords Go.Proofs.YtipjhbngbaifeaaW.PrintLast Go.Proofs.YtipjhbngbaifeaaW.PrintMore
set_option linter.unusedVariables false
set_option linter.unusedSimpArgs false
def permGo (n : Nat) : List Bool → List Int → Bool
  | _, [] => true
  | seen, a :: t => if 1 ≤ a ∧ a ≤ (n : Int) then (if rdOf false seen (a - 1) = true then false else permGo n (seen.set (a - 1).toNat true) t) else false
def permB (p : List Int) : Bool := permGo p.length (List.replicate p.length false) p
theorem perm_loop : ∀ (t q : List Int) (seen : List Bool), (q ++ t).length < 17592186044416 → seen.length = (q ++ t).length →
    Ev (fun k => impl_permutation.l0 k (q ++ t) seen (q ++ t) ((q ++ t).length : Int) (q.length : Int)) (permGo (q ++ t).length seen t)
  | [], q, seen, _, _ => by
    refine evRound (Ev.now true) fun k => ?_
    simp only [impl_permutation.l0]; rw [if_neg len_nlt]
  | a :: t, q, seen, hl, hs => by
    by_cases ha : 1 ≤ a ∧ a ≤ ((q ++ a :: t).length : Int)
    · have hw : wrap64 (a - 1) = a - 1 := w64 (by omega) (by omega)
      by_cases hz : rdOf false seen (a - 1) = true
      · refine evVal (evRound (Ev.now false) fun k => ?_) (by rw [permGo, if_pos ha, if_pos hz])
        simp only [impl_permutation.l0]
        rw [if_pos len_lt, if_pos (by omega), if_pos len_lt, rd_mid, within_eq, decide_eq_true ha]; simp only [Option.bind_some, if_true]
        rw [hw, if_pos (by omega), if_pos (by omega), if_pos hz]
      · have ih := perm_loop t (q ++ [a]) (seen.set (a - 1).toNat true) (by simpa using hl) (by simpa using hs)
        rw [← app_mid] at ih
        refine evVal (evRound ih fun k => ?_) (by conv => rhs; rw [permGo]; rw [if_pos ha, if_neg hz])
        simp only [impl_permutation.l0]
        rw [if_pos len_lt, if_pos (by omega), if_pos len_lt, rd_mid, within_eq, decide_eq_true ha]; simp only [Option.bind_some, if_true]
        rw [hw, if_pos (by omega), if_pos (by omega), if_neg hz, next_mid q t a (by omega)]
    · refine evVal (evRound (Ev.now false) fun k => ?_) (by rw [permGo, if_neg ha])
      simp only [impl_permutation.l0]
      rw [if_pos len_lt, if_pos (by omega), if_pos len_lt, rd_mid, within_eq, decide_eq_false ha]; simp only [Option.bind_some, Bool.false_eq_true, if_false]
theorem permutation_ev (p : List Int) (h : p.length < 17592186044416) : Ev (fun k => impl_permutation.f k p) (permB p) := by
  have h1 := perm_loop p [] (List.replicate p.length false) (by simpa using h) (by simp)
  refine Ev.congr (fun k => ?_) h1
  simp only [impl_permutation.f]
  rw [if_pos (by omega), if_pos (by omega), Int.toNat_natCast]; rfl
theorem permGo_fact (n : Nat) : ∀ (p : List Int) (seen : List Bool), seen.length = n → permGo n seen p = true → (∀ a ∈ p, 1 ≤ a ∧ a ≤ (n : Int) ∧ rdOf false seen (a - 1) = false) ∧ p.Nodup
  | [], _, _, _ => ⟨fun a ha => by simp at ha, List.nodup_nil⟩
  | b :: t, seen, hs, h => by
    rw [permGo] at h
    by_cases hb : 1 ≤ b ∧ b ≤ (n : Int)
    · rw [if_pos hb] at h
      by_cases hz : rdOf false seen (b - 1) = true
      · rw [if_pos hz] at h; exact absurd h (by decide)
      · rw [if_neg hz] at h
        obtain ⟨i1, i2⟩ := permGo_fact n t _ (by simpa using hs) h
        have key : ∀ a ∈ t, a ≠ b ∧ rdOf false seen (a - 1) = false := fun a ha => by
          obtain ⟨h1, h2, h3⟩ := i1 a ha
          have hne : a ≠ b := fun e => by
            subst e
            simp [rdOf, List.getD_eq_getElem?_getD, List.getElem?_set, show a.toNat - 1 < seen.length by omega] at h3
          refine ⟨hne, ?_⟩
          have e : ¬ b.toNat - 1 = a.toNat - 1 := by omega
          simpa [rdOf, List.getD_eq_getElem?_getD, List.getElem?_set, e] using h3
        refine ⟨fun a ha => ?_, List.nodup_cons.2 ⟨fun hm => (key b hm).1 rfl, i2⟩⟩
        rcases List.mem_cons.1 ha with rfl | ha
        · exact ⟨hb.1, hb.2, by simpa using hz⟩
        · exact ⟨(i1 a ha).1, (i1 a ha).2.1, (key a ha).2⟩
    · rw [if_neg hb] at h; exact absurd h (by decide)
theorem permB_fact {p : List Int} (h : permB p = true) : (∀ a ∈ p, 1 ≤ a ∧ a ≤ (p.length : Int)) ∧ p.Nodup := by
  obtain ⟨h1, h2⟩ := permGo_fact p.length p _ (by simp) h
  exact ⟨fun a ha => ⟨(h1 a ha).1, (h1 a ha).2.1⟩, h2⟩
theorem perm_of_sub : ∀ (p q : List Int), p.Nodup → (∀ a ∈ p, a ∈ q) → q.length ≤ p.length → p.Perm q
  | [], q, _, _, h => by
    obtain rfl : q = [] := List.eq_nil_of_length_eq_zero (by simpa using h)
    exact List.Perm.refl _
  | a :: t, q, hn, hs, hl => by
    have ha := hs a (by simp)
    have hn' := List.nodup_cons.1 hn
    have ht : t.Perm (q.erase a) := perm_of_sub t (q.erase a) hn'.2 (fun b hb => (List.mem_erase_of_ne (fun e => by subst e; exact hn'.1 hb)).2 (hs b (by simp [hb]))) (by rw [List.length_erase_of_mem ha]; simp at hl; omega)
    exact (ht.cons a).trans (List.perm_cons_erase ha).symm
/-- The list l put at the places that p names. -/
def turnS (l : List Int) : List Int → Nat → List Int → List Int
  | S, _, [] => S
  | S, i, n :: t => turnS l (S.set (n - 1).toNat (rd l (i : Int))) (i + 1) t
theorem turnS_len (l : List Int) : ∀ (p S : List Int) (i : Nat), (turnS l S i p).length = S.length
  | [], _, _ => rfl
  | n :: t, S, i => by rw [turnS, turnS_len l t, List.length_set]
theorem turnS_far (l : List Int) (b : Int) (hb : 1 ≤ b) : ∀ (p S : List Int) (i : Nat), b ∉ p → (∀ a ∈ p, 1 ≤ a) → rd (turnS l S i p) (b - 1) = rd S (b - 1)
  | [], _, _, _, _ => rfl
  | n :: t, S, i, h, h1 => by
    have hn := h1 n (by simp)
    have hne : b ≠ n := fun e => h (by simp [e])
    rw [turnS, turnS_far l b hb t _ _ (fun hm => h (by simp [hm])) (fun a ha => h1 a (by simp [ha]))]
    have e : ¬ n.toNat - 1 = b.toNat - 1 := by omega
    simp [rd, List.getD_eq_getElem?_getD, List.getElem?_set, e]
theorem turnS_map (l : List Int) : ∀ (p S : List Int) (i : Nat), p.Nodup → (∀ a ∈ p, 1 ≤ a ∧ a ≤ (S.length : Int)) → i + p.length ≤ l.length → p.map (fun a => rd (turnS l S i p) (a - 1)) = (l.drop i).take p.length
  | [], _, _, _, _, _ => by simp
  | n :: t, S, i, hd, h1, hl => by
    have hd' := List.nodup_cons.1 hd
    have hn := h1 n (by simp)
    have hi : i < l.length := by simp at hl; omega
    have ih := turnS_map l t (S.set (n - 1).toNat (rd l (i : Int))) (i + 1) hd'.2 (fun a ha => by rw [List.length_set]; exact h1 a (by simp [ha])) (by simp at hl; omega)
    rw [List.map_cons, turnS, ih, turnS_far l n hn.1 t _ _ hd'.1 (fun a ha => (h1 a (by simp [ha])).1)]
    have e : rd (S.set (n - 1).toNat (rd l (i : Int))) (n - 1) = l[i] := by
      simp [rd, List.getD_eq_getElem?_getD, List.getElem?_set, show n.toNat - 1 < S.length by omega, hi]
    rw [e, List.drop_eq_getElem_cons hi, List.length_cons, List.take_succ_cons]
def upTo (n : Nat) : List Int := (List.range n).map fun (i : Nat) => (i : Int) + 1
theorem upTo_self (F : List Int) : (upTo F.length).map (fun a => rd F (a - 1)) = F := by
  apply List.ext_getElem
  · simp [upTo]
  · intro i h1 h2
    simp [upTo, rd, h2]
theorem turnS_perm {l p : List Int} (hp : permB p = true) (hl : p.length = l.length) : (turnS l l 0 p).Perm l := by
  obtain ⟨h1, h2⟩ := permB_fact hp
  have hm := turnS_map l p l 0 h2 (fun a ha => by rw [← hl]; exact h1 a ha) (by omega)
  rw [List.drop_zero, hl, List.take_length] at hm
  have hq : p.Perm (upTo p.length) := perm_of_sub p (upTo p.length) h2 (fun a ha => by
    obtain ⟨g1, g2⟩ := h1 a ha
    simp only [upTo, List.mem_map, List.mem_range]
    exact ⟨(a - 1).toNat, by omega, by omega⟩) (by simp [upTo])
  have hs := upTo_self (turnS l l 0 p)
  rw [turnS_len, ← hl] at hs
  rw [← hs]
  exact (hm ▸ (hq.map _).symm : _)
/-- The product of the numbers that are not 0. -/
def nz : List Int → Int
  | [] => 1
  | a :: t => (if a = 0 then 1 else a) * nz t
theorem nz_pos : ∀ {l : List Int}, (∀ a ∈ l, 0 ≤ a) → 1 ≤ nz l
  | [], _ => by simp [nz]
  | a :: t, h => by
    have ha := h a (by simp)
    have := nz_pos fun b hb => h b (List.mem_cons_of_mem a hb)
    have h1 : (1 : Int) ≤ (if a = 0 then 1 else a) := by split <;> omega
    have := Int.mul_le_mul h1 this (by omega) (by omega)
    simpa [nz] using this
theorem shGo_iff : ∀ (l : List Int) (f : Int), 1 ≤ f → f ≤ 10000 → (shGo f l = true ↔ (∀ a ∈ l, 0 ≤ a ∧ a ≤ 10000) ∧ f * nz l ≤ 10000)
  | [], f, h0, h1 => by simp [shGo, nz, h1]
  | a :: t, f, h0, h1 => by
    simp only [shGo, Bool.and_eq_true, decide_eq_true_eq, nz]
    by_cases hr : 0 ≤ a ∧ a ≤ 10000
    · by_cases ha : a = 0
      · simp only [ha, if_true, Int.one_mul]
        rw [shGo_iff t f h0 h1]; simp
      · simp only [ha, if_false, Bool.and_eq_true, decide_eq_true_eq]
        by_cases hf : f * a ≤ 10000
        · have h2 : 1 ≤ f * a := by have := Int.mul_le_mul h0 (show (1 : Int) ≤ a by omega) (by omega) (by omega); simpa using this
          rw [shGo_iff t (f * a) h2 hf, Int.mul_assoc]
          constructor
          · rintro ⟨_, _, h3, h4⟩
            exact ⟨fun b hb => by rcases List.mem_cons.1 hb with rfl | hb; exact hr; exact h3 b hb, h4⟩
          · rintro ⟨h3, h4⟩
            exact ⟨hr, hf, fun b hb => h3 b (by simp [hb]), h4⟩
        · constructor
          · rintro ⟨_, h3, _⟩; exact absurd h3 hf
          · rintro ⟨h3, h4⟩
            exfalso
            have hz : 1 ≤ nz t := nz_pos fun b hb => (h3 b (by simp [hb])).1
            have h5 : f * a * 1 ≤ f * a * nz t := Int.mul_le_mul (Int.le_refl _) hz (by omega) (Int.mul_nonneg (by omega) (by omega))
            rw [← Int.mul_assoc] at h4; omega
    · constructor
      · rintro ⟨h3, _⟩; exact absurd h3 hr
      · rintro ⟨h3, _⟩; exact absurd (h3 a (by simp)) hr
theorem nz_perm {l m : List Int} (h : l.Perm m) : nz l = nz m := by
  induction h with
  | nil => rfl
  | cons x _ ih => simp only [nz, ih]
  | swap x y t => simp only [nz]; rw [← Int.mul_assoc, ← Int.mul_assoc, Int.mul_comm (if y = 0 then 1 else y)]
  | trans _ _ i1 i2 => exact i1.trans i2
theorem shOk_perm {l m : List Int} (h : l.Perm m) (hm : shOk m = true) : shOk l = true := by
  simp only [shOk, Bool.and_eq_true, decide_eq_true_eq] at hm ⊢
  refine ⟨by rw [h.length_eq]; exact hm.1, ?_⟩
  rw [shGo_iff _ _ (by omega) (by omega)] at hm ⊢
  exact ⟨fun a ha => hm.2.1 a (h.mem_iff.1 ha), by rw [nz_perm h]; exact hm.2.2⟩
end Go.Proofs.Ytipjhbngbaifeaa.PA

namespace Go.Proofs.Ytipjhbngbaifeaa.PA
open Go.RowKit Go.Proofs.YtipjhbngbaifeaaW.PrintWords Go.Proofs.YtipjhbngbaifeaaW.PrintLast Go.Proofs.YtipjhbngbaifeaaW.PrintMore
set_option linter.unusedVariables false
set_option linter.unusedSimpArgs false
set_option maxHeartbeats 2000000 in
set_option maxRecDepth 100000 in
theorem turnView_n1 (off : Int) (A1 A2 : Option Addr) (c1 c2 : Nat) (l1 l2 : List Int) (A3 : Option Addr) (c3 : Nat) (p : List Int) (w : World) (hr1 : Kd.C (Kd.int .i64) w A1 l1.length l1) (hc1 : l1.length ≤ c1) (hr2 : Kd.C (Kd.int .i64) w A2 l2.length l2) (hc2 : l2.length ≤ c2) (hr3 : Kd.C (Kd.int .i64) w A3 p.length p) (hc3 : p.length ≤ c3) (hf : formedB off l1 l2 = false) :
    Calls Try.prog 43 #[.agg #[.int .i64 off, .slice A1 l1.length c1, .slice A2 l2.length c2], .slice A3 p.length c3] w fun e w' => ∃ v1_ v2_ : Value, e = .returned (.tuple #[.agg #[.int .i64 0, v1_, v2_], .bool false]) ∧ Kd.R (Kd.int .i64) 3 w' w.heap.size (fun k_ => some k_ ≠ (v2_ : Value).ownBlock) v1_ [] ∧ Kd.R (Kd.int .i64) 3 w' w.heap.size (fun k_ => some k_ ≠ (v1_ : Value).ownBlock) v2_ [] ∧ Below w.heap.size w w' := by
  have HR1 := Aside0.mk hr1
  have HC1 := Aside0.mk hc1
  have HR2 := Aside0.mk hr2
  have HC2 := Aside0.mk hc2
  have HF := Aside0.mk hf
  clear hr1 hc1 hr2 hc2 hf
  have HR3 := Aside0.mk hr3
  have HC3 := Aside0.mk hc3
  clear hr3 hc3
  go_enter Try.func43, Try.ntmps43
  go_wp2_with (first | ((with_reducible refine gate_dst (N := 2) rfl ?_); refine box_event ?hg (N := 2) ?hd (cs := #[.int .i64 off, .slice A1 l1.length c1, .slice A2 l2.length c2]) (t := 33) ?hr ?_; (case hd => rfl); (case hg => rfl); (case hr => first | (go_simp; done) | (go_simp; rfl)); intro g1 hg1 w1 hb1 hB1; have HB1 := Aside0.mk hb1; have HW := Aside0.mk hB1; have HG1 := Aside0.mk (show w.heap.size ≤ g1 by have e := hg1; (try simp at e); omega); clear hb1 hB1 hg1) | ((with_reducible refine gate_dst (N := 4) rfl ?_); refine box_event ?hg (N := 4) ?hd (cs := #[.int .i64 0, .slice none 0 0, .slice none 0 0]) (t := 33) ?hr ?_; (case hd => rfl); (case hg => rfl); (case hr => first | (go_simp; done) | (go_simp; rfl)); intro g2 hg2 w2 hb2 hB2; have HB2 := Aside0.mk hb2; have nw := Aside0.mk (below_step (by repeat (first | (with_reducible first | exact HW.out | apply below_alloc | apply below_drew1 | apply pw_below_drewN) | exact HW.out)) hB2); have LT12 := Aside0.mk (show g1 < g2 by have := blk_lt HB1.out; have e := hg2; (try simp at e); omega); have n1 := Aside0.mk (blk_below (g := g1) (o := .cells #[.int .i64 off, .slice A1 l1.length c1, .slice A2 l2.length c2] 33 (0, 0)) (by (with_reducible repeat (first | refine blk_drew ?_ | refine blk_drewN ?_ _ | refine blk_alloc ?_ _)); exact HB1.out) hB2); clear HB1 HW; have HB1 := n1; have HW := nw; clear n1 nw hb2 hB2 hg2) | ((with_reducible refine gate_dst (N := 9) rfl ?_); refine wpList_load_row rfl 33 (.tmp 2) rfl g1 rfl 33 #[.int .i64 off, .slice A1 l1.length c1, .slice A2 l2.length c2] (0, 0) _ (by (with_reducible repeat (first | refine blk_drew ?_ | refine blk_drewN ?_ _ | refine blk_alloc ?_ _)); exact HB1.out) Try.underlying33 rfl (by kernel_rfl) ?_) | (go_at_call 63; refine (formed_calls off A1 A2 c1 c2 l1 l2 _ (Kd.C_below HR1.out (by repeat (first | (with_reducible first | exact HW.out | apply below_alloc | apply below_drew1 | apply pw_below_drewN) | exact HW.out))) HC1.out (Kd.C_below HR2.out (by repeat (first | (with_reducible first | exact HW.out | apply below_alloc | apply below_drew1 | apply pw_below_drewN) | exact HW.out))) HC2.out).mono ?_; rw [HF.out]; rintro e w8 ⟨rfl, hb8⟩; have nw := Aside0.mk (below_step (by repeat (first | (with_reducible first | exact HW.out | apply below_alloc | apply below_drew1 | apply pw_below_drewN) | exact HW.out)) hb8); have n2 := Aside0.mk (blk_below (g := g2) (o := .cells #[.int .i64 0, .slice none 0 0, .slice none 0 0] 33 (0, 0)) (by (with_reducible repeat (first | refine blk_drew ?_ | refine blk_drewN ?_ _ | refine blk_alloc ?_ _)); exact HB2.out) hb8); clear HB1 HB2 HW; have HB2 := n2; have HW := nw; clear n2 nw hb8) | ((with_reducible refine gate_dst (N := 6) rfl ?_); refine box_event ?hg (N := 6) ?hd (cs := lay zero12) (t := 67) ?hr ?_; (case hd => rfl); (case hg => rfl); (case hr => first | (go_simp; done) | (go_simp; rfl)); intro g8 hg8 w9 hb9 hB9; have HB8 := Aside0.mk hb9; have nw := Aside0.mk (below_step (by repeat (first | (with_reducible first | exact HW.out | apply below_alloc | apply below_drew1 | apply pw_below_drewN) | exact HW.out)) hB9); have LT28 := Aside0.mk (show g2 < g8 by have := blk_lt HB2.out; have e := hg8; (try simp at e); omega); have n2 := Aside0.mk (blk_below (g := g2) (o := .cells #[.int .i64 0, .slice none 0 0, .slice none 0 0] 33 (0, 0)) (by (with_reducible repeat (first | refine blk_drew ?_ | refine blk_drewN ?_ _ | refine blk_alloc ?_ _)); exact HB2.out) hB9); have n3 := Aside0.mk ((setRow_other w9 g8 g2 (lay (formedL off l1 l2)) (show g2 ≠ g8 by have := LT28.out; omega)).trans n2.out); have n4 := Aside0.mk (setRow_heap w9 g8 _ (lay (formedL off l1 l2)) _ _ HB8.out); have nw2 := Aside0.mk (below_setRow nw.out (show w.heap.size ≤ g8 by have := HG1.out; have := LT12.out; have := LT28.out; omega) (lay (formedL off l1 l2))); have hcr : (w9.setRow g8 (lay (formedL off l1 l2))).cell? ⟨g8, 1, none⟩ = some (.int .i64 (gi (formedL off l1 l2) 1)) := lay_cell n4.out 1 (by rw [formedL_len]; omega);  clear HB2 HW; have HB2 := n3; have BL := n4; have HW := nw2; clear n2 n3 n4 nw nw2 hb9 hB9 hg8) | ((with_reducible refine gate_store rfl ?_); refine wpList_store_row rfl 67 (.tmp 6) (.tmp 11) rfl g8 (lay (formedL off l1 l2)) rfl rfl 67 (lay zero12) HB8.out (info67 _ formedL_len) (by rw [lay_size, lay_size, formedL_len]; rfl) (lay_one _) ?_) | ((with_reducible refine gate_store rfl ?_); refine wpList_store_row rfl 33 (.tmp 4) (.tmp 27) rfl g2 #[.int .i64 0, .slice none 0 0, .slice none 0 0] rfl rfl 33 #[.int .i64 0, .slice none 0 0, .slice none 0 0] (by (with_reducible repeat (first | refine blk_drew ?_ | refine blk_drewN ?_ _ | refine blk_alloc ?_ _)); exact HB2.out) (by kernel_rfl) rfl (by simp [Value.oneCell']) ?_))
  refine bodyPost_ret (results_ct rfl _ _ g2 33 #[.int .i64 0, .slice none 0 0, .slice none 0 0] (0, 0) _ rfl (setRow_heap _ g2 _ _ _ (0, 0) (by (with_reducible repeat (first | refine blk_drew ?_ | refine blk_drewN ?_ _ | refine blk_alloc ?_ _)); exact HB2.out)) Try.underlying33 rfl (by kernel_rfl)) rfl ?_
  exact ⟨_, _, rfl, Kd.R_nil _ _ _ _ _, Kd.R_nil _ _ _ _ _, below_setRow (by repeat (first | (with_reducible first | exact HW.out | apply below_alloc | apply below_drew1 | apply pw_below_drewN) | exact HW.out)) (show w.heap.size ≤ g2 by have := HG1.out; have := LT12.out; omega) _⟩
set_option maxHeartbeats 2000000 in
set_option maxRecDepth 100000 in
theorem turnView_n2 (off : Int) (A1 A2 : Option Addr) (c1 c2 : Nat) (l1 l2 : List Int) (A3 : Option Addr) (c3 : Nat) (p : List Int) (w : World) (hr1 : Kd.C (Kd.int .i64) w A1 l1.length l1) (hc1 : l1.length ≤ c1) (hr2 : Kd.C (Kd.int .i64) w A2 l2.length l2) (hc2 : l2.length ≤ c2) (hr3 : Kd.C (Kd.int .i64) w A3 p.length p) (hc3 : p.length ≤ c3) (hf : formedB off l1 l2 = true) (h1 : p.length ≠ l1.length) :
    Calls Try.prog 43 #[.agg #[.int .i64 off, .slice A1 l1.length c1, .slice A2 l2.length c2], .slice A3 p.length c3] w fun e w' => ∃ v1_ v2_ : Value, e = .returned (.tuple #[.agg #[.int .i64 0, v1_, v2_], .bool false]) ∧ Kd.R (Kd.int .i64) 3 w' w.heap.size (fun k_ => some k_ ≠ (v2_ : Value).ownBlock) v1_ [] ∧ Kd.R (Kd.int .i64) 3 w' w.heap.size (fun k_ => some k_ ≠ (v1_ : Value).ownBlock) v2_ [] ∧ Below w.heap.size w w' := by
  have q1 : ((p.length : Int) != (l1.length : Int)) = true := by simp; omega
  have q2 : (p.length != l1.length) = true := by simp; omega
  have q3 : ((p.length : Int) == (l1.length : Int)) = false := by simp; omega
  have q4 : (p.length == l1.length) = false := by simp; omega
  have HE := Aside0.mk (formedL_1 hf)
  clear h1
  have HR1 := Aside0.mk hr1
  have HC1 := Aside0.mk hc1
  have HR2 := Aside0.mk hr2
  have HC2 := Aside0.mk hc2
  have HF := Aside0.mk hf
  clear hr1 hc1 hr2 hc2 hf
  have HR3 := Aside0.mk hr3
  have HC3 := Aside0.mk hc3
  clear hr3 hc3
  go_enter Try.func43, Try.ntmps43
  go_wp2_with (first | ((with_reducible refine gate_dst (N := 2) rfl ?_); refine box_event ?hg (N := 2) ?hd (cs := #[.int .i64 off, .slice A1 l1.length c1, .slice A2 l2.length c2]) (t := 33) ?hr ?_; (case hd => rfl); (case hg => rfl); (case hr => first | (go_simp; done) | (go_simp; rfl)); intro g1 hg1 w1 hb1 hB1; have HB1 := Aside0.mk hb1; have HW := Aside0.mk hB1; have HG1 := Aside0.mk (show w.heap.size ≤ g1 by have e := hg1; (try simp at e); omega); clear hb1 hB1 hg1) | ((with_reducible refine gate_dst (N := 4) rfl ?_); refine box_event ?hg (N := 4) ?hd (cs := #[.int .i64 0, .slice none 0 0, .slice none 0 0]) (t := 33) ?hr ?_; (case hd => rfl); (case hg => rfl); (case hr => first | (go_simp; done) | (go_simp; rfl)); intro g2 hg2 w2 hb2 hB2; have HB2 := Aside0.mk hb2; have nw := Aside0.mk (below_step (by repeat (first | (with_reducible first | exact HW.out | apply below_alloc | apply below_drew1 | apply pw_below_drewN) | exact HW.out)) hB2); have LT12 := Aside0.mk (show g1 < g2 by have := blk_lt HB1.out; have e := hg2; (try simp at e); omega); have n1 := Aside0.mk (blk_below (g := g1) (o := .cells #[.int .i64 off, .slice A1 l1.length c1, .slice A2 l2.length c2] 33 (0, 0)) (by (with_reducible repeat (first | refine blk_drew ?_ | refine blk_drewN ?_ _ | refine blk_alloc ?_ _)); exact HB1.out) hB2); clear HB1 HW; have HB1 := n1; have HW := nw; clear n1 nw hb2 hB2 hg2) | ((with_reducible refine gate_dst (N := 9) rfl ?_); refine wpList_load_row rfl 33 (.tmp 2) rfl g1 rfl 33 #[.int .i64 off, .slice A1 l1.length c1, .slice A2 l2.length c2] (0, 0) _ (by (with_reducible repeat (first | refine blk_drew ?_ | refine blk_drewN ?_ _ | refine blk_alloc ?_ _)); exact HB1.out) Try.underlying33 rfl (by kernel_rfl) ?_) | (go_at_call 63; refine (formed_calls off A1 A2 c1 c2 l1 l2 _ (Kd.C_below HR1.out (by repeat (first | (with_reducible first | exact HW.out | apply below_alloc | apply below_drew1 | apply pw_below_drewN) | exact HW.out))) HC1.out (Kd.C_below HR2.out (by repeat (first | (with_reducible first | exact HW.out | apply below_alloc | apply below_drew1 | apply pw_below_drewN) | exact HW.out))) HC2.out).mono ?_; rw [HF.out]; rintro e w8 ⟨rfl, hb8⟩; have nw := Aside0.mk (below_step (by repeat (first | (with_reducible first | exact HW.out | apply below_alloc | apply below_drew1 | apply pw_below_drewN) | exact HW.out)) hb8); have n2 := Aside0.mk (blk_below (g := g2) (o := .cells #[.int .i64 0, .slice none 0 0, .slice none 0 0] 33 (0, 0)) (by (with_reducible repeat (first | refine blk_drew ?_ | refine blk_drewN ?_ _ | refine blk_alloc ?_ _)); exact HB2.out) hb8); clear HB1 HB2 HW; have HB2 := n2; have HW := nw; clear n2 nw hb8) | ((with_reducible refine gate_dst (N := 6) rfl ?_); refine box_event ?hg (N := 6) ?hd (cs := lay zero12) (t := 67) ?hr ?_; (case hd => rfl); (case hg => rfl); (case hr => first | (go_simp; done) | (go_simp; rfl)); intro g8 hg8 w9 hb9 hB9; have HB8 := Aside0.mk hb9; have nw := Aside0.mk (below_step (by repeat (first | (with_reducible first | exact HW.out | apply below_alloc | apply below_drew1 | apply pw_below_drewN) | exact HW.out)) hB9); have LT28 := Aside0.mk (show g2 < g8 by have := blk_lt HB2.out; have e := hg8; (try simp at e); omega); have n2 := Aside0.mk (blk_below (g := g2) (o := .cells #[.int .i64 0, .slice none 0 0, .slice none 0 0] 33 (0, 0)) (by (with_reducible repeat (first | refine blk_drew ?_ | refine blk_drewN ?_ _ | refine blk_alloc ?_ _)); exact HB2.out) hB9); have n3 := Aside0.mk ((setRow_other w9 g8 g2 (lay (formedL off l1 l2)) (show g2 ≠ g8 by have := LT28.out; omega)).trans n2.out); have n4 := Aside0.mk (setRow_heap w9 g8 _ (lay (formedL off l1 l2)) _ _ HB8.out); have nw2 := Aside0.mk (below_setRow nw.out (show w.heap.size ≤ g8 by have := HG1.out; have := LT12.out; have := LT28.out; omega) (lay (formedL off l1 l2))); have hcr : (w9.setRow g8 (lay (formedL off l1 l2))).cell? ⟨g8, 1, none⟩ = some (.int .i64 (gi (formedL off l1 l2) 1)) := lay_cell n4.out 1 (by rw [formedL_len]; omega); rw [HE.out] at hcr; clear HB2 HW; have HB2 := n3; have BL := n4; have HW := nw2; clear n2 n3 n4 nw nw2 hb9 hB9 hg8) | ((with_reducible refine gate_store rfl ?_); refine wpList_store_row rfl 67 (.tmp 6) (.tmp 11) rfl g8 (lay (formedL off l1 l2)) rfl rfl 67 (lay zero12) HB8.out (info67 _ formedL_len) (by rw [lay_size, lay_size, formedL_len]; rfl) (lay_one _) ?_) | ((with_reducible refine gate_store rfl ?_); refine wpList_store_row rfl 33 (.tmp 4) (.tmp 27) rfl g2 #[.int .i64 0, .slice none 0 0, .slice none 0 0] rfl rfl 33 #[.int .i64 0, .slice none 0 0, .slice none 0 0] (by (with_reducible repeat (first | refine blk_drew ?_ | refine blk_drewN ?_ _ | refine blk_alloc ?_ _)); exact HB2.out) (by kernel_rfl) rfl (by simp [Value.oneCell']) ?_))
  refine bodyPost_ret (results_ct rfl _ _ g2 33 #[.int .i64 0, .slice none 0 0, .slice none 0 0] (0, 0) _ rfl (setRow_heap _ g2 _ _ _ (0, 0) (by (with_reducible repeat (first | refine blk_drew ?_ | refine blk_drewN ?_ _ | refine blk_alloc ?_ _)); exact HB2.out)) Try.underlying33 rfl (by kernel_rfl)) rfl ?_
  exact ⟨_, _, rfl, Kd.R_nil _ _ _ _ _, Kd.R_nil _ _ _ _ _, below_setRow (by repeat (first | (with_reducible first | exact HW.out | apply below_alloc | apply below_drew1 | apply pw_below_drewN) | exact HW.out)) (show w.heap.size ≤ g2 by have := HG1.out; have := LT12.out; omega) _⟩
set_option maxHeartbeats 2000000 in
set_option maxRecDepth 100000 in
theorem turnView_n3 (off : Int) (A1 A2 : Option Addr) (c1 c2 : Nat) (l1 l2 : List Int) (A3 : Option Addr) (c3 : Nat) (p : List Int) (w : World) (hr1 : Kd.C (Kd.int .i64) w A1 l1.length l1) (hc1 : l1.length ≤ c1) (hr2 : Kd.C (Kd.int .i64) w A2 l2.length l2) (hc2 : l2.length ≤ c2) (hr3 : Kd.C (Kd.int .i64) w A3 p.length p) (hc3 : p.length ≤ c3) (k : Nat) (hf : formedB off l1 l2 = true) (h1 : p.length = l1.length) (h2 : impl_permutation.f k p = some false) :
    Calls Try.prog 43 #[.agg #[.int .i64 off, .slice A1 l1.length c1, .slice A2 l2.length c2], .slice A3 p.length c3] w fun e w' => ∃ v1_ v2_ : Value, e = .returned (.tuple #[.agg #[.int .i64 0, v1_, v2_], .bool false]) ∧ Kd.R (Kd.int .i64) 3 w' w.heap.size (fun k_ => some k_ ≠ (v2_ : Value).ownBlock) v1_ [] ∧ Kd.R (Kd.int .i64) 3 w' w.heap.size (fun k_ => some k_ ≠ (v1_ : Value).ownBlock) v2_ [] ∧ Below w.heap.size w w' := by
  have q1 : ((p.length : Int) != (l1.length : Int)) = false := by simp; omega
  have q2 : (p.length != l1.length) = false := by simp; omega
  have q3 : ((p.length : Int) == (l1.length : Int)) = true := by simp; omega
  have q4 : (p.length == l1.length) = true := by simp; omega
  have HE := Aside0.mk (formedL_1 hf)
  have HPM := Aside0.mk h2
  clear h1 h2
  have HR1 := Aside0.mk hr1
  have HC1 := Aside0.mk hc1
  have HR2 := Aside0.mk hr2
  have HC2 := Aside0.mk hc2
  have HF := Aside0.mk hf
  clear hr1 hc1 hr2 hc2 hf
  have HR3 := Aside0.mk hr3
  have HC3 := Aside0.mk hc3
  clear hr3 hc3
  go_enter Try.func43, Try.ntmps43
  go_wp2_with (first | ((with_reducible refine gate_dst (N := 2) rfl ?_); refine box_event ?hg (N := 2) ?hd (cs := #[.int .i64 off, .slice A1 l1.length c1, .slice A2 l2.length c2]) (t := 33) ?hr ?_; (case hd => rfl); (case hg => rfl); (case hr => first | (go_simp; done) | (go_simp; rfl)); intro g1 hg1 w1 hb1 hB1; have HB1 := Aside0.mk hb1; have HW := Aside0.mk hB1; have HG1 := Aside0.mk (show w.heap.size ≤ g1 by have e := hg1; (try simp at e); omega); clear hb1 hB1 hg1) | ((with_reducible refine gate_dst (N := 4) rfl ?_); refine box_event ?hg (N := 4) ?hd (cs := #[.int .i64 0, .slice none 0 0, .slice none 0 0]) (t := 33) ?hr ?_; (case hd => rfl); (case hg => rfl); (case hr => first | (go_simp; done) | (go_simp; rfl)); intro g2 hg2 w2 hb2 hB2; have HB2 := Aside0.mk hb2; have nw := Aside0.mk (below_step (by repeat (first | (with_reducible first | exact HW.out | apply below_alloc | apply below_drew1 | apply pw_below_drewN) | exact HW.out)) hB2); have LT12 := Aside0.mk (show g1 < g2 by have := blk_lt HB1.out; have e := hg2; (try simp at e); omega); have n1 := Aside0.mk (blk_below (g := g1) (o := .cells #[.int .i64 off, .slice A1 l1.length c1, .slice A2 l2.length c2] 33 (0, 0)) (by (with_reducible repeat (first | refine blk_drew ?_ | refine blk_drewN ?_ _ | refine blk_alloc ?_ _)); exact HB1.out) hB2); clear HB1 HW; have HB1 := n1; have HW := nw; clear n1 nw hb2 hB2 hg2) | ((with_reducible refine gate_dst (N := 9) rfl ?_); refine wpList_load_row rfl 33 (.tmp 2) rfl g1 rfl 33 #[.int .i64 off, .slice A1 l1.length c1, .slice A2 l2.length c2] (0, 0) _ (by (with_reducible repeat (first | refine blk_drew ?_ | refine blk_drewN ?_ _ | refine blk_alloc ?_ _)); exact HB1.out) Try.underlying33 rfl (by kernel_rfl) ?_) | (go_at_call 63; refine (formed_calls off A1 A2 c1 c2 l1 l2 _ (Kd.C_below HR1.out (by repeat (first | (with_reducible first | exact HW.out | apply below_alloc | apply below_drew1 | apply pw_below_drewN) | exact HW.out))) HC1.out (Kd.C_below HR2.out (by repeat (first | (with_reducible first | exact HW.out | apply below_alloc | apply below_drew1 | apply pw_below_drewN) | exact HW.out))) HC2.out).mono ?_; rw [HF.out]; rintro e w8 ⟨rfl, hb8⟩; have nw := Aside0.mk (below_step (by repeat (first | (with_reducible first | exact HW.out | apply below_alloc | apply below_drew1 | apply pw_below_drewN) | exact HW.out)) hb8); have n2 := Aside0.mk (blk_below (g := g2) (o := .cells #[.int .i64 0, .slice none 0 0, .slice none 0 0] 33 (0, 0)) (by (with_reducible repeat (first | refine blk_drew ?_ | refine blk_drewN ?_ _ | refine blk_alloc ?_ _)); exact HB2.out) hb8); clear HB1 HB2 HW; have HB2 := n2; have HW := nw; clear n2 nw hb8) | ((with_reducible refine gate_dst (N := 6) rfl ?_); refine box_event ?hg (N := 6) ?hd (cs := lay zero12) (t := 67) ?hr ?_; (case hd => rfl); (case hg => rfl); (case hr => first | (go_simp; done) | (go_simp; rfl)); intro g8 hg8 w9 hb9 hB9; have HB8 := Aside0.mk hb9; have nw := Aside0.mk (below_step (by repeat (first | (with_reducible first | exact HW.out | apply below_alloc | apply below_drew1 | apply pw_below_drewN) | exact HW.out)) hB9); have LT28 := Aside0.mk (show g2 < g8 by have := blk_lt HB2.out; have e := hg8; (try simp at e); omega); have n2 := Aside0.mk (blk_below (g := g2) (o := .cells #[.int .i64 0, .slice none 0 0, .slice none 0 0] 33 (0, 0)) (by (with_reducible repeat (first | refine blk_drew ?_ | refine blk_drewN ?_ _ | refine blk_alloc ?_ _)); exact HB2.out) hB9); have n3 := Aside0.mk ((setRow_other w9 g8 g2 (lay (formedL off l1 l2)) (show g2 ≠ g8 by have := LT28.out; omega)).trans n2.out); have n4 := Aside0.mk (setRow_heap w9 g8 _ (lay (formedL off l1 l2)) _ _ HB8.out); have nw2 := Aside0.mk (below_setRow nw.out (show w.heap.size ≤ g8 by have := HG1.out; have := LT12.out; have := LT28.out; omega) (lay (formedL off l1 l2))); have hcr : (w9.setRow g8 (lay (formedL off l1 l2))).cell? ⟨g8, 1, none⟩ = some (.int .i64 (gi (formedL off l1 l2) 1)) := lay_cell n4.out 1 (by rw [formedL_len]; omega); rw [HE.out] at hcr; clear HB2 HW; have HB2 := n3; have BL := n4; have HW := nw2; clear n2 n3 n4 nw nw2 hb9 hB9 hg8) | ((with_reducible refine gate_store rfl ?_); refine wpList_store_row rfl 67 (.tmp 6) (.tmp 11) rfl g8 (lay (formedL off l1 l2)) rfl rfl 67 (lay zero12) HB8.out (info67 _ formedL_len) (by rw [lay_size, lay_size, formedL_len]; rfl) (lay_one _) ?_) | (go_at_call 76; (refine (impl_permutation.calls k A3 c3 p false _ (Kd.C_below HR3.out (by repeat (first | (with_reducible first | exact HW.out | apply below_alloc | apply below_drew1 | apply pw_below_drewN) | exact HW.out))) HC3.out HPM.out).mono ?_); rintro e w6 ⟨rfl, hb6⟩; have n2 := Aside0.mk (blk_below (g := g2) (o := .cells #[.int .i64 0, .slice none 0 0, .slice none 0 0] 33 (0, 0)) (by (with_reducible repeat (first | refine blk_drew ?_ | refine blk_drewN ?_ _ | refine blk_alloc ?_ _)); exact HB2.out) hb6); have n3 := Aside0.mk (blk_below (g := g8) (o := .cells (lay (formedL off l1 l2)) 67 (0, 0)) (by (with_reducible repeat (first | refine blk_drew ?_ | refine blk_drewN ?_ _ | refine blk_alloc ?_ _)); exact BL.out) hb6); have nw := Aside0.mk (below_step (by repeat (first | (with_reducible first | exact HW.out | apply below_alloc | apply below_drew1 | apply pw_below_drewN) | exact HW.out)) hb6); clear HB2 BL HW; have HB2 := n2; have BL := n3; have HW := nw; clear n2 n3 nw hb6) | ((with_reducible refine gate_store rfl ?_); refine wpList_store_row rfl 33 (.tmp 4) (.tmp 27) rfl g2 #[.int .i64 0, .slice none 0 0, .slice none 0 0] rfl rfl 33 #[.int .i64 0, .slice none 0 0, .slice none 0 0] (by (with_reducible repeat (first | refine blk_drew ?_ | refine blk_drewN ?_ _ | refine blk_alloc ?_ _)); exact HB2.out) (by kernel_rfl) rfl (by simp [Value.oneCell']) ?_))
  refine bodyPost_ret (results_ct rfl _ _ g2 33 #[.int .i64 0, .slice none 0 0, .slice none 0 0] (0, 0) _ rfl (setRow_heap _ g2 _ _ _ (0, 0) (by (with_reducible repeat (first | refine blk_drew ?_ | refine blk_drewN ?_ _ | refine blk_alloc ?_ _)); exact HB2.out)) Try.underlying33 rfl (by kernel_rfl)) rfl ?_
  exact ⟨_, _, rfl, Kd.R_nil _ _ _ _ _, Kd.R_nil _ _ _ _ _, below_setRow (by repeat (first | (with_reducible first | exact HW.out | apply below_alloc | apply below_drew1 | apply pw_below_drewN) | exact HW.out)) (show w.heap.size ≤ g2 by have := HG1.out; have := LT12.out; omega) _⟩
theorem turnStep_1 (l out : List Int) (i q : Nat) : gi (turnStep l out i q) 1 = gi out 1 := by
  simp [turnStep, gi, List.getD_eq_getElem?_getD, List.getElem?_set, show 2 + q ≠ 1 by omega, show 7 + q ≠ 1 by omega]
theorem turnGo_1 (l : List Int) : ∀ (p out : List Int) (i : Nat), gi (turnGo l out i p) 1 = gi out 1
  | [], _, _ => rfl
  | n :: t, out, i => by rw [turnGo, turnGo_1 l t, turnStep_1]
set_option maxHeartbeats 2000000 in
set_option maxRecDepth 100000 in
theorem turnView_y (off : Int) (A1 A2 : Option Addr) (c1 c2 : Nat) (l1 l2 : List Int) (A3 : Option Addr) (c3 : Nat) (p : List Int) (w : World) (hr1 : Kd.C (Kd.int .i64) w A1 l1.length l1) (hc1 : l1.length ≤ c1) (hr2 : Kd.C (Kd.int .i64) w A2 l2.length l2) (hc2 : l2.length ≤ c2) (hr3 : Kd.C (Kd.int .i64) w A3 p.length p) (hc3 : p.length ≤ c3) (k : Nat) (hf : formedB off l1 l2 = true) (h1 : p.length = l1.length) (h2 : impl_permutation.f k p = some true) (hq : ∀ n ∈ p, 1 ≤ n ∧ n ≤ 5) :
    Calls Try.prog 43 #[.agg #[.int .i64 off, .slice A1 l1.length c1, .slice A2 l2.length c2], .slice A3 p.length c3] w fun e w' => ∃ v1_ v2_ : Value, e = .returned (.tuple #[.agg #[.int .i64 (viewO (turnGo (formedL off l1 l2) (formedL off l1 l2) 0 p) (formedL off l1 l2) l1.length), v1_, v2_], .bool (viewB (turnGo (formedL off l1 l2) (formedL off l1 l2) 0 p) (formedL off l1 l2) l1.length)]) ∧ Kd.R (Kd.int .i64) 3 w' w.heap.size (fun k_ => some k_ ≠ (v2_ : Value).ownBlock) v1_ (viewS (turnGo (formedL off l1 l2) (formedL off l1 l2) 0 p) (formedL off l1 l2) l1.length) ∧ Kd.R (Kd.int .i64) 3 w' w.heap.size (fun k_ => some k_ ≠ (v1_ : Value).ownBlock) v2_ (viewT (turnGo (formedL off l1 l2) (formedL off l1 l2) 0 p) (formedL off l1 l2) l1.length) ∧ Below w.heap.size w w' := by
  have q1 : ((p.length : Int) != (l1.length : Int)) = false := by simp; omega
  have q2 : (p.length != l1.length) = false := by simp; omega
  have q3 : ((p.length : Int) == (l1.length : Int)) = true := by simp; omega
  have q4 : (p.length == l1.length) = true := by simp; omega
  have HE := Aside0.mk (formedL_1 hf)
  have HPM := Aside0.mk h2
  have HR5 := Aside0.mk (formed_5 hf)
  have HP5 := Aside0.mk (show p.length ≤ 5 by have := formed_5 hf; omega)
  have HQ := Aside0.mk hq
  have HCL := Aside0.mk (show (turnGo (formedL off l1 l2) (formedL off l1 l2) 0 p).length = 12 by rw [turnGo_len, formedL_len])
  have HCR1 := Aside0.mk (show gi (turnGo (formedL off l1 l2) (formedL off l1 l2) 0 p) 1 = (l1.length : Int) by rw [turnGo_1, formedL_1 hf])
  clear h1 h2 hq
  have HR1 := Aside0.mk hr1
  have HC1 := Aside0.mk hc1
  have HR2 := Aside0.mk hr2
  have HC2 := Aside0.mk hc2
  have HF := Aside0.mk hf
  clear hr1 hc1 hr2 hc2 hf
  have HR3 := Aside0.mk hr3
  have HC3 := Aside0.mk hc3
  clear hr3 hc3
  go_enter Try.func43, Try.ntmps43
  go_upto_region 4 with (first | ((with_reducible refine gate_dst (N := 2) rfl ?_); refine box_event ?hg (N := 2) ?hd (cs := #[.int .i64 off, .slice A1 l1.length c1, .slice A2 l2.length c2]) (t := 33) ?hr ?_; (case hd => rfl); (case hg => rfl); (case hr => first | (go_simp; done) | (go_simp; rfl)); intro g1 hg1 w1 hb1 hB1; have HB1 := Aside0.mk hb1; have HW := Aside0.mk hB1; have HG1 := Aside0.mk (show w.heap.size ≤ g1 by have e := hg1; (try simp at e); omega); clear hb1 hB1 hg1) | ((with_reducible refine gate_dst (N := 4) rfl ?_); refine box_event ?hg (N := 4) ?hd (cs := #[.int .i64 0, .slice none 0 0, .slice none 0 0]) (t := 33) ?hr ?_; (case hd => rfl); (case hg => rfl); (case hr => first | (go_simp; done) | (go_simp; rfl)); intro g2 hg2 w2 hb2 hB2; have HB2 := Aside0.mk hb2; have nw := Aside0.mk (below_step (by repeat (first | (with_reducible first | exact HW.out | apply below_alloc | apply below_drew1 | apply pw_below_drewN) | exact HW.out)) hB2); have LT12 := Aside0.mk (show g1 < g2 by have := blk_lt HB1.out; have e := hg2; (try simp at e); omega); have n1 := Aside0.mk (blk_below (g := g1) (o := .cells #[.int .i64 off, .slice A1 l1.length c1, .slice A2 l2.length c2] 33 (0, 0)) (by (with_reducible repeat (first | refine blk_drew ?_ | refine blk_drewN ?_ _ | refine blk_alloc ?_ _)); exact HB1.out) hB2); clear HB1 HW; have HB1 := n1; have HW := nw; clear n1 nw hb2 hB2 hg2) | ((with_reducible refine gate_dst (N := 9) rfl ?_); refine wpList_load_row rfl 33 (.tmp 2) rfl g1 rfl 33 #[.int .i64 off, .slice A1 l1.length c1, .slice A2 l2.length c2] (0, 0) _ (by (with_reducible repeat (first | refine blk_drew ?_ | refine blk_drewN ?_ _ | refine blk_alloc ?_ _)); exact HB1.out) Try.underlying33 rfl (by kernel_rfl) ?_) | (go_at_call 63; refine (formed_calls off A1 A2 c1 c2 l1 l2 _ (Kd.C_below HR1.out (by repeat (first | (with_reducible first | exact HW.out | apply below_alloc | apply below_drew1 | apply pw_below_drewN) | exact HW.out))) HC1.out (Kd.C_below HR2.out (by repeat (first | (with_reducible first | exact HW.out | apply below_alloc | apply below_drew1 | apply pw_below_drewN) | exact HW.out))) HC2.out).mono ?_; rw [HF.out]; rintro e w8 ⟨rfl, hb8⟩; have nw := Aside0.mk (below_step (by repeat (first | (with_reducible first | exact HW.out | apply below_alloc | apply below_drew1 | apply pw_below_drewN) | exact HW.out)) hb8); have n2 := Aside0.mk (blk_below (g := g2) (o := .cells #[.int .i64 0, .slice none 0 0, .slice none 0 0] 33 (0, 0)) (by (with_reducible repeat (first | refine blk_drew ?_ | refine blk_drewN ?_ _ | refine blk_alloc ?_ _)); exact HB2.out) hb8); clear HB1 HB2 HW; have HB2 := n2; have HW := nw; clear n2 nw hb8) | ((with_reducible refine gate_dst (N := 6) rfl ?_); refine box_event ?hg (N := 6) ?hd (cs := lay zero12) (t := 67) ?hr ?_; (case hd => rfl); (case hg => rfl); (case hr => first | (go_simp; done) | (go_simp; rfl)); intro g8 hg8 w9 hb9 hB9; have HB8 := Aside0.mk hb9; have nw := Aside0.mk (below_step (by repeat (first | (with_reducible first | exact HW.out | apply below_alloc | apply below_drew1 | apply pw_below_drewN) | exact HW.out)) hB9); have LT28 := Aside0.mk (show g2 < g8 by have := blk_lt HB2.out; have e := hg8; (try simp at e); omega); have n2 := Aside0.mk (blk_below (g := g2) (o := .cells #[.int .i64 0, .slice none 0 0, .slice none 0 0] 33 (0, 0)) (by (with_reducible repeat (first | refine blk_drew ?_ | refine blk_drewN ?_ _ | refine blk_alloc ?_ _)); exact HB2.out) hB9); have n3 := Aside0.mk ((setRow_other w9 g8 g2 (lay (formedL off l1 l2)) (show g2 ≠ g8 by have := LT28.out; omega)).trans n2.out); have n4 := Aside0.mk (setRow_heap w9 g8 _ (lay (formedL off l1 l2)) _ _ HB8.out); have nw2 := Aside0.mk (below_setRow nw.out (show w.heap.size ≤ g8 by have := HG1.out; have := LT12.out; have := LT28.out; omega) (lay (formedL off l1 l2))); have hcr : (w9.setRow g8 (lay (formedL off l1 l2))).cell? ⟨g8, 1, none⟩ = some (.int .i64 (gi (formedL off l1 l2) 1)) := lay_cell n4.out 1 (by rw [formedL_len]; omega); rw [HE.out] at hcr; clear HB2 HW; have HB2 := n3; have BL := n4; have HW := nw2; clear n2 n3 n4 nw nw2 hb9 hB9 hg8) | ((with_reducible refine gate_store rfl ?_); refine wpList_store_row rfl 67 (.tmp 6) (.tmp 11) rfl g8 (lay (formedL off l1 l2)) rfl rfl 67 (lay zero12) HB8.out (info67 _ formedL_len) (by rw [lay_size, lay_size, formedL_len]; rfl) (lay_one _) ?_) | (go_at_call 76; (refine (impl_permutation.calls k A3 c3 p true _ (Kd.C_below HR3.out (by repeat (first | (with_reducible first | exact HW.out | apply below_alloc | apply below_drew1 | apply pw_below_drewN) | exact HW.out))) HC3.out HPM.out).mono ?_); rintro e w6 ⟨rfl, hb6⟩; have n2 := Aside0.mk (blk_below (g := g2) (o := .cells #[.int .i64 0, .slice none 0 0, .slice none 0 0] 33 (0, 0)) (by (with_reducible repeat (first | refine blk_drew ?_ | refine blk_drewN ?_ _ | refine blk_alloc ?_ _)); exact HB2.out) hb6); have n3 := Aside0.mk (blk_below (g := g8) (o := .cells (lay (formedL off l1 l2)) 67 (0, 0)) (by (with_reducible repeat (first | refine blk_drew ?_ | refine blk_drewN ?_ _ | refine blk_alloc ?_ _)); exact BL.out) hb6); have nw := Aside0.mk (below_step (by repeat (first | (with_reducible first | exact HW.out | apply below_alloc | apply below_drew1 | apply pw_below_drewN) | exact HW.out)) hb6); clear HB2 BL HW; have HB2 := n2; have BL := n3; have HW := nw; clear n2 n3 nw hb6))
  have HN82 := Aside0.mk (show g8 ≠ g2 by have := LT28.out; omega)
  have hrg := lay_S formedL_len BL.out
  go_region_held3 (fun w' => w'.cell? ⟨g8, 0, none⟩ = some (.int .i64 (gi (formedL off l1 l2) 0)) ∧ w'.cell? ⟨g8, 1, none⟩ = some (.int .i64 (gi (formedL off l1 l2) 1)) ∧ w'.cell? ⟨g8, 2, none⟩ = some (.int .i64 (gi (formedL off l1 l2) 2)) ∧ w'.cell? ⟨g8, 3, none⟩ = some (.int .i64 (gi (formedL off l1 l2) 3)) ∧ w'.cell? ⟨g8, 4, none⟩ = some (.int .i64 (gi (formedL off l1 l2) 4)) ∧ w'.cell? ⟨g8, 5, none⟩ = some (.int .i64 (gi (formedL off l1 l2) 5)) ∧ w'.cell? ⟨g8, 6, none⟩ = some (.int .i64 (gi (formedL off l1 l2) 6)) ∧ w'.cell? ⟨g8, 7, none⟩ = some (.int .i64 (gi (formedL off l1 l2) 7)) ∧ w'.cell? ⟨g8, 8, none⟩ = some (.int .i64 (gi (formedL off l1 l2) 8)) ∧ w'.cell? ⟨g8, 9, none⟩ = some (.int .i64 (gi (formedL off l1 l2) 9)) ∧ w'.cell? ⟨g8, 10, none⟩ = some (.int .i64 (gi (formedL off l1 l2) 10)) ∧ w'.cell? ⟨g8, 11, none⟩ = some (.int .i64 (gi (formedL off l1 l2) 11))) (exact lay_S (g := g8) (t := 67) (l := (formedL off l1 l2)) formedL_len (by (with_reducible repeat (first | refine blk_drew ?_ | refine blk_drewN ?_ _ | refine blk_alloc ?_ _ | refine blk_farG ?_ HN82.out _)); exact BL.out)) (first | (go_at_call 77; refine (turn12 (formedL off l1 l2) A3 c3 p formedL_len HP5.out HQ.out _ (Kd.C_below HR3.out (by repeat (first | (with_reducible first | exact HW.out | apply below_alloc | apply below_drew1 | apply pw_below_drewN) | exact HW.out))) HC3.out).mono ?_; rintro e w5 ⟨rfl, hb5⟩; have n2 := Aside0.mk (blk_below (g := g2) (o := .cells #[.int .i64 0, .slice none 0 0, .slice none 0 0] 33 (0, 0)) (by (with_reducible repeat (first | refine blk_drew ?_ | refine blk_drewN ?_ _ | refine blk_alloc ?_ _)); exact HB2.out) hb5); have n3 := Aside0.mk (blk_below (g := g8) (o := .cells (lay (formedL off l1 l2)) 67 (0, 0)) (by (with_reducible repeat (first | refine blk_drew ?_ | refine blk_drewN ?_ _ | refine blk_alloc ?_ _)); exact BL.out) hb5); have nw := Aside0.mk (below_step (by repeat (first | (with_reducible first | exact HW.out | apply below_alloc | apply below_drew1 | apply pw_below_drewN) | exact HW.out)) hb5); clear HB2 BL HW; have HB2 := n2; have BL := n3; have HW := nw; clear n2 n3 nw hb5) | (go_at_call 72; refine (view_calls12 (turnGo (formedL off l1 l2) (formedL off l1 l2) 0 p) (formedL off l1 l2) l1.length HCL.out formedL_len HCR1.out HR5.out _).mono ?_; rintro e w6 ⟨v1, v2, rfl, ho1, ho2, hb6⟩; obtain ⟨Aa, ca, rfl⟩ := Kd.R_slice ho1; obtain ⟨Ab, cb, rfl⟩ := Kd.R_slice ho2; have HO1 := Aside0.mk (Kd.R_lower ho1 (below_size (by repeat (first | (with_reducible first | exact HW.out | apply below_alloc | apply below_drew1 | apply pw_below_drewN) | exact HW.out)))); have HO2 := Aside0.mk (Kd.R_lower ho2 (below_size (by repeat (first | (with_reducible first | exact HW.out | apply below_alloc | apply below_drew1 | apply pw_below_drewN) | exact HW.out)))); clear ho1 ho2; have n2 := Aside0.mk (blk_below (g := g2) (o := .cells #[.int .i64 0, .slice none 0 0, .slice none 0 0] 33 (0, 0)) (by (with_reducible repeat (first | refine blk_drew ?_ | refine blk_drewN ?_ _ | refine blk_alloc ?_ _)); exact HB2.out) hb6); have n3 := Aside0.mk (blk_below (g := g8) (o := .cells (lay (formedL off l1 l2)) 67 (0, 0)) (by (with_reducible repeat (first | refine blk_drew ?_ | refine blk_drewN ?_ _ | refine blk_alloc ?_ _)); exact BL.out) hb6); have nw := Aside0.mk (below_step (by repeat (first | (with_reducible first | exact HW.out | apply below_alloc | apply below_drew1 | apply pw_below_drewN) | exact HW.out)) hb6); clear HB2 BL HW; have HB2 := n2; have BL := n3; have HW := nw; clear n2 n3 nw hb6; have hx0 : _ = some (Value.int .i64 0) := (blk_cell HB2.out 0).trans rfl; have hx1 : _ = some (Value.slice none 0 0) := (blk_cell HB2.out 1).trans rfl; have hx2 : _ = some (Value.slice none 0 0) := (blk_cell HB2.out 2).trans rfl; have hy0 := blk_frozen HB2.out 0; have hy1 := blk_frozen HB2.out 1; have hy2 := blk_frozen HB2.out 2))
  go_wp2_with fail
  have s0 := blk_set HB2.out 0 (.int .i64 (viewO (turnGo (formedL off l1 l2) (formedL off l1 l2) 0 p) (formedL off l1 l2) l1.length))
  have s1 := blk_set s0 1 (.slice Aa (viewS (turnGo (formedL off l1 l2) (formedL off l1 l2) 0 p) (formedL off l1 l2) l1.length).length ca)
  have s2 := blk_set s1 2 (.slice Ab (viewT (turnGo (formedL off l1 l2) (formedL off l1 l2) 0 p) (formedL off l1 l2) l1.length).length cb)
  refine bodyPost_ret (results_ct rfl _ _ g2 33 #[.int .i64 (viewO (turnGo (formedL off l1 l2) (formedL off l1 l2) 0 p) (formedL off l1 l2) l1.length), .slice Aa (viewS (turnGo (formedL off l1 l2) (formedL off l1 l2) 0 p) (formedL off l1 l2) l1.length).length ca, .slice Ab (viewT (turnGo (formedL off l1 l2) (formedL off l1 l2) 0 p) (formedL off l1 l2) l1.length).length cb] (0, 0) _ rfl (by simpa using s2) Try.underlying33 rfl (by kernel_rfl)) rfl ?_
  have LE := show w.heap.size ≤ g2 by have := HG1.out; have := LT12.out; omega
  exact ⟨_, _, rfl, R_setV (R_setV (R_setV HO1.out HB2.out 0 _) s0 1 _) s1 2 _, R_setV (R_setV (R_setV HO2.out HB2.out 0 _) s0 1 _) s1 2 _, below_set (below_set (below_set HW.out LE) LE) LE⟩
def impl_TurnView.f (off : Int) (l1 l2 p : List Int) : Option (Int × List Int × List Int × Bool) :=
  some (if formedB off l1 l2 = true ∧ p.length = l1.length ∧ permB p = true then viewed (turnGo (formedL off l1 l2) (formedL off l1 l2) 0 p) (formedL off l1 l2) l1.length else noView)
theorem impl_TurnView.calls (off : Int) (A1 : Option Addr) (c1 : Nat) (l1 : List Int) (A2 : Option Addr) (c2 : Nat) (l2 : List Int) (A3 : Option Addr) (c3 : Nat) (p : List Int) (r1 : Int) (r2 : List Int) (r3 : List Int) (r4 : Bool) (w : World) (hr1 : Kd.C (Kd.int .i64) w A1 l1.length l1) (hc1 : l1.length ≤ c1) (hr2 : Kd.C (Kd.int .i64) w A2 l2.length l2) (hc2 : l2.length ≤ c2) (hr3 : Kd.C (Kd.int .i64) w A3 p.length p) (hc3 : p.length ≤ c3) (h : impl_TurnView.f off l1 l2 p = some (r1, r2, r3, r4)) :
    Calls Try.prog 43 #[.agg #[.int .i64 off, .slice A1 l1.length c1, .slice A2 l2.length c2], .slice A3 p.length c3] w fun e w' => ∃ v1_ v2_ : Value, e = .returned (.tuple #[.agg #[.int .i64 r1, v1_, v2_], .bool r4]) ∧ Kd.R (Kd.int .i64) 3 w' w.heap.size (fun k_ => some k_ ≠ (v2_ : Value).ownBlock) v1_ r2 ∧ Kd.R (Kd.int .i64) 3 w' w.heap.size (fun k_ => some k_ ≠ (v1_ : Value).ownBlock) v2_ r3 ∧ Below w.heap.size w w' := by
  have h := Option.some.inj h
  have no : ¬ (formedB off l1 l2 = true ∧ p.length = l1.length ∧ permB p = true) → r1 = 0 ∧ r2 = [] ∧ r3 = [] ∧ r4 = false := fun hh => by
    rw [if_neg hh] at h; simp only [noView, Prod.mk.injEq] at h
    exact ⟨h.1.symm, h.2.1.symm, h.2.2.1.symm, h.2.2.2.symm⟩
  by_cases hf : formedB off l1 l2 = true
  · have h5 := formed_5 hf
    by_cases hl : p.length = l1.length
    · obtain ⟨k, hk0⟩ := permutation_ev p (by omega)
      have hk := hk0 k (Nat.le_refl _)
      by_cases hp : permB p = true
      · rw [if_pos ⟨hf, hl, hp⟩] at h
        simp only [viewed, Prod.mk.injEq] at h
        obtain ⟨rfl, rfl, rfl, rfl⟩ := h
        exact turnView_y off A1 A2 c1 c2 l1 l2 A3 c3 p w hr1 hc1 hr2 hc2 hr3 hc3 k hf hl (by rw [← hp]; exact hk) (fun n hn => by have := (permB_fact hp).1 n hn; omega)
      · obtain ⟨rfl, rfl, rfl, rfl⟩ := no fun hh => hp hh.2.2
        exact turnView_n3 off A1 A2 c1 c2 l1 l2 A3 c3 p w hr1 hc1 hr2 hc2 hr3 hc3 k hf hl (by rw [← (Bool.not_eq_true _).mp hp]; exact hk)
    · obtain ⟨rfl, rfl, rfl, rfl⟩ := no fun hh => hl hh.2.1
      exact turnView_n2 off A1 A2 c1 c2 l1 l2 A3 c3 p w hr1 hc1 hr2 hc2 hr3 hc3 hf hl
  · obtain ⟨rfl, rfl, rfl, rfl⟩ := no fun hh => hf hh.1
    exact turnView_n1 off A1 A2 c1 c2 l1 l2 A3 c3 p w hr1 hc1 hr2 hc2 hr3 hc3 ((Bool.not_eq_true _).mp hf)
end Go.Proofs.Ytipjhbngbaifeaa.PA

namespace Go.Proofs.Ytipjhbngbaifeaa.PA
open Go.RowKit Go.Proofs.YtipjhbngbaifeaaW.PrintWords Go.Proofs.YtipjhbngbaifeaaW.PrintLast Go.Proofs.YtipjhbngbaifeaaW.PrintMore
theorem Rz {α : Type} {d : Kd α} {e base : Nat} {w w1 : World} {ok : Nat → Prop} {v : Value} {xs : List α} (h : d.R e w base ok v xs) (hb : Below w.heap.size w w1 := by (with_reducible repeat (first | apply below_alloc | apply pw_below_drewN | apply below_drew1)); exact Below.refl _ _) : d.R e w1 base ok v xs := Kd.R_below h hb
theorem Bz {w w1 : World} {g : Nat} {o : Obj} (h : w.heap[g]? = some o) (hb : Below w.heap.size w w1 := by (with_reducible repeat (first | apply below_alloc | apply pw_below_drewN | apply below_drew1)); exact Below.refl _ _) : w1.heap[g]? = some o := blk_below h hb
theorem Wz {w0 w w1 : World} (h : Below w0.heap.size w0 w) (hb : Below w.heap.size w w1 := by (with_reducible repeat (first | apply below_alloc | apply pw_below_drewN | apply below_drew1)); exact Below.refl _ _) : Below w0.heap.size w0 w1 := below_step h hb
end Go.Proofs.Ytipjhbngbaifeaa.PA

-- By a program (prt.py, over the print of the kit), for this claim. Not trusted: Lean checks it.
namespace Go.Proofs.Ytipjhbngbaifeaa.PA
open Go.RowKit Go.Proofs.YtipjhbngbaifeaaW.PrintWords Go.Proofs.YtipjhbngbaifeaaW.PrintLast Go.Proofs.YtipjhbngbaifeaaW.PrintMore
attribute [local go_sem] max2_int min2_int max_two min_two max_three min_three max_four min_four   -- for this text's walks alone
set_option linter.unusedVariables false
set_option linter.unusedSimpArgs false

/-! ### laws_FnExactTurnView: function 12 -/
mutual
def laws_FnExactTurnView.j0 : Nat → List Int → Bool → List Int → Bool → Bool → Int → List Int → List Int → Int → List Int → List Int → Int → List Int → List Int → Int → List Int → List Int → Option (Bool)
  | 0, _, _, _, _, _, _, _, _, _, _, _, _, _, _, _, _, _ => none
  | k + 1, x1, x7, x9, x11, x51, x102000, x102001, x102002, x122000, x122001, x122002, x130000, x130001, x130002, x142000, x142001, x142002 => if x51 = true then (some false) else ((laws_toView.f k x102000 x102001 x102002).bind fun bt143 => ((laws_eqView.f k x130000 x130001 x130002 bt143.1 bt143.2.1 bt143.2.2).bind fun t150 => (if t150 = true then ((laws_toIntS.f k x1).bind fun t151 => ((laws_eqIntS.f k x9 t151).bind fun t154 => (if t154 = true then ((laws_markView.f k x130000 x130001 x130002 1).bind fun bt155 => ((laws_markIntS.f k x9 bt155.1).bind fun bt158 => (if bt158.1 < 0 then (laws_FnExactTurnView.j1 k x1 x7 true x102000 x102001 x102002 x122000 x122001 x122002 x142000 x142001 x142002) else ((laws_eqView.f k x142000 x142001 x142002 x122000 x122001 x122002).bind fun t160 => (if t160 = true then (laws_FnExactTurnView.j1 k x1 x7 (x11 != x7) x102000 x102001 x102002 x122000 x122001 x122002 x142000 x142001 x142002) else (laws_FnExactTurnView.j1 k x1 x7 true x102000 x102001 x102002 x122000 x122001 x122002 x142000 x142001 x142002)))))) else (some false)))) else (some false))))
def laws_FnExactTurnView.j1 : Nat → List Int → Bool → Bool → Int → List Int → List Int → Int → List Int → List Int → Int → List Int → List Int → Option (Bool)
  | 0, _, _, _, _, _, _, _, _, _, _, _, _ => none
  | k + 1, x1, x7, x80, x102000, x102001, x102002, x122000, x122001, x122002, x142000, x142001, x142002 => if x80 = true then (some false) else ((laws_markView.f k x142000 x142001 x142002 1).bind fun bt161 => ((laws_heldView.f k x142000 bt161.2.1 bt161.2.2 1).bind fun t164 => (if t164 < 0 then (some false) else (if t164 = bt161.1 then ((laws_toView.f k x102000 x102001 x102002).bind fun bt165 => ((laws_toIntS.f k x1).bind fun t172 => ((impl_TurnView.f bt165.1 bt165.2.1 bt165.2.2 t172).bind fun bt175 => ((laws_eqView.f k bt175.1 bt175.2.1 bt175.2.2.1 x122000 x122001 x122002).bind fun t184 => (if t184 = true then (laws_FnExactTurnView.j2 k bt161.1 (bt175.2.2.2 != x7) x142000 bt161.2.1 bt161.2.2) else (laws_FnExactTurnView.j2 k bt161.1 true x142000 bt161.2.1 bt161.2.2)))))) else (some false)))))
def laws_FnExactTurnView.j2 : Nat → Int → Bool → Int → List Int → List Int → Option (Bool)
  | 0, _, _, _, _, _ => none
  | k + 1, x13, x108, x142000, x142001, x142002 => if x108 = true then (some false) else ((laws_heldView.f k x142000 x142001 x142002 1).bind fun t185 => (if t185 < 0 then (some false) else (if t185 = x13 then (some true) else (some false))))
end
def laws_FnExactTurnView.f (k : Nat) (a0_0 : Int) (l0_1 : List Int) (l0_2 : List Int) (l1 : List Int) : Option (Bool) := if (l1.length : Int) > 1048576 then (some true) else ((laws_szView.f a0_0 l0_1 l0_2 1048576).bind fun t102 => (if t102 < 0 then (some true) else ((laws_toView.f k a0_0 l0_1 l0_2).bind fun bt103 => ((laws_toIntS.f k l1).bind fun t110 => ((spec_TurnView.f k bt103.1 bt103.2.1 bt103.2.2 t110).bind fun bt113 => ((laws_toView.f k a0_0 l0_1 l0_2).bind fun bt122 => ((laws_toIntS.f k l1).bind fun t130 => ((impl_TurnView.f bt122.1 bt122.2.1 bt122.2.2 t130).bind fun bt133 => ((laws_eqView.f k bt133.1 bt133.2.1 bt133.2.2.1 bt113.1 bt113.2.1 bt113.2.2.1).bind fun t142 => (if t142 = true then (laws_FnExactTurnView.j0 k l1 bt113.2.2.2 t130 bt133.2.2.2 (bt133.2.2.2 != bt113.2.2.2) a0_0 l0_1 l0_2 bt113.1 bt113.2.1 bt113.2.2.1 bt122.1 bt122.2.1 bt122.2.2 bt133.1 bt133.2.1 bt133.2.2.1) else (laws_FnExactTurnView.j0 k l1 bt113.2.2.2 t130 bt133.2.2.2 true a0_0 l0_1 l0_2 bt113.1 bt113.2.1 bt113.2.2.1 bt122.1 bt122.2.1 bt122.2.2 bt133.1 bt133.2.1 bt133.2.2.1)))))))))))
theorem laws_FnExactTurnView.mono_l : ∀ k, (∀ y0 y1 y2 y3 y4 y5 y6 y7 y8 y9 y10 y11 y12 y13 y14 y15 y16, LeO (laws_FnExactTurnView.j0 k y0 y1 y2 y3 y4 y5 y6 y7 y8 y9 y10 y11 y12 y13 y14 y15 y16) (laws_FnExactTurnView.j0 (k + 1) y0 y1 y2 y3 y4 y5 y6 y7 y8 y9 y10 y11 y12 y13 y14 y15 y16)) ∧ (∀ y0 y1 y2 y3 y4 y5 y6 y7 y8 y9 y10 y11, LeO (laws_FnExactTurnView.j1 k y0 y1 y2 y3 y4 y5 y6 y7 y8 y9 y10 y11) (laws_FnExactTurnView.j1 (k + 1) y0 y1 y2 y3 y4 y5 y6 y7 y8 y9 y10 y11)) ∧ (∀ y0 y1 y2 y3 y4, LeO (laws_FnExactTurnView.j2 k y0 y1 y2 y3 y4) (laws_FnExactTurnView.j2 (k + 1) y0 y1 y2 y3 y4))
  | 0 => ⟨fun _ _ _ _ _ _ _ _ _ _ _ _ _ _ _ _ _ r h => by simp [laws_FnExactTurnView.j0] at h, fun _ _ _ _ _ _ _ _ _ _ _ _ r h => by simp [laws_FnExactTurnView.j1] at h, fun _ _ _ _ _ r h => by simp [laws_FnExactTurnView.j2] at h⟩
  | k + 1 => by
    obtain ⟨ih0, ih1, ih2⟩ := laws_FnExactTurnView.mono_l k
    refine ⟨?_, ?_, ?_⟩
    · intro y0 y1 y2 y3 y4 y5 y6 y7 y8 y9 y10 y11 y12 y13 y14 y15 y16
      unfold laws_FnExactTurnView.j0
      repeat' first
      | (with_reducible exact ih0 _ _ _ _ _ _ _ _ _ _ _ _ _ _ _ _ _)
      | (with_reducible exact ih1 _ _ _ _ _ _ _ _ _ _ _ _)
      | (with_reducible exact ih2 _ _ _ _ _)
      | (with_reducible exact laws_eqIntS.mono _ _ _)
      | (with_reducible exact laws_eqView.mono _ _ _ _ _ _ _)
      | (with_reducible exact laws_heldView.mono _ _ _ _ _)
      | (with_reducible exact laws_markIntS.mono _ _ _)
      | (with_reducible exact laws_markView.mono _ _ _ _ _)
      | (with_reducible exact laws_toIntS.mono _ _)
      | (with_reducible exact laws_toView.mono _ _ _ _)
      | (with_reducible exact spec_TurnView.mono _ _ _ _ _)
      | (with_reducible exact LeO.refl _)
      | (with_reducible exact LeO.none _)
      | (with_reducible refine LeO.ite ?_ ?_)
      | (with_reducible refine LeO.bind ?_ (fun _ => ?_))
      | exact ih0 _ _ _ _ _ _ _ _ _ _ _ _ _ _ _ _ _
      | exact ih1 _ _ _ _ _ _ _ _ _ _ _ _
      | exact ih2 _ _ _ _ _
      | exact laws_eqIntS.mono _ _ _
      | exact laws_eqView.mono _ _ _ _ _ _ _
      | exact laws_heldView.mono _ _ _ _ _
      | exact laws_markIntS.mono _ _ _
      | exact laws_markView.mono _ _ _ _ _
      | exact laws_toIntS.mono _ _
      | exact laws_toView.mono _ _ _ _
      | exact spec_TurnView.mono _ _ _ _ _
      | exact LeO.none _
      | refine LeO.ite ?_ ?_
      | refine LeO.bind ?_ (fun _ => ?_)
    · intro y0 y1 y2 y3 y4 y5 y6 y7 y8 y9 y10 y11
      unfold laws_FnExactTurnView.j1
      repeat' first
      | (with_reducible exact ih0 _ _ _ _ _ _ _ _ _ _ _ _ _ _ _ _ _)
      | (with_reducible exact ih1 _ _ _ _ _ _ _ _ _ _ _ _)
      | (with_reducible exact ih2 _ _ _ _ _)
      | (with_reducible exact laws_eqIntS.mono _ _ _)
      | (with_reducible exact laws_eqView.mono _ _ _ _ _ _ _)
      | (with_reducible exact laws_heldView.mono _ _ _ _ _)
      | (with_reducible exact laws_markIntS.mono _ _ _)
      | (with_reducible exact laws_markView.mono _ _ _ _ _)
      | (with_reducible exact laws_toIntS.mono _ _)
      | (with_reducible exact laws_toView.mono _ _ _ _)
      | (with_reducible exact spec_TurnView.mono _ _ _ _ _)
      | (with_reducible exact LeO.refl _)
      | (with_reducible exact LeO.none _)
      | (with_reducible refine LeO.ite ?_ ?_)
      | (with_reducible refine LeO.bind ?_ (fun _ => ?_))
      | exact ih0 _ _ _ _ _ _ _ _ _ _ _ _ _ _ _ _ _
      | exact ih1 _ _ _ _ _ _ _ _ _ _ _ _
      | exact ih2 _ _ _ _ _
      | exact laws_eqIntS.mono _ _ _
      | exact laws_eqView.mono _ _ _ _ _ _ _
      | exact laws_heldView.mono _ _ _ _ _
      | exact laws_markIntS.mono _ _ _
      | exact laws_markView.mono _ _ _ _ _
      | exact laws_toIntS.mono _ _
      | exact laws_toView.mono _ _ _ _
      | exact spec_TurnView.mono _ _ _ _ _
      | exact LeO.none _
      | refine LeO.ite ?_ ?_
      | refine LeO.bind ?_ (fun _ => ?_)
    · intro y0 y1 y2 y3 y4
      unfold laws_FnExactTurnView.j2
      repeat' first
      | (with_reducible exact ih0 _ _ _ _ _ _ _ _ _ _ _ _ _ _ _ _ _)
      | (with_reducible exact ih1 _ _ _ _ _ _ _ _ _ _ _ _)
      | (with_reducible exact ih2 _ _ _ _ _)
      | (with_reducible exact laws_eqIntS.mono _ _ _)
      | (with_reducible exact laws_eqView.mono _ _ _ _ _ _ _)
      | (with_reducible exact laws_heldView.mono _ _ _ _ _)
      | (with_reducible exact laws_markIntS.mono _ _ _)
      | (with_reducible exact laws_markView.mono _ _ _ _ _)
      | (with_reducible exact laws_toIntS.mono _ _)
      | (with_reducible exact laws_toView.mono _ _ _ _)
      | (with_reducible exact spec_TurnView.mono _ _ _ _ _)
      | (with_reducible exact LeO.refl _)
      | (with_reducible exact LeO.none _)
      | (with_reducible refine LeO.ite ?_ ?_)
      | (with_reducible refine LeO.bind ?_ (fun _ => ?_))
      | exact ih0 _ _ _ _ _ _ _ _ _ _ _ _ _ _ _ _ _
      | exact ih1 _ _ _ _ _ _ _ _ _ _ _ _
      | exact ih2 _ _ _ _ _
      | exact laws_eqIntS.mono _ _ _
      | exact laws_eqView.mono _ _ _ _ _ _ _
      | exact laws_heldView.mono _ _ _ _ _
      | exact laws_markIntS.mono _ _ _
      | exact laws_markView.mono _ _ _ _ _
      | exact laws_toIntS.mono _ _
      | exact laws_toView.mono _ _ _ _
      | exact spec_TurnView.mono _ _ _ _ _
      | exact LeO.none _
      | refine LeO.ite ?_ ?_
      | refine LeO.bind ?_ (fun _ => ?_)
theorem laws_FnExactTurnView.mono : ∀ a0 a1 a2 a3 k, LeO (laws_FnExactTurnView.f k a0 a1 a2 a3) (laws_FnExactTurnView.f (k + 1) a0 a1 a2 a3) := by
  intro a0 a1 a2 a3 k
  obtain ⟨ih0, ih1, ih2⟩ := laws_FnExactTurnView.mono_l k
  unfold laws_FnExactTurnView.f
  repeat' first
      | (with_reducible exact ih0 _ _ _ _ _ _ _ _ _ _ _ _ _ _ _ _ _)
      | (with_reducible exact ih1 _ _ _ _ _ _ _ _ _ _ _ _)
      | (with_reducible exact ih2 _ _ _ _ _)
      | (with_reducible exact laws_eqIntS.mono _ _ _)
      | (with_reducible exact laws_eqView.mono _ _ _ _ _ _ _)
      | (with_reducible exact laws_heldView.mono _ _ _ _ _)
      | (with_reducible exact laws_markIntS.mono _ _ _)
      | (with_reducible exact laws_markView.mono _ _ _ _ _)
      | (with_reducible exact laws_toIntS.mono _ _)
      | (with_reducible exact laws_toView.mono _ _ _ _)
      | (with_reducible exact spec_TurnView.mono _ _ _ _ _)
      | (with_reducible exact LeO.refl _)
      | (with_reducible exact LeO.none _)
      | (with_reducible refine LeO.ite ?_ ?_)
      | (with_reducible refine LeO.bind ?_ (fun _ => ?_))
      | exact ih0 _ _ _ _ _ _ _ _ _ _ _ _ _ _ _ _ _
      | exact ih1 _ _ _ _ _ _ _ _ _ _ _ _
      | exact ih2 _ _ _ _ _
      | exact laws_eqIntS.mono _ _ _
      | exact laws_eqView.mono _ _ _ _ _ _ _
      | exact laws_heldView.mono _ _ _ _ _
      | exact laws_markIntS.mono _ _ _
      | exact laws_markView.mono _ _ _ _ _
      | exact laws_toIntS.mono _ _
      | exact laws_toView.mono _ _ _ _
      | exact spec_TurnView.mono _ _ _ _ _
      | exact LeO.none _
      | refine LeO.ite ?_ ?_
      | refine LeO.bind ?_ (fun _ => ?_)

end Go.Proofs.Ytipjhbngbaifeaa.PA
