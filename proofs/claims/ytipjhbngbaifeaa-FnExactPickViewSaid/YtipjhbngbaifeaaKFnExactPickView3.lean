import Derived.Test.YtipjhbngbaifeaaKFnExactPickView2
import Derived.Deep.RegionHeld3
import Derived.Deep.DeepCutAuto
import Derived.Deep.RegionLaw

namespace Go.Proofs.Ytipjhbngbaifeaa.PA
open Go.RowKit Go.Proofs.YtipjhbngbaifeaaW.PrintWords Go.Proofs.YtipjhbngbaifeaaW.PrintLast Go.Proofs.YtipjhbngbaifeaaW.PrintMore

theorem w64 {x : Int} (h0 : -9223372036854775808 ≤ x) (h1 : x < 9223372036854775808) : wrap64 x = x := by unfold wrap64; omega
theorem rd_mid (p t : List Int) (a : Int) : rd (p ++ a :: t) (p.length : Int) = a := by simp [rd, List.getD_eq_getElem?_getD]
theorem len_lt {p t : List Int} {a : Int} : ((p.length : Nat) : Int) < (((p ++ a :: t).length : Nat) : Int) := by simp; omega
theorem len_nlt {p : List Int} : ¬ ((p.length : Nat) : Int) < (((p ++ ([] : List Int)).length : Nat) : Int) := by simp
theorem next_mid (p t : List Int) (a : Int) (h : (p ++ a :: t).length < 35184372088833) : wrap64 ((p.length : Int) + 1) = (((p ++ [a]).length : Nat) : Int) := by
  rw [w64 (by omega) (by simp at h; omega)]; simp
theorem app_mid (p t : List Int) (a : Int) : p ++ a :: t = (p ++ [a]) ++ t := by simp
theorem evVal {α : Type} {g : Nat → Option α} {r r' : α} (h : Ev g r) (e : r = r') : Ev g r' := e ▸ h
theorem evEq {α : Type} {g : Nat → Option α} {r : α} (h : ∀ k, g k = some r) : Ev g r := ⟨0, fun k _ => h k⟩
/-- One round whose test is decided: from the round's own equation. -/
theorem evRound {α : Type} {g f : Nat → Option α} {r : α} (k : Ev f r) (h : ∀ k, g (k + 1) = f k) : Ev g r := Ev.step h k

/-! ### copies -/
theorem set_mid (q t : List Int) (b a : Int) : (q ++ b :: t).set q.length a = (q ++ [a]) ++ t := by simp
theorem toIntS_loop : ∀ (t p q s : List Int), p.length = q.length → t.length = s.length → (p ++ t).length < 35184372088833 →
    Ev (fun k => laws_toIntS.l0 k (p ++ t) (q ++ s) (p.length : Int)) (q ++ t)
  | [], p, q, s, _, hs, _ => by
    obtain rfl : s = [] := List.eq_nil_of_length_eq_zero hs.symm
    refine evRound (Ev.now _) fun k => ?_
    simp only [laws_toIntS.l0]; rw [if_neg len_nlt]
  | a :: t, p, q, [], _, hs, _ => by simp at hs
  | a :: t, p, q, b :: s, hp, hs, hl => by
    have ih := toIntS_loop t (p ++ [a]) (q ++ [a]) s (by simp [hp]) (by simpa using hs) (by simpa using hl)
    rw [← app_mid, ← app_mid q t] at ih
    refine evRound ih fun k => ?_
    simp only [laws_toIntS.l0]
    rw [if_pos len_lt, if_pos (by omega), if_pos (by simp [hp]; omega), rd_mid, next_mid p t a hl, hp, Int.toNat_natCast, set_mid]
theorem toIntS_ev (l : List Int) (h : l.length ≤ 35184372088832) : Ev (fun k => laws_toIntS.f k l) l := by
  have h1 := toIntS_loop l [] [] (List.replicate l.length 0) rfl (by simp) (by simpa using (by omega : l.length < 35184372088833))
  refine Ev.congr (fun k => ?_) h1
  simp only [laws_toIntS.f]
  rw [if_pos (by omega), if_pos (by simpa using h)]
  simp

/-! ### comparisons -/
theorem eqIntS_loop : ∀ (t p q s : List Int), p.length = q.length → t.length = s.length → (p ++ t).length < 35184372088833 →
    Ev (fun k => laws_eqIntS.l0 k (p ++ t) (q ++ s) (p.length : Int)) (decide (t = s))
  | [], p, q, s, _, hs, _ => by
    obtain rfl : s = [] := List.eq_nil_of_length_eq_zero hs.symm
    refine evRound (Ev.now _) fun k => ?_
    simp only [laws_eqIntS.l0]; rw [if_neg len_nlt]; simp
  | a :: t, p, q, [], _, hs, _ => by simp at hs
  | a :: t, p, q, b :: s, hp, hs, hl => by
    by_cases e : a = b
    · subst e
      have ih := eqIntS_loop t (p ++ [a]) (q ++ [a]) s (by simp [hp]) (by simpa using hs) (by simpa using hl)
      rw [← app_mid, ← app_mid] at ih
      refine evVal (evRound ih fun k => ?_) (by simp)
      simp only [laws_eqIntS.l0]
      rw [if_pos len_lt, if_pos (by omega), if_pos (by simp [hp]; omega), rd_mid, show rd (q ++ a :: s) (p.length : Int) = a by rw [hp]; exact rd_mid _ _ _, if_pos rfl, next_mid p t a hl]
    · refine evRound (Ev.now _) fun k => ?_
      simp only [laws_eqIntS.l0]
      rw [if_pos len_lt, if_pos (by omega), if_pos (by simp [hp]; omega), rd_mid, show rd (q ++ b :: s) (p.length : Int) = b by rw [hp]; exact rd_mid _ _ _, if_neg e]; simp [e]
theorem eqIntS_ev (l m : List Int) (h : l.length ≤ 35184372088832) : Ev (fun k => laws_eqIntS.f k l m) (decide (l = m)) := by
  by_cases e : l.length = m.length
  · have h1 := eqIntS_loop l [] [] m rfl e (by simpa using (by omega : l.length < 35184372088833))
    refine Ev.congr (fun k => ?_) h1
    simp only [laws_eqIntS.f]
    rw [if_pos (by omega)]; rfl
  · refine evEq fun k => ?_
    simp only [laws_eqIntS.f]
    rw [if_neg (by omega)]
    have : l ≠ m := fun h => e (h ▸ rfl)
    simp [this]

/-! ### sizes -/
theorem szIntS_eq (l : List Int) (a : Int) (h0 : 0 ≤ a) (h1 : a ≤ 1048576) (hl : l.length ≤ maxLen) :
    laws_szIntS.f l a = some (if (l.length : Int) ≤ a then a - l.length else -1) := by
  unfold laws_szIntS.f; unfold maxLen at hl
  rw [w64 (by omega) (by omega)]
  by_cases h : (l.length : Int) ≤ a
  · rw [if_neg (by omega), if_pos h]
  · rw [if_pos (by omega), if_neg h]

/-! ### shapes -/
/-- Every number in range, and the product of those that are not 0 at most 10000: from a product on. -/
def shGo : Int → List Int → Bool
  | _, [] => true
  | f, a :: t => decide (0 ≤ a ∧ a ≤ 10000) && (if a = 0 then shGo f t else decide (f * a ≤ 10000) && shGo (f * a) t)
def prod : List Int → Int
  | [] => 1
  | a :: t => a * prod t
def shOk (l : List Int) : Bool := decide (l.length ≤ 5) && shGo 1 l
theorem shGo_range : ∀ {l : List Int} {f : Int}, shGo f l = true → ∀ a ∈ l, 0 ≤ a ∧ a ≤ 10000
  | [], _, _, a, ha => by simp at ha
  | b :: t, f, h, a, ha => by
    simp only [shGo, Bool.and_eq_true, decide_eq_true_eq] at h
    rcases List.mem_cons.1 ha with rfl | ha
    · exact h.1
    · by_cases hb : b = 0
      · rw [if_pos hb] at h; exact shGo_range h.2 a ha
      · rw [if_neg hb] at h; simp only [Bool.and_eq_true] at h; exact shGo_range h.2.2 a ha
theorem shGo_prod : ∀ {l : List Int} {f : Int}, 1 ≤ f → shGo f l = true → prod l = 0 ∨ (f * prod l ≤ 10000 ∧ 1 ≤ prod l) ∨ l = []
  | [], _, _, _ => .inr (.inr rfl)
  | b :: t, f, hf, h => by
    have hr := shGo_range h
    simp only [shGo, Bool.and_eq_true, decide_eq_true_eq] at h
    by_cases hb : b = 0
    · subst hb; left; simp [prod]
    · rw [if_neg hb] at h; simp only [Bool.and_eq_true, decide_eq_true_eq] at h
      have hb1 : 1 ≤ b := by omega
      have hf1 : 1 ≤ f * b := by have := Int.mul_le_mul hf hb1 (by omega) (by omega); simpa using this
      rcases shGo_prod hf1 h.2.2 with h0 | ⟨h0, h1⟩ | rfl
      · left; simp [prod, h0]
      · right; left; simp only [prod]; refine ⟨by rw [← Int.mul_assoc]; exact h0, ?_⟩
        have := Int.mul_le_mul hb1 h1 (by omega) (by omega); simpa using this
      · right; left; simp only [prod, Int.mul_one]; exact ⟨h.2.1, hb1⟩
theorem shGo_bound {l : List Int} (h : shGo 1 l = true) : 0 ≤ prod l ∧ prod l ≤ 10000 := by
  rcases shGo_prod (by omega) h with h0 | ⟨h0, h1⟩ | rfl
  · omega
  · omega
  · simp [prod]
theorem within_eq (a b c : Int) : impl_within.f a b c = some (decide (b ≤ a ∧ a ≤ c)) := by
  unfold impl_within.f
  by_cases h : a ≥ b
  · rw [if_pos h]; simp; omega
  · rw [if_neg h]; simp; omega
/-- The product that the program keeps: 0, or the product of those that are not 0. -/
def szGo : Int → Int → List Int → Int × Bool
  | s, _, [] => (s, true)
  | s, f, a :: t => if 0 ≤ a ∧ a ≤ 10000 then (if a > 0 then (if f * a > 10000 then (0, false) else szGo (s * a) (f * a) t) else szGo (s * a) f t) else (0, false)
theorem szGo_eq : ∀ (l : List Int) (s f : Int), szGo s f l = if shGo f l then (s * prod l, true) else (0, false)
  | [], s, f => by simp [szGo, shGo, prod]
  | a :: t, s, f => by
    simp only [szGo, shGo]
    by_cases h : 0 ≤ a ∧ a ≤ 10000
    · rw [if_pos h]
      by_cases h0 : a = 0
      · subst h0; simp [szGo_eq t, prod]
      · rw [if_pos (by omega)]
        by_cases h1 : f * a > 10000
        · rw [if_pos h1]; simp [h, h0, show ¬ f * a ≤ 10000 by omega]
        · rw [if_neg h1, szGo_eq t]; simp [h, h0, show f * a ≤ 10000 by omega, prod, Int.mul_assoc]
    · rw [if_neg h]; simp [h]
theorem mul_in {s a : Int} (h0 : 0 ≤ s) (h1 : s ≤ 10000) (h2 : 0 ≤ a) (h3 : a ≤ 10000) : 0 ≤ s * a ∧ s * a ≤ 100000000 := by
  refine ⟨Int.mul_nonneg h0 h2, ?_⟩
  have := Int.mul_le_mul h1 h3 h2 (by omega : (0 : Int) ≤ 10000); omega
theorem shapeOk_loop : ∀ (t p : List Int) (s f : Int) (n : Int), (s = 0 ∨ s = f) → 0 ≤ f → f ≤ 10000 → (p ++ t).length < 35184372088833 → n = ((p ++ t).length : Nat) →
    Ev (fun k => impl_shapeOk.l0 k s f (p ++ t) n (p.length : Int)) (szGo s f t)
  | [], p, s, f, n, _, _, _, _, hn => by
    subst hn
    refine evRound (Ev.now _) fun k => ?_
    simp only [impl_shapeOk.l0]; rw [if_neg len_nlt]; rfl
  | a :: t, p, s, f, n, hs, h0, h1, hl, hn => by
    have hn' := hn
    subst hn
    have hsb : 0 ≤ s ∧ s ≤ 10000 := by rcases hs with rfl | rfl <;> omega
    by_cases ha : 0 ≤ a ∧ a ≤ 10000
    · have hsa := mul_in hsb.1 hsb.2 ha.1 ha.2
      have hfa := mul_in h0 h1 ha.1 ha.2
      by_cases hp : a > 0
      · by_cases hb : f * a > 10000
        · refine evRound (Ev.now _) fun k => ?_
          simp only [impl_shapeOk.l0, szGo]
          rw [if_pos len_lt, if_pos (by omega), if_pos len_lt, rd_mid, within_eq]; simp only [Option.bind_some, ha.1, ha.2, and_self, decide_true, if_true]
          rw [if_pos hp, w64 (by omega) (by omega), if_pos hb, if_pos hp, if_pos hb]
        · have ih := shapeOk_loop t (p ++ [a]) (s * a) (f * a) _ (by rcases hs with rfl | rfl <;> simp) hfa.1 (by omega) (by simpa using hl) rfl
          rw [← app_mid] at ih
          refine evVal (evRound ih fun k => ?_) (by simp [szGo, ha, hp, hb])
          simp only [impl_shapeOk.l0]
          rw [if_pos len_lt, if_pos (by omega), if_pos len_lt, rd_mid, within_eq]; simp only [Option.bind_some, ha.1, ha.2, and_self, decide_true, if_true]
          rw [if_pos hp, w64 (x := f * a) (by omega) (by omega), if_neg hb, w64 (x := s * a) (by omega) (by omega), next_mid p t a hl]
      · have ih := shapeOk_loop t (p ++ [a]) (s * a) f _ (by left; have : a = 0 := by omega
                                                             simp [this]) h0 h1 (by simpa using hl) rfl
        rw [← app_mid] at ih
        refine evVal (evRound ih fun k => ?_) (by simp [szGo, ha, hp])
        simp only [impl_shapeOk.l0]
        rw [if_pos len_lt, if_pos (by omega), if_pos len_lt, rd_mid, within_eq]; simp only [Option.bind_some, ha.1, ha.2, and_self, decide_true, if_true]
        rw [if_neg hp, if_neg (by omega), w64 (x := s * a) (by omega) (by omega), next_mid p t a hl]
    · refine evRound (Ev.now _) fun k => ?_
      simp only [impl_shapeOk.l0, szGo]
      rw [if_pos len_lt, if_pos (by omega), if_pos len_lt, rd_mid, within_eq, if_neg ha]; simp only [Option.bind_some, ha, decide_false, Bool.false_eq_true, if_false]
/-- What the program's shapeOk answers. -/
def shSize (l : List Int) : Int × Bool := if shOk l then (prod l, true) else (0, false)
theorem shapeOk_ev (l : List Int) : Ev (fun k => impl_shapeOk.f k l) (shSize l) := by
  unfold shSize shOk
  by_cases h : l.length ≤ 5
  · have h1 := shapeOk_loop l [] 1 1 _ (.inr rfl) (by omega) (by omega) (by simp; omega) rfl
    refine evVal (Ev.congr (fun k => ?_) h1) ?_
    · simp only [impl_shapeOk.f]; rw [if_neg (by omega)]; rfl
    · rw [szGo_eq]; simp [h]
  · refine evEq fun k => ?_
    simp only [impl_shapeOk.f]; rw [if_pos (by omega)]; simp [h]

/-- What the reference's l3Count answers. -/
def cnGo : Int → Bool → List Int → Int
  | x, z, [] => if z then 0 else x
  | x, z, a :: t => if a = 0 then cnGo x true t else if x * a > 10000 then -1 else cnGo (x * a) z t
def cnt (l : List Int) : Int := if shGo 1 l then prod l else -1
theorem cnGo_eq : ∀ (l : List Int) (x : Int) (z : Bool), (∀ a ∈ l, 0 ≤ a ∧ a ≤ 10000) → cnGo x z l = if shGo x l then (if z then 0 else x * prod l) else -1
  | [], x, z, _ => by simp [cnGo, shGo, prod]
  | a :: t, x, z, h => by
    have ha := h a (by simp)
    have ht : ∀ b ∈ t, 0 ≤ b ∧ b ≤ 10000 := fun b hb => h b (by simp [hb])
    simp only [cnGo, shGo]
    by_cases h0 : a = 0
    · subst h0; simp [cnGo_eq t _ _ ht, prod]
    · rw [if_neg h0]
      by_cases h1 : x * a > 10000
      · rw [if_pos h1]; simp [h0, show ¬ x * a ≤ 10000 by omega]
      · rw [if_neg h1, cnGo_eq t _ _ ht]; simp [ha, h0, show x * a ≤ 10000 by omega, prod, Int.mul_assoc]
theorem l3Count_loop1 : ∀ (t p : List Int) (x : Int) (z : Bool), (∀ a ∈ t, 0 ≤ a ∧ a ≤ 10000) → 0 ≤ x → x ≤ 10000 → (p ++ t).length < 35184372088833 →
    Ev (fun k => spec_l3Count.l1 k (p ++ t) x z (p.length : Int)) (cnGo x z t)
  | [], p, x, z, _, _, _, _ => by
    refine evRound (f := fun _ => some (cnGo x z [])) (Ev.now _) fun k => ?_
    simp only [spec_l3Count.l1]; rw [if_neg len_nlt]; cases z <;> simp [cnGo]
  | a :: t, p, x, z, hr, h0, h1, hl => by
    have ha := hr a (by simp)
    have hxa := mul_in h0 h1 ha.1 ha.2
    have ht : ∀ b ∈ t, 0 ≤ b ∧ b ≤ 10000 := fun b hb => hr b (by simp [hb])
    by_cases e : a = 0
    · have ih := l3Count_loop1 t (p ++ [a]) x true ht h0 h1 (by simpa using hl)
      rw [← app_mid] at ih
      refine evVal (evRound ih fun k => ?_) (by simp [cnGo, e])
      simp only [spec_l3Count.l1]
      rw [if_pos len_lt, if_pos (by omega), rd_mid, if_pos e, next_mid p t a hl]
    · by_cases hb : x * a > 10000
      · refine evRound (f := fun _ => some (cnGo x z (a :: t))) (Ev.now _) fun k => ?_
        simp only [spec_l3Count.l1]
        rw [if_pos len_lt, if_pos (by omega), rd_mid, if_neg e, w64 (by omega) (by omega), if_pos hb]; simp [cnGo, e, hb]
      · have ih := l3Count_loop1 t (p ++ [a]) (x * a) z ht hxa.1 (by omega) (by simpa using hl)
        rw [← app_mid] at ih
        refine evVal (evRound ih fun k => ?_) (by simp [cnGo, e, hb])
        simp only [spec_l3Count.l1]
        rw [if_pos len_lt, if_pos (by omega), rd_mid, if_neg e, w64 (by omega) (by omega), if_neg hb, next_mid p t a hl]
theorem l3Count_loop0 : ∀ (t p : List Int), (∀ a ∈ p, 0 ≤ a ∧ a ≤ 10000) → (p ++ t).length < 35184372088833 →
    Ev (fun k => spec_l3Count.l0 k (p ++ t) 1 (p.length : Int)) (if ∀ a ∈ t, 0 ≤ a ∧ a ≤ 10000 then cnGo 1 false (p ++ t) else -1)
  | [], p, hp, hl => by
    have h1 := l3Count_loop1 p [] 1 false hp (by omega) (by omega) (by simpa using hl)
    refine evVal (evRound h1 fun k => ?_) (by simp)
    simp only [spec_l3Count.l0]; rw [if_neg len_nlt]; simp
  | a :: t, p, hp, hl => by
    by_cases ha : 0 ≤ a ∧ a ≤ 10000
    · have ih := l3Count_loop0 t (p ++ [a]) (fun b hb => by rcases List.mem_append.1 hb with h | h
                                                            · exact hp b h
                                                            · obtain rfl := List.mem_singleton.1 h; exact ha) (by simpa using hl)
      rw [← app_mid] at ih
      refine evVal (evRound ih fun k => ?_) (by simp [ha])
      simp only [spec_l3Count.l0]
      rw [if_pos len_lt, if_pos (by omega), rd_mid, if_neg (by omega), if_neg (by omega), next_mid p t a hl]
    · refine evRound (f := fun _ => some (-1)) (evVal (Ev.now _) (by rw [if_neg]; intro h; exact ha (h a (by simp)))) fun k => ?_
      simp only [spec_l3Count.l0]
      rw [if_pos len_lt, if_pos (by omega), rd_mid]
      by_cases h : a < 0
      · rw [if_pos h]
      · rw [if_neg h, if_pos (by omega)]
theorem l3Count_ev (l : List Int) (h : l.length ≤ 35184372088832) : Ev (fun k => spec_l3Count.f k l) (cnt l) := by
  have h1 := l3Count_loop0 l [] (by simp) (by simp; omega)
  refine evVal (Ev.congr (fun k => rfl) h1) ?_
  unfold cnt
  by_cases hr : ∀ a ∈ l, 0 ≤ a ∧ a ≤ 10000
  · rw [if_pos hr, List.nil_append, cnGo_eq l 1 false hr]; simp
  · rw [if_neg hr, if_neg]; intro hs; exact hr (shGo_range hs)
end Go.Proofs.Ytipjhbngbaifeaa.PA

-- By a program (prt.py, over the print of the kit), for this claim. Not trusted: Lean checks it.
namespace Go.Proofs.Ytipjhbngbaifeaa.PA
open Go.RowKit Go.Proofs.YtipjhbngbaifeaaW.PrintWords Go.Proofs.YtipjhbngbaifeaaW.PrintLast Go.Proofs.YtipjhbngbaifeaaW.PrintMore
attribute [local go_sem] max2_int min2_int max_two min_two max_three min_three max_four min_four   -- for this text's walks alone
set_option linter.unusedVariables false
set_option linter.unusedSimpArgs false

/-! ### spec_WholeView: function 20 -/
def spec_WholeView.l0 : Nat → List Int → Int → Int → Int → List Int → List Int → Option (Int × List Int × List Int × Bool)
  | 0, _, _, _, _, _, _ => none
  | k + 1, x0, x5, x6, x110000, x110001, x110002 => if x6 ≥ 0 then (if 0 ≤ x6 then (if x6 < (x110002.length : Int) then ((some (x110002.set (x6 : Int).toNat x5 : List Int)).bind fun y110 => (if x6 < (x0.length : Int) then (if (rd x0 x6) > 0 then (spec_WholeView.l0 k x0 (wrap64 (x5 * (rd x0 x6))) (wrap64 (x6 - 1)) x110000 x110001 y110) else (spec_WholeView.l0 k x0 x5 (wrap64 (x6 - 1)) x110000 x110001 y110)) else (none))) else (none)) else (none)) else (some (x110000, x110001, x110002, true))
def spec_WholeView.f (k : Nat) (l0 : List Int) : Option (Int × List Int × List Int × Bool) := (spec_l3ShapeOk.f k l0).bind fun t102 => (if t102 = true then ((spec_l3Ints.f l0).bind fun t103 => (if 0 ≤ (l0.length : Int) then (if ((l0.length : Int) : Int).toNat ≤ 35184372088832 then (spec_WholeView.l0 k l0 1 (wrap64 ((l0.length : Int) - 1)) 0 t103 (List.replicate ((l0.length : Int) : Int).toNat 0)) else (none)) else (none))) else (some (0, ([] : List Int), ([] : List Int), false)))
theorem spec_WholeView.mono_l : ∀ k, (∀ y0 y1 y2 y3 y4 y5, LeO (spec_WholeView.l0 k y0 y1 y2 y3 y4 y5) (spec_WholeView.l0 (k + 1) y0 y1 y2 y3 y4 y5))
  | 0 => fun _ _ _ _ _ _ r h => by simp [spec_WholeView.l0] at h
  | k + 1 => by
    have ih0 := spec_WholeView.mono_l k
    · intro y0 y1 y2 y3 y4 y5
      unfold spec_WholeView.l0
      repeat' first
      | (with_reducible exact ih0 _ _ _ _ _ _)
      | (with_reducible exact spec_l3ShapeOk.mono _ _)
      | (with_reducible exact LeO.refl _)
      | (with_reducible exact LeO.none _)
      | (with_reducible refine LeO.ite ?_ ?_)
      | (with_reducible refine LeO.bind ?_ (fun _ => ?_))
      | exact ih0 _ _ _ _ _ _
      | exact spec_l3ShapeOk.mono _ _
      | exact LeO.none _
      | refine LeO.ite ?_ ?_
      | refine LeO.bind ?_ (fun _ => ?_)
theorem spec_WholeView.mono : ∀ a0 k, LeO (spec_WholeView.f k a0) (spec_WholeView.f (k + 1) a0) := by
  intro a0 k
  have ih0 := spec_WholeView.mono_l k
  unfold spec_WholeView.f
  repeat' first
      | (with_reducible exact ih0 _ _ _ _ _ _)
      | (with_reducible exact spec_l3ShapeOk.mono _ _)
      | (with_reducible exact LeO.refl _)
      | (with_reducible exact LeO.none _)
      | (with_reducible refine LeO.ite ?_ ?_)
      | (with_reducible refine LeO.bind ?_ (fun _ => ?_))
      | exact ih0 _ _ _ _ _ _
      | exact spec_l3ShapeOk.mono _ _
      | exact LeO.none _
      | refine LeO.ite ?_ ?_
      | refine LeO.bind ?_ (fun _ => ?_)
def spec_WholeView.B3 : List Nat := [0, 1, 0, 4, 12, 31, 0, 127]

end Go.Proofs.Ytipjhbngbaifeaa.PA

-- By a program (prt.py, over the print of the kit), for this claim. Not trusted: Lean checks it.
namespace Go.Proofs.Ytipjhbngbaifeaa.PA
open Go.RowKit Go.Proofs.YtipjhbngbaifeaaW.PrintWords Go.Proofs.YtipjhbngbaifeaaW.PrintLast Go.Proofs.YtipjhbngbaifeaaW.PrintMore
attribute [local go_sem] max2_int min2_int max_two min_two max_three min_three max_four min_four   -- for this text's walks alone
set_option linter.unusedVariables false
set_option linter.unusedSimpArgs false

/-! ### impl_wholeStrides: function 58 -/
def impl_wholeStrides.l0 : Nat → List Int → List Int → Int → Int → Option (List Int)
  | 0, _, _, _, _ => none
  | k + 1, x0, x3, x4, x5 => if x5 ≥ 0 then (if 0 ≤ x5 then (if x5 < (x3.length : Int) then (if x5 < (x0.length : Int) then (impl_wholeStrides.l0 k x0 (x3.set (x5 : Int).toNat x4) (wrap64 (x4 * (mx 1 (rd x0 x5)))) (wrap64 (x5 - 1))) else (none)) else (none)) else (none)) else (some x3)
def impl_wholeStrides.f (k : Nat) (l0 : List Int) : Option (List Int) := if 0 ≤ (l0.length : Int) then (if ((l0.length : Int) : Int).toNat ≤ 35184372088832 then (impl_wholeStrides.l0 k l0 (List.replicate ((l0.length : Int) : Int).toNat 0) 1 (wrap64 ((l0.length : Int) - 1))) else (none)) else (none)
theorem impl_wholeStrides.mono_l : ∀ k, (∀ y0 y1 y2 y3, LeO (impl_wholeStrides.l0 k y0 y1 y2 y3) (impl_wholeStrides.l0 (k + 1) y0 y1 y2 y3))
  | 0 => fun _ _ _ _ r h => by simp [impl_wholeStrides.l0] at h
  | k + 1 => by
    have ih0 := impl_wholeStrides.mono_l k
    · intro y0 y1 y2 y3
      unfold impl_wholeStrides.l0
      repeat' first
      | (with_reducible exact ih0 _ _ _ _)
      | (with_reducible exact LeO.refl _)
      | (with_reducible exact LeO.none _)
      | (with_reducible refine LeO.ite ?_ ?_)
      | (with_reducible refine LeO.bind ?_ (fun _ => ?_))
      | exact ih0 _ _ _ _
      | exact LeO.none _
      | refine LeO.ite ?_ ?_
      | refine LeO.bind ?_ (fun _ => ?_)
theorem impl_wholeStrides.mono : ∀ a0 k, LeO (impl_wholeStrides.f k a0) (impl_wholeStrides.f (k + 1) a0) := by
  intro a0 k
  have ih0 := impl_wholeStrides.mono_l k
  unfold impl_wholeStrides.f
  repeat' first
      | (with_reducible exact ih0 _ _ _ _)
      | (with_reducible exact LeO.refl _)
      | (with_reducible exact LeO.none _)
      | (with_reducible refine LeO.ite ?_ ?_)
      | (with_reducible refine LeO.bind ?_ (fun _ => ?_))
      | exact ih0 _ _ _ _
      | exact LeO.none _
      | refine LeO.ite ?_ ?_
      | refine LeO.bind ?_ (fun _ => ?_)

end Go.Proofs.Ytipjhbngbaifeaa.PA

-- By a program (prt.py, over the print of the kit), for this claim. Not trusted: Lean checks it.
namespace Go.Proofs.Ytipjhbngbaifeaa.PA
open Go.RowKit Go.Proofs.YtipjhbngbaifeaaW.PrintWords Go.Proofs.YtipjhbngbaifeaaW.PrintLast Go.Proofs.YtipjhbngbaifeaaW.PrintMore
attribute [local go_sem] max2_int min2_int max_two min_two max_three min_three max_four min_four   -- for this text's walks alone
set_option linter.unusedVariables false
set_option linter.unusedSimpArgs false

/-! ### impl_WholeView: function 22 -/
def impl_WholeView.f (k : Nat) (l0 : List Int) : Option (Int × List Int × List Int × Bool) := (impl_shapeOk.f k l0).bind fun bt102 => (if bt102.2 = true then ((slices_Clone_int_int.f l0).bind fun t104 => ((impl_wholeStrides.f k l0).bind fun t107 => (some (0, t104, t107, true)))) else (some (0, ([] : List Int), ([] : List Int), false)))
theorem impl_WholeView.mono : ∀ a0 k, LeO (impl_WholeView.f k a0) (impl_WholeView.f (k + 1) a0) := by
  intro a0 k
  unfold impl_WholeView.f
  repeat' first
      | (with_reducible exact impl_shapeOk.mono _ _)
      | (with_reducible exact impl_wholeStrides.mono _ _)
      | (with_reducible exact LeO.refl _)
      | (with_reducible exact LeO.none _)
      | (with_reducible refine LeO.ite ?_ ?_)
      | (with_reducible refine LeO.bind ?_ (fun _ => ?_))
      | exact impl_shapeOk.mono _ _
      | exact impl_wholeStrides.mono _ _
      | exact LeO.none _
      | refine LeO.ite ?_ ?_
      | refine LeO.bind ?_ (fun _ => ?_)

end Go.Proofs.Ytipjhbngbaifeaa.PA

namespace Go.Proofs.Ytipjhbngbaifeaa.PA
open Go.RowKit Go.Proofs.YtipjhbngbaifeaaW.PrintWords Go.Proofs.YtipjhbngbaifeaaW.PrintLast Go.Proofs.YtipjhbngbaifeaaW.PrintMore

theorem l3Ints_eq (l : List Int) (h : l.length < 17592186044416) : spec_l3Ints.f l = some l := by
  simp [spec_l3Ints.f, h]
theorem l3ShapeOk_ev (l : List Int) (h : l.length ≤ 35184372088832) : Ev (fun k => spec_l3ShapeOk.f k l) (shOk l) := by
  simp only [spec_l3ShapeOk.f, shOk]
  by_cases h5 : (l.length : Int) ≤ 5
  · simp only [h5, if_true]
    refine Ev.bind (l3Count_ev l h) ?_
    refine evVal (Ev.now _) ?_
    unfold cnt
    by_cases hs : shGo 1 l = true
    · have := shGo_bound hs
      simp [hs, show l.length ≤ 5 by omega]; omega
    · simp [hs]
  · simp only [h5, if_false]; exact evVal (Ev.now _) (by simp [show ¬ l.length ≤ 5 by omega])

theorem toView_ev (b : Int) (l1 l2 : List Int) (h1 : l1.length ≤ 35184372088832) (h2 : l2.length ≤ 35184372088832) : Ev (fun k => laws_toView.f k b l1 l2) (b, l1, l2) := by
  simp only [laws_toView.f]
  exact Ev.bind (toIntS_ev l1 h1) (Ev.bind (toIntS_ev l2 h2) (Ev.now _))
theorem eqView_self (b : Int) (l1 l2 : List Int) (h1 : l1.length ≤ 35184372088832) (h2 : l2.length ≤ 35184372088832) : Ev (fun k => laws_eqView.f k b l1 l2 b l1 l2) true := by
  simp only [laws_eqView.f, if_true]
  refine Ev.bind (evVal (eqIntS_ev l1 l1 h1) (decide_eq_true rfl)) ?_
  simp only [if_true]
  refine Ev.bind (evVal (eqIntS_ev l2 l2 h2) (decide_eq_true rfl)) ?_
  simp only [if_true]; exact Ev.now _
theorem szView_eq (b : Int) (l1 l2 : List Int) (a : Int) (h0 : 0 ≤ a) (h1 : a ≤ 1048576) (hl1 : l1.length ≤ maxLen) (hl2 : l2.length ≤ maxLen) :
    laws_szView.f b l1 l2 a = some (if (l1.length : Int) + l2.length ≤ a then a - l1.length - l2.length else -1) := by
  unfold laws_szView.f
  rw [szIntS_eq l1 a h0 h1 hl1]; simp only [Option.bind_some]
  by_cases h : (l1.length : Int) ≤ a
  · rw [if_pos h, if_neg (by omega), szIntS_eq l2 _ (by omega) (by omega) hl2]; simp only [Option.bind_some]
    by_cases h' : (l2.length : Int) ≤ a - l1.length
    · rw [if_pos h', if_neg (by omega), if_pos (by omega)]
    · rw [if_neg h', if_pos (by omega), if_neg (by omega)]
  · rw [if_neg h, if_pos (by omega), if_neg (by omega)]

/-- The numbers from a on, n of them. -/
def upFrom : Int → Nat → List Int
  | _, 0 => []
  | a, n + 1 => a :: upFrom (a + 1) n
theorem upFrom_len : ∀ (n : Nat) (a : Int), (upFrom a n).length = n
  | 0, _ => rfl
  | n + 1, a => by simp [upFrom, upFrom_len n]
theorem markIntS_loop : ∀ (t p : List Int) (a : Int), (p ++ t).length < 35184372088833 → 0 ≤ a → a + t.length ≤ 9000000000000000000 →
    Ev (fun k => laws_markIntS.l0 k (p ++ t) a (p.length : Int)) (a + t.length, p ++ upFrom a t.length)
  | [], p, a, _, _, _ => by
    refine evVal (evRound (Ev.now _) fun k => ?_) (by simp [upFrom] : (a, p ++ []) = _)
    simp only [laws_markIntS.l0]; rw [if_neg len_nlt]
  | b :: t, p, a, hl, h0, h1 => by
    have ih := markIntS_loop t (p ++ [a]) (a + 1) (by simpa using hl) (by omega) (by simp only [List.length_cons] at h1; omega)
    refine evVal (evRound ih fun k => ?_) (by simp [upFrom]; omega)
    simp only [laws_markIntS.l0]
    rw [if_pos len_lt, if_pos (by omega), next_mid p t b hl, Int.toNat_natCast, set_mid, w64 (by omega) (by simp only [List.length_cons] at h1; omega)]
    simp
theorem markIntS_ev (l : List Int) (a : Int) (hl : l.length ≤ 35184372088832) (h0 : 0 ≤ a) (h1 : a ≤ 1000000000000000000) : Ev (fun k => laws_markIntS.f k l a) (a + l.length, upFrom a l.length) := by
  have := markIntS_loop l [] a (by simp; omega) h0 (by omega)
  simpa [laws_markIntS.f] using this
theorem heldIntS_loop : ∀ (n : Nat) (p : List Int) (a : Int), p.length + n < 35184372088833 → 0 ≤ a → a + n ≤ 9000000000000000000 →
    Ev (fun k => laws_heldIntS.l0 k (p ++ upFrom a n) a (p.length : Int)) (a + n)
  | 0, p, a, _, _, _ => by
    rw [show upFrom a 0 = [] from rfl]
    refine evVal (evRound (Ev.now a) fun k => ?_) (by simp)
    simp only [laws_heldIntS.l0]; rw [if_neg len_nlt]
  | n + 1, p, a, hl, h0, h1 => by
    have ih := heldIntS_loop n (p ++ [a]) (a + 1) (by simp; omega) (by omega) (by omega)
    rw [← app_mid] at ih
    rw [show upFrom a (n + 1) = a :: upFrom (a + 1) n from rfl]
    refine evVal (evRound ih fun k => ?_) (by omega)
    simp only [laws_heldIntS.l0]
    rw [if_pos len_lt, if_pos (by omega), rd_mid, if_pos rfl, next_mid p (upFrom (a + 1) n) a (by simp [upFrom_len]; omega), w64 (by omega) (by omega)]
theorem heldIntS_ev (n : Nat) (a : Int) (hl : n ≤ 35184372088832) (h0 : 0 ≤ a) (h1 : a ≤ 1000000000000000000) : Ev (fun k => laws_heldIntS.f k (upFrom a n) a) (a + n) := by
  have := heldIntS_loop n [] a (by simp; omega) h0 (by omega)
  simpa [laws_heldIntS.f] using this
theorem markView_ev (b : Int) (l1 l2 : List Int) (a : Int) (h1 : l1.length ≤ 35184372088832) (h2 : l2.length ≤ 35184372088832) (h0 : 0 ≤ a) (ha : a ≤ 1000000000000) :
    Ev (fun k => laws_markView.f k b l1 l2 a) (a + l1.length + l2.length, upFrom a l1.length, upFrom (a + l1.length) l2.length) := by
  simp only [laws_markView.f]
  exact Ev.bind (markIntS_ev l1 a h1 h0 (by omega)) (Ev.bind (markIntS_ev l2 (a + l1.length) h2 (by omega) (by omega)) (Ev.now _))
theorem heldView_ev (b : Int) (n m : Nat) (a : Int) (h1 : n ≤ 35184372088832) (h2 : m ≤ 35184372088832) (h0 : 0 ≤ a) (ha : a ≤ 1000000000000) :
    Ev (fun k => laws_heldView.f k b (upFrom a n) (upFrom (a + n) m) a) (a + n + m) := by
  simp only [laws_heldView.f]
  refine Ev.bind (heldIntS_ev n a h1 h0 (by omega)) ?_
  simp only [show ¬ a + (n : Int) < 0 by omega, if_false]
  refine Ev.bind (heldIntS_ev m (a + n) h2 (by omega) (by omega)) ?_
  simp only [show ¬ a + (n : Int) + (m : Int) < 0 by omega, if_false]
  exact Ev.now _

/-! ### strides -/
theorem shOk_len {l : List Int} (h : shOk l = true) : l.length ≤ 5 := by
  simp only [shOk, Bool.and_eq_true, decide_eq_true_eq] at h; exact h.1
theorem shOk_range {l : List Int} (h : shOk l = true) : ∀ a ∈ l, 0 ≤ a ∧ a ≤ 10000 := by
  simp only [shOk, Bool.and_eq_true, decide_eq_true_eq] at h; exact shGo_range h.2
end Go.Proofs.Ytipjhbngbaifeaa.PA

namespace Go.Proofs.Ytipjhbngbaifeaa.PA
open Go.RowKit Go.Proofs.YtipjhbngbaifeaaW.PrintWords Go.Proofs.YtipjhbngbaifeaaW.PrintLast Go.Proofs.YtipjhbngbaifeaaW.PrintMore
set_option linter.unusedVariables false
set_option linter.unusedSimpArgs false
def inR (x : Int) : Bool := decide (-10000 ≤ x ∧ x ≤ 10000)
def pad5 (l : List Int) : List Int := l ++ List.replicate (5 - l.length) 0
def zero12 : List Int := List.replicate 12 0
def formedB (off : Int) (l1 l2 : List Int) : Bool := shOk l1 && decide (l2.length = l1.length) && inR off && l2.all inR
def formedL (off : Int) (l1 l2 : List Int) : List Int := if formedB off l1 l2 then off :: (l1.length : Int) :: (pad5 l1 ++ pad5 l2) else zero12
theorem pad5_len {l : List Int} (h : l.length ≤ 5) : (pad5 l).length = 5 := by simp [pad5]; omega
theorem formedL_len {off : Int} {l1 l2 : List Int} : (formedL off l1 l2).length = 12 := by
  unfold formedL
  by_cases h : formedB off l1 l2 = true
  · rw [if_pos h]
    simp only [formedB, Bool.and_eq_true, decide_eq_true_eq] at h
    have h5 := shOk_len h.1.1.1
    simp [pad5_len h5, pad5_len (show l2.length ≤ 5 by omega)]
  · rw [if_neg h]; rfl
set_option maxHeartbeats 2000000 in
set_option maxRecDepth 100000 in
theorem formed_a (k : Nat) (off : Int) (A1 A2 : Option Addr) (c1 c2 : Nat) (l1 l2 : List Int) (w : World) (hr1 : Kd.C (Kd.int .i64) w A1 l1.length l1) (hc1 : l1.length ≤ c1) (hr2 : Kd.C (Kd.int .i64) w A2 l2.length l2) (hc2 : l2.length ≤ c2)
    (hk : impl_shapeOk.f k l1 = some (shSize l1)) (h : shOk l1 = false) :
    Calls Try.prog 63 #[.agg #[.int .i64 off, .slice A1 l1.length c1, .slice A2 l2.length c2]] w fun e w' => e = .returned (.tuple #[.agg (lay zero12), .bool false]) ∧ Below w.heap.size w w' := by
  have HR1 := Aside0.mk hr1
  have HC1 := Aside0.mk hc1
  have HR2 := Aside0.mk hr2
  have HC2 := Aside0.mk hc2
  clear hr1 hc1 hr2 hc2
  have e : shSize l1 = (0, false) := by simp [shSize, h]
  rw [e] at hk
  have HK := Aside0.mk hk
  clear hk e h
  go_enter Try.func63, Try.ntmps63
  go_wp2_with (first | ((with_reducible refine gate_dst (N := 1) rfl ?_); refine box_event ?hg (N := 1) ?hd (cs := #[.int .i64 off, .slice A1 l1.length c1, .slice A2 l2.length c2]) (t := 33) ?hr ?_; (case hd => rfl); (case hg => rfl); (case hr => first | (go_simp; done) | (go_simp; rfl)); intro g1 hg1 w1 hb1 hB1; have HB1 := Aside0.mk hb1; have HW := Aside0.mk hB1; have HG1 := Aside0.mk hg1; clear hb1 hB1 hg1) | ((with_reducible refine gate_dst (N := 2) rfl ?_); refine box_event ?hg (N := 2) ?hd (cs := lay zero12) (t := 67) ?hr ?_; (case hd => rfl); (case hg => rfl); (case hr => first | (go_simp; done) | (go_simp; rfl)); intro g2 hg2 w2 hb2 hB2; have HB2 := Aside0.mk hb2; have nw := Aside0.mk (below_step HW.out hB2); have HLT := Aside0.mk (show g1 < g2 by have := blk_lt HB1.out; omega); have HGE := Aside0.mk (show w.heap.size ≤ g2 by have h1 := blk_lt HB1.out; have h2 := HG1.out; omega); have n1 := Aside0.mk (blk_below HB1.out hB2); clear HB1 HW; have HB1 := n1; have HW := nw; clear n1 nw; clear hb2 hB2 hg2; have hv0 : w2.cell? ⟨g1, 0, none⟩ = some (.int .i64 off) := (blk_cell HB1.out 0).trans rfl; have hv1 : w2.cell? ⟨g1, 1, none⟩ = some (.slice A1 l1.length c1) := (blk_cell HB1.out 1).trans rfl; have hv2 : w2.cell? ⟨g1, 2, none⟩ = some (.slice A2 l2.length c2) := (blk_cell HB1.out 2).trans rfl) | (go_at_call 52; refine (impl_shapeOk.calls k _ _ l1 0 false _ ?s1 ?s2 HK.out).mono ?_; (case s1 => exact Kd.C_below HR1.out HW.out); (case s2 => exact HC1.out); rintro e w5 ⟨rfl, ⟨⟨n5, rfl⟩⟩⟩) | ((with_reducible refine gate_store rfl ?_); refine wpList_store_row rfl 67 (.tmp 2) (.tmp 32) rfl g2 (lay zero12) rfl rfl 67 (lay zero12) (by (with_reducible repeat (first | refine blk_drew ?_ | refine blk_drewN ?_ _ | refine blk_alloc ?_ _)); exact HB2.out) (info67 _ rfl) rfl (lay_one _) ?_))
  refine bodyPost_ret (results_ct rfl _ _ g2 67 (lay zero12) (0, 0) _ rfl (setRow_heap _ g2 _ _ _ (0, 0) (by (with_reducible repeat (first | refine blk_drew ?_ | refine blk_drewN ?_ _ | refine blk_alloc ?_ _)); exact HB2.out)) Try.underlying67 rfl (info67 _ rfl)) rfl ⟨rfl, below_setRow (by repeat (first | exact HW.out | apply below_drew1 | apply pw_below_drewN)) HGE.out _⟩
set_option maxHeartbeats 2000000 in
set_option maxRecDepth 100000 in
theorem formed_b (k : Nat) (off : Int) (A1 A2 : Option Addr) (c1 c2 : Nat) (l1 l2 : List Int) (w : World) (hr1 : Kd.C (Kd.int .i64) w A1 l1.length l1) (hc1 : l1.length ≤ c1) (hr2 : Kd.C (Kd.int .i64) w A2 l2.length l2) (hc2 : l2.length ≤ c2)
    (hk : impl_shapeOk.f k l1 = some (shSize l1)) (h : shOk l1 = true) (hne : l2.length ≠ l1.length) :
    Calls Try.prog 63 #[.agg #[.int .i64 off, .slice A1 l1.length c1, .slice A2 l2.length c2]] w fun e w' => e = .returned (.tuple #[.agg (lay zero12), .bool false]) ∧ Below w.heap.size w w' := by
  have HR1 := Aside0.mk hr1
  have HC1 := Aside0.mk hc1
  have HR2 := Aside0.mk hr2
  have HC2 := Aside0.mk hc2
  clear hr1 hc1 hr2 hc2
  have e : shSize l1 = (prod l1, true) := by simp [shSize, h]
  rw [e] at hk
  have HK := Aside0.mk hk
  clear hk e h
  have q1 : ((l2.length : Int) != (l1.length : Int)) = true := by simp; omega
  have q2 : (l2.length != l1.length) = true := by simpa using hne
  have q3 : ((l2.length : Int) == (l1.length : Int)) = false := by simp; omega
  clear hne
  go_enter Try.func63, Try.ntmps63
  go_wp2_with (first | ((with_reducible refine gate_dst (N := 1) rfl ?_); refine box_event ?hg (N := 1) ?hd (cs := #[.int .i64 off, .slice A1 l1.length c1, .slice A2 l2.length c2]) (t := 33) ?hr ?_; (case hd => rfl); (case hg => rfl); (case hr => first | (go_simp; done) | (go_simp; rfl)); intro g1 hg1 w1 hb1 hB1; have HB1 := Aside0.mk hb1; have HW := Aside0.mk hB1; have HG1 := Aside0.mk hg1; clear hb1 hB1 hg1) | ((with_reducible refine gate_dst (N := 2) rfl ?_); refine box_event ?hg (N := 2) ?hd (cs := lay zero12) (t := 67) ?hr ?_; (case hd => rfl); (case hg => rfl); (case hr => first | (go_simp; done) | (go_simp; rfl)); intro g2 hg2 w2 hb2 hB2; have HB2 := Aside0.mk hb2; have nw := Aside0.mk (below_step HW.out hB2); have HLT := Aside0.mk (show g1 < g2 by have := blk_lt HB1.out; omega); have HGE := Aside0.mk (show w.heap.size ≤ g2 by have h1 := blk_lt HB1.out; have h2 := HG1.out; omega); have n1 := Aside0.mk (blk_below HB1.out hB2); clear HB1 HW; have HB1 := n1; have HW := nw; clear n1 nw; clear hb2 hB2 hg2; have hv0 : w2.cell? ⟨g1, 0, none⟩ = some (.int .i64 off) := (blk_cell HB1.out 0).trans rfl; have hv1 : w2.cell? ⟨g1, 1, none⟩ = some (.slice A1 l1.length c1) := (blk_cell HB1.out 1).trans rfl; have hv2 : w2.cell? ⟨g1, 2, none⟩ = some (.slice A2 l2.length c2) := (blk_cell HB1.out 2).trans rfl) | (go_at_call 52; refine (impl_shapeOk.calls k _ _ l1 (prod l1) true _ ?s1 ?s2 HK.out).mono ?_; (case s1 => exact Kd.C_below HR1.out HW.out); (case s2 => exact HC1.out); rintro e w5 ⟨rfl, ⟨⟨n5, rfl⟩⟩⟩) | ((with_reducible refine gate_store rfl ?_); refine wpList_store_row rfl 67 (.tmp 2) (.tmp 32) rfl g2 (lay zero12) rfl rfl 67 (lay zero12) (by (with_reducible repeat (first | refine blk_drew ?_ | refine blk_drewN ?_ _ | refine blk_alloc ?_ _)); exact HB2.out) (info67 _ rfl) rfl (lay_one _) ?_))
  refine bodyPost_ret (results_ct rfl _ _ g2 67 (lay zero12) (0, 0) _ rfl (setRow_heap _ g2 _ _ _ (0, 0) (by (with_reducible repeat (first | refine blk_drew ?_ | refine blk_drewN ?_ _ | refine blk_alloc ?_ _)); exact HB2.out)) Try.underlying67 rfl (info67 _ rfl)) rfl ⟨rfl, below_setRow (by repeat (first | exact HW.out | apply below_drew1 | apply pw_below_drewN)) HGE.out _⟩
set_option maxHeartbeats 2000000 in
set_option maxRecDepth 100000 in
theorem formed_c (k : Nat) (off : Int) (A1 A2 : Option Addr) (c1 c2 : Nat) (l1 l2 : List Int) (w : World) (hr1 : Kd.C (Kd.int .i64) w A1 l1.length l1) (hc1 : l1.length ≤ c1) (hr2 : Kd.C (Kd.int .i64) w A2 l2.length l2) (hc2 : l2.length ≤ c2)
    (hk : impl_shapeOk.f k l1 = some (shSize l1)) (h : shOk l1 = true) (hne : l2.length = l1.length) (ho : inR off = false) :
    Calls Try.prog 63 #[.agg #[.int .i64 off, .slice A1 l1.length c1, .slice A2 l2.length c2]] w fun e w' => e = .returned (.tuple #[.agg (lay zero12), .bool false]) ∧ Below w.heap.size w w' := by
  have HR1 := Aside0.mk hr1
  have HC1 := Aside0.mk hc1
  have HR2 := Aside0.mk hr2
  have HC2 := Aside0.mk hc2
  clear hr1 hc1 hr2 hc2
  have e : shSize l1 = (prod l1, true) := by simp [shSize, h]
  rw [e] at hk
  have HK := Aside0.mk hk
  clear hk e h
  have q1 : ((l2.length : Int) != (l1.length : Int)) = false := by simp; omega
  have q2 : (l2.length != l1.length) = false := by simpa using hne
  have HI : Aside0 (impl_within.f off (-10000) 10000 = some false) := ⟨by rw [within_eq]; exact congrArg some ho⟩
  clear hne ho
  go_enter Try.func63, Try.ntmps63
  go_wp2_with (first | ((with_reducible refine gate_dst (N := 1) rfl ?_); refine box_event ?hg (N := 1) ?hd (cs := #[.int .i64 off, .slice A1 l1.length c1, .slice A2 l2.length c2]) (t := 33) ?hr ?_; (case hd => rfl); (case hg => rfl); (case hr => first | (go_simp; done) | (go_simp; rfl)); intro g1 hg1 w1 hb1 hB1; have HB1 := Aside0.mk hb1; have HW := Aside0.mk hB1; have HG1 := Aside0.mk hg1; clear hb1 hB1 hg1) | ((with_reducible refine gate_dst (N := 2) rfl ?_); refine box_event ?hg (N := 2) ?hd (cs := lay zero12) (t := 67) ?hr ?_; (case hd => rfl); (case hg => rfl); (case hr => first | (go_simp; done) | (go_simp; rfl)); intro g2 hg2 w2 hb2 hB2; have HB2 := Aside0.mk hb2; have nw := Aside0.mk (below_step HW.out hB2); have HLT := Aside0.mk (show g1 < g2 by have := blk_lt HB1.out; omega); have HGE := Aside0.mk (show w.heap.size ≤ g2 by have h1 := blk_lt HB1.out; have h2 := HG1.out; omega); have n1 := Aside0.mk (blk_below HB1.out hB2); clear HB1 HW; have HB1 := n1; have HW := nw; clear n1 nw; clear hb2 hB2 hg2; have hv0 : w2.cell? ⟨g1, 0, none⟩ = some (.int .i64 off) := (blk_cell HB1.out 0).trans rfl; have hv1 : w2.cell? ⟨g1, 1, none⟩ = some (.slice A1 l1.length c1) := (blk_cell HB1.out 1).trans rfl; have hv2 : w2.cell? ⟨g1, 2, none⟩ = some (.slice A2 l2.length c2) := (blk_cell HB1.out 2).trans rfl) | (go_at_call 52; refine (impl_shapeOk.calls k _ _ l1 (prod l1) true _ ?s1 ?s2 HK.out).mono ?_; (case s1 => exact Kd.C_below HR1.out HW.out); (case s2 => exact HC1.out); rintro e w5 ⟨rfl, ⟨⟨n5, rfl⟩⟩⟩) | (go_at_call 54; refine (impl_within.calls _ _ _ false _ HI.out).mono ?_; rintro e w6 ⟨rfl, ⟨⟨n6, rfl⟩⟩⟩) | ((with_reducible refine gate_store rfl ?_); refine wpList_store_row rfl 67 (.tmp 2) (.tmp 32) rfl g2 (lay zero12) rfl rfl 67 (lay zero12) (by (with_reducible repeat (first | refine blk_drew ?_ | refine blk_drewN ?_ _ | refine blk_alloc ?_ _)); exact HB2.out) (info67 _ rfl) rfl (lay_one _) ?_))
  refine bodyPost_ret (results_ct rfl _ _ g2 67 (lay zero12) (0, 0) _ rfl (setRow_heap _ g2 _ _ _ (0, 0) (by (with_reducible repeat (first | refine blk_drew ?_ | refine blk_drewN ?_ _ | refine blk_alloc ?_ _)); exact HB2.out)) Try.underlying67 rfl (info67 _ rfl)) rfl ⟨rfl, below_setRow (by repeat (first | exact HW.out | apply below_drew1 | apply pw_below_drewN)) HGE.out _⟩
end Go.Proofs.Ytipjhbngbaifeaa.PA

namespace Go.Proofs.Ytipjhbngbaifeaa.PA
open Go.RowKit Go.Proofs.YtipjhbngbaifeaaW.PrintWords Go.Proofs.YtipjhbngbaifeaaW.PrintLast Go.Proofs.YtipjhbngbaifeaaW.PrintMore
set_option linter.unusedVariables false
set_option linter.unusedSimpArgs false
theorem slice_all (a : Addr) (W : World) : (Instr.sliceAt 65 (.pointer (some a)) none none none).run Try.prog W = .ok (.slice (some a) 5 5) W := by
  have hal : Try.prog.arrayLen 65 = 5 := by kernel_rfl
  have hel : Try.prog.elem 65 = 3 := by kernel_rfl
  have := run_sliceAt_array_all (P := Try.prog) (w := W) 65 a (by kernel_rfl)
  rw [hal, hel] at this
  obtain ⟨i, hi, hz⟩ := Option.map_eq_some_iff.1 info3
  rw [this]
  simp [sizeOf, typeInfo, hi, slicedAt, Addr.add]
theorem lay_splice (off n : Int) (l1 : List Int) (h : l1.length ≤ 5) : (splice (nums .i64 (off :: n :: List.replicate 10 0)) 2 (nums .i64 l1)).toArray = lay (off :: n :: (pad5 l1 ++ List.replicate 5 0)) := by
  unfold splice lay pad5
  congr 1
  have e : List.replicate 10 (0 : Int) = List.replicate l1.length 0 ++ (List.replicate (5 - l1.length) 0 ++ List.replicate 5 0) := by
    rw [List.replicate_append_replicate, List.replicate_append_replicate]; congr 1; omega
  rw [e]
  simp only [nums, List.map_cons, List.map_append, List.map_replicate, List.take_succ_cons, List.take_zero, List.length_map, List.drop_succ_cons, Nat.add_comm 2, Nat.add_eq, Nat.add_zero, List.cons_append, List.nil_append, List.append_assoc]
  rw [List.drop_left' (by simp)]
theorem lay_next {off n : Int} {l1 l2 : List Int} {j : Nat} {x : Int} (h5 : l1.length ≤ 5) (hne : l2.length = l1.length) (hj : j < l2.length) (hx : x = l2[j]) :
    (off :: n :: (pad5 l1 ++ (l2.take j ++ List.replicate (5 - j) 0))).set (7 + j) x = off :: n :: (pad5 l1 ++ (l2.take (j + 1) ++ List.replicate (5 - (j + 1)) 0)) := by
  have hp := pad5_len h5
  rw [show 7 + j = (5 + j) + 1 + 1 by omega, List.set_cons_succ, List.set_cons_succ, List.set_append_right _ _ (by omega), hp, show 5 + j - 5 = j by omega, List.set_append_right _ _ (by simp; omega), List.take_succ_eq_append_getElem hj]
  rw [show 5 - j = (5 - (j + 1)) + 1 by omega, List.replicate_succ]
  have : j - (List.take j l2).length = 0 := by simp; omega
  rw [this, hx]
  simp only [List.set_cons_zero, List.append_assoc, List.cons_append, List.nil_append]
set_option maxHeartbeats 2000000 in
set_option maxRecDepth 100000 in
theorem formed_d (k : Nat) (off : Int) (A1 A2 : Option Addr) (c1 c2 : Nat) (l1 l2 : List Int) (w : World) (hr1 : Kd.C (Kd.int .i64) w A1 l1.length l1) (hc1 : l1.length ≤ c1) (hr2 : Kd.C (Kd.int .i64) w A2 l2.length l2) (hc2 : l2.length ≤ c2)
    (hk : impl_shapeOk.f k l1 = some (shSize l1)) (h : shOk l1 = true) (hne : l2.length = l1.length) (ho : inR off = true) :
    Calls Try.prog 63 #[.agg #[.int .i64 off, .slice A1 l1.length c1, .slice A2 l2.length c2]] w fun e w' => e = .returned (.tuple #[.agg (lay (formedL off l1 l2)), .bool (formedB off l1 l2)]) ∧ Below w.heap.size w w' := by
  have HR1 := Aside0.mk hr1
  have HC1 := Aside0.mk hc1
  have HR2 := Aside0.mk hr2
  have HC2 := Aside0.mk hc2
  clear hr1 hc1 hr2 hc2
  have e : shSize l1 = (prod l1, true) := by simp [shSize, h]
  rw [e] at hk
  have HK := Aside0.mk hk
  have H5 := Aside0.mk (shOk_len h)
  clear hk e
  have HOK := Aside0.mk h
  clear h
  have q1 : ((l2.length : Int) != (l1.length : Int)) = false := by simp; omega
  have q2 : (l2.length != l1.length) = false := by simpa using hne
  have HI : Aside0 (impl_within.f off (-10000) 10000 = some true) := ⟨by rw [within_eq]; exact congrArg some ho⟩
  have HNE := Aside0.mk hne
  have HO := Aside0.mk ho
  clear hne ho
  go_enter Try.func63, Try.ntmps63
  go_upto_region 5 with (first | ((with_reducible refine gate_dst (N := 1) rfl ?_); refine box_event ?hg (N := 1) ?hd (cs := #[.int .i64 off, .slice A1 l1.length c1, .slice A2 l2.length c2]) (t := 33) ?hr ?_; (case hd => rfl); (case hg => rfl); (case hr => first | (go_simp; done) | (go_simp; rfl)); intro g1 hg1 w1 hb1 hB1; have HB1 := Aside0.mk hb1; have HW := Aside0.mk hB1; have HG1 := Aside0.mk hg1; clear hb1 hB1 hg1) | ((with_reducible refine gate_dst (N := 2) rfl ?_); refine box_event ?hg (N := 2) ?hd (cs := lay zero12) (t := 67) ?hr ?_; (case hd => rfl); (case hg => rfl); (case hr => first | (go_simp; done) | (go_simp; rfl)); intro g2 hg2 w2 hb2 hB2; have HB2 := Aside0.mk hb2; have nw := Aside0.mk (below_step HW.out hB2); have HLT := Aside0.mk (show g1 < g2 by have := blk_lt HB1.out; omega); have HGE := Aside0.mk (show w.heap.size ≤ g2 by have h1 := blk_lt HB1.out; have h2 := HG1.out; omega); have n1 := Aside0.mk (blk_below HB1.out hB2); clear HB1 HW; have HB1 := n1; have HW := nw; clear n1 nw; clear hb2 hB2 hg2; have hv0 : w2.cell? ⟨g1, 0, none⟩ = some (.int .i64 off) := (blk_cell HB1.out 0).trans rfl; have hv1 : w2.cell? ⟨g1, 1, none⟩ = some (.slice A1 l1.length c1) := (blk_cell HB1.out 1).trans rfl; have hv2 : w2.cell? ⟨g1, 2, none⟩ = some (.slice A2 l2.length c2) := (blk_cell HB1.out 2).trans rfl) | (go_at_call 52; refine (impl_shapeOk.calls k _ _ l1 (prod l1) true _ ?s1 ?s2 HK.out).mono ?_; (case s1 => exact Kd.C_below HR1.out HW.out); (case s2 => exact HC1.out); rintro e w5 ⟨rfl, ⟨⟨n5, rfl⟩⟩⟩) | (go_at_call 54; refine (impl_within.calls _ _ _ true _ HI.out).mono ?_; rintro e w6 ⟨rfl, ⟨⟨n6, rfl⟩⟩⟩) | ((with_reducible refine gate_dst (N := 6) rfl ?_); refine box_event ?hg (N := 6) ?hd (cs := lay zero12) (t := 67) ?hr ?_; (case hd => rfl); (case hg => rfl); (case hr => first | (go_simp; done) | (go_simp; rfl)); intro g3 hg3 w3 hb3 hB3; have HB3 := Aside0.mk hb3; have nw := Aside0.mk (below_step (by repeat (first | exact HW.out | apply below_drew1 | apply pw_below_drewN)) hB3); have HLT2 := Aside0.mk (show g2 < g3 by have := blk_lt HB2.out; have e := hg3; simp at e; omega); have n1 := Aside0.mk (blk_below (g := g1) (o := .cells #[.int .i64 off, .slice A1 l1.length c1, .slice A2 l2.length c2] 33 (0, 0)) (by (with_reducible repeat (first | refine blk_drew ?_ | refine blk_drewN ?_ _ | refine blk_alloc ?_ _)); exact HB1.out) hB3); have n2 := Aside0.mk (blk_below (g := g2) (o := .cells (lay zero12) 67 (0, 0)) (by (with_reducible repeat (first | refine blk_drew ?_ | refine blk_drewN ?_ _ | refine blk_alloc ?_ _)); exact HB2.out) hB3); clear HB1 HB2 HW; have HB1 := n1; have HB2 := n2; have HW := nw; clear n1 n2 nw; clear hb3 hB3 hg3) | ((with_reducible refine gate_store rfl ?_); refine wpList_store_row rfl 67 (.tmp 6) (.tmp 38) rfl g3 (lay (off :: (l1.length : Int) :: List.replicate 10 0)) rfl rfl 67 (lay zero12) HB3.out (info67 _ rfl) rfl (lay_one _) ?_))
  have NE1 := Aside0.mk (show g1 ≠ g3 by have := HLT.out; have := HLT2.out; omega)
  have NE2 := Aside0.mk (show g2 ≠ g3 by have := HLT2.out; omega)
  have B1 := Aside0.mk ((setRow_other w3 g3 g1 (lay (off :: (l1.length : Int) :: List.replicate 10 0)) NE1.out).trans HB1.out)
  have B2 := Aside0.mk ((setRow_other w3 g3 g2 (lay (off :: (l1.length : Int) :: List.replicate 10 0)) NE2.out).trans HB2.out)
  have B3 := Aside0.mk (setRow_heap w3 g3 _ (lay (off :: (l1.length : Int) :: List.replicate 10 0)) _ _ HB3.out)
  have BW := Aside0.mk (below_setRow HW.out (show w.heap.size ≤ g3 by have := HGE.out; have := HLT2.out; omega) (lay (off :: (l1.length : Int) :: List.replicate 10 0)))
  obtain ⟨W4, hW4⟩ : ∃ W, w3.setRow g3 (lay (off :: (l1.length : Int) :: List.replicate 10 0)) = W := ⟨_, rfl⟩
  rw [hW4] at B1 B2 B3 BW ⊢
  clear hW4 HB1 HB2 HB3 HW hv0 hv1 hv2
  have hu1 : W4.cell? ⟨g1, 1, none⟩ = some (.slice A1 l1.length c1) := (blk_cell B1.out 1).trans rfl
  have hs := slice_all ⟨g3, 2, none⟩
  have HCR := Aside0.mk (Kd.reads_of_C (d := (0 : Int)) (Kd.C_below HR1.out BW.out))
  go_region_law (refine step_copy_splice rfl (.tmp 40) (.tmp 42) 23 23 rfl 3 Try.underlying23 (by kernel_rfl) (some ⟨g3, 2, none⟩) A1 5 5 l1.length c1 rfl rfl g3 2 (nums .i64 (off :: (l1.length : Int) :: List.replicate 10 0)) 67 B3.out (nums .i64 l1) ?hn ?hpos ?hfit ?h1 g3 W4.drew (Below.refl _ _) (Nat.le_refl _) ?_; (case hn => rw [nums_length]; exact (Nat.min_eq_left H5.out).symm); (case hpos => intro hp; rw [nums_length] at hp; obtain ⟨ad, e, hc⟩ := HCR.out.2.2 hp; refine ⟨rfl, ad, e, fun j v hv => ?_⟩; simp only [nums, List.getElem?_map, Option.map_eq_some_iff] at hv; obtain ⟨x, hx, rfl⟩ := hv; have hj := (List.getElem?_eq_some_iff.1 hx).1; rw [show W4.drew.cell? (ad.add j) = W4.cell? (ad.add j) from rfl, hc j hj]; simp [List.getD_eq_getElem?_getD, hx]); (case hfit => have := H5.out; simp [nums_length]; omega); (case h1 => intro v hv; simp only [nums, List.mem_map] at hv; obtain ⟨x, _, rfl⟩ := hv; rfl); intro W5 hcp hB5)
  have LE := Aside0.mk (show w.heap.size ≤ g3 by have := HGE.out; have := HLT2.out; omega)
  have W5B := Aside0.mk ((below_drew1 BW.out).trans (hB5.mono LE.out))
  have C2 := Aside0.mk ((hB5.block g2 HLT2.out).trans B2.out)
  have hu2 : W5.cell? ⟨g1, 2, none⟩ = some (.slice A2 l2.length c2) := (blk_cell ((hB5.block g1 (show g1 < g3 by have := HLT.out; have := HLT2.out; omega)).trans B1.out) 2).trans rfl
  have C3 := Aside0.mk (by have h0 := hcp.out; rw [lay_splice _ _ _ H5.out] at h0; exact h0 : W5.heap[g3]? = some (.cells (lay (off :: (l1.length : Int) :: (pad5 l1 ++ List.replicate 5 0))) 67 (0, 0)))
  clear hcp hB5 B1 B2 B3 hu1 hs HCR BW
  go_wp2_with fail
  go_loopg [7, 8, 47] (l2.length + 1) (fun kq v7 v8 v47 w' => ∃ j : Nat, v47 = .int .i64 (j : Int) ∧ Aside0 (j + kq = l2.length + 1 ∧ j ≤ l2.length) ∧ Aside0 ((l2.take j).all inR = true) ∧ Aside0 (w'.heap[g2]? = some (.cells (lay zero12) 67 (0, 0))) ∧ Aside0 (w'.heap[g3]? = some (.cells (lay (off :: (l1.length : Int) :: (pad5 l1 ++ (l2.take j ++ List.replicate (5 - j) 0)))) 67 (0, 0))) ∧ Aside0 (Below w.heap.size w w'))
  case atStart => exact ⟨0, rfl, ⟨by omega⟩, ⟨rfl⟩, C2, C3, W5B⟩
  case round =>
    clear C2 C3 W5B hu2
    obtain ⟨j, rfl, HJ, HA, D2, D3, HW⟩ := hrel
    have HL12 := Aside0.mk (show (off :: (l1.length : Int) :: (pad5 l1 ++ (l2.take j ++ List.replicate (5 - j) 0))).length = 12 by have := HJ.out; have := H5.out; have := HNE.out; simp [pad5_len H5.out]; omega)
    cases gk with
    | zero => exact absurd HJ.out (by omega)
    | succ k1 =>
      by_cases hj : j < l2.length
      · have p1 : 0 ≤ (j : Int) := by omega
        have p2 : (j : Int) < (l2.length : Int) := by omega
        obtain ⟨ad1, e1, hx1⟩ := Kd.at_int (Kd.C_below HR2.out HW.out) (j : Int) p1 p2
        cases e1
        rw [Int.toNat_natCast] at hx1
        have hjb := decide_eq_true p2
        have hja := decide_eq_true p1
        replace p1 := eq_true p1
        replace p2 := eq_true p2
        have HJL := Aside0.mk hj
        have HX := Aside0.mk (show rd l2 (j : Int) = l2[j]'HJL.out by simp [rd, HJL.out])
        have hm : j < 5 := by have := HNE.out; have := H5.out; omega
        clear hj
        by_cases hin : inR (rd l2 (j : Int)) = true
        · have HI2 : Aside0 (impl_within.f (rd l2 (j : Int)) (-10000) 10000 = some true) := ⟨by rw [within_eq]; exact congrArg some hin⟩
          have hcc := lay_cell D3.out (7 + j) (by have := HL12.out; omega)
          have hff := blk_frozen D3.out (7 + j)
          go_wp2_with (first | (go_at_call 54; refine (impl_within.calls _ _ _ true _ HI2.out).mono ?_; rintro e w6 ⟨rfl, ⟨⟨n6, rfl⟩⟩⟩))
          go_roundg k1
          case measure => omega
          case rel =>
            refine ⟨j + 1, rfl, ⟨by have := HJ.out; have := HJL.out; omega⟩, ⟨?_⟩, ⟨blk_farG (by (with_reducible repeat (first | refine blk_drew ?_ | refine blk_drewN ?_ _)); exact D2.out) NE2.out _⟩, ⟨?_⟩, ⟨below_set (by repeat (first | (with_reducible first | exact HW.out | apply below_drew1 | apply pw_below_drewN) | exact HW.out)) LE.out⟩⟩
            · rw [List.take_succ_eq_append_getElem HJL.out, List.all_append, HA.out]
              simp only [List.all_cons, List.all_nil, Bool.and_true, Bool.true_and]
              rw [← HX.out]; exact hin
            · have h0 := lay_put (t := 67) (by (with_reducible repeat (first | refine blk_drew ?_ | refine blk_drewN ?_ _)); exact D3.out) (7 + j) (rd l2 (j : Int))
              rw [lay_next H5.out HNE.out HJL.out HX.out] at h0
              exact h0
        · have HI2 : Aside0 (impl_within.f (rd l2 (j : Int)) (-10000) 10000 = some false) := ⟨by rw [within_eq]; exact congrArg some ((Bool.not_eq_true _).mp hin)⟩
          have HNO : Aside0 (formedB off l1 l2 = false) := ⟨by
            unfold formedB
            rw [Bool.and_eq_false_iff]; right
            rw [List.all_eq_false]
            exact ⟨l2[j]'HJL.out, List.getElem_mem _, by rw [← HX.out]; exact hin⟩⟩
          clear hin
          have HNL : Aside0 (formedL off l1 l2 = zero12) := ⟨by unfold formedL; rw [HNO.out]; rfl⟩
          go_wp2_with (first | (go_at_call 54; refine (impl_within.calls _ _ _ false _ HI2.out).mono ?_; rintro e w6 ⟨rfl, ⟨⟨n6, rfl⟩⟩⟩) | ((with_reducible refine gate_store rfl ?_); refine wpList_store_row rfl 67 (.tmp 2) (.tmp 55) rfl g2 (lay zero12) rfl rfl 67 (lay zero12) (by (with_reducible repeat (first | refine blk_drew ?_ | refine blk_drewN ?_ _ | refine blk_alloc ?_ _)); exact D2.out) (info67 _ rfl) rfl (lay_one _) ?_))
          refine bodyPost_ret (results_ct rfl _ _ g2 67 (lay zero12) (0, 0) _ rfl (setRow_heap _ g2 _ _ _ (0, 0) (by (with_reducible repeat (first | refine blk_drew ?_ | refine blk_drewN ?_ _ | refine blk_alloc ?_ _)); exact D2.out)) Try.underlying67 rfl (info67 _ rfl)) rfl ⟨by rw [HNO.out, HNL.out]; rfl, below_setRow (by repeat (first | (with_reducible first | exact HW.out | apply below_drew1 | apply pw_below_drewN) | exact HW.out)) HGE.out _⟩
      · have hjb : decide ((j : Int) < (l2.length : Int)) = false := decide_eq_false (by omega)
        have hjc : decide (j < l2.length) = false := decide_eq_false hj
        have hjd : (j < l2.length) = False := eq_false hj
        have HYES : Aside0 (formedB off l1 l2 = true) := ⟨by
          have hl := HA.out
          rw [List.take_of_length_le (by omega)] at hl
          simp [formedB, HOK.out, HNE.out, HO.out, hl]⟩
        have HYL : Aside0 ((off :: (l1.length : Int) :: (pad5 l1 ++ (l2.take j ++ List.replicate (5 - j) 0))) = formedL off l1 l2) := ⟨by
          unfold formedL
          rw [if_pos HYES.out]
          have := HJ.out
          rw [List.take_of_length_le (by omega), show j = l2.length by omega]; rfl⟩
        clear hj
        go_wp2_with (first | ((with_reducible refine gate_dst (N := 61) rfl ?_); refine wpList_load_row rfl 67 (.tmp 6) rfl g3 rfl 67 (lay _) (0, 0) _ (by (with_reducible repeat (first | refine blk_drew ?_ | refine blk_drewN ?_ _ | refine blk_alloc ?_ _)); exact D3.out) Try.underlying67 rfl (info67 _ HL12.out) ?_) | ((with_reducible refine gate_store rfl ?_); refine wpList_store_row rfl 67 (.tmp 2) (.tmp 61) rfl g2 (lay (off :: (l1.length : Int) :: (pad5 l1 ++ (l2.take j ++ List.replicate (5 - j) 0)))) rfl rfl 67 (lay zero12) (by (with_reducible repeat (first | refine blk_drew ?_ | refine blk_drewN ?_ _ | refine blk_alloc ?_ _)); exact D2.out) (info67 _ HL12.out) (by rw [lay_size, lay_size, HL12.out]; rfl) (lay_one _) ?_))
        refine bodyPost_ret (results_ct rfl _ _ g2 67 (lay (off :: (l1.length : Int) :: (pad5 l1 ++ (l2.take j ++ List.replicate (5 - j) 0)))) (0, 0) _ rfl (setRow_heap _ g2 _ _ _ (0, 0) (by (with_reducible repeat (first | refine blk_drew ?_ | refine blk_drewN ?_ _ | refine blk_alloc ?_ _)); exact D2.out)) Try.underlying67 rfl (info67 _ HL12.out)) rfl ⟨by rw [HYES.out, ← HYL.out]; rfl, below_setRow (by repeat (first | (with_reducible first | exact HW.out | apply below_drew1 | apply pw_below_drewN) | exact HW.out)) HGE.out _⟩
theorem formed_calls (off : Int) (A1 A2 : Option Addr) (c1 c2 : Nat) (l1 l2 : List Int) (w : World) (hr1 : Kd.C (Kd.int .i64) w A1 l1.length l1) (hc1 : l1.length ≤ c1) (hr2 : Kd.C (Kd.int .i64) w A2 l2.length l2) (hc2 : l2.length ≤ c2) :
    Calls Try.prog 63 #[.agg #[.int .i64 off, .slice A1 l1.length c1, .slice A2 l2.length c2]] w fun e w' => e = .returned (.tuple #[.agg (lay (formedL off l1 l2)), .bool (formedB off l1 l2)]) ∧ Below w.heap.size w w' := by
  obtain ⟨k, hk0⟩ := shapeOk_ev l1
  have hk := hk0 k (Nat.le_refl _)
  by_cases h : shOk l1 = true
  · by_cases hne : l2.length = l1.length
    · by_cases ho : inR off = true
      · exact formed_d k off A1 A2 c1 c2 l1 l2 w hr1 hc1 hr2 hc2 hk h hne ho
      · have e : formedB off l1 l2 = false := by simp [formedB, (Bool.not_eq_true _).mp ho]
        have e2 : formedL off l1 l2 = zero12 := by simp [formedL, e]
        rw [e, e2]; exact formed_c k off A1 A2 c1 c2 l1 l2 w hr1 hc1 hr2 hc2 hk h hne ((Bool.not_eq_true _).mp ho)
    · have e : formedB off l1 l2 = false := by simp [formedB, hne]
      have e2 : formedL off l1 l2 = zero12 := by simp [formedL, e]
      rw [e, e2]; exact formed_b k off A1 A2 c1 c2 l1 l2 w hr1 hc1 hr2 hc2 hk h hne
  · have e : formedB off l1 l2 = false := by simp [formedB, (Bool.not_eq_true _).mp h]
    have e2 : formedL off l1 l2 = zero12 := by simp [formedL, e]
    rw [e, e2]; exact formed_a k off A1 A2 c1 c2 l1 l2 w hr1 hc1 hr2 hc2 hk ((Bool.not_eq_true _).mp h)
end Go.Proofs.Ytipjhbngbaifeaa.PA

namespace Go.Proofs.Ytipjhbngbaifeaa.PA
open Go.RowKit Go.Proofs.YtipjhbngbaifeaaW.PrintWords Go.Proofs.YtipjhbngbaifeaaW.PrintLast Go.Proofs.YtipjhbngbaifeaaW.PrintMore
set_option linter.unusedVariables false
set_option linter.unusedSimpArgs false
theorem formed_n {r : Nat} {l1 l2 : List Int} (e1 : r = l1.length) (e2 : r = l2.length) (off : Int) (A1 A2 : Option Addr) (c1 c2 : Nat) (w : World) (hr1 : Kd.C (Kd.int .i64) w A1 l1.length l1) (hc1 : r ≤ c1) (hr2 : Kd.C (Kd.int .i64) w A2 l2.length l2) (hc2 : r ≤ c2) :
    Calls Try.prog 63 #[.agg #[.int .i64 off, .slice A1 r c1, .slice A2 r c2]] w fun e w' => e = .returned (.tuple #[.agg (lay (formedL off l1 l2)), .bool (formedB off l1 l2)]) ∧ Below w.heap.size w w' := by
  have h := formed_calls off A1 A2 c1 c2 l1 l2 w hr1 (e1 ▸ hc1) hr2 (e2 ▸ hc2)
  rw [← e1, ← e2] at h
  exact h
theorem R_row67 {w : World} {base g : Nat} {ok : Nat → Prop} {v : Value} {xs : List Int} {cells : Array Value} (h : (Kd.int .i64).R 3 w base ok v xs) (hb : w.heap[g]? = some (.cells cells 67 (0, 0))) (cs : Array Value) : (Kd.int .i64).R 3 (w.setRow g cs) base ok v xs :=
  Kd.R_mono (Kd.R_step (Kd.R_types h hb (by intro q hq; simp [Kd.int, Kd.scalar] at hq; omega)) (fun k hk _ => setRow_other w g k cs hk.2)) (fun _ hk => hk.1)
set_option maxHeartbeats 2000000 in
set_option maxRecDepth 100000 in
theorem view_diff_ok (l b : List Int) (r : Nat) (hl : l.length = 12) (hb : b.length = 12) (hr : gi l 1 = (r : Int)) (h5 : r ≤ 5) (hd : l ≠ b) (hf : formedB (gi l 0) ((l.drop 2).take r) ((l.drop 7).take r) = true) (w : World) :
    Calls Try.prog 72 #[.agg (lay l), .agg (lay b)] w fun e w' => ∃ v1_ v2_ : Value, e = .returned (.tuple #[.agg #[.int .i64 (gi l 0), v1_, v2_], .bool true]) ∧ Kd.R (Kd.int .i64) 3 w' w.heap.size (fun k_ => some k_ ≠ (v2_ : Value).ownBlock) v1_ ((l.drop 2).take r) ∧ Kd.R (Kd.int .i64) 3 w' w.heap.size (fun k_ => some k_ ≠ (v1_ : Value).ownBlock) v2_ ((l.drop 7).take r) ∧ Below w.heap.size w w' := by
  have HL := Aside0.mk hl
  have HL2 := Aside0.mk hb
  have HR := Aside0.mk hr
  have HD := Aside0.mk hd
  have HF := Aside0.mk hf
  clear hl hb hr hd hf
  go_enter Try.func72, Try.ntmps72
  go_upto_region 1 with (first | ((with_reducible refine gate_dst (N := 2) rfl ?_); refine box_event ?hg (N := 2) ?hd (cs := lay l) (t := 67) ?hr ?_; (case hd => rfl); (case hg => rfl); (case hr => first | (go_simp; done) | (go_simp; rfl)); intro g1 hg1 w1 hb1 hB1; have HB1 := Aside0.mk hb1; have HW := Aside0.mk hB1; have HG1 := Aside0.mk hg1; clear hb1 hB1 hg1) | ((with_reducible refine gate_dst (N := 3) rfl ?_); refine box_event ?hg (N := 3) ?hd (cs := lay b) (t := 67) ?hr ?_; (case hd => rfl); (case hg => rfl); (case hr => first | (go_simp; done) | (go_simp; rfl)); intro g2 hg2 w2 hb2 hB2; have HB2 := Aside0.mk hb2; have nw := Aside0.mk (below_step HW.out hB2); have HG2 := Aside0.mk (show g1 < g2 by have := blk_lt HB1.out; omega); have n1 := Aside0.mk (blk_below HB1.out hB2); clear HB1 HW; have HB1 := n1; have HW := nw; clear n1 nw; clear hb2 hB2 hg2) | ((with_reducible refine gate_dst (N := 4) rfl ?_); refine box_event ?hg (N := 4) ?hd (cs := #[.int .i64 0, .slice none 0 0, .slice none 0 0]) (t := 33) ?hr ?_; (case hd => rfl); (case hg => rfl); (case hr => first | (go_simp; done) | (go_simp; rfl)); intro g3 hg3 w3 hb3 hB3; have HB3 := Aside0.mk hb3; have nw := Aside0.mk (below_step HW.out hB3); have HG3 := Aside0.mk (show g2 < g3 by have := blk_lt HB2.out; omega); have n1 := Aside0.mk (blk_below HB1.out hB3); have n2 := Aside0.mk (blk_below HB2.out hB3); clear HB1 HB2 HW; have HB1 := n1; have HB2 := n2; have HW := nw; clear n1 n2 nw; clear hb3 hB3 hg3))
  have hs1 := slice_arr ⟨g1, 2, none⟩ r h5
  have hs2 := slice_arr ⟨g1, 7, none⟩ r h5
  have hc0 := lay_cell HB1.out 0 (by have := HL.out; omega)
  have hc1 : w3.cell? ⟨g1, 1, none⟩ = some (.int .i64 (r : Int)) := by rw [← HR.out]; exact lay_cell HB1.out 1 (by have := HL.out; omega)
  have HN1_3 := Aside0.mk (Nat.ne_of_lt (blk_lt HB1.out))
  have HN2_3 := Aside0.mk (Nat.ne_of_lt (blk_lt HB2.out))
  have HN3_3 := Aside0.mk (Nat.ne_of_lt (blk_lt HB3.out))
  have HLT3 := Aside0.mk (blk_lt HB3.out)
  have HGE3 := Aside0.mk (below_size HW.out)
  go_cut [6] (fun v W => ViewMade w l b r g1 g2 g3 v W)
  case first =>
    go_region_held3 (fun w' => w'.cell? ⟨g1, 0, none⟩ = some (.int .i64 (gi l 0)) ∧ w'.cell? ⟨g1, 1, none⟩ = some (.int .i64 (r : Int))) (exact ⟨lay_cell (t := 67) (by (with_reducible repeat (first | refine blk_drew ?_ | refine blk_alloc ?_ _ | refine blk_farG ?_ HN1_5.out _ | refine blk_farG ?_ HN2_5.out _ | refine blk_farG ?_ HN3_5.out _ | refine blk_farG ?_ HN1_3.out _ | refine blk_farG ?_ HN2_3.out _ | refine blk_farG ?_ HN3_3.out _)); exact HB1.out) 0 (by have := HL.out; omega), by rw [← HR.out]; exact lay_cell (t := 67) (by (with_reducible repeat (first | refine blk_drew ?_ | refine blk_alloc ?_ _ | refine blk_farG ?_ HN1_5.out _ | refine blk_farG ?_ HN2_5.out _ | refine blk_farG ?_ HN3_5.out _ | refine blk_farG ?_ HN1_3.out _ | refine blk_farG ?_ HN2_3.out _ | refine blk_farG ?_ HN3_3.out _)); exact HB1.out) 1 (by have := HL.out; omega)⟩) (first | (go_at_call_of 57 (Value.slice (some { block := g1, off := 2 }) r 5); refine (clone_at (some ⟨g1, 2, none⟩) r 5 ((l.drop 2).take r) (by have := HL.out; simp; omega) _ (lay_reads (t := 67) (by (with_reducible repeat (first | refine blk_drew ?_ | refine blk_alloc ?_ _ | refine blk_farG ?_ HN1_5.out _ | refine blk_farG ?_ HN2_5.out _ | refine blk_farG ?_ HN3_5.out _ | refine blk_farG ?_ HN1_3.out _ | refine blk_farG ?_ HN2_3.out _ | refine blk_farG ?_ HN3_3.out _)); exact HB1.out) 2 r (by have := HL.out; omega) (by have := HL.out; omega)) h5 (by omega)).mono ?_; rintro e w5 ⟨v1, rfl, ho1, hb5⟩; (try (have hnw : Aside0 (w5.heap[w3.heap.size]? = some (.cells #[.int .i64 0, .slice none 0 0, .slice none 0 0] 33 (0, 0))) := ⟨blk_below (blk_new w3.drew (.cells #[.int .i64 0, .slice none 0 0, .slice none 0 0] 33)) hb5⟩)); obtain ⟨Aa, ca, rfl⟩ := Kd.R_slice ho1; have hla : ((l.drop 2).take r).length = r := (by have := HL.out; simp; omega); rw [hla] at ho1 ⊢; have HO1 := Aside0.mk (Kd.R_lower ho1 (below_size (by repeat (first | (with_reducible first | exact HW.out | apply below_alloc | apply below_drew1) | exact HW.out)))); clear ho1 hla; have n0 := Aside0.mk (blk_below (g := g1) (o := .cells (lay l) 67 (0, 0)) (by (with_reducible repeat (first | refine blk_drew ?_ | refine blk_alloc ?_ _ | refine blk_farG ?_ HN1_5.out _ | refine blk_farG ?_ HN2_5.out _ | refine blk_farG ?_ HN3_5.out _ | refine blk_farG ?_ HN1_3.out _ | refine blk_farG ?_ HN2_3.out _ | refine blk_farG ?_ HN3_3.out _)); exact HB1.out) hb5); have n1 := Aside0.mk (blk_below (g := g2) (o := .cells (lay b) 67 (0, 0)) (by (with_reducible repeat (first | refine blk_drew ?_ | refine blk_alloc ?_ _ | refine blk_farG ?_ HN1_5.out _ | refine blk_farG ?_ HN2_5.out _ | refine blk_farG ?_ HN3_5.out _ | refine blk_farG ?_ HN1_3.out _ | refine blk_farG ?_ HN2_3.out _ | refine blk_farG ?_ HN3_3.out _)); exact HB2.out) hb5); have n2 := Aside0.mk (blk_below (g := g3) (o := .cells #[.int .i64 0, .slice none 0 0, .slice none 0 0] 33 (0, 0)) (by (with_reducible repeat (first | refine blk_drew ?_ | refine blk_alloc ?_ _ | refine blk_farG ?_ HN1_5.out _ | refine blk_farG ?_ HN2_5.out _ | refine blk_farG ?_ HN3_5.out _ | refine blk_farG ?_ HN1_3.out _ | refine blk_farG ?_ HN2_3.out _ | refine blk_farG ?_ HN3_3.out _)); exact HB3.out) hb5); have nw := Aside0.mk (below_step (by repeat (first | (with_reducible first | exact HW.out | apply below_alloc | apply below_drew1) | exact HW.out)) hb5); clear HB1 HB2 HB3 HW; have HB1 := n0; have HB2 := n1; have HB3 := n2; have HW := nw; clear nw n0 n1 n2; have HN1_5 := Aside0.mk (Nat.ne_of_lt (blk_lt HB1.out)); have HN2_5 := Aside0.mk (Nat.ne_of_lt (blk_lt HB2.out)); have HN3_5 := Aside0.mk (Nat.ne_of_lt (blk_lt HB3.out)); have HLT5 := Aside0.mk (blk_lt HB3.out); have HGE5 := Aside0.mk (below_size HW.out); clear hb5) | (go_at_call_of 57 (Value.slice (some { block := g1, off := 7 }) r 5); refine (clone_at (some ⟨g1, 7, none⟩) r 5 ((l.drop 7).take r) (by have := HL.out; simp; omega) _ (lay_reads (t := 67) (by (with_reducible repeat (first | refine blk_drew ?_ | refine blk_alloc ?_ _ | refine blk_farG ?_ HN1_5.out _ | refine blk_farG ?_ HN2_5.out _ | refine blk_farG ?_ HN3_5.out _ | refine blk_farG ?_ HN1_3.out _ | refine blk_farG ?_ HN2_3.out _ | refine blk_farG ?_ HN3_3.out _)); exact HB1.out) 7 r (by have := HL.out; omega) (by have := HL.out; omega)) h5 (by omega)).mono ?_; rintro e w6 ⟨v2, rfl, ho2, hb6⟩; (try (have hnw : Aside0 (w6.heap[w5.heap.size]? = some (.cells #[.int .i64 0, .slice none 0 0, .slice none 0 0] 33 (0, 0))) := ⟨blk_below (blk_new w5 (.cells #[.int .i64 0, .slice none 0 0, .slice none 0 0] 33)) hb6⟩; have hx0 : _ = some (Value.int .i64 0) := (blk_cell hnw.out 0).trans rfl; have hx1 : _ = some (Value.slice none 0 0) := (blk_cell hnw.out 1).trans rfl; have hx2 : _ = some (Value.slice none 0 0) := (blk_cell hnw.out 2).trans rfl; have hy0 := blk_frozen hnw.out 0; have hy1 := blk_frozen hnw.out 1; have hy2 := blk_frozen hnw.out 2)); (try (have hnx : Aside0 (w6.heap[w3.heap.size]? = some (.cells #[.int .i64 0, .slice none 0 0, .slice none 0 0] 33 (0, 0))) := ⟨blk_below hnw.out hb6⟩; clear hnw; have hnw := hnx; clear hnx; have hx0 : _ = some (Value.int .i64 0) := (blk_cell hnw.out 0).trans rfl; have hx1 : _ = some (Value.slice none 0 0) := (blk_cell hnw.out 1).trans rfl; have hx2 : _ = some (Value.slice none 0 0) := (blk_cell hnw.out 2).trans rfl; have hy0 := blk_frozen hnw.out 0; have hy1 := blk_frozen hnw.out 1; have hy2 := blk_frozen hnw.out 2)); obtain ⟨Ab, cb, rfl⟩ := Kd.R_slice ho2; have hlb : ((l.drop 7).take r).length = r := (by have := HL.out; simp; omega); rw [hlb] at ho2 ⊢; have HO1n := Aside0.mk (Kd.R_elder' (by (with_reducible repeat (first | apply Kd.R_alloc | apply Kd.R_drewN | apply Kd.R_drew)); exact HO1.out) (Kd.R_base ho2) hb6); have HO2 := Aside0.mk (Kd.R_lower (Kd.R_new' ho2 (Kd.R_lt (by (with_reducible repeat (first | apply Kd.R_alloc | apply Kd.R_drewN | apply Kd.R_drew)); exact HO1.out))) (below_size (by repeat (first | (with_reducible first | exact HW.out | apply below_alloc | apply below_drew1) | exact HW.out)))); clear HO1; have HO1 := HO1n; clear HO1n ho2 hlb; have n0 := Aside0.mk (blk_below (g := g1) (o := .cells (lay l) 67 (0, 0)) (by (with_reducible repeat (first | refine blk_drew ?_ | refine blk_alloc ?_ _ | refine blk_farG ?_ HN1_5.out _ | refine blk_farG ?_ HN2_5.out _ | refine blk_farG ?_ HN3_5.out _ | refine blk_farG ?_ HN1_3.out _ | refine blk_farG ?_ HN2_3.out _ | refine blk_farG ?_ HN3_3.out _)); exact HB1.out) hb6); have n1 := Aside0.mk (blk_below (g := g2) (o := .cells (lay b) 67 (0, 0)) (by (with_reducible repeat (first | refine blk_drew ?_ | refine blk_alloc ?_ _ | refine blk_farG ?_ HN1_5.out _ | refine blk_farG ?_ HN2_5.out _ | refine blk_farG ?_ HN3_5.out _ | refine blk_farG ?_ HN1_3.out _ | refine blk_farG ?_ HN2_3.out _ | refine blk_farG ?_ HN3_3.out _)); exact HB2.out) hb6); have n2 := Aside0.mk (blk_below (g := g3) (o := .cells #[.int .i64 0, .slice none 0 0, .slice none 0 0] 33 (0, 0)) (by (with_reducible repeat (first | refine blk_drew ?_ | refine blk_alloc ?_ _ | refine blk_farG ?_ HN1_5.out _ | refine blk_farG ?_ HN2_5.out _ | refine blk_farG ?_ HN3_5.out _ | refine blk_farG ?_ HN1_3.out _ | refine blk_farG ?_ HN2_3.out _ | refine blk_farG ?_ HN3_3.out _)); exact HB3.out) hb6); have nw := Aside0.mk (below_step (by repeat (first | (with_reducible first | exact HW.out | apply below_alloc | apply below_drew1) | exact HW.out)) hb6); clear HB1 HB2 HB3 HW; have HB1 := n0; have HB2 := n1; have HB3 := n2; have HW := nw; clear nw n0 n1 n2; clear hb6))
    · go_wp2_with fail
      go_meet
      case rel => exact vmA HB1.out HB2.out HB3.out HO1.out HO2.out HW.out
    · go_wp2_with fail
      go_meet
      case rel => exact vmB hnw.out HN1_5.out HN2_5.out HLT5.out HGE5.out HB1.out HB2.out HB3.out HO1.out HO2.out HW.out
    · go_wp2_with fail
      go_meet
      case rel => exact vmB hnw.out HN1_3.out HN2_3.out HLT3.out HGE3.out HB1.out HB2.out HB3.out HO1.out HO2.out HW.out
  case rest =>
    obtain ⟨G, Aa, Ab, ca, cb, rfl, hG, hlt, k1, k2, k3, R1, R2, hW⟩ := hcut
    obtain ⟨e1, hca, C1⟩ := Kd.R_reads' R1
    obtain ⟨e2, hcb, C2⟩ := Kd.R_reads' R2
    have E1 := Aside0.mk e1
    have E2 := Aside0.mk e2
    have CA := Aside0.mk hca
    have CB := Aside0.mk hcb
    have KC1 := Aside0.mk C1
    have KC2 := Aside0.mk C2
    have KG := Aside0.mk hG
    have K1 := Aside0.mk k1
    have K2 := Aside0.mk k2
    have K3 := Aside0.mk k3
    have KR1 := Aside0.mk R1
    have KR2 := Aside0.mk R2
    have KW := Aside0.mk hW
    have KL := Aside0.mk hlt
    have KGE := Aside0.mk (show w.heap.size ≤ g3 by have := HG1.out; have := HG2.out; have := HG3.out; omega)
    clear hG k1 k2 k3 R1 R2 hW e1 e2 hca hcb C1 C2 hlt
    have hEq := eq_lay l b HL.out HL2.out
    rw [beq_eq_false_iff_ne.mpr HD.out] at hEq
    go_wp2_with (first | ((with_reducible refine gate_dst (N := 22) rfl ?_); refine wpList_load_row rfl 67 (.tmp 2) rfl g1 rfl 67 (lay _) (0, 0) _ K1.out Try.underlying67 rfl (info67 _ HL.out) ?_) | ((with_reducible refine gate_dst (N := 23) rfl ?_); refine wpList_load_row rfl 67 (.tmp 3) rfl g2 rfl 67 (lay _) (0, 0) _ K2.out Try.underlying67 rfl (info67 _ HL2.out) ?_) | ((with_reducible refine gate_dst (N := 27) rfl ?_); refine wpList_load_row rfl 33 (.tmp 6) rfl G rfl 33 #[.int .i64 (gi l 0), .slice Aa r ca, .slice Ab r cb] (0, 0) _ KG.out Try.underlying33 rfl (by kernel_rfl) ?_) | (go_at_call 63; refine (formed_n E1.out E2.out (gi l 0) Aa Ab ca cb _ KC1.out CA.out KC2.out CB.out).mono ?_; rw [HF.out]; rintro e w8 ⟨rfl, hb8⟩; have HB8 := Aside0.mk hb8; clear hb8) | ((with_reducible refine gate_dst (N := 7) rfl ?_); refine box_event ?hg (N := 7) ?hd (cs := lay zero12) (t := 67) ?hr ?_; (case hd => rfl); (case hg => rfl); (case hr => first | (go_simp; done) | (go_simp; rfl)); intro g8 hg8 w9 hb9 hB9; have N8 := Aside0.mk hb9; have NG := Aside0.mk (blk_below (g := G) (o := .cells #[.int .i64 (gi l 0), .slice Aa r ca, .slice Ab r cb] 33 (0, 0)) (by (with_reducible repeat (first | refine blk_drew ?_ | refine blk_drewN ?_ _ | refine blk_alloc ?_ _)); exact (blk_below KG.out HB8.out)) hB9); have N3 := Aside0.mk (blk_below (g := g3) (o := .cells #[.int .i64 0, .slice none 0 0, .slice none 0 0] 33 (0, 0)) (by (with_reducible repeat (first | refine blk_drew ?_ | refine blk_drewN ?_ _ | refine blk_alloc ?_ _)); exact (blk_below K3.out HB8.out)) hB9); have NR1 := Aside0.mk (Kd.R_below (Kd.R_below KR1.out HB8.out) hB9); have NR2 := Aside0.mk (Kd.R_below (Kd.R_below KR2.out HB8.out) hB9); have NW := Aside0.mk (below_step (below_step KW.out HB8.out) hB9); have XG := Aside0.mk (show G ≠ g8 by have := blk_lt (blk_below KG.out HB8.out); omega); have X3 := Aside0.mk (show g3 ≠ g8 by have := blk_lt (blk_below K3.out HB8.out); omega); have X8 := Aside0.mk (show w.heap.size ≤ g8 by have := KGE.out; have := blk_lt (blk_below K3.out HB8.out); omega); clear hb9 hB9 hg8) | ((with_reducible refine gate_store rfl ?_); refine wpList_store_row rfl 67 (.tmp 7) (.tmp 29) rfl g8 (lay (formedL (gi l 0) ((l.drop 2).take r) ((l.drop 7).take r))) rfl rfl 67 (lay zero12) N8.out (info67 _ formedL_len) (by rw [lay_size, lay_size, formedL_len]; rfl) (lay_one _) ?_) | ((with_reducible refine gate_dst (N := 34) rfl ?_); refine wpList_load_row rfl 33 (.tmp 6) rfl G rfl 33 #[.int .i64 (gi l 0), .slice Aa r ca, .slice Ab r cb] (0, 0) _ ((setRow_other w9 g8 G _ XG.out).trans NG.out) Try.underlying33 rfl (by kernel_rfl) ?_) | ((with_reducible refine gate_store rfl ?_); refine wpList_store_row rfl 33 (.tmp 4) (.tmp 34) rfl g3 #[.int .i64 (gi l 0), .slice Aa r ca, .slice Ab r cb] rfl rfl 33 #[.int .i64 0, .slice none 0 0, .slice none 0 0] ((setRow_other w9 g8 g3 _ X3.out).trans N3.out) (by kernel_rfl) rfl (by simp [Value.oneCell']) ?_))
    refine bodyPost_ret (results_ct rfl _ _ g3 33 #[.int .i64 (gi l 0), .slice Aa r ca, .slice Ab r cb] (0, 0) _ rfl (setRow_heap _ g3 _ _ _ (0, 0) ((setRow_other w9 g8 g3 _ X3.out).trans N3.out)) Try.underlying33 rfl (by kernel_rfl)) rfl ?_
    exact ⟨_, _, rfl, R_rowV (R_row67 NR1.out N8.out _) ((setRow_other w9 g8 g3 _ X3.out).trans N3.out) _, R_rowV (R_row67 NR2.out N8.out _) ((setRow_other w9 g8 g3 _ X3.out).trans N3.out) _, below_setRow (below_setRow NW.out X8.out _) KGE.out _⟩
set_option maxHeartbeats 2000000 in
set_option maxRecDepth 100000 in
theorem view_diff_no (l b : List Int) (r : Nat) (hl : l.length = 12) (hb : b.length = 12) (hr : gi l 1 = (r : Int)) (h5 : r ≤ 5) (hd : l ≠ b) (hf : formedB (gi l 0) ((l.drop 2).take r) ((l.drop 7).take r) = false) (w : World) :
    Calls Try.prog 72 #[.agg (lay l), .agg (lay b)] w fun e w' => ∃ v1_ v2_ : Value, e = .returned (.tuple #[.agg #[.int .i64 0, v1_, v2_], .bool false]) ∧ Kd.R (Kd.int .i64) 3 w' w.heap.size (fun k_ => some k_ ≠ (v2_ : Value).ownBlock) v1_ [] ∧ Kd.R (Kd.int .i64) 3 w' w.heap.size (fun k_ => some k_ ≠ (v1_ : Value).ownBlock) v2_ [] ∧ Below w.heap.size w w' := by
  have HL := Aside0.mk hl
  have HL2 := Aside0.mk hb
  have HR := Aside0.mk hr
  have HD := Aside0.mk hd
  have HF := Aside0.mk hf
  clear hl hb hr hd hf
  go_enter Try.func72, Try.ntmps72
  go_upto_region 1 with (first | ((with_reducible refine gate_dst (N := 2) rfl ?_); refine box_event ?hg (N := 2) ?hd (cs := lay l) (t := 67) ?hr ?_; (case hd => rfl); (case hg => rfl); (case hr => first | (go_simp; done) | (go_simp; rfl)); intro g1 hg1 w1 hb1 hB1; have HB1 := Aside0.mk hb1; have HW := Aside0.mk hB1; have HG1 := Aside0.mk hg1; clear hb1 hB1 hg1) | ((with_reducible refine gate_dst (N := 3) rfl ?_); refine box_event ?hg (N := 3) ?hd (cs := lay b) (t := 67) ?hr ?_; (case hd => rfl); (case hg => rfl); (case hr => first | (go_simp; done) | (go_simp; rfl)); intro g2 hg2 w2 hb2 hB2; have HB2 := Aside0.mk hb2; have nw := Aside0.mk (below_step HW.out hB2); have HG2 := Aside0.mk (show g1 < g2 by have := blk_lt HB1.out; omega); have n1 := Aside0.mk (blk_below HB1.out hB2); clear HB1 HW; have HB1 := n1; have HW := nw; clear n1 nw; clear hb2 hB2 hg2) | ((with_reducible refine gate_dst (N := 4) rfl ?_); refine box_event ?hg (N := 4) ?hd (cs := #[.int .i64 0, .slice none 0 0, .slice none 0 0]) (t := 33) ?hr ?_; (case hd => rfl); (case hg => rfl); (case hr => first | (go_simp; done) | (go_simp; rfl)); intro g3 hg3 w3 hb3 hB3; have HB3 := Aside0.mk hb3; have nw := Aside0.mk (below_step HW.out hB3); have HG3 := Aside0.mk (show g2 < g3 by have := blk_lt HB2.out; omega); have n1 := Aside0.mk (blk_below HB1.out hB3); have n2 := Aside0.mk (blk_below HB2.out hB3); clear HB1 HB2 HW; have HB1 := n1; have HB2 := n2; have HW := nw; clear n1 n2 nw; clear hb3 hB3 hg3))
  have hs1 := slice_arr ⟨g1, 2, none⟩ r h5
  have hs2 := slice_arr ⟨g1, 7, none⟩ r h5
  have hc0 := lay_cell HB1.out 0 (by have := HL.out; omega)
  have hc1 : w3.cell? ⟨g1, 1, none⟩ = some (.int .i64 (r : Int)) := by rw [← HR.out]; exact lay_cell HB1.out 1 (by have := HL.out; omega)
  have HN1_3 := Aside0.mk (Nat.ne_of_lt (blk_lt HB1.out))
  have HN2_3 := Aside0.mk (Nat.ne_of_lt (blk_lt HB2.out))
  have HN3_3 := Aside0.mk (Nat.ne_of_lt (blk_lt HB3.out))
  have HLT3 := Aside0.mk (blk_lt HB3.out)
  have HGE3 := Aside0.mk (below_size HW.out)
  go_cut [6] (fun v W => ViewMade w l b r g1 g2 g3 v W)
  case first =>
    go_region_held3 (fun w' => w'.cell? ⟨g1, 0, none⟩ = some (.int .i64 (gi l 0)) ∧ w'.cell? ⟨g1, 1, none⟩ = some (.int .i64 (r : Int))) (exact ⟨lay_cell (t := 67) (by (with_reducible repeat (first | refine blk_drew ?_ | refine blk_alloc ?_ _ | refine blk_farG ?_ HN1_5.out _ | refine blk_farG ?_ HN2_5.out _ | refine blk_farG ?_ HN3_5.out _ | refine blk_farG ?_ HN1_3.out _ | refine blk_farG ?_ HN2_3.out _ | refine blk_farG ?_ HN3_3.out _)); exact HB1.out) 0 (by have := HL.out; omega), by rw [← HR.out]; exact lay_cell (t := 67) (by (with_reducible repeat (first | refine blk_drew ?_ | refine blk_alloc ?_ _ | refine blk_farG ?_ HN1_5.out _ | refine blk_farG ?_ HN2_5.out _ | refine blk_farG ?_ HN3_5.out _ | refine blk_farG ?_ HN1_3.out _ | refine blk_farG ?_ HN2_3.out _ | refine blk_farG ?_ HN3_3.out _)); exact HB1.out) 1 (by have := HL.out; omega)⟩) (first | (go_at_call_of 57 (Value.slice (some { block := g1, off := 2 }) r 5); refine (clone_at (some ⟨g1, 2, none⟩) r 5 ((l.drop 2).take r) (by have := HL.out; simp; omega) _ (lay_reads (t := 67) (by (with_reducible repeat (first | refine blk_drew ?_ | refine blk_alloc ?_ _ | refine blk_farG ?_ HN1_5.out _ | refine blk_farG ?_ HN2_5.out _ | refine blk_farG ?_ HN3_5.out _ | refine blk_farG ?_ HN1_3.out _ | refine blk_farG ?_ HN2_3.out _ | refine blk_farG ?_ HN3_3.out _)); exact HB1.out) 2 r (by have := HL.out; omega) (by have := HL.out; omega)) h5 (by omega)).mono ?_; rintro e w5 ⟨v1, rfl, ho1, hb5⟩; (try (have hnw : Aside0 (w5.heap[w3.heap.size]? = some (.cells #[.int .i64 0, .slice none 0 0, .slice none 0 0] 33 (0, 0))) := ⟨blk_below (blk_new w3.drew (.cells #[.int .i64 0, .slice none 0 0, .slice none 0 0] 33)) hb5⟩)); obtain ⟨Aa, ca, rfl⟩ := Kd.R_slice ho1; have hla : ((l.drop 2).take r).length = r := (by have := HL.out; simp; omega); rw [hla] at ho1 ⊢; have HO1 := Aside0.mk (Kd.R_lower ho1 (below_size (by repeat (first | (with_reducible first | exact HW.out | apply below_alloc | apply below_drew1) | exact HW.out)))); clear ho1 hla; have n0 := Aside0.mk (blk_below (g := g1) (o := .cells (lay l) 67 (0, 0)) (by (with_reducible repeat (first | refine blk_drew ?_ | refine blk_alloc ?_ _ | refine blk_farG ?_ HN1_5.out _ | refine blk_farG ?_ HN2_5.out _ | refine blk_farG ?_ HN3_5.out _ | refine blk_farG ?_ HN1_3.out _ | refine blk_farG ?_ HN2_3.out _ | refine blk_farG ?_ HN3_3.out _)); exact HB1.out) hb5); have n1 := Aside0.mk (blk_below (g := g2) (o := .cells (lay b) 67 (0, 0)) (by (with_reducible repeat (first | refine blk_drew ?_ | refine blk_alloc ?_ _ | refine blk_farG ?_ HN1_5.out _ | refine blk_farG ?_ HN2_5.out _ | refine blk_farG ?_ HN3_5.out _ | refine blk_farG ?_ HN1_3.out _ | refine blk_farG ?_ HN2_3.out _ | refine blk_farG ?_ HN3_3.out _)); exact HB2.out) hb5); have n2 := Aside0.mk (blk_below (g := g3) (o := .cells #[.int .i64 0, .slice none 0 0, .slice none 0 0] 33 (0, 0)) (by (with_reducible repeat (first | refine blk_drew ?_ | refine blk_alloc ?_ _ | refine blk_farG ?_ HN1_5.out _ | refine blk_farG ?_ HN2_5.out _ | refine blk_farG ?_ HN3_5.out _ | refine blk_farG ?_ HN1_3.out _ | refine blk_farG ?_ HN2_3.out _ | refine blk_farG ?_ HN3_3.out _)); exact HB3.out) hb5); have nw := Aside0.mk (below_step (by repeat (first | (with_reducible first | exact HW.out | apply below_alloc | apply below_drew1) | exact HW.out)) hb5); clear HB1 HB2 HB3 HW; have HB1 := n0; have HB2 := n1; have HB3 := n2; have HW := nw; clear nw n0 n1 n2; have HN1_5 := Aside0.mk (Nat.ne_of_lt (blk_lt HB1.out)); have HN2_5 := Aside0.mk (Nat.ne_of_lt (blk_lt HB2.out)); have HN3_5 := Aside0.mk (Nat.ne_of_lt (blk_lt HB3.out)); have HLT5 := Aside0.mk (blk_lt HB3.out); have HGE5 := Aside0.mk (below_size HW.out); clear hb5) | (go_at_call_of 57 (Value.slice (some { block := g1, off := 7 }) r 5); refine (clone_at (some ⟨g1, 7, none⟩) r 5 ((l.drop 7).take r) (by have := HL.out; simp; omega) _ (lay_reads (t := 67) (by (with_reducible repeat (first | refine blk_drew ?_ | refine blk_alloc ?_ _ | refine blk_farG ?_ HN1_5.out _ | refine blk_farG ?_ HN2_5.out _ | refine blk_farG ?_ HN3_5.out _ | refine blk_farG ?_ HN1_3.out _ | refine blk_farG ?_ HN2_3.out _ | refine blk_farG ?_ HN3_3.out _)); exact HB1.out) 7 r (by have := HL.out; omega) (by have := HL.out; omega)) h5 (by omega)).mono ?_; rintro e w6 ⟨v2, rfl, ho2, hb6⟩; (try (have hnw : Aside0 (w6.heap[w5.heap.size]? = some (.cells #[.int .i64 0, .slice none 0 0, .slice none 0 0] 33 (0, 0))) := ⟨blk_below (blk_new w5 (.cells #[.int .i64 0, .slice none 0 0, .slice none 0 0] 33)) hb6⟩; have hx0 : _ = some (Value.int .i64 0) := (blk_cell hnw.out 0).trans rfl; have hx1 : _ = some (Value.slice none 0 0) := (blk_cell hnw.out 1).trans rfl; have hx2 : _ = some (Value.slice none 0 0) := (blk_cell hnw.out 2).trans rfl; have hy0 := blk_frozen hnw.out 0; have hy1 := blk_frozen hnw.out 1; have hy2 := blk_frozen hnw.out 2)); (try (have hnx : Aside0 (w6.heap[w3.heap.size]? = some (.cells #[.int .i64 0, .slice none 0 0, .slice none 0 0] 33 (0, 0))) := ⟨blk_below hnw.out hb6⟩; clear hnw; have hnw := hnx; clear hnx; have hx0 : _ = some (Value.int .i64 0) := (blk_cell hnw.out 0).trans rfl; have hx1 : _ = some (Value.slice none 0 0) := (blk_cell hnw.out 1).trans rfl; have hx2 : _ = some (Value.slice none 0 0) := (blk_cell hnw.out 2).trans rfl; have hy0 := blk_frozen hnw.out 0; have hy1 := blk_frozen hnw.out 1; have hy2 := blk_frozen hnw.out 2)); obtain ⟨Ab, cb, rfl⟩ := Kd.R_slice ho2; have hlb : ((l.drop 7).take r).length = r := (by have := HL.out; simp; omega); rw [hlb] at ho2 ⊢; have HO1n := Aside0.mk (Kd.R_elder' (by (with_reducible repeat (first | apply Kd.R_alloc | apply Kd.R_drewN | apply Kd.R_drew)); exact HO1.out) (Kd.R_base ho2) hb6); have HO2 := Aside0.mk (Kd.R_lower (Kd.R_new' ho2 (Kd.R_lt (by (with_reducible repeat (first | apply Kd.R_alloc | apply Kd.R_drewN | apply Kd.R_drew)); exact HO1.out))) (below_size (by repeat (first | (with_reducible first | exact HW.out | apply below_alloc | apply below_drew1) | exact HW.out)))); clear HO1; have HO1 := HO1n; clear HO1n ho2 hlb; have n0 := Aside0.mk (blk_below (g := g1) (o := .cells (lay l) 67 (0, 0)) (by (with_reducible repeat (first | refine blk_drew ?_ | refine blk_alloc ?_ _ | refine blk_farG ?_ HN1_5.out _ | refine blk_farG ?_ HN2_5.out _ | refine blk_farG ?_ HN3_5.out _ | refine blk_farG ?_ HN1_3.out _ | refine blk_farG ?_ HN2_3.out _ | refine blk_farG ?_ HN3_3.out _)); exact HB1.out) hb6); have n1 := Aside0.mk (blk_below (g := g2) (o := .cells (lay b) 67 (0, 0)) (by (with_reducible repeat (first | refine blk_drew ?_ | refine blk_alloc ?_ _ | refine blk_farG ?_ HN1_5.out _ | refine blk_farG ?_ HN2_5.out _ | refine blk_farG ?_ HN3_5.out _ | refine blk_farG ?_ HN1_3.out _ | refine blk_farG ?_ HN2_3.out _ | refine blk_farG ?_ HN3_3.out _)); exact HB2.out) hb6); have n2 := Aside0.mk (blk_below (g := g3) (o := .cells #[.int .i64 0, .slice none 0 0, .slice none 0 0] 33 (0, 0)) (by (with_reducible repeat (first | refine blk_drew ?_ | refine blk_alloc ?_ _ | refine blk_farG ?_ HN1_5.out _ | refine blk_farG ?_ HN2_5.out _ | refine blk_farG ?_ HN3_5.out _ | refine blk_farG ?_ HN1_3.out _ | refine blk_farG ?_ HN2_3.out _ | refine blk_farG ?_ HN3_3.out _)); exact HB3.out) hb6); have nw := Aside0.mk (below_step (by repeat (first | (with_reducible first | exact HW.out | apply below_alloc | apply below_drew1) | exact HW.out)) hb6); clear HB1 HB2 HB3 HW; have HB1 := n0; have HB2 := n1; have HB3 := n2; have HW := nw; clear nw n0 n1 n2; clear hb6))
    · go_wp2_with fail
      go_meet
      case rel => exact vmA HB1.out HB2.out HB3.out HO1.out HO2.out HW.out
    · go_wp2_with fail
      go_meet
      case rel => exact vmB hnw.out HN1_5.out HN2_5.out HLT5.out HGE5.out HB1.out HB2.out HB3.out HO1.out HO2.out HW.out
    · go_wp2_with fail
      go_meet
      case rel => exact vmB hnw.out HN1_3.out HN2_3.out HLT3.out HGE3.out HB1.out HB2.out HB3.out HO1.out HO2.out HW.out
  case rest =>
    obtain ⟨G, Aa, Ab, ca, cb, rfl, hG, hlt, k1, k2, k3, R1, R2, hW⟩ := hcut
    obtain ⟨e1, hca, C1⟩ := Kd.R_reads' R1
    obtain ⟨e2, hcb, C2⟩ := Kd.R_reads' R2
    have E1 := Aside0.mk e1
    have E2 := Aside0.mk e2
    have CA := Aside0.mk hca
    have CB := Aside0.mk hcb
    have KC1 := Aside0.mk C1
    have KC2 := Aside0.mk C2
    have KG := Aside0.mk hG
    have K1 := Aside0.mk k1
    have K2 := Aside0.mk k2
    have K3 := Aside0.mk k3
    have KR1 := Aside0.mk R1
    have KR2 := Aside0.mk R2
    have KW := Aside0.mk hW
    have KL := Aside0.mk hlt
    have KGE := Aside0.mk (show w.heap.size ≤ g3 by have := HG1.out; have := HG2.out; have := HG3.out; omega)
    clear hG k1 k2 k3 R1 R2 hW e1 e2 hca hcb C1 C2 hlt
    have hEq := eq_lay l b HL.out HL2.out
    rw [beq_eq_false_iff_ne.mpr HD.out] at hEq
    go_wp2_with (first | ((with_reducible refine gate_dst (N := 22) rfl ?_); refine wpList_load_row rfl 67 (.tmp 2) rfl g1 rfl 67 (lay _) (0, 0) _ K1.out Try.underlying67 rfl (info67 _ HL.out) ?_) | ((with_reducible refine gate_dst (N := 23) rfl ?_); refine wpList_load_row rfl 67 (.tmp 3) rfl g2 rfl 67 (lay _) (0, 0) _ K2.out Try.underlying67 rfl (info67 _ HL2.out) ?_) | ((with_reducible refine gate_dst (N := 27) rfl ?_); refine wpList_load_row rfl 33 (.tmp 6) rfl G rfl 33 #[.int .i64 (gi l 0), .slice Aa r ca, .slice Ab r cb] (0, 0) _ KG.out Try.underlying33 rfl (by kernel_rfl) ?_) | (go_at_call 63; refine (formed_n E1.out E2.out (gi l 0) Aa Ab ca cb _ KC1.out CA.out KC2.out CB.out).mono ?_; rw [HF.out]; rintro e w8 ⟨rfl, hb8⟩; have HB8 := Aside0.mk hb8; clear hb8) | ((with_reducible refine gate_dst (N := 7) rfl ?_); refine box_event ?hg (N := 7) ?hd (cs := lay zero12) (t := 67) ?hr ?_; (case hd => rfl); (case hg => rfl); (case hr => first | (go_simp; done) | (go_simp; rfl)); intro g8 hg8 w9 hb9 hB9; have N8 := Aside0.mk hb9; have NG := Aside0.mk (blk_below (g := G) (o := .cells #[.int .i64 (gi l 0), .slice Aa r ca, .slice Ab r cb] 33 (0, 0)) (by (with_reducible repeat (first | refine blk_drew ?_ | refine blk_drewN ?_ _ | refine blk_alloc ?_ _)); exact (blk_below KG.out HB8.out)) hB9); have N3 := Aside0.mk (blk_below (g := g3) (o := .cells #[.int .i64 0, .slice none 0 0, .slice none 0 0] 33 (0, 0)) (by (with_reducible repeat (first | refine blk_drew ?_ | refine blk_drewN ?_ _ | refine blk_alloc ?_ _)); exact (blk_below K3.out HB8.out)) hB9); have NR1 := Aside0.mk (Kd.R_below (Kd.R_below KR1.out HB8.out) hB9); have NR2 := Aside0.mk (Kd.R_below (Kd.R_below KR2.out HB8.out) hB9); have NW := Aside0.mk (below_step (below_step KW.out HB8.out) hB9); have XG := Aside0.mk (show G ≠ g8 by have := blk_lt (blk_below KG.out HB8.out); omega); have X3 := Aside0.mk (show g3 ≠ g8 by have := blk_lt (blk_below K3.out HB8.out); omega); have X8 := Aside0.mk (show w.heap.size ≤ g8 by have := KGE.out; have := blk_lt (blk_below K3.out HB8.out); omega); clear hb9 hB9 hg8) | ((with_reducible refine gate_store rfl ?_); refine wpList_store_row rfl 67 (.tmp 7) (.tmp 29) rfl g8 (lay (formedL (gi l 0) ((l.drop 2).take r) ((l.drop 7).take r))) rfl rfl 67 (lay zero12) N8.out (info67 _ formedL_len) (by rw [lay_size, lay_size, formedL_len]; rfl) (lay_one _) ?_) | ((with_reducible refine gate_store rfl ?_); refine wpList_store_row rfl 33 (.tmp 4) (.tmp 33) rfl g3 #[.int .i64 0, .slice none 0 0, .slice none 0 0] rfl rfl 33 #[.int .i64 0, .slice none 0 0, .slice none 0 0] ((setRow_other w9 g8 g3 _ X3.out).trans N3.out) (by kernel_rfl) rfl (by simp [Value.oneCell']) ?_))
    refine bodyPost_ret (results_ct rfl _ _ g3 33 #[.int .i64 0, .slice none 0 0, .slice none 0 0] (0, 0) _ rfl (setRow_heap _ g3 _ _ _ (0, 0) ((setRow_other w9 g8 g3 _ X3.out).trans N3.out)) Try.underlying33 rfl (by kernel_rfl)) rfl ?_
    exact ⟨_, _, rfl, Kd.R_nil _ _ _ _ _, Kd.R_nil _ _ _ _ _, below_setRow (below_setRow NW.out X8.out _) KGE.out _⟩
/-- What 'view' of a layout answers, beside the one before. -/
def viewB (l b : List Int) (r : Nat) : Bool := decide (l = b) || formedB (gi l 0) ((l.drop 2).take r) ((l.drop 7).take r)
def viewO (l b : List Int) (r : Nat) : Int := if viewB l b r then gi l 0 else 0
def viewS (l b : List Int) (r : Nat) : List Int := if viewB l b r then (l.drop 2).take r else []
def viewT (l b : List Int) (r : Nat) : List Int := if viewB l b r then (l.drop 7).take r else []
theorem view_calls (l b : List Int) (r : Nat) (hl : l.length = 12) (hb : b.length = 12) (hr : gi l 1 = (r : Int)) (h5 : r ≤ 5) (w : World) :
    Calls Try.prog 72 #[.agg (lay l), .agg (lay b)] w fun e w' => ∃ v1_ v2_ : Value, e = .returned (.tuple #[.agg #[.int .i64 (viewO l b r), v1_, v2_], .bool (viewB l b r)]) ∧ Kd.R (Kd.int .i64) 3 w' w.heap.size (fun k_ => some k_ ≠ (v2_ : Value).ownBlock) v1_ (viewS l b r) ∧ Kd.R (Kd.int .i64) 3 w' w.heap.size (fun k_ => some k_ ≠ (v1_ : Value).ownBlock) v2_ (viewT l b r) ∧ Below w.heap.size w w' := by
  by_cases hd : l = b
  · subst hd
    have e : viewB l l r = true := by simp [viewB]
    simp only [viewO, viewS, viewT, e, if_true]
    exact view_same l r hl hr h5 w
  · by_cases hf : formedB (gi l 0) ((l.drop 2).take r) ((l.drop 7).take r) = true
    · have e : viewB l b r = true := by simp [viewB, hf]
      simp only [viewO, viewS, viewT, e, if_true]
      exact view_diff_ok l b r hl hb hr h5 hd hf w
    · rw [Bool.not_eq_true] at hf
      have e : viewB l b r = false := by simp [viewB, hf, hd]
      simp only [viewO, viewS, viewT, e, Bool.false_eq_true, if_false]
      exact view_diff_no l b r hl hb hr h5 hd hf w
end Go.Proofs.Ytipjhbngbaifeaa.PA

namespace Go.Proofs.Ytipjhbngbaifeaa.PA
open Go.RowKit Go.Proofs.YtipjhbngbaifeaaW.PrintWords Go.Proofs.YtipjhbngbaifeaaW.PrintLast Go.Proofs.YtipjhbngbaifeaaW.PrintMore
set_option linter.unusedVariables false
set_option linter.unusedSimpArgs false
theorem lay_12 (l : List Int) (hl : l.length = 12) : lay l = #[.int .i64 (gi l 0), .int .i64 (gi l 1), .int .i64 (gi l 2), .int .i64 (gi l 3), .int .i64 (gi l 4), .int .i64 (gi l 5), .int .i64 (gi l 6), .int .i64 (gi l 7), .int .i64 (gi l 8), .int .i64 (gi l 9), .int .i64 (gi l 10), .int .i64 (gi l 11)] := by
  match l, hl with
  | [a0, a1, a2, a3, a4, a5, a6, a7, a8, a9, a10, a11], _ => rfl
theorem lay_S {w : World} {g : Nat} {t : TypeId} {l : List Int} (hl : l.length = 12) (h : w.heap[g]? = some (.cells (lay l) t (0, 0))) : w.cell? ⟨g, 0, none⟩ = some (.int .i64 (gi l 0)) ∧ w.cell? ⟨g, 1, none⟩ = some (.int .i64 (gi l 1)) ∧ w.cell? ⟨g, 2, none⟩ = some (.int .i64 (gi l 2)) ∧ w.cell? ⟨g, 3, none⟩ = some (.int .i64 (gi l 3)) ∧ w.cell? ⟨g, 4, none⟩ = some (.int .i64 (gi l 4)) ∧ w.cell? ⟨g, 5, none⟩ = some (.int .i64 (gi l 5)) ∧ w.cell? ⟨g, 6, none⟩ = some (.int .i64 (gi l 6)) ∧ w.cell? ⟨g, 7, none⟩ = some (.int .i64 (gi l 7)) ∧ w.cell? ⟨g, 8, none⟩ = some (.int .i64 (gi l 8)) ∧ w.cell? ⟨g, 9, none⟩ = some (.int .i64 (gi l 9)) ∧ w.cell? ⟨g, 10, none⟩ = some (.int .i64 (gi l 10)) ∧ w.cell? ⟨g, 11, none⟩ = some (.int .i64 (gi l 11)) :=
  ⟨lay_cell h 0 (by omega), lay_cell h 1 (by omega), lay_cell h 2 (by omega), lay_cell h 3 (by omega), lay_cell h 4 (by omega), lay_cell h 5 (by omega), lay_cell h 6 (by omega), lay_cell h 7 (by omega), lay_cell h 8 (by omega), lay_cell h 9 (by omega), lay_cell h 10 (by omega), lay_cell h 11 (by omega)⟩
theorem view_calls12 (b l : List Int) (r : Nat) (hb : b.length = 12) (hl : l.length = 12) (hr : gi b 1 = (r : Int)) (h5 : r ≤ 5) (w : World) :
    Calls Try.prog 72 #[.agg (lay b), .agg #[.int .i64 (gi l 0), .int .i64 (gi l 1), .int .i64 (gi l 2), .int .i64 (gi l 3), .int .i64 (gi l 4), .int .i64 (gi l 5), .int .i64 (gi l 6), .int .i64 (gi l 7), .int .i64 (gi l 8), .int .i64 (gi l 9), .int .i64 (gi l 10), .int .i64 (gi l 11)]] w fun e w' => ∃ v1_ v2_ : Value, e = .returned (.tuple #[.agg #[.int .i64 (viewO b l r), v1_, v2_], .bool (viewB b l r)]) ∧ Kd.R (Kd.int .i64) 3 w' w.heap.size (fun k_ => some k_ ≠ (v2_ : Value).ownBlock) v1_ (viewS b l r) ∧ Kd.R (Kd.int .i64) 3 w' w.heap.size (fun k_ => some k_ ≠ (v1_ : Value).ownBlock) v2_ (viewT b l r) ∧ Below w.heap.size w w' := by
  rw [← lay_12 l hl]; exact view_calls b l r hb hl hr h5 w
theorem formedL_1 {off : Int} {l1 l2 : List Int} (h : formedB off l1 l2 = true) : gi (formedL off l1 l2) 1 = (l1.length : Int) := by unfold formedL; rw [if_pos h]; rfl
theorem formed_5 {off : Int} {l1 l2 : List Int} (h : formedB off l1 l2 = true) : l1.length ≤ 5 := by
  simp only [formedB, Bool.and_eq_true, decide_eq_true_eq] at h
  exact shOk_len h.1.1.1
theorem wrap_pred {n : Nat} (h : n ≤ 5) : wrap64 ((n : Int) - 1) = (n : Int) - 1 := by unfold wrap64; omega
def viewed (l b : List Int) (r : Nat) : Int × List Int × List Int × Bool := (viewO l b r, viewS l b r, viewT l b r, viewB l b r)
def noView : Int × List Int × List Int × Bool := (0, [], [], false)
def impl_FlipView.f (off : Int) (l1 l2 : List Int) (a : Int) : Option (Int × List Int × List Int × Bool) :=
  some (if formedB off l1 l2 = true ∧ 0 ≤ a ∧ a < (l1.length : Int) then viewed (flipL (formedL off l1 l2) a.toNat) (formedL off l1 l2) l1.length else noView)
end Go.Proofs.Ytipjhbngbaifeaa.PA

namespace Go.Proofs.Ytipjhbngbaifeaa.PA
open Go.RowKit Go.Proofs.YtipjhbngbaifeaaW.PrintWords Go.Proofs.YtipjhbngbaifeaaW.PrintLast Go.Proofs.YtipjhbngbaifeaaW.PrintMore
set_option linter.unusedVariables false
set_option linter.unusedSimpArgs false
def pickOff (l : List Int) (m : Nat) (fr n : Int) : List Int := if 0 < n then l.set 0 (wrap64 (gi l 0 + wrap64 (fr * gi l (7 + m)))) else l
def pickL (l : List Int) (m : Nat) (fr st n : Int) : List Int := ((pickOff l m fr n).set (7 + m) (wrap64 (gi (pickOff l m fr n) (7 + m) * st))).set (2 + m) n
theorem pickL_len (l : List Int) (m : Nat) (fr st n : Int) : (pickL l m fr st n).length = l.length := by unfold pickL pickOff; split <;> simp
theorem pickL_1 (l : List Int) (m : Nat) (fr st n : Int) : gi (pickL l m fr st n) 1 = gi l 1 := by
  unfold pickL pickOff; split <;> simp [gi, List.getD_eq_getElem?_getD, List.getElem?_set, show 7 + m ≠ 1 by omega, show 2 + m ≠ 1 by omega]
set_option maxHeartbeats 1000000 in
set_option maxRecDepth 100000 in
theorem pick_no (l : List Int) (m : Nat) (fr st n : Int) (hl : l.length = 12) (hm : m < 5) (hn : ¬ 0 < n) (w : World) :
    Calls Try.prog 75 #[.agg (lay l), .int .i64 m, .int .i64 fr, .int .i64 st, .int .i64 n] w fun e w' => e = .returned (.agg (lay ((l.set (7 + m) (wrap64 (gi l (7 + m) * st))).set (2 + m) n))) ∧ Below w.heap.size w w' := by
  have HL := Aside0.mk hl
  have hnb := decide_eq_false hn
  clear hl
  go_enter Try.func75, Try.ntmps75
  go_wp2_with (first | ((with_reducible refine gate_dst (N := 5) rfl ?_); refine box_event ?hg (N := 5) ?hd (cs := lay l) (t := 67) ?hr ?_; (case hd => rfl); (case hg => rfl); (case hr => first | (go_simp; done) | (go_simp; rfl)); intro g1 hg1 w1 hb1 hB1; have HB1 := Aside0.mk hb1; have HW1 := Aside0.mk hB1; have HG1 := Aside0.mk hg1; clear hb1 hB1 hg1) | ((with_reducible refine gate_dst (N := 10) rfl ?_); refine box_event ?hg (N := 10) ?hd (cs := lay (List.replicate 12 0)) (t := 67) ?hr ?_; (case hd => rfl); (case hg => rfl); (case hr => first | (go_simp; done) | (go_simp; rfl)); intro g2 hg2 w2 hb2 hB2; have HB2 := Aside0.mk hb2; have HW2 := Aside0.mk (below_step HW1.out hB2); have HG2 := Aside0.mk hg2; have HB3 := Aside0.mk (blk_below HB1.out hB2); have HNE := Aside0.mk (show g2 ≠ g1 by have h1 := blk_lt HB1.out; omega); have HGE := Aside0.mk (show w.heap.size ≤ g2 by have h1 := blk_lt HB1.out; have h2 := HG1.out; omega); clear HB1; have hc := lay_cell HB3.out (2 + m) (by have := HL.out; omega); have hc1 := lay_cell HB3.out (7 + m) (by have := HL.out; omega); have hf0 := blk_frozen HB3.out (2 + m); have hf1 := blk_frozen HB3.out (7 + m); clear hb2 hB2 hg2 ) | ((with_reducible refine gate_dst (N := 35) rfl ?_); refine wpList_load_row rfl 67 (.tmp 5) rfl g1 rfl 67 (lay _) (0, 0) _ (lay_put (lay_put HB3.out (7 + m) _) (2 + m) _) Try.underlying67 rfl (info67 _ (by have := HL.out; simpa using this)) ?_) | ((with_reducible refine gate_store rfl ?_); refine wpList_store_row rfl 67 (.tmp 10) (.tmp 35) rfl g2 (lay _) rfl rfl 67 (lay (List.replicate 12 0)) (blk_far (p := ⟨g1, 2 + m, none⟩) (blk_far (p := ⟨g1, 7 + m, none⟩) HB2.out HNE.out _) HNE.out _) (info67 _ (by have := HL.out; simpa using this)) (by have := HL.out; simp [lay_size]; omega) (lay_one _) ?_))
  refine bodyPost_ret (results_cell_row rfl _ _ g2 67 (lay _) (0, 0) _ rfl (setRow_heap _ g2 _ _ _ (0, 0) (blk_far (p := ⟨g1, 2 + m, none⟩) (blk_far (p := ⟨g1, 7 + m, none⟩) HB2.out HNE.out _) HNE.out _)) Try.underlying67 rfl (info67 _ (by have := HL.out; simpa using this))) rfl ⟨rfl, below_setRow (below_set (below_set HW2.out (by have := HG1.out; omega)) (by have := HG1.out; omega)) HGE.out _⟩
set_option maxHeartbeats 8000000 in
set_option maxRecDepth 100000 in
theorem pick_yes (l : List Int) (m : Nat) (fr st n : Int) (hl : l.length = 12) (hm : m < 5) (hn : 0 < n) (w : World) :
    Calls Try.prog 75 #[.agg (lay l), .int .i64 m, .int .i64 fr, .int .i64 st, .int .i64 n] w fun e w' => e = .returned (.agg (lay (((l.set 0 (wrap64 (gi l 0 + wrap64 (fr * gi l (7 + m))))).set (7 + m) (wrap64 (gi (l.set 0 (wrap64 (gi l 0 + wrap64 (fr * gi l (7 + m))))) (7 + m) * st))).set (2 + m) n))) ∧ Below w.heap.size w w' := by
  have HL := Aside0.mk hl
  have hnb := decide_eq_true hn
  clear hl
  go_enter Try.func75, Try.ntmps75
  go_upto_region 2 with (first | ((with_reducible refine gate_dst (N := 5) rfl ?_); refine box_event ?hg (N := 5) ?hd (cs := lay l) (t := 67) ?hr ?_; (case hd => rfl); (case hg => rfl); (case hr => first | (go_simp; done) | (go_simp; rfl)); intro g1 hg1 w1 hb1 hB1; have HB1 := Aside0.mk hb1; have HW1 := Aside0.mk hB1; have HG1 := Aside0.mk hg1; clear hb1 hB1 hg1) | ((with_reducible refine gate_dst (N := 10) rfl ?_); refine box_event ?hg (N := 10) ?hd (cs := lay (List.replicate 12 0)) (t := 67) ?hr ?_; (case hd => rfl); (case hg => rfl); (case hr => first | (go_simp; done) | (go_simp; rfl)); intro g2 hg2 w2 hb2 hB2; have HB2 := Aside0.mk hb2; have HW2 := Aside0.mk (below_step HW1.out hB2); have HG2 := Aside0.mk hg2; have HB3 := Aside0.mk (blk_below HB1.out hB2); have HNE := Aside0.mk (show g2 ≠ g1 by have h1 := blk_lt HB1.out; omega); have HGE := Aside0.mk (show w.heap.size ≤ g2 by have h1 := blk_lt HB1.out; have h2 := HG1.out; omega); clear HB1; have hc := lay_cell HB3.out (2 + m) (by have := HL.out; omega); have hc1 := lay_cell HB3.out (7 + m) (by have := HL.out; omega); have hf0 := blk_frozen HB3.out (2 + m); have hf1 := blk_frozen HB3.out (7 + m); have hc0 := lay_cell HB3.out 0 (by have := HL.out; omega); have hf00 := blk_frozen HB3.out 0; clear hb2 hB2 hg2 ))
  go_region
  have B1 := Aside0.mk (lay_put (t := 67) HB3.out 0 (wrap64 (gi l 0 + wrap64 (fr * gi l (7 + m)))))
  have B2 := Aside0.mk (blk_far (p := ⟨g1, 0, none⟩) HB2.out HNE.out (.int .i64 (wrap64 (gi l 0 + wrap64 (fr * gi l (7 + m))))))
  have LE := Aside0.mk (show w.heap.size ≤ g1 by have := HG1.out; omega)
  have BW := Aside0.mk (below_drew1 (below_set (j := 0) (v := (.int .i64 (wrap64 (gi l 0 + wrap64 (fr * gi l (7 + m)))))) HW2.out LE.out))
  obtain ⟨W, hW⟩ : ∃ W, (w2.setCell ⟨g1, 0, none⟩ (.int .i64 (wrap64 (gi l 0 + wrap64 (fr * gi l (7 + m)))))).drew = W := ⟨_, rfl⟩
  replace B1 : Aside0 (W.heap[g1]? = some (.cells (lay (l.set 0 (wrap64 (gi l 0 + wrap64 (fr * gi l (7 + m)))))) 67 (0, 0))) := ⟨by rw [← hW]; exact B1.out⟩
  replace B2 : Aside0 (W.heap[g2]? = some (.cells (lay (List.replicate 12 0)) 67 (0, 0))) := ⟨by rw [← hW]; exact B2.out⟩
  rw [hW] at BW ⊢
  clear hc hc1 hf0 hf1 hc0 hf00 HB2 HB3 hW
  have HL1 := Aside0.mk (show (l.set 0 (wrap64 (gi l 0 + wrap64 (fr * gi l (7 + m))))).length = 12 by have := HL.out; simpa using this)
  have hc := lay_cell B1.out (2 + m) (by have := HL1.out; omega)
  have hc1 := lay_cell B1.out (7 + m) (by have := HL1.out; omega)
  have hf0 := blk_frozen B1.out (2 + m)
  have hf1 := blk_frozen B1.out (7 + m)
  go_wp2_with (first | ((with_reducible refine gate_dst (N := 35) rfl ?_); refine wpList_load_row rfl 67 (.tmp 5) rfl g1 rfl 67 (lay _) (0, 0) _ (lay_put (lay_put B1.out (7 + m) _) (2 + m) _) Try.underlying67 rfl (info67 _ (by have := HL1.out; rw [List.length_set, List.length_set]; exact this)) ?_) | ((with_reducible refine gate_store rfl ?_); refine wpList_store_row rfl 67 (.tmp 10) (.tmp 35) rfl g2 (lay _) rfl rfl 67 (lay (List.replicate 12 0)) (blk_far (p := ⟨g1, 2 + m, none⟩) (blk_far (p := ⟨g1, 7 + m, none⟩) B2.out HNE.out _) HNE.out _) (info67 _ (by have := HL1.out; rw [List.length_set, List.length_set]; exact this)) (by have := HL1.out; simp [lay_size]; simp at this; omega) (lay_one _) ?_))
  refine bodyPost_ret (results_cell_row rfl _ _ g2 67 (lay _) (0, 0) _ rfl (setRow_heap _ g2 _ _ _ (0, 0) (blk_far (p := ⟨g1, 2 + m, none⟩) (blk_far (p := ⟨g1, 7 + m, none⟩) B2.out HNE.out _) HNE.out _)) Try.underlying67 rfl (info67 _ (by have := HL1.out; rw [List.length_set, List.length_set]; exact this))) rfl ⟨rfl, below_setRow (below_set (below_set BW.out LE.out) LE.out) HGE.out _⟩
theorem pick_calls (l : List Int) (m : Nat) (fr st n : Int) (hl : l.length = 12) (hm : m < 5) (w : World) :
    Calls Try.prog 75 #[.agg (lay l), .int .i64 m, .int .i64 fr, .int .i64 st, .int .i64 n] w fun e w' => e = .returned (.agg (lay (pickL l m fr st n))) ∧ Below w.heap.size w w' := by
  unfold pickL pickOff
  by_cases hn : 0 < n
  · simp only [hn, if_true]; exact pick_yes l m fr st n hl hm hn w
  · simp only [hn, if_false]; exact pick_no l m fr st n hl hm hn w
theorem pick12 (l : List Int) (m : Nat) (fr st n : Int) (hl : l.length = 12) (hm : m < 5) (w : World) :
    Calls Try.prog 75 #[.agg #[.int .i64 (gi l 0), .int .i64 (gi l 1), .int .i64 (gi l 2), .int .i64 (gi l 3), .int .i64 (gi l 4), .int .i64 (gi l 5), .int .i64 (gi l 6), .int .i64 (gi l 7), .int .i64 (gi l 8), .int .i64 (gi l 9), .int .i64 (gi l 10), .int .i64 (gi l 11)], .int .i64 m, .int .i64 fr, .int .i64 st, .int .i64 n] w fun e w' => e = .returned (.agg (lay (pickL l m fr st n))) ∧ Below w.heap.size w w' := by
  rw [← lay_12 l hl]; exact pick_calls l m fr st n hl hm w
end Go.Proofs.Ytipjhbngbaifeaa.PA

namespace Go.Proofs.Ytipjhbngbaifeaa.PA
open Go.RowKit Go.Proofs.YtipjhbngbaifeaaW.PrintWords Go.Proofs.YtipjhbngbaifeaaW.PrintLast Go.Proofs.YtipjhbngbaifeaaW.PrintMore
set_option linter.unusedVariables false
set_option linter.unusedSimpArgs false
set_option maxHeartbeats 2000000 in
set_option maxRecDepth 100000 in
theorem pickView_n1 (off : Int) (A1 A2 : Option Addr) (c1 c2 : Nat) (l1 l2 : List Int) (a fr st n : Int) (w : World) (hr1 : Kd.C (Kd.int .i64) w A1 l1.length l1) (hc1 : l1.length ≤ c1) (hr2 : Kd.C (Kd.int .i64) w A2 l2.length l2) (hc2 : l2.length ≤ c2) (hf : formedB off l1 l2 = false) :
    Calls Try.prog 41 #[.agg #[.int .i64 off, .slice A1 l1.length c1, .slice A2 l2.length c2], .int .i64 a, .int .i64 fr, .int .i64 st, .int .i64 n] w fun e w' => ∃ v1_ v2_ : Value, e = .returned (.tuple #[.agg #[.int .i64 0, v1_, v2_], .bool false]) ∧ Kd.R (Kd.int .i64) 3 w' w.heap.size (fun k_ => some k_ ≠ (v2_ : Value).ownBlock) v1_ [] ∧ Kd.R (Kd.int .i64) 3 w' w.heap.size (fun k_ => some k_ ≠ (v1_ : Value).ownBlock) v2_ [] ∧ Below w.heap.size w w' := by
  have HR1 := Aside0.mk hr1
  have HC1 := Aside0.mk hc1
  have HR2 := Aside0.mk hr2
  have HC2 := Aside0.mk hc2
  have HF := Aside0.mk hf
  clear hr1 hc1 hr2 hc2 hf
  go_enter Try.func41, Try.ntmps41
  go_wp2_with (first | ((with_reducible refine gate_dst (N := 5) rfl ?_); refine box_event ?hg (N := 5) ?hd (cs := #[.int .i64 off, .slice A1 l1.length c1, .slice A2 l2.length c2]) (t := 33) ?hr ?_; (case hd => rfl); (case hg => rfl); (case hr => first | (go_simp; done) | (go_simp; rfl)); intro g1 hg1 w1 hb1 hB1; have HB1 := Aside0.mk hb1; have HW := Aside0.mk hB1; have HG1 := Aside0.mk (show w.heap.size ≤ g1 by have e := hg1; (try simp at e); omega); clear hb1 hB1 hg1) | ((with_reducible refine gate_dst (N := 10) rfl ?_); refine box_event ?hg (N := 10) ?hd (cs := #[.int .i64 0, .slice none 0 0, .slice none 0 0]) (t := 33) ?hr ?_; (case hd => rfl); (case hg => rfl); (case hr => first | (go_simp; done) | (go_simp; rfl)); intro g2 hg2 w2 hb2 hB2; have HB2 := Aside0.mk hb2; have nw := Aside0.mk (below_step (by repeat (first | (with_reducible first | exact HW.out | apply below_alloc | apply below_drew1 | apply pw_below_drewN) | exact HW.out)) hB2); have LT12 := Aside0.mk (show g1 < g2 by have := blk_lt HB1.out; have e := hg2; (try simp at e); omega); have n1 := Aside0.mk (blk_below (g := g1) (o := .cells #[.int .i64 off, .slice A1 l1.length c1, .slice A2 l2.length c2] 33 (0, 0)) (by (with_reducible repeat (first | refine blk_drew ?_ | refine blk_drewN ?_ _ | refine blk_alloc ?_ _)); exact HB1.out) hB2); clear HB1 HW; have HB1 := n1; have HW := nw; clear n1 nw hb2 hB2 hg2) | ((with_reducible refine gate_dst (N := 15) rfl ?_); refine wpList_load_row rfl 33 (.tmp 5) rfl g1 rfl 33 #[.int .i64 off, .slice A1 l1.length c1, .slice A2 l2.length c2] (0, 0) _ (by (with_reducible repeat (first | refine blk_drew ?_ | refine blk_drewN ?_ _ | refine blk_alloc ?_ _)); exact HB1.out) Try.underlying33 rfl (by kernel_rfl) ?_) | (go_at_call 63; refine (formed_calls off A1 A2 c1 c2 l1 l2 _ (Kd.C_below HR1.out (by repeat (first | (with_reducible first | exact HW.out | apply below_alloc | apply below_drew1 | apply pw_below_drewN) | exact HW.out))) HC1.out (Kd.C_below HR2.out (by repeat (first | (with_reducible first | exact HW.out | apply below_alloc | apply below_drew1 | apply pw_below_drewN) | exact HW.out))) HC2.out).mono ?_; rw [HF.out]; rintro e w8 ⟨rfl, hb8⟩; have nw := Aside0.mk (below_step (by repeat (first | (with_reducible first | exact HW.out | apply below_alloc | apply below_drew1 | apply pw_below_drewN) | exact HW.out)) hb8); have n2 := Aside0.mk (blk_below (g := g2) (o := .cells #[.int .i64 0, .slice none 0 0, .slice none 0 0] 33 (0, 0)) (by (with_reducible repeat (first | refine blk_drew ?_ | refine blk_drewN ?_ _ | refine blk_alloc ?_ _)); exact HB2.out) hb8); clear HB1 HB2 HW; have HB2 := n2; have HW := nw; clear n2 nw hb8) | ((with_reducible refine gate_dst (N := 12) rfl ?_); refine box_event ?hg (N := 12) ?hd (cs := lay zero12) (t := 67) ?hr ?_; (case hd => rfl); (case hg => rfl); (case hr => first | (go_simp; done) | (go_simp; rfl)); intro g8 hg8 w9 hb9 hB9; have HB8 := Aside0.mk hb9; have nw := Aside0.mk (below_step (by repeat (first | (with_reducible first | exact HW.out | apply below_alloc | apply below_drew1 | apply pw_below_drewN) | exact HW.out)) hB9); have LT28 := Aside0.mk (show g2 < g8 by have := blk_lt HB2.out; have e := hg8; (try simp at e); omega); have n2 := Aside0.mk (blk_below (g := g2) (o := .cells #[.int .i64 0, .slice none 0 0, .slice none 0 0] 33 (0, 0)) (by (with_reducible repeat (first | refine blk_drew ?_ | refine blk_drewN ?_ _ | refine blk_alloc ?_ _)); exact HB2.out) hB9); have n3 := Aside0.mk ((setRow_other w9 g8 g2 (lay (formedL off l1 l2)) (show g2 ≠ g8 by have := LT28.out; omega)).trans n2.out); have n4 := Aside0.mk (setRow_heap w9 g8 _ (lay (formedL off l1 l2)) _ _ HB8.out); have nw2 := Aside0.mk (below_setRow nw.out (show w.heap.size ≤ g8 by have := HG1.out; have := LT12.out; have := LT28.out; omega) (lay (formedL off l1 l2))); have hcr : (w9.setRow g8 (lay (formedL off l1 l2))).cell? ⟨g8, 1, none⟩ = some (.int .i64 (gi (formedL off l1 l2) 1)) := lay_cell n4.out 1 (by rw [formedL_len]; omega);  clear HB2 HW; have HB2 := n3; have BL := n4; have HW := nw2; clear n2 n3 n4 nw nw2 hb9 hB9 hg8) | ((with_reducible refine gate_store rfl ?_); refine wpList_store_row rfl 67 (.tmp 12) (.tmp 17) rfl g8 (lay (formedL off l1 l2)) rfl rfl 67 (lay zero12) HB8.out (info67 _ formedL_len) (by rw [lay_size, lay_size, formedL_len]; rfl) (lay_one _) ?_) | ((with_reducible refine gate_store rfl ?_); refine wpList_store_row rfl 33 (.tmp 10) (.tmp 39) rfl g2 #[.int .i64 0, .slice none 0 0, .slice none 0 0] rfl rfl 33 #[.int .i64 0, .slice none 0 0, .slice none 0 0] (by (with_reducible repeat (first | refine blk_drew ?_ | refine blk_drewN ?_ _ | refine blk_alloc ?_ _)); exact HB2.out) (by kernel_rfl) rfl (by simp [Value.oneCell']) ?_))
  refine bodyPost_ret (results_ct rfl _ _ g2 33 #[.int .i64 0, .slice none 0 0, .slice none 0 0] (0, 0) _ rfl (setRow_heap _ g2 _ _ _ (0, 0) (by (with_reducible repeat (first | refine blk_drew ?_ | refine blk_drewN ?_ _ | refine blk_alloc ?_ _)); exact HB2.out)) Try.underlying33 rfl (by kernel_rfl)) rfl ?_
  exact ⟨_, _, rfl, Kd.R_nil _ _ _ _ _, Kd.R_nil _ _ _ _ _, below_setRow (by repeat (first | (with_reducible first | exact HW.out | apply below_alloc | apply below_drew1 | apply pw_below_drewN) | exact HW.out)) (show w.heap.size ≤ g2 by have := HG1.out; have := LT12.out; omega) _⟩
set_option maxHeartbeats 2000000 in
set_option maxRecDepth 100000 in
theorem pickView_n2 (off : Int) (A1 A2 : Option Addr) (c1 c2 : Nat) (l1 l2 : List Int) (a fr st n : Int) (w : World) (hr1 : Kd.C (Kd.int .i64) w A1 l1.length l1) (hc1 : l1.length ≤ c1) (hr2 : Kd.C (Kd.int .i64) w A2 l2.length l2) (hc2 : l2.length ≤ c2) (hf : formedB off l1 l2 = true) (h1 : ¬ (0 ≤ a ∧ a ≤ wrap64 ((l1.length : Int) - 1))) :
    Calls Try.prog 41 #[.agg #[.int .i64 off, .slice A1 l1.length c1, .slice A2 l2.length c2], .int .i64 a, .int .i64 fr, .int .i64 st, .int .i64 n] w fun e w' => ∃ v1_ v2_ : Value, e = .returned (.tuple #[.agg #[.int .i64 0, v1_, v2_], .bool false]) ∧ Kd.R (Kd.int .i64) 3 w' w.heap.size (fun k_ => some k_ ≠ (v2_ : Value).ownBlock) v1_ [] ∧ Kd.R (Kd.int .i64) 3 w' w.heap.size (fun k_ => some k_ ≠ (v1_ : Value).ownBlock) v2_ [] ∧ Below w.heap.size w w' := by
  have HI1 : Aside0 (impl_within.f a 0 (wrap64 ((l1.length : Int) - 1)) = some false) := ⟨by rw [within_eq]; exact congrArg some (decide_eq_false h1)⟩
  have HE := Aside0.mk (formedL_1 hf)
  clear h1
  have HR1 := Aside0.mk hr1
  have HC1 := Aside0.mk hc1
  have HR2 := Aside0.mk hr2
  have HC2 := Aside0.mk hc2
  have HF := Aside0.mk hf
  clear hr1 hc1 hr2 hc2 hf
  go_enter Try.func41, Try.ntmps41
  go_wp2_with (first | ((with_reducible refine gate_dst (N := 5) rfl ?_); refine box_event ?hg (N := 5) ?hd (cs := #[.int .i64 off, .slice A1 l1.length c1, .slice A2 l2.length c2]) (t := 33) ?hr ?_; (case hd => rfl); (case hg => rfl); (case hr => first | (go_simp; done) | (go_simp; rfl)); intro g1 hg1 w1 hb1 hB1; have HB1 := Aside0.mk hb1; have HW := Aside0.mk hB1; have HG1 := Aside0.mk (show w.heap.size ≤ g1 by have e := hg1; (try simp at e); omega); clear hb1 hB1 hg1) | ((with_reducible refine gate_dst (N := 10) rfl ?_); refine box_event ?hg (N := 10) ?hd (cs := #[.int .i64 0, .slice none 0 0, .slice none 0 0]) (t := 33) ?hr ?_; (case hd => rfl); (case hg => rfl); (case hr => first | (go_simp; done) | (go_simp; rfl)); intro g2 hg2 w2 hb2 hB2; have HB2 := Aside0.mk hb2; have nw := Aside0.mk (below_step (by repeat (first | (with_reducible first | exact HW.out | apply below_alloc | apply below_drew1 | apply pw_below_drewN) | exact HW.out)) hB2); have LT12 := Aside0.mk (show g1 < g2 by have := blk_lt HB1.out; have e := hg2; (try simp at e); omega); have n1 := Aside0.mk (blk_below (g := g1) (o := .cells #[.int .i64 off, .slice A1 l1.length c1, .slice A2 l2.length c2] 33 (0, 0)) (by (with_reducible repeat (first | refine blk_drew ?_ | refine blk_drewN ?_ _ | refine blk_alloc ?_ _)); exact HB1.out) hB2); clear HB1 HW; have HB1 := n1; have HW := nw; clear n1 nw hb2 hB2 hg2) | ((with_reducible refine gate_dst (N := 15) rfl ?_); refine wpList_load_row rfl 33 (.tmp 5) rfl g1 rfl 33 #[.int .i64 off, .slice A1 l1.length c1, .slice A2 l2.length c2] (0, 0) _ (by (with_reducible repeat (first | refine blk_drew ?_ | refine blk_drewN ?_ _ | refine blk_alloc ?_ _)); exact HB1.out) Try.underlying33 rfl (by kernel_rfl) ?_) | (go_at_call 63; refine (formed_calls off A1 A2 c1 c2 l1 l2 _ (Kd.C_below HR1.out (by repeat (first | (with_reducible first | exact HW.out | apply below_alloc | apply below_drew1 | apply pw_below_drewN) | exact HW.out))) HC1.out (Kd.C_below HR2.out (by repeat (first | (with_reducible first | exact HW.out | apply below_alloc | apply below_drew1 | apply pw_below_drewN) | exact HW.out))) HC2.out).mono ?_; rw [HF.out]; rintro e w8 ⟨rfl, hb8⟩; have nw := Aside0.mk (below_step (by repeat (first | (with_reducible first | exact HW.out | apply below_alloc | apply below_drew1 | apply pw_below_drewN) | exact HW.out)) hb8); have n2 := Aside0.mk (blk_below (g := g2) (o := .cells #[.int .i64 0, .slice none 0 0, .slice none 0 0] 33 (0, 0)) (by (with_reducible repeat (first | refine blk_drew ?_ | refine blk_drewN ?_ _ | refine blk_alloc ?_ _)); exact HB2.out) hb8); clear HB1 HB2 HW; have HB2 := n2; have HW := nw; clear n2 nw hb8) | ((with_reducible refine gate_dst (N := 12) rfl ?_); refine box_event ?hg (N := 12) ?hd (cs := lay zero12) (t := 67) ?hr ?_; (case hd => rfl); (case hg => rfl); (case hr => first | (go_simp; done) | (go_simp; rfl)); intro g8 hg8 w9 hb9 hB9; have HB8 := Aside0.mk hb9; have nw := Aside0.mk (below_step (by repeat (first | (with_reducible first | exact HW.out | apply below_alloc | apply below_drew1 | apply pw_below_drewN) | exact HW.out)) hB9); have LT28 := Aside0.mk (show g2 < g8 by have := blk_lt HB2.out; have e := hg8; (try simp at e); omega); have n2 := Aside0.mk (blk_below (g := g2) (o := .cells #[.int .i64 0, .slice none 0 0, .slice none 0 0] 33 (0, 0)) (by (with_reducible repeat (first | refine blk_drew ?_ | refine blk_drewN ?_ _ | refine blk_alloc ?_ _)); exact HB2.out) hB9); have n3 := Aside0.mk ((setRow_other w9 g8 g2 (lay (formedL off l1 l2)) (show g2 ≠ g8 by have := LT28.out; omega)).trans n2.out); have n4 := Aside0.mk (setRow_heap w9 g8 _ (lay (formedL off l1 l2)) _ _ HB8.out); have nw2 := Aside0.mk (below_setRow nw.out (show w.heap.size ≤ g8 by have := HG1.out; have := LT12.out; have := LT28.out; omega) (lay (formedL off l1 l2))); have hcr : (w9.setRow g8 (lay (formedL off l1 l2))).cell? ⟨g8, 1, none⟩ = some (.int .i64 (gi (formedL off l1 l2) 1)) := lay_cell n4.out 1 (by rw [formedL_len]; omega); rw [HE.out] at hcr; clear HB2 HW; have HB2 := n3; have BL := n4; have HW := nw2; clear n2 n3 n4 nw nw2 hb9 hB9 hg8) | ((with_reducible refine gate_store rfl ?_); refine wpList_store_row rfl 67 (.tmp 12) (.tmp 17) rfl g8 (lay (formedL off l1 l2)) rfl rfl 67 (lay zero12) HB8.out (info67 _ formedL_len) (by rw [lay_size, lay_size, formedL_len]; rfl) (lay_one _) ?_) | (go_at_call 54; (with_reducible refine (impl_within.calls _ _ _ false _ HI1.out).mono ?_); rintro e w6 ⟨rfl, ⟨⟨n6, rfl⟩⟩⟩) | ((with_reducible refine gate_store rfl ?_); refine wpList_store_row rfl 33 (.tmp 10) (.tmp 39) rfl g2 #[.int .i64 0, .slice none 0 0, .slice none 0 0] rfl rfl 33 #[.int .i64 0, .slice none 0 0, .slice none 0 0] (by (with_reducible repeat (first | refine blk_drew ?_ | refine blk_drewN ?_ _ | refine blk_alloc ?_ _)); exact HB2.out) (by kernel_rfl) rfl (by simp [Value.oneCell']) ?_))
  refine bodyPost_ret (results_ct rfl _ _ g2 33 #[.int .i64 0, .slice none 0 0, .slice none 0 0] (0, 0) _ rfl (setRow_heap _ g2 _ _ _ (0, 0) (by (with_reducible repeat (first | refine blk_drew ?_ | refine blk_drewN ?_ _ | refine blk_alloc ?_ _)); exact HB2.out)) Try.underlying33 rfl (by kernel_rfl)) rfl ?_
  exact ⟨_, _, rfl, Kd.R_nil _ _ _ _ _, Kd.R_nil _ _ _ _ _, below_setRow (by repeat (first | (with_reducible first | exact HW.out | apply below_alloc | apply below_drew1 | apply pw_below_drewN) | exact HW.out)) (show w.heap.size ≤ g2 by have := HG1.out; have := LT12.out; omega) _⟩
set_option maxHeartbeats 2000000 in
set_option maxRecDepth 100000 in
theorem pickView_n3 (off : Int) (A1 A2 : Option Addr) (c1 c2 : Nat) (l1 l2 : List Int) (a fr st n : Int) (w : World) (hr1 : Kd.C (Kd.int .i64) w A1 l1.length l1) (hc1 : l1.length ≤ c1) (hr2 : Kd.C (Kd.int .i64) w A2 l2.length l2) (hc2 : l2.length ≤ c2) (hf : formedB off l1 l2 = true) (h1 : 0 ≤ a ∧ a ≤ wrap64 ((l1.length : Int) - 1)) (h2 : ¬ (0 ≤ n ∧ n ≤ 10000)) :
    Calls Try.prog 41 #[.agg #[.int .i64 off, .slice A1 l1.length c1, .slice A2 l2.length c2], .int .i64 a, .int .i64 fr, .int .i64 st, .int .i64 n] w fun e w' => ∃ v1_ v2_ : Value, e = .returned (.tuple #[.agg #[.int .i64 0, v1_, v2_], .bool false]) ∧ Kd.R (Kd.int .i64) 3 w' w.heap.size (fun k_ => some k_ ≠ (v2_ : Value).ownBlock) v1_ [] ∧ Kd.R (Kd.int .i64) 3 w' w.heap.size (fun k_ => some k_ ≠ (v1_ : Value).ownBlock) v2_ [] ∧ Below w.heap.size w w' := by
  have HI1 : Aside0 (impl_within.f a 0 (wrap64 ((l1.length : Int) - 1)) = some true) := ⟨by rw [within_eq]; exact congrArg some (decide_eq_true h1)⟩
  have HI2 : Aside0 (impl_within.f n 0 10000 = some false) := ⟨by rw [within_eq]; exact congrArg some (decide_eq_false h2)⟩
  have HE := Aside0.mk (formedL_1 hf)
  clear h1 h2
  have HR1 := Aside0.mk hr1
  have HC1 := Aside0.mk hc1
  have HR2 := Aside0.mk hr2
  have HC2 := Aside0.mk hc2
  have HF := Aside0.mk hf
  clear hr1 hc1 hr2 hc2 hf
  go_enter Try.func41, Try.ntmps41
  go_wp2_with (first | ((with_reducible refine gate_dst (N := 5) rfl ?_); refine box_event ?hg (N := 5) ?hd (cs := #[.int .i64 off, .slice A1 l1.length c1, .slice A2 l2.length c2]) (t := 33) ?hr ?_; (case hd => rfl); (case hg => rfl); (case hr => first | (go_simp; done) | (go_simp; rfl)); intro g1 hg1 w1 hb1 hB1; have HB1 := Aside0.mk hb1; have HW := Aside0.mk hB1; have HG1 := Aside0.mk (show w.heap.size ≤ g1 by have e := hg1; (try simp at e); omega); clear hb1 hB1 hg1) | ((with_reducible refine gate_dst (N := 10) rfl ?_); refine box_event ?hg (N := 10) ?hd (cs := #[.int .i64 0, .slice none 0 0, .slice none 0 0]) (t := 33) ?hr ?_; (case hd => rfl); (case hg => rfl); (case hr => first | (go_simp; done) | (go_simp; rfl)); intro g2 hg2 w2 hb2 hB2; have HB2 := Aside0.mk hb2; have nw := Aside0.mk (below_step (by repeat (first | (with_reducible first | exact HW.out | apply below_alloc | apply below_drew1 | apply pw_below_drewN) | exact HW.out)) hB2); have LT12 := Aside0.mk (show g1 < g2 by have := blk_lt HB1.out; have e := hg2; (try simp at e); omega); have n1 := Aside0.mk (blk_below (g := g1) (o := .cells #[.int .i64 off, .slice A1 l1.length c1, .slice A2 l2.length c2] 33 (0, 0)) (by (with_reducible repeat (first | refine blk_drew ?_ | refine blk_drewN ?_ _ | refine blk_alloc ?_ _)); exact HB1.out) hB2); clear HB1 HW; have HB1 := n1; have HW := nw; clear n1 nw hb2 hB2 hg2) | ((with_reducible refine gate_dst (N := 15) rfl ?_); refine wpList_load_row rfl 33 (.tmp 5) rfl g1 rfl 33 #[.int .i64 off, .slice A1 l1.length c1, .slice A2 l2.length c2] (0, 0) _ (by (with_reducible repeat (first | refine blk_drew ?_ | refine blk_drewN ?_ _ | refine blk_alloc ?_ _)); exact HB1.out) Try.underlying33 rfl (by kernel_rfl) ?_) | (go_at_call 63; refine (formed_calls off A1 A2 c1 c2 l1 l2 _ (Kd.C_below HR1.out (by repeat (first | (with_reducible first | exact HW.out | apply below_alloc | apply below_drew1 | apply pw_below_drewN) | exact HW.out))) HC1.out (Kd.C_below HR2.out (by repeat (first | (with_reducible first | exact HW.out | apply below_alloc | apply below_drew1 | apply pw_below_drewN) | exact HW.out))) HC2.out).mono ?_; rw [HF.out]; rintro e w8 ⟨rfl, hb8⟩; have nw := Aside0.mk (below_step (by repeat (first | (with_reducible first | exact HW.out | apply below_alloc | apply below_drew1 | apply pw_below_drewN) | exact HW.out)) hb8); have n2 := Aside0.mk (blk_below (g := g2) (o := .cells #[.int .i64 0, .slice none 0 0, .slice none 0 0] 33 (0, 0)) (by (with_reducible repeat (first | refine blk_drew ?_ | refine blk_drewN ?_ _ | refine blk_alloc ?_ _)); exact HB2.out) hb8); clear HB1 HB2 HW; have HB2 := n2; have HW := nw; clear n2 nw hb8) | ((with_reducible refine gate_dst (N := 12) rfl ?_); refine box_event ?hg (N := 12) ?hd (cs := lay zero12) (t := 67) ?hr ?_; (case hd => rfl); (case hg => rfl); (case hr => first | (go_simp; done) | (go_simp; rfl)); intro g8 hg8 w9 hb9 hB9; have HB8 := Aside0.mk hb9; have nw := Aside0.mk (below_step (by repeat (first | (with_reducible first | exact HW.out | apply below_alloc | apply below_drew1 | apply pw_below_drewN) | exact HW.out)) hB9); have LT28 := Aside0.mk (show g2 < g8 by have := blk_lt HB2.out; have e := hg8; (try simp at e); omega); have n2 := Aside0.mk (blk_below (g := g2) (o := .cells #[.int .i64 0, .slice none 0 0, .slice none 0 0] 33 (0, 0)) (by (with_reducible repeat (first | refine blk_drew ?_ | refine blk_drewN ?_ _ | refine blk_alloc ?_ _)); exact HB2.out) hB9); have n3 := Aside0.mk ((setRow_other w9 g8 g2 (lay (formedL off l1 l2)) (show g2 ≠ g8 by have := LT28.out; omega)).trans n2.out); have n4 := Aside0.mk (setRow_heap w9 g8 _ (lay (formedL off l1 l2)) _ _ HB8.out); have nw2 := Aside0.mk (below_setRow nw.out (show w.heap.size ≤ g8 by have := HG1.out; have := LT12.out; have := LT28.out; omega) (lay (formedL off l1 l2))); have hcr : (w9.setRow g8 (lay (formedL off l1 l2))).cell? ⟨g8, 1, none⟩ = some (.int .i64 (gi (formedL off l1 l2) 1)) := lay_cell n4.out 1 (by rw [formedL_len]; omega); rw [HE.out] at hcr; clear HB2 HW; have HB2 := n3; have BL := n4; have HW := nw2; clear n2 n3 n4 nw nw2 hb9 hB9 hg8) | ((with_reducible refine gate_store rfl ?_); refine wpList_store_row rfl 67 (.tmp 12) (.tmp 17) rfl g8 (lay (formedL off l1 l2)) rfl rfl 67 (lay zero12) HB8.out (info67 _ formedL_len) (by rw [lay_size, lay_size, formedL_len]; rfl) (lay_one _) ?_) | (go_at_call 54; (with_reducible refine (impl_within.calls _ _ _ true _ HI1.out).mono ?_); rintro e w6 ⟨rfl, ⟨⟨n6, rfl⟩⟩⟩) | (go_at_call 54; (with_reducible refine (impl_within.calls _ _ _ false _ HI2.out).mono ?_); rintro e w6 ⟨rfl, ⟨⟨n6, rfl⟩⟩⟩) | ((with_reducible refine gate_store rfl ?_); refine wpList_store_row rfl 33 (.tmp 10) (.tmp 39) rfl g2 #[.int .i64 0, .slice none 0 0, .slice none 0 0] rfl rfl 33 #[.int .i64 0, .slice none 0 0, .slice none 0 0] (by (with_reducible repeat (first | refine blk_drew ?_ | refine blk_drewN ?_ _ | refine blk_alloc ?_ _)); exact HB2.out) (by kernel_rfl) rfl (by simp [Value.oneCell']) ?_))
  refine bodyPost_ret (results_ct rfl _ _ g2 33 #[.int .i64 0, .slice none 0 0, .slice none 0 0] (0, 0) _ rfl (setRow_heap _ g2 _ _ _ (0, 0) (by (with_reducible repeat (first | refine blk_drew ?_ | refine blk_drewN ?_ _ | refine blk_alloc ?_ _)); exact HB2.out)) Try.underlying33 rfl (by kernel_rfl)) rfl ?_
  exact ⟨_, _, rfl, Kd.R_nil _ _ _ _ _, Kd.R_nil _ _ _ _ _, below_setRow (by repeat (first | (with_reducible first | exact HW.out | apply below_alloc | apply below_drew1 | apply pw_below_drewN) | exact HW.out)) (show w.heap.size ≤ g2 by have := HG1.out; have := LT12.out; omega) _⟩
set_option maxHeartbeats 2000000 in
set_option maxRecDepth 100000 in
theorem pickView_n4 (off : Int) (A1 A2 : Option Addr) (c1 c2 : Nat) (l1 l2 : List Int) (a fr st n : Int) (w : World) (hr1 : Kd.C (Kd.int .i64) w A1 l1.length l1) (hc1 : l1.length ≤ c1) (hr2 : Kd.C (Kd.int .i64) w A2 l2.length l2) (hc2 : l2.length ≤ c2) (hf : formedB off l1 l2 = true) (h1 : 0 ≤ a ∧ a ≤ wrap64 ((l1.length : Int) - 1)) (h2 : 0 ≤ n ∧ n ≤ 10000) (h3 : ¬ (-10000 ≤ st ∧ st ≤ 10000)) :
    Calls Try.prog 41 #[.agg #[.int .i64 off, .slice A1 l1.length c1, .slice A2 l2.length c2], .int .i64 a, .int .i64 fr, .int .i64 st, .int .i64 n] w fun e w' => ∃ v1_ v2_ : Value, e = .returned (.tuple #[.agg #[.int .i64 0, v1_, v2_], .bool false]) ∧ Kd.R (Kd.int .i64) 3 w' w.heap.size (fun k_ => some k_ ≠ (v2_ : Value).ownBlock) v1_ [] ∧ Kd.R (Kd.int .i64) 3 w' w.heap.size (fun k_ => some k_ ≠ (v1_ : Value).ownBlock) v2_ [] ∧ Below w.heap.size w w' := by
  have HI1 : Aside0 (impl_within.f a 0 (wrap64 ((l1.length : Int) - 1)) = some true) := ⟨by rw [within_eq]; exact congrArg some (decide_eq_true h1)⟩
  have HI2 : Aside0 (impl_within.f n 0 10000 = some true) := ⟨by rw [within_eq]; exact congrArg some (decide_eq_true h2)⟩
  have HI3 : Aside0 (impl_within.f st (-10000) 10000 = some false) := ⟨by rw [within_eq]; exact congrArg some (decide_eq_false h3)⟩
  have HE := Aside0.mk (formedL_1 hf)
  clear h1 h2 h3
  have HR1 := Aside0.mk hr1
  have HC1 := Aside0.mk hc1
  have HR2 := Aside0.mk hr2
  have HC2 := Aside0.mk hc2
  have HF := Aside0.mk hf
  clear hr1 hc1 hr2 hc2 hf
  go_enter Try.func41, Try.ntmps41
  go_wp2_with (first | ((with_reducible refine gate_dst (N := 5) rfl ?_); refine box_event ?hg (N := 5) ?hd (cs := #[.int .i64 off, .slice A1 l1.length c1, .slice A2 l2.length c2]) (t := 33) ?hr ?_; (case hd => rfl); (case hg => rfl); (case hr => first | (go_simp; done) | (go_simp; rfl)); intro g1 hg1 w1 hb1 hB1; have HB1 := Aside0.mk hb1; have HW := Aside0.mk hB1; have HG1 := Aside0.mk (show w.heap.size ≤ g1 by have e := hg1; (try simp at e); omega); clear hb1 hB1 hg1) | ((with_reducible refine gate_dst (N := 10) rfl ?_); refine box_event ?hg (N := 10) ?hd (cs := #[.int .i64 0, .slice none 0 0, .slice none 0 0]) (t := 33) ?hr ?_; (case hd => rfl); (case hg => rfl); (case hr => first | (go_simp; done) | (go_simp; rfl)); intro g2 hg2 w2 hb2 hB2; have HB2 := Aside0.mk hb2; have nw := Aside0.mk (below_step (by repeat (first | (with_reducible first | exact HW.out | apply below_alloc | apply below_drew1 | apply pw_below_drewN) | exact HW.out)) hB2); have LT12 := Aside0.mk (show g1 < g2 by have := blk_lt HB1.out; have e := hg2; (try simp at e); omega); have n1 := Aside0.mk (blk_below (g := g1) (o := .cells #[.int .i64 off, .slice A1 l1.length c1, .slice A2 l2.length c2] 33 (0, 0)) (by (with_reducible repeat (first | refine blk_drew ?_ | refine blk_drewN ?_ _ | refine blk_alloc ?_ _)); exact HB1.out) hB2); clear HB1 HW; have HB1 := n1; have HW := nw; clear n1 nw hb2 hB2 hg2) | ((with_reducible refine gate_dst (N := 15) rfl ?_); refine wpList_load_row rfl 33 (.tmp 5) rfl g1 rfl 33 #[.int .i64 off, .slice A1 l1.length c1, .slice A2 l2.length c2] (0, 0) _ (by (with_reducible repeat (first | refine blk_drew ?_ | refine blk_drewN ?_ _ | refine blk_alloc ?_ _)); exact HB1.out) Try.underlying33 rfl (by kernel_rfl) ?_) | (go_at_call 63; refine (formed_calls off A1 A2 c1 c2 l1 l2 _ (Kd.C_below HR1.out (by repeat (first | (with_reducible first | exact HW.out | apply below_alloc | apply below_drew1 | apply pw_below_drewN) | exact HW.out))) HC1.out (Kd.C_below HR2.out (by repeat (first | (with_reducible first | exact HW.out | apply below_alloc | apply below_drew1 | apply pw_below_drewN) | exact HW.out))) HC2.out).mono ?_; rw [HF.out]; rintro e w8 ⟨rfl, hb8⟩; have nw := Aside0.mk (below_step (by repeat (first | (with_reducible first | exact HW.out | apply below_alloc | apply below_drew1 | apply pw_below_drewN) | exact HW.out)) hb8); have n2 := Aside0.mk (blk_below (g := g2) (o := .cells #[.int .i64 0, .slice none 0 0, .slice none 0 0] 33 (0, 0)) (by (with_reducible repeat (first | refine blk_drew ?_ | refine blk_drewN ?_ _ | refine blk_alloc ?_ _)); exact HB2.out) hb8); clear HB1 HB2 HW; have HB2 := n2; have HW := nw; clear n2 nw hb8) | ((with_reducible refine gate_dst (N := 12) rfl ?_); refine box_event ?hg (N := 12) ?hd (cs := lay zero12) (t := 67) ?hr ?_; (case hd => rfl); (case hg => rfl); (case hr => first | (go_simp; done) | (go_simp; rfl)); intro g8 hg8 w9 hb9 hB9; have HB8 := Aside0.mk hb9; have nw := Aside0.mk (below_step (by repeat (first | (with_reducible first | exact HW.out | apply below_alloc | apply below_drew1 | apply pw_below_drewN) | exact HW.out)) hB9); have LT28 := Aside0.mk (show g2 < g8 by have := blk_lt HB2.out; have e := hg8; (try simp at e); omega); have n2 := Aside0.mk (blk_below (g := g2) (o := .cells #[.int .i64 0, .slice none 0 0, .slice none 0 0] 33 (0, 0)) (by (with_reducible repeat (first | refine blk_drew ?_ | refine blk_drewN ?_ _ | refine blk_alloc ?_ _)); exact HB2.out) hB9); have n3 := Aside0.mk ((setRow_other w9 g8 g2 (lay (formedL off l1 l2)) (show g2 ≠ g8 by have := LT28.out; omega)).trans n2.out); have n4 := Aside0.mk (setRow_heap w9 g8 _ (lay (formedL off l1 l2)) _ _ HB8.out); have nw2 := Aside0.mk (below_setRow nw.out (show w.heap.size ≤ g8 by have := HG1.out; have := LT12.out; have := LT28.out; omega) (lay (formedL off l1 l2))); have hcr : (w9.setRow g8 (lay (formedL off l1 l2))).cell? ⟨g8, 1, none⟩ = some (.int .i64 (gi (formedL off l1 l2) 1)) := lay_cell n4.out 1 (by rw [formedL_len]; omega); rw [HE.out] at hcr; clear HB2 HW; have HB2 := n3; have BL := n4; have HW := nw2; clear n2 n3 n4 nw nw2 hb9 hB9 hg8) | ((with_reducible refine gate_store rfl ?_); refine wpList_store_row rfl 67 (.tmp 12) (.tmp 17) rfl g8 (lay (formedL off l1 l2)) rfl rfl 67 (lay zero12) HB8.out (info67 _ formedL_len) (by rw [lay_size, lay_size, formedL_len]; rfl) (lay_one _) ?_) | (go_at_call 54; (with_reducible refine (impl_within.calls _ _ _ true _ HI1.out).mono ?_); rintro e w6 ⟨rfl, ⟨⟨n6, rfl⟩⟩⟩) | (go_at_call 54; (with_reducible refine (impl_within.calls _ _ _ true _ HI2.out).mono ?_); rintro e w6 ⟨rfl, ⟨⟨n6, rfl⟩⟩⟩) | (go_at_call 54; (with_reducible refine (impl_within.calls _ _ _ false _ HI3.out).mono ?_); rintro e w6 ⟨rfl, ⟨⟨n6, rfl⟩⟩⟩) | ((with_reducible refine gate_store rfl ?_); refine wpList_store_row rfl 33 (.tmp 10) (.tmp 39) rfl g2 #[.int .i64 0, .slice none 0 0, .slice none 0 0] rfl rfl 33 #[.int .i64 0, .slice none 0 0, .slice none 0 0] (by (with_reducible repeat (first | refine blk_drew ?_ | refine blk_drewN ?_ _ | refine blk_alloc ?_ _)); exact HB2.out) (by kernel_rfl) rfl (by simp [Value.oneCell']) ?_))
  refine bodyPost_ret (results_ct rfl _ _ g2 33 #[.int .i64 0, .slice none 0 0, .slice none 0 0] (0, 0) _ rfl (setRow_heap _ g2 _ _ _ (0, 0) (by (with_reducible repeat (first | refine blk_drew ?_ | refine blk_drewN ?_ _ | refine blk_alloc ?_ _)); exact HB2.out)) Try.underlying33 rfl (by kernel_rfl)) rfl ?_
  exact ⟨_, _, rfl, Kd.R_nil _ _ _ _ _, Kd.R_nil _ _ _ _ _, below_setRow (by repeat (first | (with_reducible first | exact HW.out | apply below_alloc | apply below_drew1 | apply pw_below_drewN) | exact HW.out)) (show w.heap.size ≤ g2 by have := HG1.out; have := LT12.out; omega) _⟩
set_option maxHeartbeats 2000000 in
set_option maxRecDepth 100000 in
theorem pickView_n5 (off : Int) (A1 A2 : Option Addr) (c1 c2 : Nat) (l1 l2 : List Int) (m : Nat) (fr st n : Int) (w : World) (hr1 : Kd.C (Kd.int .i64) w A1 l1.length l1) (hc1 : l1.length ≤ c1) (hr2 : Kd.C (Kd.int .i64) w A2 l2.length l2) (hc2 : l2.length ≤ c2) (hf : formedB off l1 l2 = true) (hm : m < 5) (h1 : 0 ≤ (m : Int) ∧ (m : Int) ≤ wrap64 ((l1.length : Int) - 1)) (h2 : 0 ≤ n ∧ n ≤ 10000) (h3 : -10000 ≤ st ∧ st ≤ 10000) (h4 : 0 < n) (h5 : ¬ (0 ≤ fr ∧ fr ≤ wrap64 (gi (formedL off l1 l2) (2 + m) - 1))) :
    Calls Try.prog 41 #[.agg #[.int .i64 off, .slice A1 l1.length c1, .slice A2 l2.length c2], .int .i64 (m : Int), .int .i64 fr, .int .i64 st, .int .i64 n] w fun e w' => ∃ v1_ v2_ : Value, e = .returned (.tuple #[.agg #[.int .i64 0, v1_, v2_], .bool false]) ∧ Kd.R (Kd.int .i64) 3 w' w.heap.size (fun k_ => some k_ ≠ (v2_ : Value).ownBlock) v1_ [] ∧ Kd.R (Kd.int .i64) 3 w' w.heap.size (fun k_ => some k_ ≠ (v1_ : Value).ownBlock) v2_ [] ∧ Below w.heap.size w w' := by
  have HI1 : Aside0 (impl_within.f (m : Int) 0 (wrap64 ((l1.length : Int) - 1)) = some true) := ⟨by rw [within_eq]; exact congrArg some (decide_eq_true h1)⟩
  have HI2 : Aside0 (impl_within.f n 0 10000 = some true) := ⟨by rw [within_eq]; exact congrArg some (decide_eq_true h2)⟩
  have HI3 : Aside0 (impl_within.f st (-10000) 10000 = some true) := ⟨by rw [within_eq]; exact congrArg some (decide_eq_true h3)⟩
  have HE := Aside0.mk (formedL_1 hf)
  have HM := Aside0.mk hm
  have HI4 : Aside0 (impl_within.f fr 0 (wrap64 (gi (formedL off l1 l2) (2 + m) - 1)) = some false) := ⟨by rw [within_eq]; exact congrArg some (decide_eq_false h5)⟩
  have hnb := decide_eq_true h4
  clear h1 h2 h3 h4 h5
  have HR1 := Aside0.mk hr1
  have HC1 := Aside0.mk hc1
  have HR2 := Aside0.mk hr2
  have HC2 := Aside0.mk hc2
  have HF := Aside0.mk hf
  clear hr1 hc1 hr2 hc2 hf
  go_enter Try.func41, Try.ntmps41
  go_wp2_with (first | ((with_reducible refine gate_dst (N := 5) rfl ?_); refine box_event ?hg (N := 5) ?hd (cs := #[.int .i64 off, .slice A1 l1.length c1, .slice A2 l2.length c2]) (t := 33) ?hr ?_; (case hd => rfl); (case hg => rfl); (case hr => first | (go_simp; done) | (go_simp; rfl)); intro g1 hg1 w1 hb1 hB1; have HB1 := Aside0.mk hb1; have HW := Aside0.mk hB1; have HG1 := Aside0.mk (show w.heap.size ≤ g1 by have e := hg1; (try simp at e); omega); clear hb1 hB1 hg1) | ((with_reducible refine gate_dst (N := 10) rfl ?_); refine box_event ?hg (N := 10) ?hd (cs := #[.int .i64 0, .slice none 0 0, .slice none 0 0]) (t := 33) ?hr ?_; (case hd => rfl); (case hg => rfl); (case hr => first | (go_simp; done) | (go_simp; rfl)); intro g2 hg2 w2 hb2 hB2; have HB2 := Aside0.mk hb2; have nw := Aside0.mk (below_step (by repeat (first | (with_reducible first | exact HW.out | apply below_alloc | apply below_drew1 | apply pw_below_drewN) | exact HW.out)) hB2); have LT12 := Aside0.mk (show g1 < g2 by have := blk_lt HB1.out; have e := hg2; (try simp at e); omega); have n1 := Aside0.mk (blk_below (g := g1) (o := .cells #[.int .i64 off, .slice A1 l1.length c1, .slice A2 l2.length c2] 33 (0, 0)) (by (with_reducible repeat (first | refine blk_drew ?_ | refine blk_drewN ?_ _ | refine blk_alloc ?_ _)); exact HB1.out) hB2); clear HB1 HW; have HB1 := n1; have HW := nw; clear n1 nw hb2 hB2 hg2) | ((with_reducible refine gate_dst (N := 15) rfl ?_); refine wpList_load_row rfl 33 (.tmp 5) rfl g1 rfl 33 #[.int .i64 off, .slice A1 l1.length c1, .slice A2 l2.length c2] (0, 0) _ (by (with_reducible repeat (first | refine blk_drew ?_ | refine blk_drewN ?_ _ | refine blk_alloc ?_ _)); exact HB1.out) Try.underlying33 rfl (by kernel_rfl) ?_) | (go_at_call 63; refine (formed_calls off A1 A2 c1 c2 l1 l2 _ (Kd.C_below HR1.out (by repeat (first | (with_reducible first | exact HW.out | apply below_alloc | apply below_drew1 | apply pw_below_drewN) | exact HW.out))) HC1.out (Kd.C_below HR2.out (by repeat (first | (with_reducible first | exact HW.out | apply below_alloc | apply below_drew1 | apply pw_below_drewN) | exact HW.out))) HC2.out).mono ?_; rw [HF.out]; rintro e w8 ⟨rfl, hb8⟩; have nw := Aside0.mk (below_step (by repeat (first | (with_reducible first | exact HW.out | apply below_alloc | apply below_drew1 | apply pw_below_drewN) | exact HW.out)) hb8); have n2 := Aside0.mk (blk_below (g := g2) (o := .cells #[.int .i64 0, .slice none 0 0, .slice none 0 0] 33 (0, 0)) (by (with_reducible repeat (first | refine blk_drew ?_ | refine blk_drewN ?_ _ | refine blk_alloc ?_ _)); exact HB2.out) hb8); clear HB1 HB2 HW; have HB2 := n2; have HW := nw; clear n2 nw hb8) | ((with_reducible refine gate_dst (N := 12) rfl ?_); refine box_event ?hg (N := 12) ?hd (cs := lay zero12) (t := 67) ?hr ?_; (case hd => rfl); (case hg => rfl); (case hr => first | (go_simp; done) | (go_simp; rfl)); intro g8 hg8 w9 hb9 hB9; have HB8 := Aside0.mk hb9; have nw := Aside0.mk (below_step (by repeat (first | (with_reducible first | exact HW.out | apply below_alloc | apply below_drew1 | apply pw_below_drewN) | exact HW.out)) hB9); have LT28 := Aside0.mk (show g2 < g8 by have := blk_lt HB2.out; have e := hg8; (try simp at e); omega); have n2 := Aside0.mk (blk_below (g := g2) (o := .cells #[.int .i64 0, .slice none 0 0, .slice none 0 0] 33 (0, 0)) (by (with_reducible repeat (first | refine blk_drew ?_ | refine blk_drewN ?_ _ | refine blk_alloc ?_ _)); exact HB2.out) hB9); have n3 := Aside0.mk ((setRow_other w9 g8 g2 (lay (formedL off l1 l2)) (show g2 ≠ g8 by have := LT28.out; omega)).trans n2.out); have n4 := Aside0.mk (setRow_heap w9 g8 _ (lay (formedL off l1 l2)) _ _ HB8.out); have nw2 := Aside0.mk (below_setRow nw.out (show w.heap.size ≤ g8 by have := HG1.out; have := LT12.out; have := LT28.out; omega) (lay (formedL off l1 l2))); have hcr : (w9.setRow g8 (lay (formedL off l1 l2))).cell? ⟨g8, 1, none⟩ = some (.int .i64 (gi (formedL off l1 l2) 1)) := lay_cell n4.out 1 (by rw [formedL_len]; omega); rw [HE.out] at hcr; have hcs : (w9.setRow g8 (lay (formedL off l1 l2))).cell? ⟨g8, 2 + m, none⟩ = some (.int .i64 (gi (formedL off l1 l2) (2 + m))) := lay_cell n4.out (2 + m) (by have := HM.out; rw [formedL_len]; omega); clear HB2 HW; have HB2 := n3; have BL := n4; have HW := nw2; clear n2 n3 n4 nw nw2 hb9 hB9 hg8) | ((with_reducible refine gate_store rfl ?_); refine wpList_store_row rfl 67 (.tmp 12) (.tmp 17) rfl g8 (lay (formedL off l1 l2)) rfl rfl 67 (lay zero12) HB8.out (info67 _ formedL_len) (by rw [lay_size, lay_size, formedL_len]; rfl) (lay_one _) ?_) | (go_at_call 54; (with_reducible refine (impl_within.calls _ _ _ true _ HI1.out).mono ?_); rintro e w6 ⟨rfl, ⟨⟨n6, rfl⟩⟩⟩) | (go_at_call 54; (with_reducible refine (impl_within.calls _ _ _ true _ HI2.out).mono ?_); rintro e w6 ⟨rfl, ⟨⟨n6, rfl⟩⟩⟩) | (go_at_call 54; (with_reducible refine (impl_within.calls _ _ _ true _ HI3.out).mono ?_); rintro e w6 ⟨rfl, ⟨⟨n6, rfl⟩⟩⟩) | (go_at_call 54; (with_reducible refine (impl_within.calls _ _ _ false _ HI4.out).mono ?_); rintro e w6 ⟨rfl, ⟨⟨n6, rfl⟩⟩⟩) | ((with_reducible refine gate_store rfl ?_); refine wpList_store_row rfl 33 (.tmp 10) (.tmp 67) rfl g2 #[.int .i64 0, .slice none 0 0, .slice none 0 0] rfl rfl 33 #[.int .i64 0, .slice none 0 0, .slice none 0 0] (by (with_reducible repeat (first | refine blk_drew ?_ | refine blk_drewN ?_ _ | refine blk_alloc ?_ _)); exact HB2.out) (by kernel_rfl) rfl (by simp [Value.oneCell']) ?_))
  refine bodyPost_ret (results_ct rfl _ _ g2 33 #[.int .i64 0, .slice none 0 0, .slice none 0 0] (0, 0) _ rfl (setRow_heap _ g2 _ _ _ (0, 0) (by (with_reducible repeat (first | refine blk_drew ?_ | refine blk_drewN ?_ _ | refine blk_alloc ?_ _)); exact HB2.out)) Try.underlying33 rfl (by kernel_rfl)) rfl ?_
  exact ⟨_, _, rfl, Kd.R_nil _ _ _ _ _, Kd.R_nil _ _ _ _ _, below_setRow (by repeat (first | (with_reducible first | exact HW.out | apply below_alloc | apply below_drew1 | apply pw_below_drewN) | exact HW.out)) (show w.heap.size ≤ g2 by have := HG1.out; have := LT12.out; omega) _⟩
set_option maxHeartbeats 2000000 in
set_option maxRecDepth 100000 in
theorem pickView_n6 (off : Int) (A1 A2 : Option Addr) (c1 c2 : Nat) (l1 l2 : List Int) (m : Nat) (fr st n : Int) (w : World) (hr1 : Kd.C (Kd.int .i64) w A1 l1.length l1) (hc1 : l1.length ≤ c1) (hr2 : Kd.C (Kd.int .i64) w A2 l2.length l2) (hc2 : l2.length ≤ c2) (hf : formedB off l1 l2 = true) (hm : m < 5) (h1 : 0 ≤ (m : Int) ∧ (m : Int) ≤ wrap64 ((l1.length : Int) - 1)) (h2 : 0 ≤ n ∧ n ≤ 10000) (h3 : -10000 ≤ st ∧ st ≤ 10000) (h4 : 0 < n) (h5 : 0 ≤ fr ∧ fr ≤ wrap64 (gi (formedL off l1 l2) (2 + m) - 1)) (h6 : ¬ (0 ≤ wrap64 (fr + wrap64 (st * wrap64 (n - 1))) ∧ wrap64 (fr + wrap64 (st * wrap64 (n - 1))) ≤ wrap64 (gi (formedL off l1 l2) (2 + m) - 1))) :
    Calls Try.prog 41 #[.agg #[.int .i64 off, .slice A1 l1.length c1, .slice A2 l2.length c2], .int .i64 (m : Int), .int .i64 fr, .int .i64 st, .int .i64 n] w fun e w' => ∃ v1_ v2_ : Value, e = .returned (.tuple #[.agg #[.int .i64 0, v1_, v2_], .bool false]) ∧ Kd.R (Kd.int .i64) 3 w' w.heap.size (fun k_ => some k_ ≠ (v2_ : Value).ownBlock) v1_ [] ∧ Kd.R (Kd.int .i64) 3 w' w.heap.size (fun k_ => some k_ ≠ (v1_ : Value).ownBlock) v2_ [] ∧ Below w.heap.size w w' := by
  have HI1 : Aside0 (impl_within.f (m : Int) 0 (wrap64 ((l1.length : Int) - 1)) = some true) := ⟨by rw [within_eq]; exact congrArg some (decide_eq_true h1)⟩
  have HI2 : Aside0 (impl_within.f n 0 10000 = some true) := ⟨by rw [within_eq]; exact congrArg some (decide_eq_true h2)⟩
  have HI3 : Aside0 (impl_within.f st (-10000) 10000 = some true) := ⟨by rw [within_eq]; exact congrArg some (decide_eq_true h3)⟩
  have HE := Aside0.mk (formedL_1 hf)
  have HM := Aside0.mk hm
  have HI4 : Aside0 (impl_within.f fr 0 (wrap64 (gi (formedL off l1 l2) (2 + m) - 1)) = some true) := ⟨by rw [within_eq]; exact congrArg some (decide_eq_true h5)⟩
  have HI5 : Aside0 (impl_within.f (wrap64 (fr + wrap64 (st * wrap64 (n - 1)))) 0 (wrap64 (gi (formedL off l1 l2) (2 + m) - 1)) = some false) := ⟨by rw [within_eq]; exact congrArg some (decide_eq_false h6)⟩
  have hnb := decide_eq_true h4
  clear h1 h2 h3 h4 h5 h6
  have HR1 := Aside0.mk hr1
  have HC1 := Aside0.mk hc1
  have HR2 := Aside0.mk hr2
  have HC2 := Aside0.mk hc2
  have HF := Aside0.mk hf
  clear hr1 hc1 hr2 hc2 hf
  go_enter Try.func41, Try.ntmps41
  go_wp2_with (first | ((with_reducible refine gate_dst (N := 5) rfl ?_); refine box_event ?hg (N := 5) ?hd (cs := #[.int .i64 off, .slice A1 l1.length c1, .slice A2 l2.length c2]) (t := 33) ?hr ?_; (case hd => rfl); (case hg => rfl); (case hr => first | (go_simp; done) | (go_simp; rfl)); intro g1 hg1 w1 hb1 hB1; have HB1 := Aside0.mk hb1; have HW := Aside0.mk hB1; have HG1 := Aside0.mk (show w.heap.size ≤ g1 by have e := hg1; (try simp at e); omega); clear hb1 hB1 hg1) | ((with_reducible refine gate_dst (N := 10) rfl ?_); refine box_event ?hg (N := 10) ?hd (cs := #[.int .i64 0, .slice none 0 0, .slice none 0 0]) (t := 33) ?hr ?_; (case hd => rfl); (case hg => rfl); (case hr => first | (go_simp; done) | (go_simp; rfl)); intro g2 hg2 w2 hb2 hB2; have HB2 := Aside0.mk hb2; have nw := Aside0.mk (below_step (by repeat (first | (with_reducible first | exact HW.out | apply below_alloc | apply below_drew1 | apply pw_below_drewN) | exact HW.out)) hB2); have LT12 := Aside0.mk (show g1 < g2 by have := blk_lt HB1.out; have e := hg2; (try simp at e); omega); have n1 := Aside0.mk (blk_below (g := g1) (o := .cells #[.int .i64 off, .slice A1 l1.length c1, .slice A2 l2.length c2] 33 (0, 0)) (by (with_reducible repeat (first | refine blk_drew ?_ | refine blk_drewN ?_ _ | refine blk_alloc ?_ _)); exact HB1.out) hB2); clear HB1 HW; have HB1 := n1; have HW := nw; clear n1 nw hb2 hB2 hg2) | ((with_reducible refine gate_dst (N := 15) rfl ?_); refine wpList_load_row rfl 33 (.tmp 5) rfl g1 rfl 33 #[.int .i64 off, .slice A1 l1.length c1, .slice A2 l2.length c2] (0, 0) _ (by (with_reducible repeat (first | refine blk_drew ?_ | refine blk_drewN ?_ _ | refine blk_alloc ?_ _)); exact HB1.out) Try.underlying33 rfl (by kernel_rfl) ?_) | (go_at_call 63; refine (formed_calls off A1 A2 c1 c2 l1 l2 _ (Kd.C_below HR1.out (by repeat (first | (with_reducible first | exact HW.out | apply below_alloc | apply below_drew1 | apply pw_below_drewN) | exact HW.out))) HC1.out (Kd.C_below HR2.out (by repeat (first | (with_reducible first | exact HW.out | apply below_alloc | apply below_drew1 | apply pw_below_drewN) | exact HW.out))) HC2.out).mono ?_; rw [HF.out]; rintro e w8 ⟨rfl, hb8⟩; have nw := Aside0.mk (below_step (by repeat (first | (with_reducible first | exact HW.out | apply below_alloc | apply below_drew1 | apply pw_below_drewN) | exact HW.out)) hb8); have n2 := Aside0.mk (blk_below (g := g2) (o := .cells #[.int .i64 0, .slice none 0 0, .slice none 0 0] 33 (0, 0)) (by (with_reducible repeat (first | refine blk_drew ?_ | refine blk_drewN ?_ _ | refine blk_alloc ?_ _)); exact HB2.out) hb8); clear HB1 HB2 HW; have HB2 := n2; have HW := nw; clear n2 nw hb8) | ((with_reducible refine gate_dst (N := 12) rfl ?_); refine box_event ?hg (N := 12) ?hd (cs := lay zero12) (t := 67) ?hr ?_; (case hd => rfl); (case hg => rfl); (case hr => first | (go_simp; done) | (go_simp; rfl)); intro g8 hg8 w9 hb9 hB9; have HB8 := Aside0.mk hb9; have nw := Aside0.mk (below_step (by repeat (first | (with_reducible first | exact HW.out | apply below_alloc | apply below_drew1 | apply pw_below_drewN) | exact HW.out)) hB9); have LT28 := Aside0.mk (show g2 < g8 by have := blk_lt HB2.out; have e := hg8; (try simp at e); omega); have n2 := Aside0.mk (blk_below (g := g2) (o := .cells #[.int .i64 0, .slice none 0 0, .slice none 0 0] 33 (0, 0)) (by (with_reducible repeat (first | refine blk_drew ?_ | refine blk_drewN ?_ _ | refine blk_alloc ?_ _)); exact HB2.out) hB9); have n3 := Aside0.mk ((setRow_other w9 g8 g2 (lay (formedL off l1 l2)) (show g2 ≠ g8 by have := LT28.out; omega)).trans n2.out); have n4 := Aside0.mk (setRow_heap w9 g8 _ (lay (formedL off l1 l2)) _ _ HB8.out); have nw2 := Aside0.mk (below_setRow nw.out (show w.heap.size ≤ g8 by have := HG1.out; have := LT12.out; have := LT28.out; omega) (lay (formedL off l1 l2))); have hcr : (w9.setRow g8 (lay (formedL off l1 l2))).cell? ⟨g8, 1, none⟩ = some (.int .i64 (gi (formedL off l1 l2) 1)) := lay_cell n4.out 1 (by rw [formedL_len]; omega); rw [HE.out] at hcr; have hcs : (w9.setRow g8 (lay (formedL off l1 l2))).cell? ⟨g8, 2 + m, none⟩ = some (.int .i64 (gi (formedL off l1 l2) (2 + m))) := lay_cell n4.out (2 + m) (by have := HM.out; rw [formedL_len]; omega); clear HB2 HW; have HB2 := n3; have BL := n4; have HW := nw2; clear n2 n3 n4 nw nw2 hb9 hB9 hg8) | ((with_reducible refine gate_store rfl ?_); refine wpList_store_row rfl 67 (.tmp 12) (.tmp 17) rfl g8 (lay (formedL off l1 l2)) rfl rfl 67 (lay zero12) HB8.out (info67 _ formedL_len) (by rw [lay_size, lay_size, formedL_len]; rfl) (lay_one _) ?_) | (go_at_call 54; (with_reducible refine (impl_within.calls _ _ _ true _ HI1.out).mono ?_); rintro e w6 ⟨rfl, ⟨⟨n6, rfl⟩⟩⟩) | (go_at_call 54; (with_reducible refine (impl_within.calls _ _ _ true _ HI2.out).mono ?_); rintro e w6 ⟨rfl, ⟨⟨n6, rfl⟩⟩⟩) | (go_at_call 54; (with_reducible refine (impl_within.calls _ _ _ true _ HI3.out).mono ?_); rintro e w6 ⟨rfl, ⟨⟨n6, rfl⟩⟩⟩) | (go_at_call 54; (with_reducible refine (impl_within.calls _ _ _ true _ HI4.out).mono ?_); rintro e w6 ⟨rfl, ⟨⟨n6, rfl⟩⟩⟩) | (go_at_call 54; (with_reducible refine (impl_within.calls _ _ _ false _ HI5.out).mono ?_); rintro e w6 ⟨rfl, ⟨⟨n6, rfl⟩⟩⟩) | ((with_reducible refine gate_store rfl ?_); refine wpList_store_row rfl 33 (.tmp 10) (.tmp 67) rfl g2 #[.int .i64 0, .slice none 0 0, .slice none 0 0] rfl rfl 33 #[.int .i64 0, .slice none 0 0, .slice none 0 0] (by (with_reducible repeat (first | refine blk_drew ?_ | refine blk_drewN ?_ _ | refine blk_alloc ?_ _)); exact HB2.out) (by kernel_rfl) rfl (by simp [Value.oneCell']) ?_))
  refine bodyPost_ret (results_ct rfl _ _ g2 33 #[.int .i64 0, .slice none 0 0, .slice none 0 0] (0, 0) _ rfl (setRow_heap _ g2 _ _ _ (0, 0) (by (with_reducible repeat (first | refine blk_drew ?_ | refine blk_drewN ?_ _ | refine blk_alloc ?_ _)); exact HB2.out)) Try.underlying33 rfl (by kernel_rfl)) rfl ?_
  exact ⟨_, _, rfl, Kd.R_nil _ _ _ _ _, Kd.R_nil _ _ _ _ _, below_setRow (by repeat (first | (with_reducible first | exact HW.out | apply below_alloc | apply below_drew1 | apply pw_below_drewN) | exact HW.out)) (show w.heap.size ≤ g2 by have := HG1.out; have := LT12.out; omega) _⟩
set_option maxHeartbeats 2000000 in
set_option maxRecDepth 100000 in
theorem pickView_y0 (off : Int) (A1 A2 : Option Addr) (c1 c2 : Nat) (l1 l2 : List Int) (m : Nat) (fr st n : Int) (w : World) (hr1 : Kd.C (Kd.int .i64) w A1 l1.length l1) (hc1 : l1.length ≤ c1) (hr2 : Kd.C (Kd.int .i64) w A2 l2.length l2) (hc2 : l2.length ≤ c2) (hf : formedB off l1 l2 = true) (hm : m < 5) (h1 : 0 ≤ (m : Int) ∧ (m : Int) ≤ wrap64 ((l1.length : Int) - 1)) (h2 : 0 ≤ n ∧ n ≤ 10000) (h3 : -10000 ≤ st ∧ st ≤ 10000) (h4 : ¬ 0 < n) :
    Calls Try.prog 41 #[.agg #[.int .i64 off, .slice A1 l1.length c1, .slice A2 l2.length c2], .int .i64 (m : Int), .int .i64 fr, .int .i64 st, .int .i64 n] w fun e w' => ∃ v1_ v2_ : Value, e = .returned (.tuple #[.agg #[.int .i64 (viewO (pickL (formedL off l1 l2) m fr st n) (formedL off l1 l2) l1.length), v1_, v2_], .bool (viewB (pickL (formedL off l1 l2) m fr st n) (formedL off l1 l2) l1.length)]) ∧ Kd.R (Kd.int .i64) 3 w' w.heap.size (fun k_ => some k_ ≠ (v2_ : Value).ownBlock) v1_ (viewS (pickL (formedL off l1 l2) m fr st n) (formedL off l1 l2) l1.length) ∧ Kd.R (Kd.int .i64) 3 w' w.heap.size (fun k_ => some k_ ≠ (v1_ : Value).ownBlock) v2_ (viewT (pickL (formedL off l1 l2) m fr st n) (formedL off l1 l2) l1.length) ∧ Below w.heap.size w w' := by
  have HI1 : Aside0 (impl_within.f (m : Int) 0 (wrap64 ((l1.length : Int) - 1)) = some true) := ⟨by rw [within_eq]; exact congrArg some (decide_eq_true h1)⟩
  have HI2 : Aside0 (impl_within.f n 0 10000 = some true) := ⟨by rw [within_eq]; exact congrArg some (decide_eq_true h2)⟩
  have HI3 : Aside0 (impl_within.f st (-10000) 10000 = some true) := ⟨by rw [within_eq]; exact congrArg some (decide_eq_true h3)⟩
  have HE := Aside0.mk (formedL_1 hf)
  have HM := Aside0.mk hm
  have HR5 := Aside0.mk (formed_5 hf)
  have HCL := Aside0.mk (show (pickL (formedL off l1 l2) m fr st n).length = 12 by rw [pickL_len, formedL_len])
  have HCR1 := Aside0.mk (show gi (pickL (formedL off l1 l2) m fr st n) 1 = (l1.length : Int) by rw [pickL_1, formedL_1 hf])
  have hnb := decide_eq_false h4
  clear h1 h2 h3 h4
  have HR1 := Aside0.mk hr1
  have HC1 := Aside0.mk hc1
  have HR2 := Aside0.mk hr2
  have HC2 := Aside0.mk hc2
  have HF := Aside0.mk hf
  clear hr1 hc1 hr2 hc2 hf
  go_enter Try.func41, Try.ntmps41
  go_upto_region 6 with (first | ((with_reducible refine gate_dst (N := 5) rfl ?_); refine box_event ?hg (N := 5) ?hd (cs := #[.int .i64 off, .slice A1 l1.length c1, .slice A2 l2.length c2]) (t := 33) ?hr ?_; (case hd => rfl); (case hg => rfl); (case hr => first | (go_simp; done) | (go_simp; rfl)); intro g1 hg1 w1 hb1 hB1; have HB1 := Aside0.mk hb1; have HW := Aside0.mk hB1; have HG1 := Aside0.mk (show w.heap.size ≤ g1 by have e := hg1; (try simp at e); omega); clear hb1 hB1 hg1) | ((with_reducible refine gate_dst (N := 10) rfl ?_); refine box_event ?hg (N := 10) ?hd (cs := #[.int .i64 0, .slice none 0 0, .slice none 0 0]) (t := 33) ?hr ?_; (case hd => rfl); (case hg => rfl); (case hr => first | (go_simp; done) | (go_simp; rfl)); intro g2 hg2 w2 hb2 hB2; have HB2 := Aside0.mk hb2; have nw := Aside0.mk (below_step (by repeat (first | (with_reducible first | exact HW.out | apply below_alloc | apply below_drew1 | apply pw_below_drewN) | exact HW.out)) hB2); have LT12 := Aside0.mk (show g1 < g2 by have := blk_lt HB1.out; have e := hg2; (try simp at e); omega); have n1 := Aside0.mk (blk_below (g := g1) (o := .cells #[.int .i64 off, .slice A1 l1.length c1, .slice A2 l2.length c2] 33 (0, 0)) (by (with_reducible repeat (first | refine blk_drew ?_ | refine blk_drewN ?_ _ | refine blk_alloc ?_ _)); exact HB1.out) hB2); clear HB1 HW; have HB1 := n1; have HW := nw; clear n1 nw hb2 hB2 hg2) | ((with_reducible refine gate_dst (N := 15) rfl ?_); refine wpList_load_row rfl 33 (.tmp 5) rfl g1 rfl 33 #[.int .i64 off, .slice A1 l1.length c1, .slice A2 l2.length c2] (0, 0) _ (by (with_reducible repeat (first | refine blk_drew ?_ | refine blk_drewN ?_ _ | refine blk_alloc ?_ _)); exact HB1.out) Try.underlying33 rfl (by kernel_rfl) ?_) | (go_at_call 63; refine (formed_calls off A1 A2 c1 c2 l1 l2 _ (Kd.C_below HR1.out (by repeat (first | (with_reducible first | exact HW.out | apply below_alloc | apply below_drew1 | apply pw_below_drewN) | exact HW.out))) HC1.out (Kd.C_below HR2.out (by repeat (first | (with_reducible first | exact HW.out | apply below_alloc | apply below_drew1 | apply pw_below_drewN) | exact HW.out))) HC2.out).mono ?_; rw [HF.out]; rintro e w8 ⟨rfl, hb8⟩; have nw := Aside0.mk (below_step (by repeat (first | (with_reducible first | exact HW.out | apply below_alloc | apply below_drew1 | apply pw_below_drewN) | exact HW.out)) hb8); have n2 := Aside0.mk (blk_below (g := g2) (o := .cells #[.int .i64 0, .slice none 0 0, .slice none 0 0] 33 (0, 0)) (by (with_reducible repeat (first | refine blk_drew ?_ | refine blk_drewN ?_ _ | refine blk_alloc ?_ _)); exact HB2.out) hb8); clear HB1 HB2 HW; have HB2 := n2; have HW := nw; clear n2 nw hb8) | ((with_reducible refine gate_dst (N := 12) rfl ?_); refine box_event ?hg (N := 12) ?hd (cs := lay zero12) (t := 67) ?hr ?_; (case hd => rfl); (case hg => rfl); (case hr => first | (go_simp; done) | (go_simp; rfl)); intro g8 hg8 w9 hb9 hB9; have HB8 := Aside0.mk hb9; have nw := Aside0.mk (below_step (by repeat (first | (with_reducible first | exact HW.out | apply below_alloc | apply below_drew1 | apply pw_below_drewN) | exact HW.out)) hB9); have LT28 := Aside0.mk (show g2 < g8 by have := blk_lt HB2.out; have e := hg8; (try simp at e); omega); have n2 := Aside0.mk (blk_below (g := g2) (o := .cells #[.int .i64 0, .slice none 0 0, .slice none 0 0] 33 (0, 0)) (by (with_reducible repeat (first | refine blk_drew ?_ | refine blk_drewN ?_ _ | refine blk_alloc ?_ _)); exact HB2.out) hB9); have n3 := Aside0.mk ((setRow_other w9 g8 g2 (lay (formedL off l1 l2)) (show g2 ≠ g8 by have := LT28.out; omega)).trans n2.out); have n4 := Aside0.mk (setRow_heap w9 g8 _ (lay (formedL off l1 l2)) _ _ HB8.out); have nw2 := Aside0.mk (below_setRow nw.out (show w.heap.size ≤ g8 by have := HG1.out; have := LT12.out; have := LT28.out; omega) (lay (formedL off l1 l2))); have hcr : (w9.setRow g8 (lay (formedL off l1 l2))).cell? ⟨g8, 1, none⟩ = some (.int .i64 (gi (formedL off l1 l2) 1)) := lay_cell n4.out 1 (by rw [formedL_len]; omega); rw [HE.out] at hcr; have hcs : (w9.setRow g8 (lay (formedL off l1 l2))).cell? ⟨g8, 2 + m, none⟩ = some (.int .i64 (gi (formedL off l1 l2) (2 + m))) := lay_cell n4.out (2 + m) (by have := HM.out; rw [formedL_len]; omega); clear HB2 HW; have HB2 := n3; have BL := n4; have HW := nw2; clear n2 n3 n4 nw nw2 hb9 hB9 hg8) | ((with_reducible refine gate_store rfl ?_); refine wpList_store_row rfl 67 (.tmp 12) (.tmp 17) rfl g8 (lay (formedL off l1 l2)) rfl rfl 67 (lay zero12) HB8.out (info67 _ formedL_len) (by rw [lay_size, lay_size, formedL_len]; rfl) (lay_one _) ?_) | (go_at_call 54; (with_reducible refine (impl_within.calls _ _ _ true _ HI1.out).mono ?_); rintro e w6 ⟨rfl, ⟨⟨n6, rfl⟩⟩⟩) | (go_at_call 54; (with_reducible refine (impl_within.calls _ _ _ true _ HI2.out).mono ?_); rintro e w6 ⟨rfl, ⟨⟨n6, rfl⟩⟩⟩) | (go_at_call 54; (with_reducible refine (impl_within.calls _ _ _ true _ HI3.out).mono ?_); rintro e w6 ⟨rfl, ⟨⟨n6, rfl⟩⟩⟩))
  have HN82 := Aside0.mk (show g8 ≠ g2 by have := LT28.out; omega)
  have hrg := lay_S formedL_len BL.out
  go_region_held3 (fun w' => w'.cell? ⟨g8, 0, none⟩ = some (.int .i64 (gi (formedL off l1 l2) 0)) ∧ w'.cell? ⟨g8, 1, none⟩ = some (.int .i64 (gi (formedL off l1 l2) 1)) ∧ w'.cell? ⟨g8, 2, none⟩ = some (.int .i64 (gi (formedL off l1 l2) 2)) ∧ w'.cell? ⟨g8, 3, none⟩ = some (.int .i64 (gi (formedL off l1 l2) 3)) ∧ w'.cell? ⟨g8, 4, none⟩ = some (.int .i64 (gi (formedL off l1 l2) 4)) ∧ w'.cell? ⟨g8, 5, none⟩ = some (.int .i64 (gi (formedL off l1 l2) 5)) ∧ w'.cell? ⟨g8, 6, none⟩ = some (.int .i64 (gi (formedL off l1 l2) 6)) ∧ w'.cell? ⟨g8, 7, none⟩ = some (.int .i64 (gi (formedL off l1 l2) 7)) ∧ w'.cell? ⟨g8, 8, none⟩ = some (.int .i64 (gi (formedL off l1 l2) 8)) ∧ w'.cell? ⟨g8, 9, none⟩ = some (.int .i64 (gi (formedL off l1 l2) 9)) ∧ w'.cell? ⟨g8, 10, none⟩ = some (.int .i64 (gi (formedL off l1 l2) 10)) ∧ w'.cell? ⟨g8, 11, none⟩ = some (.int .i64 (gi (formedL off l1 l2) 11))) (exact lay_S (g := g8) (t := 67) (l := (formedL off l1 l2)) formedL_len (by (with_reducible repeat (first | refine blk_drew ?_ | refine blk_drewN ?_ _ | refine blk_alloc ?_ _ | refine blk_farG ?_ HN82.out _)); exact BL.out)) (first | (go_at_call 75; refine (pick12 (formedL off l1 l2) m fr st n formedL_len HM.out _).mono ?_; rintro e w5 ⟨rfl, hb5⟩; have n2 := Aside0.mk (blk_below (g := g2) (o := .cells #[.int .i64 0, .slice none 0 0, .slice none 0 0] 33 (0, 0)) (by (with_reducible repeat (first | refine blk_drew ?_ | refine blk_drewN ?_ _ | refine blk_alloc ?_ _)); exact HB2.out) hb5); have n3 := Aside0.mk (blk_below (g := g8) (o := .cells (lay (formedL off l1 l2)) 67 (0, 0)) (by (with_reducible repeat (first | refine blk_drew ?_ | refine blk_drewN ?_ _ | refine blk_alloc ?_ _)); exact BL.out) hb5); have nw := Aside0.mk (below_step (by repeat (first | (with_reducible first | exact HW.out | apply below_alloc | apply below_drew1 | apply pw_below_drewN) | exact HW.out)) hb5); clear HB2 BL HW; have HB2 := n2; have BL := n3; have HW := nw; clear n2 n3 nw hb5) | (go_at_call 72; refine (view_calls12 (pickL (formedL off l1 l2) m fr st n) (formedL off l1 l2) l1.length HCL.out formedL_len HCR1.out HR5.out _).mono ?_; rintro e w6 ⟨v1, v2, rfl, ho1, ho2, hb6⟩; obtain ⟨Aa, ca, rfl⟩ := Kd.R_slice ho1; obtain ⟨Ab, cb, rfl⟩ := Kd.R_slice ho2; have HO1 := Aside0.mk (Kd.R_lower ho1 (below_size (by repeat (first | (with_reducible first | exact HW.out | apply below_alloc | apply below_drew1 | apply pw_below_drewN) | exact HW.out)))); have HO2 := Aside0.mk (Kd.R_lower ho2 (below_size (by repeat (first | (with_reducible first | exact HW.out | apply below_alloc | apply below_drew1 | apply pw_below_drewN) | exact HW.out)))); clear ho1 ho2; have n2 := Aside0.mk (blk_below (g := g2) (o := .cells #[.int .i64 0, .slice none 0 0, .slice none 0 0] 33 (0, 0)) (by (with_reducible repeat (first | refine blk_drew ?_ | refine blk_drewN ?_ _ | refine blk_alloc ?_ _)); exact HB2.out) hb6); have n3 := Aside0.mk (blk_below (g := g8) (o := .cells (lay (formedL off l1 l2)) 67 (0, 0)) (by (with_reducible repeat (first | refine blk_drew ?_ | refine blk_drewN ?_ _ | refine blk_alloc ?_ _)); exact BL.out) hb6); have nw := Aside0.mk (below_step (by repeat (first | (with_reducible first | exact HW.out | apply below_alloc | apply below_drew1 | apply pw_below_drewN) | exact HW.out)) hb6); clear HB2 BL HW; have HB2 := n2; have BL := n3; have HW := nw; clear n2 n3 nw hb6; have hx0 : _ = some (Value.int .i64 0) := (blk_cell HB2.out 0).trans rfl; have hx1 : _ = some (Value.slice none 0 0) := (blk_cell HB2.out 1).trans rfl; have hx2 : _ = some (Value.slice none 0 0) := (blk_cell HB2.out 2).trans rfl; have hy0 := blk_frozen HB2.out 0; have hy1 := blk_frozen HB2.out 1; have hy2 := blk_frozen HB2.out 2))
  go_wp2_with fail
  have s0 := blk_set HB2.out 0 (.int .i64 (viewO (pickL (formedL off l1 l2) m fr st n) (formedL off l1 l2) l1.length))
  have s1 := blk_set s0 1 (.slice Aa (viewS (pickL (formedL off l1 l2) m fr st n) (formedL off l1 l2) l1.length).length ca)
  have s2 := blk_set s1 2 (.slice Ab (viewT (pickL (formedL off l1 l2) m fr st n) (formedL off l1 l2) l1.length).length cb)
  refine bodyPost_ret (results_ct rfl _ _ g2 33 #[.int .i64 (viewO (pickL (formedL off l1 l2) m fr st n) (formedL off l1 l2) l1.length), .slice Aa (viewS (pickL (formedL off l1 l2) m fr st n) (formedL off l1 l2) l1.length).length ca, .slice Ab (viewT (pickL (formedL off l1 l2) m fr st n) (formedL off l1 l2) l1.length).length cb] (0, 0) _ rfl (by simpa using s2) Try.underlying33 rfl (by kernel_rfl)) rfl ?_
  have LE := show w.heap.size ≤ g2 by have := HG1.out; have := LT12.out; omega
  exact ⟨_, _, rfl, R_setV (R_setV (R_setV HO1.out HB2.out 0 _) s0 1 _) s1 2 _, R_setV (R_setV (R_setV HO2.out HB2.out 0 _) s0 1 _) s1 2 _, below_set (below_set (below_set HW.out LE) LE) LE⟩
set_option maxHeartbeats 2000000 in
set_option maxRecDepth 100000 in
theorem pickView_y1 (off : Int) (A1 A2 : Option Addr) (c1 c2 : Nat) (l1 l2 : List Int) (m : Nat) (fr st n : Int) (w : World) (hr1 : Kd.C (Kd.int .i64) w A1 l1.length l1) (hc1 : l1.length ≤ c1) (hr2 : Kd.C (Kd.int .i64) w A2 l2.length l2) (hc2 : l2.length ≤ c2) (hf : formedB off l1 l2 = true) (hm : m < 5) (h1 : 0 ≤ (m : Int) ∧ (m : Int) ≤ wrap64 ((l1.length : Int) - 1)) (h2 : 0 ≤ n ∧ n ≤ 10000) (h3 : -10000 ≤ st ∧ st ≤ 10000) (h4 : 0 < n) (h5 : 0 ≤ fr ∧ fr ≤ wrap64 (gi (formedL off l1 l2) (2 + m) - 1)) (h6 : 0 ≤ wrap64 (fr + wrap64 (st * wrap64 (n - 1))) ∧ wrap64 (fr + wrap64 (st * wrap64 (n - 1))) ≤ wrap64 (gi (formedL off l1 l2) (2 + m) - 1)) :
    Calls Try.prog 41 #[.agg #[.int .i64 off, .slice A1 l1.length c1, .slice A2 l2.length c2], .int .i64 (m : Int), .int .i64 fr, .int .i64 st, .int .i64 n] w fun e w' => ∃ v1_ v2_ : Value, e = .returned (.tuple #[.agg #[.int .i64 (viewO (pickL (formedL off l1 l2) m fr st n) (formedL off l1 l2) l1.length), v1_, v2_], .bool (viewB (pickL (formedL off l1 l2) m fr st n) (formedL off l1 l2) l1.length)]) ∧ Kd.R (Kd.int .i64) 3 w' w.heap.size (fun k_ => some k_ ≠ (v2_ : Value).ownBlock) v1_ (viewS (pickL (formedL off l1 l2) m fr st n) (formedL off l1 l2) l1.length) ∧ Kd.R (Kd.int .i64) 3 w' w.heap.size (fun k_ => some k_ ≠ (v1_ : Value).ownBlock) v2_ (viewT (pickL (formedL off l1 l2) m fr st n) (formedL off l1 l2) l1.length) ∧ Below w.heap.size w w' := by
  have HI1 : Aside0 (impl_within.f (m : Int) 0 (wrap64 ((l1.length : Int) - 1)) = some true) := ⟨by rw [within_eq]; exact congrArg some (decide_eq_true h1)⟩
  have HI2 : Aside0 (impl_within.f n 0 10000 = some true) := ⟨by rw [within_eq]; exact congrArg some (decide_eq_true h2)⟩
  have HI3 : Aside0 (impl_within.f st (-10000) 10000 = some true) := ⟨by rw [within_eq]; exact congrArg some (decide_eq_true h3)⟩
  have HE := Aside0.mk (formedL_1 hf)
  have HM := Aside0.mk hm
  have HR5 := Aside0.mk (formed_5 hf)
  have HCL := Aside0.mk (show (pickL (formedL off l1 l2) m fr st n).length = 12 by rw [pickL_len, formedL_len])
  have HCR1 := Aside0.mk (show gi (pickL (formedL off l1 l2) m fr st n) 1 = (l1.length : Int) by rw [pickL_1, formedL_1 hf])
  have HI4 : Aside0 (impl_within.f fr 0 (wrap64 (gi (formedL off l1 l2) (2 + m) - 1)) = some true) := ⟨by rw [within_eq]; exact congrArg some (decide_eq_true h5)⟩
  have HI5 : Aside0 (impl_within.f (wrap64 (fr + wrap64 (st * wrap64 (n - 1)))) 0 (wrap64 (gi (formedL off l1 l2) (2 + m) - 1)) = some true) := ⟨by rw [within_eq]; exact congrArg some (decide_eq_true h6)⟩
  have hnb := decide_eq_true h4
  clear h1 h2 h3 h4 h5 h6
  have HR1 := Aside0.mk hr1
  have HC1 := Aside0.mk hc1
  have HR2 := Aside0.mk hr2
  have HC2 := Aside0.mk hc2
  have HF := Aside0.mk hf
  clear hr1 hc1 hr2 hc2 hf
  go_enter Try.func41, Try.ntmps41
  go_upto_region 6 with (first | ((with_reducible refine gate_dst (N := 5) rfl ?_); refine box_event ?hg (N := 5) ?hd (cs := #[.int .i64 off, .slice A1 l1.length c1, .slice A2 l2.length c2]) (t := 33) ?hr ?_; (case hd => rfl); (case hg => rfl); (case hr => first | (go_simp; done) | (go_simp; rfl)); intro g1 hg1 w1 hb1 hB1; have HB1 := Aside0.mk hb1; have HW := Aside0.mk hB1; have HG1 := Aside0.mk (show w.heap.size ≤ g1 by have e := hg1; (try simp at e); omega); clear hb1 hB1 hg1) | ((with_reducible refine gate_dst (N := 10) rfl ?_); refine box_event ?hg (N := 10) ?hd (cs := #[.int .i64 0, .slice none 0 0, .slice none 0 0]) (t := 33) ?hr ?_; (case hd => rfl); (case hg => rfl); (case hr => first | (go_simp; done) | (go_simp; rfl)); intro g2 hg2 w2 hb2 hB2; have HB2 := Aside0.mk hb2; have nw := Aside0.mk (below_step (by repeat (first | (with_reducible first | exact HW.out | apply below_alloc | apply below_drew1 | apply pw_below_drewN) | exact HW.out)) hB2); have LT12 := Aside0.mk (show g1 < g2 by have := blk_lt HB1.out; have e := hg2; (try simp at e); omega); have n1 := Aside0.mk (blk_below (g := g1) (o := .cells #[.int .i64 off, .slice A1 l1.length c1, .slice A2 l2.length c2] 33 (0, 0)) (by (with_reducible repeat (first | refine blk_drew ?_ | refine blk_drewN ?_ _ | refine blk_alloc ?_ _)); exact HB1.out) hB2); clear HB1 HW; have HB1 := n1; have HW := nw; clear n1 nw hb2 hB2 hg2) | ((with_reducible refine gate_dst (N := 15) rfl ?_); refine wpList_load_row rfl 33 (.tmp 5) rfl g1 rfl 33 #[.int .i64 off, .slice A1 l1.length c1, .slice A2 l2.length c2] (0, 0) _ (by (with_reducible repeat (first | refine blk_drew ?_ | refine blk_drewN ?_ _ | refine blk_alloc ?_ _)); exact HB1.out) Try.underlying33 rfl (by kernel_rfl) ?_) | (go_at_call 63; refine (formed_calls off A1 A2 c1 c2 l1 l2 _ (Kd.C_below HR1.out (by repeat (first | (with_reducible first | exact HW.out | apply below_alloc | apply below_drew1 | apply pw_below_drewN) | exact HW.out))) HC1.out (Kd.C_below HR2.out (by repeat (first | (with_reducible first | exact HW.out | apply below_alloc | apply below_drew1 | apply pw_below_drewN) | exact HW.out))) HC2.out).mono ?_; rw [HF.out]; rintro e w8 ⟨rfl, hb8⟩; have nw := Aside0.mk (below_step (by repeat (first | (with_reducible first | exact HW.out | apply below_alloc | apply below_drew1 | apply pw_below_drewN) | exact HW.out)) hb8); have n2 := Aside0.mk (blk_below (g := g2) (o := .cells #[.int .i64 0, .slice none 0 0, .slice none 0 0] 33 (0, 0)) (by (with_reducible repeat (first | refine blk_drew ?_ | refine blk_drewN ?_ _ | refine blk_alloc ?_ _)); exact HB2.out) hb8); clear HB1 HB2 HW; have HB2 := n2; have HW := nw; clear n2 nw hb8) | ((with_reducible refine gate_dst (N := 12) rfl ?_); refine box_event ?hg (N := 12) ?hd (cs := lay zero12) (t := 67) ?hr ?_; (case hd => rfl); (case hg => rfl); (case hr => first | (go_simp; done) | (go_simp; rfl)); intro g8 hg8 w9 hb9 hB9; have HB8 := Aside0.mk hb9; have nw := Aside0.mk (below_step (by repeat (first | (with_reducible first | exact HW.out | apply below_alloc | apply below_drew1 | apply pw_below_drewN) | exact HW.out)) hB9); have LT28 := Aside0.mk (show g2 < g8 by have := blk_lt HB2.out; have e := hg8; (try simp at e); omega); have n2 := Aside0.mk (blk_below (g := g2) (o := .cells #[.int .i64 0, .slice none 0 0, .slice none 0 0] 33 (0, 0)) (by (with_reducible repeat (first | refine blk_drew ?_ | refine blk_drewN ?_ _ | refine blk_alloc ?_ _)); exact HB2.out) hB9); have n3 := Aside0.mk ((setRow_other w9 g8 g2 (lay (formedL off l1 l2)) (show g2 ≠ g8 by have := LT28.out; omega)).trans n2.out); have n4 := Aside0.mk (setRow_heap w9 g8 _ (lay (formedL off l1 l2)) _ _ HB8.out); have nw2 := Aside0.mk (below_setRow nw.out (show w.heap.size ≤ g8 by have := HG1.out; have := LT12.out; have := LT28.out; omega) (lay (formedL off l1 l2))); have hcr : (w9.setRow g8 (lay (formedL off l1 l2))).cell? ⟨g8, 1, none⟩ = some (.int .i64 (gi (formedL off l1 l2) 1)) := lay_cell n4.out 1 (by rw [formedL_len]; omega); rw [HE.out] at hcr; have hcs : (w9.setRow g8 (lay (formedL off l1 l2))).cell? ⟨g8, 2 + m, none⟩ = some (.int .i64 (gi (formedL off l1 l2) (2 + m))) := lay_cell n4.out (2 + m) (by have := HM.out; rw [formedL_len]; omega); clear HB2 HW; have HB2 := n3; have BL := n4; have HW := nw2; clear n2 n3 n4 nw nw2 hb9 hB9 hg8) | ((with_reducible refine gate_store rfl ?_); refine wpList_store_row rfl 67 (.tmp 12) (.tmp 17) rfl g8 (lay (formedL off l1 l2)) rfl rfl 67 (lay zero12) HB8.out (info67 _ formedL_len) (by rw [lay_size, lay_size, formedL_len]; rfl) (lay_one _) ?_) | (go_at_call 54; (with_reducible refine (impl_within.calls _ _ _ true _ HI1.out).mono ?_); rintro e w6 ⟨rfl, ⟨⟨n6, rfl⟩⟩⟩) | (go_at_call 54; (with_reducible refine (impl_within.calls _ _ _ true _ HI2.out).mono ?_); rintro e w6 ⟨rfl, ⟨⟨n6, rfl⟩⟩⟩) | (go_at_call 54; (with_reducible refine (impl_within.calls _ _ _ true _ HI3.out).mono ?_); rintro e w6 ⟨rfl, ⟨⟨n6, rfl⟩⟩⟩) | (go_at_call 54; (with_reducible refine (impl_within.calls _ _ _ true _ HI4.out).mono ?_); rintro e w6 ⟨rfl, ⟨⟨n6, rfl⟩⟩⟩) | (go_at_call 54; (with_reducible refine (impl_within.calls _ _ _ true _ HI5.out).mono ?_); rintro e w6 ⟨rfl, ⟨⟨n6, rfl⟩⟩⟩))
  have HN82 := Aside0.mk (show g8 ≠ g2 by have := LT28.out; omega)
  have hrg := lay_S formedL_len BL.out
  go_region_held3 (fun w' => w'.cell? ⟨g8, 0, none⟩ = some (.int .i64 (gi (formedL off l1 l2) 0)) ∧ w'.cell? ⟨g8, 1, none⟩ = some (.int .i64 (gi (formedL off l1 l2) 1)) ∧ w'.cell? ⟨g8, 2, none⟩ = some (.int .i64 (gi (formedL off l1 l2) 2)) ∧ w'.cell? ⟨g8, 3, none⟩ = some (.int .i64 (gi (formedL off l1 l2) 3)) ∧ w'.cell? ⟨g8, 4, none⟩ = some (.int .i64 (gi (formedL off l1 l2) 4)) ∧ w'.cell? ⟨g8, 5, none⟩ = some (.int .i64 (gi (formedL off l1 l2) 5)) ∧ w'.cell? ⟨g8, 6, none⟩ = some (.int .i64 (gi (formedL off l1 l2) 6)) ∧ w'.cell? ⟨g8, 7, none⟩ = some (.int .i64 (gi (formedL off l1 l2) 7)) ∧ w'.cell? ⟨g8, 8, none⟩ = some (.int .i64 (gi (formedL off l1 l2) 8)) ∧ w'.cell? ⟨g8, 9, none⟩ = some (.int .i64 (gi (formedL off l1 l2) 9)) ∧ w'.cell? ⟨g8, 10, none⟩ = some (.int .i64 (gi (formedL off l1 l2) 10)) ∧ w'.cell? ⟨g8, 11, none⟩ = some (.int .i64 (gi (formedL off l1 l2) 11))) (exact lay_S (g := g8) (t := 67) (l := (formedL off l1 l2)) formedL_len (by (with_reducible repeat (first | refine blk_drew ?_ | refine blk_drewN ?_ _ | refine blk_alloc ?_ _ | refine blk_farG ?_ HN82.out _)); exact BL.out)) (first | (go_at_call 75; refine (pick12 (formedL off l1 l2) m fr st n formedL_len HM.out _).mono ?_; rintro e w5 ⟨rfl, hb5⟩; have n2 := Aside0.mk (blk_below (g := g2) (o := .cells #[.int .i64 0, .slice none 0 0, .slice none 0 0] 33 (0, 0)) (by (with_reducible repeat (first | refine blk_drew ?_ | refine blk_drewN ?_ _ | refine blk_alloc ?_ _)); exact HB2.out) hb5); have n3 := Aside0.mk (blk_below (g := g8) (o := .cells (lay (formedL off l1 l2)) 67 (0, 0)) (by (with_reducible repeat (first | refine blk_drew ?_ | refine blk_drewN ?_ _ | refine blk_alloc ?_ _)); exact BL.out) hb5); have nw := Aside0.mk (below_step (by repeat (first | (with_reducible first | exact HW.out | apply below_alloc | apply below_drew1 | apply pw_below_drewN) | exact HW.out)) hb5); clear HB2 BL HW; have HB2 := n2; have BL := n3; have HW := nw; clear n2 n3 nw hb5) | (go_at_call 72; refine (view_calls12 (pickL (formedL off l1 l2) m fr st n) (formedL off l1 l2) l1.length HCL.out formedL_len HCR1.out HR5.out _).mono ?_; rintro e w6 ⟨v1, v2, rfl, ho1, ho2, hb6⟩; obtain ⟨Aa, ca, rfl⟩ := Kd.R_slice ho1; obtain ⟨Ab, cb, rfl⟩ := Kd.R_slice ho2; have HO1 := Aside0.mk (Kd.R_lower ho1 (below_size (by repeat (first | (with_reducible first | exact HW.out | apply below_alloc | apply below_drew1 | apply pw_below_drewN) | exact HW.out)))); have HO2 := Aside0.mk (Kd.R_lower ho2 (below_size (by repeat (first | (with_reducible first | exact HW.out | apply below_alloc | apply below_drew1 | apply pw_below_drewN) | exact HW.out)))); clear ho1 ho2; have n2 := Aside0.mk (blk_below (g := g2) (o := .cells #[.int .i64 0, .slice none 0 0, .slice none 0 0] 33 (0, 0)) (by (with_reducible repeat (first | refine blk_drew ?_ | refine blk_drewN ?_ _ | refine blk_alloc ?_ _)); exact HB2.out) hb6); have n3 := Aside0.mk (blk_below (g := g8) (o := .cells (lay (formedL off l1 l2)) 67 (0, 0)) (by (with_reducible repeat (first | refine blk_drew ?_ | refine blk_drewN ?_ _ | refine blk_alloc ?_ _)); exact BL.out) hb6); have nw := Aside0.mk (below_step (by repeat (first | (with_reducible first | exact HW.out | apply below_alloc | apply below_drew1 | apply pw_below_drewN) | exact HW.out)) hb6); clear HB2 BL HW; have HB2 := n2; have BL := n3; have HW := nw; clear n2 n3 nw hb6; have hx0 : _ = some (Value.int .i64 0) := (blk_cell HB2.out 0).trans rfl; have hx1 : _ = some (Value.slice none 0 0) := (blk_cell HB2.out 1).trans rfl; have hx2 : _ = some (Value.slice none 0 0) := (blk_cell HB2.out 2).trans rfl; have hy0 := blk_frozen HB2.out 0; have hy1 := blk_frozen HB2.out 1; have hy2 := blk_frozen HB2.out 2))
  go_wp2_with fail
  have s0 := blk_set HB2.out 0 (.int .i64 (viewO (pickL (formedL off l1 l2) m fr st n) (formedL off l1 l2) l1.length))
  have s1 := blk_set s0 1 (.slice Aa (viewS (pickL (formedL off l1 l2) m fr st n) (formedL off l1 l2) l1.length).length ca)
  have s2 := blk_set s1 2 (.slice Ab (viewT (pickL (formedL off l1 l2) m fr st n) (formedL off l1 l2) l1.length).length cb)
  refine bodyPost_ret (results_ct rfl _ _ g2 33 #[.int .i64 (viewO (pickL (formedL off l1 l2) m fr st n) (formedL off l1 l2) l1.length), .slice Aa (viewS (pickL (formedL off l1 l2) m fr st n) (formedL off l1 l2) l1.length).length ca, .slice Ab (viewT (pickL (formedL off l1 l2) m fr st n) (formedL off l1 l2) l1.length).length cb] (0, 0) _ rfl (by simpa using s2) Try.underlying33 rfl (by kernel_rfl)) rfl ?_
  have LE := show w.heap.size ≤ g2 by have := HG1.out; have := LT12.out; omega
  exact ⟨_, _, rfl, R_setV (R_setV (R_setV HO1.out HB2.out 0 _) s0 1 _) s1 2 _, R_setV (R_setV (R_setV HO2.out HB2.out 0 _) s0 1 _) s1 2 _, below_set (below_set (below_set HW.out LE) LE) LE⟩
/-- The checks of 'PickView' beyond the form. -/
def pickOk (l1 : List Int) (a fr st n : Int) : Bool :=
  decide (0 ≤ a ∧ a < (l1.length : Int)) && decide (0 ≤ n ∧ n ≤ 10000) && decide (-10000 ≤ st ∧ st ≤ 10000) &&
    (decide (¬ 0 < n) || (decide (0 ≤ fr ∧ fr ≤ wrap64 (rd l1 a - 1)) && decide (0 ≤ wrap64 (fr + wrap64 (st * wrap64 (n - 1))) ∧ wrap64 (fr + wrap64 (st * wrap64 (n - 1))) ≤ wrap64 (rd l1 a - 1))))
def impl_PickView.f (off : Int) (l1 l2 : List Int) (a fr st n : Int) : Option (Int × List Int × List Int × Bool) :=
  some (if formedB off l1 l2 = true ∧ pickOk l1 a fr st n = true then viewed (pickL (formedL off l1 l2) a.toNat fr st n) (formedL off l1 l2) l1.length else noView)
theorem formedL_2 {off : Int} {l1 l2 : List Int} {m : Nat} (h : formedB off l1 l2 = true) (hm : m < l1.length) : gi (formedL off l1 l2) (2 + m) = rd l1 (m : Int) := by
  unfold formedL; rw [if_pos h]
  have e : rd l1 (m : Int) = l1[m] := by simp [rd, hm]
  rw [e, Nat.add_comm]
  simp only [gi, List.getD_cons_succ, pad5, List.append_assoc]
  rw [List.getD_eq_getElem?_getD, List.getElem?_append_left hm, List.getElem?_eq_getElem hm]; rfl
theorem impl_PickView.calls (off : Int) (A1 : Option Addr) (c1 : Nat) (l1 : List Int) (A2 : Option Addr) (c2 : Nat) (l2 : List Int) (a fr st n : Int) (r1 : Int) (r2 : List Int) (r3 : List Int) (r4 : Bool) (w : World) (hr1 : Kd.C (Kd.int .i64) w A1 l1.length l1) (hc1 : l1.length ≤ c1) (hr2 : Kd.C (Kd.int .i64) w A2 l2.length l2) (hc2 : l2.length ≤ c2) (h : impl_PickView.f off l1 l2 a fr st n = some (r1, r2, r3, r4)) :
    Calls Try.prog 41 #[.agg #[.int .i64 off, .slice A1 l1.length c1, .slice A2 l2.length c2], .int .i64 a, .int .i64 fr, .int .i64 st, .int .i64 n] w fun e w' => ∃ v1_ v2_ : Value, e = .returned (.tuple #[.agg #[.int .i64 r1, v1_, v2_], .bool r4]) ∧ Kd.R (Kd.int .i64) 3 w' w.heap.size (fun k_ => some k_ ≠ (v2_ : Value).ownBlock) v1_ r2 ∧ Kd.R (Kd.int .i64) 3 w' w.heap.size (fun k_ => some k_ ≠ (v1_ : Value).ownBlock) v2_ r3 ∧ Below w.heap.size w w' := by
  have h := Option.some.inj h
  have no : ¬ (formedB off l1 l2 = true ∧ pickOk l1 a fr st n = true) → r1 = 0 ∧ r2 = [] ∧ r3 = [] ∧ r4 = false := fun hh => by
    rw [if_neg hh] at h; simp only [noView, Prod.mk.injEq] at h
    exact ⟨h.1.symm, h.2.1.symm, h.2.2.1.symm, h.2.2.2.symm⟩
  by_cases hf : formedB off l1 l2 = true
  · have hwp := wrap_pred (formed_5 hf)
    by_cases ha : 0 ≤ a ∧ a < (l1.length : Int)
    · obtain ⟨m, rfl⟩ := Int.eq_ofNat_of_zero_le ha.1
      have hm : m < l1.length := by omega
      have h5 := formed_5 hf
      have e2 := formedL_2 hf hm
      have h1 : 0 ≤ (m : Int) ∧ (m : Int) ≤ wrap64 ((l1.length : Int) - 1) := by rw [hwp]; omega
      by_cases h2 : 0 ≤ n ∧ n ≤ 10000
      · by_cases h3 : -10000 ≤ st ∧ st ≤ 10000
        · by_cases h4 : 0 < n
          · by_cases h6 : 0 ≤ fr ∧ fr ≤ wrap64 (rd l1 (m : Int) - 1)
            · by_cases h7 : 0 ≤ wrap64 (fr + wrap64 (st * wrap64 (n - 1))) ∧ wrap64 (fr + wrap64 (st * wrap64 (n - 1))) ≤ wrap64 (rd l1 (m : Int) - 1)
              · have hp : pickOk l1 (m : Int) fr st n = true := by simp only [pickOk, decide_eq_true ha, decide_eq_true h2, decide_eq_true h3, decide_eq_true h6, decide_eq_true h7, Bool.and_self, Bool.or_true]
                rw [if_pos ⟨hf, hp⟩, Int.toNat_natCast] at h
                simp only [viewed, Prod.mk.injEq] at h
                obtain ⟨rfl, rfl, rfl, rfl⟩ := h
                exact pickView_y1 off A1 A2 c1 c2 l1 l2 m fr st n w hr1 hc1 hr2 hc2 hf (by omega) h1 h2 h3 h4 (by rw [e2]; exact h6) (by rw [e2]; exact h7)
              · obtain ⟨rfl, rfl, rfl, rfl⟩ := no fun hh => by simp only [pickOk, decide_eq_false h7, decide_eq_false (not_not_intro h4), Bool.and_false, Bool.or_false, Bool.false_eq_true, and_false] at hh
                exact pickView_n6 off A1 A2 c1 c2 l1 l2 m fr st n w hr1 hc1 hr2 hc2 hf (by omega) h1 h2 h3 h4 (by rw [e2]; exact h6) (by rw [e2]; exact h7)
            · obtain ⟨rfl, rfl, rfl, rfl⟩ := no fun hh => by simp only [pickOk, decide_eq_false h6, decide_eq_false (not_not_intro h4), Bool.false_and, Bool.or_false, Bool.and_false, Bool.false_eq_true, and_false] at hh
              exact pickView_n5 off A1 A2 c1 c2 l1 l2 m fr st n w hr1 hc1 hr2 hc2 hf (by omega) h1 h2 h3 h4 (by rw [e2]; exact h6)
          · have hp : pickOk l1 (m : Int) fr st n = true := by simp only [pickOk, decide_eq_true ha, decide_eq_true h2, decide_eq_true h3, decide_eq_true h4, Bool.and_self, Bool.true_or]
            rw [if_pos ⟨hf, hp⟩, Int.toNat_natCast] at h
            simp only [viewed, Prod.mk.injEq] at h
            obtain ⟨rfl, rfl, rfl, rfl⟩ := h
            exact pickView_y0 off A1 A2 c1 c2 l1 l2 m fr st n w hr1 hc1 hr2 hc2 hf (by omega) h1 h2 h3 h4
        · obtain ⟨rfl, rfl, rfl, rfl⟩ := no fun hh => by simp only [pickOk, decide_eq_false h3, Bool.and_false, Bool.false_and, Bool.false_eq_true, and_false] at hh
          exact pickView_n4 off A1 A2 c1 c2 l1 l2 (m : Int) fr st n w hr1 hc1 hr2 hc2 hf h1 h2 h3
      · obtain ⟨rfl, rfl, rfl, rfl⟩ := no fun hh => by simp only [pickOk, decide_eq_false h2, Bool.and_false, Bool.false_and, Bool.false_eq_true, and_false] at hh
        exact pickView_n3 off A1 A2 c1 c2 l1 l2 (m : Int) fr st n w hr1 hc1 hr2 hc2 hf h1 h2
    · obtain ⟨rfl, rfl, rfl, rfl⟩ := no fun hh => by simp only [pickOk, decide_eq_false ha, Bool.false_and, Bool.false_eq_true, and_false] at hh
      exact pickView_n2 off A1 A2 c1 c2 l1 l2 a fr st n w hr1 hc1 hr2 hc2 hf (by rw [hwp]; omega)
  · obtain ⟨rfl, rfl, rfl, rfl⟩ := no fun hh => hf hh.1
    exact pickView_n1 off A1 A2 c1 c2 l1 l2 a fr st n w hr1 hc1 hr2 hc2 ((Bool.not_eq_true _).mp hf)
end Go.Proofs.Ytipjhbngbaifeaa.PA
