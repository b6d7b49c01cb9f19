/- Plain facts: what the law's helper functions (copies, comparisons, sizes) and the two checks of arrays come to, as functions of lists. Sizes of lists below 2^45. -/
import Derived.Test.YtipjhbngbaifeaaFLawsToArray
import Derived.Test.YtipjhbngbaifeaaFLawsEqArray
import Derived.Test.YtipjhbngbaifeaaFLawsSzArray
import Derived.Test.YtipjhbngbaifeaaFSpecL3Count
import Derived.Test.YtipjhbngbaifeaaFImplShapeOk
namespace Go.Proofs.Ytipjhbngbaifeaa.PA
open Go.RowKit Go.Proofs.YtipjhbngbaifeaaW.PrintWords Go.Proofs.YtipjhbngbaifeaaW.PrintLast Go.Proofs.YtipjhbngbaifeaaW.PrintMore

theorem w64 {x : Int} (h0 : -9223372036854775808 ≤ x) (h1 : x < 9223372036854775808) : wrap64 x = x := by unfold wrap64; omega
theorem rd_mid (p t : List Int) (a : Int) : rd (p ++ a :: t) (p.length : Int) = a := by simp [rd, List.getD_eq_getElem?_getD]
theorem len_lt {p t : List Int} {a : Int} : ((p.length : Nat) : Int) < (((p ++ a :: t).length : Nat) : Int) := by simp; omega
theorem len_nlt {p : List Int} : ¬ ((p.length : Nat) : Int) < (((p ++ ([] : List Int)).length : Nat) : Int) := by simp
theorem next_mid (p t : List Int) (a : Int) (h : (p ++ a :: t).length < 35184372088833) : wrap64 ((p.length : Int) + 1) = (((p ++ [a]).length : Nat) : Int) := by
  rw [w64 (by omega) (by simp at h; omega)]; simp
theorem app_mid (p t : List Int) (a : Int) : p ++ a :: t = (p ++ [a]) ++ t := by simp
theorem evVal {α : Type} {g : Nat → Option α} {r r' : α} (h : Ev g r) (e : r = r') : Ev g r' := e ▸ h
theorem evEq {α : Type} {g : Nat → Option α} {r : α} (h : ∀ k, g k = some r) : Ev g r := ⟨0, fun k _ => h k⟩
/-- One round whose test is decided: from the round's own equation. -/
theorem evRound {α : Type} {g f : Nat → Option α} {r : α} (k : Ev f r) (h : ∀ k, g (k + 1) = f k) : Ev g r := Ev.step h k

/-! ### copies -/
theorem set_mid (q t : List Int) (b a : Int) : (q ++ b :: t).set q.length a = (q ++ [a]) ++ t := by simp
theorem toIntS_loop : ∀ (t p q s : List Int), p.length = q.length → t.length = s.length → (p ++ t).length < 35184372088833 →
    Ev (fun k => laws_toIntS.l0 k (p ++ t) (q ++ s) (p.length : Int)) (q ++ t)
  | [], p, q, s, _, hs, _ => by
    obtain rfl : s = [] := List.eq_nil_of_length_eq_zero hs.symm
    refine evRound (Ev.now _) fun k => ?_
    simp only [laws_toIntS.l0]; rw [if_neg len_nlt]
  | a :: t, p, q, [], _, hs, _ => by simp at hs
  | a :: t, p, q, b :: s, hp, hs, hl => by
    have ih := toIntS_loop t (p ++ [a]) (q ++ [a]) s (by simp [hp]) (by simpa using hs) (by simpa using hl)
    rw [← app_mid, ← app_mid q t] at ih
    refine evRound ih fun k => ?_
    simp only [laws_toIntS.l0]
    rw [if_pos len_lt, if_pos (by omega), if_pos (by simp [hp]; omega), rd_mid, next_mid p t a hl, hp, Int.toNat_natCast, set_mid]
theorem toIntS_ev (l : List Int) (h : l.length ≤ 35184372088832) : Ev (fun k => laws_toIntS.f k l) l := by
  have h1 := toIntS_loop l [] [] (List.replicate l.length 0) rfl (by simp) (by simpa using (by omega : l.length < 35184372088833))
  refine Ev.congr (fun k => ?_) h1
  simp only [laws_toIntS.f]
  rw [if_pos (by omega), if_pos (by simpa using h)]
  simp
theorem toArray_ev (b : Bool) (l1 l2 : List Int) (h1 : l1.length ≤ 35184372088832) (h2 : l2.length ≤ 35184372088832) : Ev (fun k => laws_toArray.f k b l1 l2) (b, l1, l2) := by
  simp only [laws_toArray.f]
  exact Ev.bind (toIntS_ev l1 h1) (Ev.bind (toIntS_ev l2 h2) (Ev.now _))

/-! ### comparisons -/
theorem eqIntS_loop : ∀ (t p q s : List Int), p.length = q.length → t.length = s.length → (p ++ t).length < 35184372088833 →
    Ev (fun k => laws_eqIntS.l0 k (p ++ t) (q ++ s) (p.length : Int)) (decide (t = s))
  | [], p, q, s, _, hs, _ => by
    obtain rfl : s = [] := List.eq_nil_of_length_eq_zero hs.symm
    refine evRound (Ev.now _) fun k => ?_
    simp only [laws_eqIntS.l0]; rw [if_neg len_nlt]; simp
  | a :: t, p, q, [], _, hs, _ => by simp at hs
  | a :: t, p, q, b :: s, hp, hs, hl => by
    by_cases e : a = b
    · subst e
      have ih := eqIntS_loop t (p ++ [a]) (q ++ [a]) s (by simp [hp]) (by simpa using hs) (by simpa using hl)
      rw [← app_mid, ← app_mid] at ih
      refine evVal (evRound ih fun k => ?_) (by simp)
      simp only [laws_eqIntS.l0]
      rw [if_pos len_lt, if_pos (by omega), if_pos (by simp [hp]; omega), rd_mid, show rd (q ++ a :: s) (p.length : Int) = a by rw [hp]; exact rd_mid _ _ _, if_pos rfl, next_mid p t a hl]
    · refine evRound (Ev.now _) fun k => ?_
      simp only [laws_eqIntS.l0]
      rw [if_pos len_lt, if_pos (by omega), if_pos (by simp [hp]; omega), rd_mid, show rd (q ++ b :: s) (p.length : Int) = b by rw [hp]; exact rd_mid _ _ _, if_neg e]; simp [e]
theorem eqIntS_ev (l m : List Int) (h : l.length ≤ 35184372088832) : Ev (fun k => laws_eqIntS.f k l m) (decide (l = m)) := by
  by_cases e : l.length = m.length
  · have h1 := eqIntS_loop l [] [] m rfl e (by simpa using (by omega : l.length < 35184372088833))
    refine Ev.congr (fun k => ?_) h1
    simp only [laws_eqIntS.f]
    rw [if_pos (by omega)]; rfl
  · refine evEq fun k => ?_
    simp only [laws_eqIntS.f]
    rw [if_neg (by omega)]
    have : l ≠ m := fun h => e (h ▸ rfl)
    simp [this]
theorem eqArray_ev (b b' : Bool) (l1 l2 m1 m2 : List Int) (h1 : l1.length ≤ 35184372088832) (h2 : l2.length ≤ 35184372088832) :
    Ev (fun k => laws_eqArray.f k b l1 l2 b' m1 m2) (decide (b = b' ∧ l1 = m1 ∧ l2 = m2)) := by
  simp only [laws_eqArray.f]
  by_cases e : b = b'
  · subst e
    simp only [bne_self_eq_false, Bool.false_eq_true, if_false]
    refine Ev.bind (eqIntS_ev l1 m1 h1) ?_
    by_cases e1 : l1 = m1
    · simp only [e1, decide_true, if_true]
      refine Ev.bind (eqIntS_ev l2 m2 h2) ?_
      by_cases e2 : l2 = m2
      · simp only [e2, decide_true, if_true]; exact evVal (Ev.now _) (by simp)
      · simp only [e2, decide_false, Bool.false_eq_true, if_false]; exact evVal (Ev.now _) (by simp)
    · simp only [e1, decide_false, Bool.false_eq_true, if_false]; exact evVal (Ev.now _) (by simp)
  · simp only [show (b != b') = true by simpa using e, if_true]; exact evVal (Ev.now _) (by simp [e])
theorem eqArray_self (b : Bool) (l1 l2 : List Int) (h1 : l1.length ≤ 35184372088832) (h2 : l2.length ≤ 35184372088832) : Ev (fun k => laws_eqArray.f k b l1 l2 b l1 l2) true :=
  evVal (eqArray_ev b b l1 l2 l1 l2 h1 h2) (by simp)

/-! ### sizes -/
theorem szIntS_eq (l : List Int) (a : Int) (h0 : 0 ≤ a) (h1 : a ≤ 1048576) (hl : l.length ≤ maxLen) :
    laws_szIntS.f l a = some (if (l.length : Int) ≤ a then a - l.length else -1) := by
  unfold laws_szIntS.f; unfold maxLen at hl
  rw [w64 (by omega) (by omega)]
  by_cases h : (l.length : Int) ≤ a
  · rw [if_neg (by omega), if_pos h]
  · rw [if_pos (by omega), if_neg h]
theorem szArray_eq (b : Bool) (l1 l2 : List Int) (a : Int) (h0 : 0 ≤ a) (h1 : a ≤ 1048576) (hl1 : l1.length ≤ maxLen) (hl2 : l2.length ≤ maxLen) :
    laws_szArray.f b l1 l2 a = some (if (l1.length : Int) + l2.length ≤ a then a - l1.length - l2.length else -1) := by
  unfold laws_szArray.f
  rw [szIntS_eq l1 a h0 h1 hl1]; simp only [Option.bind_some]
  by_cases h : (l1.length : Int) ≤ a
  · rw [if_pos h, if_neg (by omega), szIntS_eq l2 _ (by omega) (by omega) hl2]; simp only [Option.bind_some]
    by_cases h' : (l2.length : Int) ≤ a - l1.length
    · rw [if_pos h', if_neg (by omega), if_pos (by omega)]
    · rw [if_neg h', if_pos (by omega), if_neg (by omega)]
  · rw [if_neg h, if_pos (by omega), if_neg (by omega)]

/-! ### shapes -/
/-- Every number in range, and the product of those that are not 0 at most 10000: from a product on. -/
def shGo : Int → List Int → Bool
  | _, [] => true
  | f, a :: t => decide (0 ≤ a ∧ a ≤ 10000) && (if a = 0 then shGo f t else decide (f * a ≤ 10000) && shGo (f * a) t)
def prod : List Int → Int
  | [] => 1
  | a :: t => a * prod t
def shOk (l : List Int) : Bool := decide (l.length ≤ 5) && shGo 1 l
theorem shGo_range : ∀ {l : List Int} {f : Int}, shGo f l = true → ∀ a ∈ l, 0 ≤ a ∧ a ≤ 10000
  | [], _, _, a, ha => by simp at ha
  | b :: t, f, h, a, ha => by
    simp only [shGo, Bool.and_eq_true, decide_eq_true_eq] at h
    rcases List.mem_cons.1 ha with rfl | ha
    · exact h.1
    · by_cases hb : b = 0
      · rw [if_pos hb] at h; exact shGo_range h.2 a ha
      · rw [if_neg hb] at h; simp only [Bool.and_eq_true] at h; exact shGo_range h.2.2 a ha
theorem prod_nonneg : ∀ {l : List Int}, (∀ a ∈ l, 0 ≤ a) → 0 ≤ prod l
  | [], _ => by simp [prod]
  | a :: t, h => Int.mul_nonneg (h a (by simp)) (prod_nonneg fun b hb => h b (by simp [hb]))
theorem shGo_prod : ∀ {l : List Int} {f : Int}, 1 ≤ f → shGo f l = true → prod l = 0 ∨ (f * prod l ≤ 10000 ∧ 1 ≤ prod l) ∨ l = []
  | [], _, _, _ => .inr (.inr rfl)
  | b :: t, f, hf, h => by
    have hr := shGo_range h
    simp only [shGo, Bool.and_eq_true, decide_eq_true_eq] at h
    by_cases hb : b = 0
    · subst hb; left; simp [prod]
    · rw [if_neg hb] at h; simp only [Bool.and_eq_true, decide_eq_true_eq] at h
      have hb1 : 1 ≤ b := by omega
      have hf1 : 1 ≤ f * b := by have := Int.mul_le_mul hf hb1 (by omega) (by omega); simpa using this
      rcases shGo_prod hf1 h.2.2 with h0 | ⟨h0, h1⟩ | rfl
      · left; simp [prod, h0]
      · right; left; simp only [prod]; refine ⟨by rw [← Int.mul_assoc]; exact h0, ?_⟩
        have := Int.mul_le_mul hb1 h1 (by omega) (by omega); simpa using this
      · right; left; simp only [prod, Int.mul_one]; exact ⟨h.2.1, hb1⟩
theorem shGo_bound {l : List Int} (h : shGo 1 l = true) : 0 ≤ prod l ∧ prod l ≤ 10000 := by
  rcases shGo_prod (by omega) h with h0 | ⟨h0, h1⟩ | rfl
  · omega
  · omega
  · simp [prod]
theorem within_eq (a b c : Int) : impl_within.f a b c = some (decide (b ≤ a ∧ a ≤ c)) := by
  unfold impl_within.f
  by_cases h : a ≥ b
  · rw [if_pos h]; simp; omega
  · rw [if_neg h]; simp; omega
/-- The product that the program keeps: 0, or the product of those that are not 0. -/
def szGo : Int → Int → List Int → Int × Bool
  | s, _, [] => (s, true)
  | s, f, a :: t => if 0 ≤ a ∧ a ≤ 10000 then (if a > 0 then (if f * a > 10000 then (0, false) else szGo (s * a) (f * a) t) else szGo (s * a) f t) else (0, false)
theorem szGo_eq : ∀ (l : List Int) (s f : Int), szGo s f l = if shGo f l then (s * prod l, true) else (0, false)
  | [], s, f => by simp [szGo, shGo, prod]
  | a :: t, s, f => by
    simp only [szGo, shGo]
    by_cases h : 0 ≤ a ∧ a ≤ 10000
    · rw [if_pos h]
      by_cases h0 : a = 0
      · subst h0; simp [szGo_eq t, prod]
      · rw [if_pos (by omega)]
        by_cases h1 : f * a > 10000
        · rw [if_pos h1]; simp [h, h0, show ¬ f * a ≤ 10000 by omega]
        · rw [if_neg h1, szGo_eq t]; simp [h, h0, show f * a ≤ 10000 by omega, prod, Int.mul_assoc]
    · rw [if_neg h]; simp [h]
theorem mul_in {s a : Int} (h0 : 0 ≤ s) (h1 : s ≤ 10000) (h2 : 0 ≤ a) (h3 : a ≤ 10000) : 0 ≤ s * a ∧ s * a ≤ 100000000 := by
  refine ⟨Int.mul_nonneg h0 h2, ?_⟩
  have := Int.mul_le_mul h1 h3 h2 (by omega : (0 : Int) ≤ 10000); omega
theorem shapeOk_loop : ∀ (t p : List Int) (s f : Int) (n : Int), (s = 0 ∨ s = f) → 0 ≤ f → f ≤ 10000 → (p ++ t).length < 35184372088833 → n = ((p ++ t).length : Nat) →
    Ev (fun k => impl_shapeOk.l0 k s f (p ++ t) n (p.length : Int)) (szGo s f t)
  | [], p, s, f, n, _, _, _, _, hn => by
    subst hn
    refine evRound (Ev.now _) fun k => ?_
    simp only [impl_shapeOk.l0]; rw [if_neg len_nlt]; rfl
  | a :: t, p, s, f, n, hs, h0, h1, hl, hn => by
    have hn' := hn
    subst hn
    have hsb : 0 ≤ s ∧ s ≤ 10000 := by rcases hs with rfl | rfl <;> omega
    by_cases ha : 0 ≤ a ∧ a ≤ 10000
    · have hsa := mul_in hsb.1 hsb.2 ha.1 ha.2
      have hfa := mul_in h0 h1 ha.1 ha.2
      by_cases hp : a > 0
      · by_cases hb : f * a > 10000
        · refine evRound (Ev.now _) fun k => ?_
          simp only [impl_shapeOk.l0, szGo]
          rw [if_pos len_lt, if_pos (by omega), if_pos len_lt, rd_mid, within_eq]; simp only [Option.bind_some, ha.1, ha.2, and_self, decide_true, if_true]
          rw [if_pos hp, w64 (by omega) (by omega), if_pos hb, if_pos hp, if_pos hb]
        · have ih := shapeOk_loop t (p ++ [a]) (s * a) (f * a) _ (by rcases hs with rfl | rfl <;> simp) hfa.1 (by omega) (by simpa using hl) rfl
          rw [← app_mid] at ih
          refine evVal (evRound ih fun k => ?_) (by simp [szGo, ha, hp, hb])
          simp only [impl_shapeOk.l0]
          rw [if_pos len_lt, if_pos (by omega), if_pos len_lt, rd_mid, within_eq]; simp only [Option.bind_some, ha.1, ha.2, and_self, decide_true, if_true]
          rw [if_pos hp, w64 (x := f * a) (by omega) (by omega), if_neg hb, w64 (x := s * a) (by omega) (by omega), next_mid p t a hl]
      · have ih := shapeOk_loop t (p ++ [a]) (s * a) f _ (by left; have : a = 0 := by omega
                                                             simp [this]) h0 h1 (by simpa using hl) rfl
        rw [← app_mid] at ih
        refine evVal (evRound ih fun k => ?_) (by simp [szGo, ha, hp])
        simp only [impl_shapeOk.l0]
        rw [if_pos len_lt, if_pos (by omega), if_pos len_lt, rd_mid, within_eq]; simp only [Option.bind_some, ha.1, ha.2, and_self, decide_true, if_true]
        rw [if_neg hp, if_neg (by omega), w64 (x := s * a) (by omega) (by omega), next_mid p t a hl]
    · refine evRound (Ev.now _) fun k => ?_
      simp only [impl_shapeOk.l0, szGo]
      rw [if_pos len_lt, if_pos (by omega), if_pos len_lt, rd_mid, within_eq, if_neg ha]; simp only [Option.bind_some, ha, decide_false, Bool.false_eq_true, if_false]
/-- What the program's shapeOk answers. -/
def shSize (l : List Int) : Int × Bool := if shOk l then (prod l, true) else (0, false)
theorem shapeOk_ev (l : List Int) : Ev (fun k => impl_shapeOk.f k l) (shSize l) := by
  unfold shSize shOk
  by_cases h : l.length ≤ 5
  · have h1 := shapeOk_loop l [] 1 1 _ (.inr rfl) (by omega) (by omega) (by simp; omega) rfl
    refine evVal (Ev.congr (fun k => ?_) h1) ?_
    · simp only [impl_shapeOk.f]; rw [if_neg (by omega)]; rfl
    · rw [szGo_eq]; simp [h]
  · refine evEq fun k => ?_
    simp only [impl_shapeOk.f]; rw [if_pos (by omega)]; simp [h]

/-- What the reference's l3Count answers. -/
def cnGo : Int → Bool → List Int → Int
  | x, z, [] => if z then 0 else x
  | x, z, a :: t => if a = 0 then cnGo x true t else if x * a > 10000 then -1 else cnGo (x * a) z t
def cnt (l : List Int) : Int := if shGo 1 l then prod l else -1
theorem cnGo_eq : ∀ (l : List Int) (x : Int) (z : Bool), (∀ a ∈ l, 0 ≤ a ∧ a ≤ 10000) → cnGo x z l = if shGo x l then (if z then 0 else x * prod l) else -1
  | [], x, z, _ => by simp [cnGo, shGo, prod]
  | a :: t, x, z, h => by
    have ha := h a (by simp)
    have ht : ∀ b ∈ t, 0 ≤ b ∧ b ≤ 10000 := fun b hb => h b (by simp [hb])
    simp only [cnGo, shGo]
    by_cases h0 : a = 0
    · subst h0; simp [cnGo_eq t _ _ ht, prod]
    · rw [if_neg h0]
      by_cases h1 : x * a > 10000
      · rw [if_pos h1]; simp [h0, show ¬ x * a ≤ 10000 by omega]
      · rw [if_neg h1, cnGo_eq t _ _ ht]; simp [ha, h0, show x * a ≤ 10000 by omega, prod, Int.mul_assoc]
theorem l3Count_loop1 : ∀ (t p : List Int) (x : Int) (z : Bool), (∀ a ∈ t, 0 ≤ a ∧ a ≤ 10000) → 0 ≤ x → x ≤ 10000 → (p ++ t).length < 35184372088833 →
    Ev (fun k => spec_l3Count.l1 k (p ++ t) x z (p.length : Int)) (cnGo x z t)
  | [], p, x, z, _, _, _, _ => by
    refine evRound (f := fun _ => some (cnGo x z [])) (Ev.now _) fun k => ?_
    simp only [spec_l3Count.l1]; rw [if_neg len_nlt]; cases z <;> simp [cnGo]
  | a :: t, p, x, z, hr, h0, h1, hl => by
    have ha := hr a (by simp)
    have hxa := mul_in h0 h1 ha.1 ha.2
    have ht : ∀ b ∈ t, 0 ≤ b ∧ b ≤ 10000 := fun b hb => hr b (by simp [hb])
    by_cases e : a = 0
    · have ih := l3Count_loop1 t (p ++ [a]) x true ht h0 h1 (by simpa using hl)
      rw [← app_mid] at ih
      refine evVal (evRound ih fun k => ?_) (by simp [cnGo, e])
      simp only [spec_l3Count.l1]
      rw [if_pos len_lt, if_pos (by omega), rd_mid, if_pos e, next_mid p t a hl]
    · by_cases hb : x * a > 10000
      · refine evRound (f := fun _ => some (cnGo x z (a :: t))) (Ev.now _) fun k => ?_
        simp only [spec_l3Count.l1]
        rw [if_pos len_lt, if_pos (by omega), rd_mid, if_neg e, w64 (by omega) (by omega), if_pos hb]; simp [cnGo, e, hb]
      · have ih := l3Count_loop1 t (p ++ [a]) (x * a) z ht hxa.1 (by omega) (by simpa using hl)
        rw [← app_mid] at ih
        refine evVal (evRound ih fun k => ?_) (by simp [cnGo, e, hb])
        simp only [spec_l3Count.l1]
        rw [if_pos len_lt, if_pos (by omega), rd_mid, if_neg e, w64 (by omega) (by omega), if_neg hb, next_mid p t a hl]
theorem l3Count_loop0 : ∀ (t p : List Int), (∀ a ∈ p, 0 ≤ a ∧ a ≤ 10000) → (p ++ t).length < 35184372088833 →
    Ev (fun k => spec_l3Count.l0 k (p ++ t) 1 (p.length : Int)) (if ∀ a ∈ t, 0 ≤ a ∧ a ≤ 10000 then cnGo 1 false (p ++ t) else -1)
  | [], p, hp, hl => by
    have h1 := l3Count_loop1 p [] 1 false hp (by omega) (by omega) (by simpa using hl)
    refine evVal (evRound h1 fun k => ?_) (by simp)
    simp only [spec_l3Count.l0]; rw [if_neg len_nlt]; simp
  | a :: t, p, hp, hl => by
    by_cases ha : 0 ≤ a ∧ a ≤ 10000
    · have ih := l3Count_loop0 t (p ++ [a]) (fun b hb => by rcases List.mem_append.1 hb with h | h
                                                            · exact hp b h
                                                            · obtain rfl := List.mem_singleton.1 h; exact ha) (by simpa using hl)
      rw [← app_mid] at ih
      refine evVal (evRound ih fun k => ?_) (by simp [ha])
      simp only [spec_l3Count.l0]
      rw [if_pos len_lt, if_pos (by omega), rd_mid, if_neg (by omega), if_neg (by omega), next_mid p t a hl]
    · refine evRound (f := fun _ => some (-1)) (evVal (Ev.now _) (by rw [if_neg]; intro h; exact ha (h a (by simp)))) fun k => ?_
      simp only [spec_l3Count.l0]
      rw [if_pos len_lt, if_pos (by omega), rd_mid]
      by_cases h : a < 0
      · rw [if_pos h]
      · rw [if_neg h, if_pos (by omega)]
theorem l3Count_ev (l : List Int) (h : l.length ≤ 35184372088832) : Ev (fun k => spec_l3Count.f k l) (cnt l) := by
  have h1 := l3Count_loop0 l [] (by simp) (by simp; omega)
  refine evVal (Ev.congr (fun k => rfl) h1) ?_
  unfold cnt
  by_cases hr : ∀ a ∈ l, 0 ≤ a ∧ a ≤ 10000
  · rw [if_pos hr, List.nil_append, cnGo_eq l 1 false hr]; simp
  · rw [if_neg hr, if_neg]; intro hs; exact hr (shGo_range hs)
end Go.Proofs.Ytipjhbngbaifeaa.PA
