/- Plain facts on views: copies, comparisons, marks, sizes, and the strides of elements that lie one behind the other. Lists below 2^45 (copies below 17592186044416) long. -/
import Derived.Test.YtipjhbngbaifeaaHBase
import Derived.Test.YtipjhbngbaifeaaHClone
import Derived.Test.YtipjhbngbaifeaaFLawsEqView
import Derived.Test.YtipjhbngbaifeaaFLawsToView
import Derived.Test.YtipjhbngbaifeaaFLawsSzView
import Derived.Test.YtipjhbngbaifeaaFLawsMarkView
import Derived.Test.YtipjhbngbaifeaaFLawsHeldView
import Derived.Test.YtipjhbngbaifeaaFSpecL3ShapeOk
import Derived.Test.YtipjhbngbaifeaaFSpecL3Ints
import Derived.Test.YtipjhbngbaifeaaFSpecWholeView
import Derived.Test.YtipjhbngbaifeaaFImplWholeView
namespace Go.Proofs.Ytipjhbngbaifeaa.PA
open Go.RowKit Go.Proofs.YtipjhbngbaifeaaW.PrintWords Go.Proofs.YtipjhbngbaifeaaW.PrintLast Go.Proofs.YtipjhbngbaifeaaW.PrintMore

theorem l3Ints_eq (l : List Int) (h : l.length < 17592186044416) : spec_l3Ints.f l = some l := by
  simp [spec_l3Ints.f, h]
theorem clone_eq (l : List Int) (h : l.length < 17592186044416) : slices_Clone_int_int.f l = some l := by
  simp [slices_Clone_int_int.f, h]
theorem l3ShapeOk_ev (l : List Int) (h : l.length ≤ 35184372088832) : Ev (fun k => spec_l3ShapeOk.f k l) (shOk l) := by
  simp only [spec_l3ShapeOk.f, shOk]
  by_cases h5 : (l.length : Int) ≤ 5
  · simp only [h5, if_true]
    refine Ev.bind (l3Count_ev l h) ?_
    refine evVal (Ev.now _) ?_
    unfold cnt
    by_cases hs : shGo 1 l = true
    · have := shGo_bound hs
      simp [hs, show l.length ≤ 5 by omega]; omega
    · simp [hs]
  · simp only [h5, if_false]; exact evVal (Ev.now _) (by simp [show ¬ l.length ≤ 5 by omega])

theorem toView_ev (b : Int) (l1 l2 : List Int) (h1 : l1.length ≤ 35184372088832) (h2 : l2.length ≤ 35184372088832) : Ev (fun k => laws_toView.f k b l1 l2) (b, l1, l2) := by
  simp only [laws_toView.f]
  exact Ev.bind (toIntS_ev l1 h1) (Ev.bind (toIntS_ev l2 h2) (Ev.now _))
theorem eqView_self (b : Int) (l1 l2 : List Int) (h1 : l1.length ≤ 35184372088832) (h2 : l2.length ≤ 35184372088832) : Ev (fun k => laws_eqView.f k b l1 l2 b l1 l2) true := by
  simp only [laws_eqView.f, if_true]
  refine Ev.bind (evVal (eqIntS_ev l1 l1 h1) (decide_eq_true rfl)) ?_
  simp only [if_true]
  refine Ev.bind (evVal (eqIntS_ev l2 l2 h2) (decide_eq_true rfl)) ?_
  simp only [if_true]; exact Ev.now _
theorem szView_eq (b : Int) (l1 l2 : List Int) (a : Int) (h0 : 0 ≤ a) (h1 : a ≤ 1048576) (hl1 : l1.length ≤ maxLen) (hl2 : l2.length ≤ maxLen) :
    laws_szView.f b l1 l2 a = some (if (l1.length : Int) + l2.length ≤ a then a - l1.length - l2.length else -1) := by
  unfold laws_szView.f
  rw [szIntS_eq l1 a h0 h1 hl1]; simp only [Option.bind_some]
  by_cases h : (l1.length : Int) ≤ a
  · rw [if_pos h, if_neg (by omega), szIntS_eq l2 _ (by omega) (by omega) hl2]; simp only [Option.bind_some]
    by_cases h' : (l2.length : Int) ≤ a - l1.length
    · rw [if_pos h', if_neg (by omega), if_pos (by omega)]
    · rw [if_neg h', if_pos (by omega), if_neg (by omega)]
  · rw [if_neg h, if_pos (by omega), if_neg (by omega)]

/-- The numbers from a on, n of them. -/
def upFrom : Int → Nat → List Int
  | _, 0 => []
  | a, n + 1 => a :: upFrom (a + 1) n
theorem upFrom_len : ∀ (n : Nat) (a : Int), (upFrom a n).length = n
  | 0, _ => rfl
  | n + 1, a => by simp [upFrom, upFrom_len n]
theorem markIntS_loop : ∀ (t p : List Int) (a : Int), (p ++ t).length < 35184372088833 → 0 ≤ a → a + t.length ≤ 9000000000000000000 →
    Ev (fun k => laws_markIntS.l0 k (p ++ t) a (p.length : Int)) (a + t.length, p ++ upFrom a t.length)
  | [], p, a, _, _, _ => by
    refine evVal (evRound (Ev.now _) fun k => ?_) (by simp [upFrom] : (a, p ++ []) = _)
    simp only [laws_markIntS.l0]; rw [if_neg len_nlt]
  | b :: t, p, a, hl, h0, h1 => by
    have ih := markIntS_loop t (p ++ [a]) (a + 1) (by simpa using hl) (by omega) (by simp only [List.length_cons] at h1; omega)
    refine evVal (evRound ih fun k => ?_) (by simp [upFrom]; omega)
    simp only [laws_markIntS.l0]
    rw [if_pos len_lt, if_pos (by omega), next_mid p t b hl, Int.toNat_natCast, set_mid, w64 (by omega) (by simp only [List.length_cons] at h1; omega)]
    simp
theorem markIntS_ev (l : List Int) (a : Int) (hl : l.length ≤ 35184372088832) (h0 : 0 ≤ a) (h1 : a ≤ 1000000000000000000) : Ev (fun k => laws_markIntS.f k l a) (a + l.length, upFrom a l.length) := by
  have := markIntS_loop l [] a (by simp; omega) h0 (by omega)
  simpa [laws_markIntS.f] using this
theorem heldIntS_loop : ∀ (n : Nat) (p : List Int) (a : Int), p.length + n < 35184372088833 → 0 ≤ a → a + n ≤ 9000000000000000000 →
    Ev (fun k => laws_heldIntS.l0 k (p ++ upFrom a n) a (p.length : Int)) (a + n)
  | 0, p, a, _, _, _ => by
    rw [show upFrom a 0 = [] from rfl]
    refine evVal (evRound (Ev.now a) fun k => ?_) (by simp)
    simp only [laws_heldIntS.l0]; rw [if_neg len_nlt]
  | n + 1, p, a, hl, h0, h1 => by
    have ih := heldIntS_loop n (p ++ [a]) (a + 1) (by simp; omega) (by omega) (by omega)
    rw [← app_mid] at ih
    rw [show upFrom a (n + 1) = a :: upFrom (a + 1) n from rfl]
    refine evVal (evRound ih fun k => ?_) (by omega)
    simp only [laws_heldIntS.l0]
    rw [if_pos len_lt, if_pos (by omega), rd_mid, if_pos rfl, next_mid p (upFrom (a + 1) n) a (by simp [upFrom_len]; omega), w64 (by omega) (by omega)]
theorem heldIntS_ev (n : Nat) (a : Int) (hl : n ≤ 35184372088832) (h0 : 0 ≤ a) (h1 : a ≤ 1000000000000000000) : Ev (fun k => laws_heldIntS.f k (upFrom a n) a) (a + n) := by
  have := heldIntS_loop n [] a (by simp; omega) h0 (by omega)
  simpa [laws_heldIntS.f] using this
theorem markView_ev (b : Int) (l1 l2 : List Int) (a : Int) (h1 : l1.length ≤ 35184372088832) (h2 : l2.length ≤ 35184372088832) (h0 : 0 ≤ a) (ha : a ≤ 1000000000000) :
    Ev (fun k => laws_markView.f k b l1 l2 a) (a + l1.length + l2.length, upFrom a l1.length, upFrom (a + l1.length) l2.length) := by
  simp only [laws_markView.f]
  exact Ev.bind (markIntS_ev l1 a h1 h0 (by omega)) (Ev.bind (markIntS_ev l2 (a + l1.length) h2 (by omega) (by omega)) (Ev.now _))
theorem heldView_ev (b : Int) (n m : Nat) (a : Int) (h1 : n ≤ 35184372088832) (h2 : m ≤ 35184372088832) (h0 : 0 ≤ a) (ha : a ≤ 1000000000000) :
    Ev (fun k => laws_heldView.f k b (upFrom a n) (upFrom (a + n) m) a) (a + n + m) := by
  simp only [laws_heldView.f]
  refine Ev.bind (heldIntS_ev n a h1 h0 (by omega)) ?_
  simp only [show ¬ a + (n : Int) < 0 by omega, if_false]
  refine Ev.bind (heldIntS_ev m (a + n) h2 (by omega) (by omega)) ?_
  simp only [show ¬ a + (n : Int) + (m : Int) < 0 by omega, if_false]
  exact Ev.now _

/-! ### strides -/
def mprod : List Int → Int
  | [] => 1
  | a :: t => (if a ≤ 1 then 1 else a) * mprod t
def wstr : List Int → List Int
  | [] => []
  | _ :: t => mprod t :: wstr t
theorem wstr_len : ∀ l : List Int, (wstr l).length = l.length
  | [] => rfl
  | _ :: t => by simp [wstr, wstr_len t]
theorem mprod_pos : ∀ l : List Int, 1 ≤ mprod l
  | [] => by simp [mprod]
  | a :: t => by
    have h := mprod_pos t
    simp only [mprod]
    split
    · omega
    · have := Int.mul_le_mul (show (1 : Int) ≤ a by omega) h (by omega) (by omega); simpa using this
theorem mprod_app : ∀ p t : List Int, mprod (p ++ t) = mprod p * mprod t
  | [], t => by simp [mprod]
  | a :: p, t => by simp only [List.cons_append, mprod, mprod_app p t, Int.mul_assoc]
theorem mprod_le_app (p t : List Int) : mprod t ≤ mprod (p ++ t) := by
  rw [mprod_app]
  have := Int.mul_le_mul (mprod_pos p) (Int.le_refl (mprod t)) (by have := mprod_pos t; omega) (by have := mprod_pos p; omega)
  simpa using this
theorem shGo_mprod : ∀ {l : List Int} {f : Int}, 1 ≤ f → f ≤ 10000 → shGo f l = true → f * mprod l ≤ 10000
  | [], f, _, h1, _ => by simp [mprod, h1]
  | a :: t, f, hf, h1, h => by
    simp only [shGo, Bool.and_eq_true, decide_eq_true_eq] at h
    by_cases h0 : a = 0
    · rw [if_pos h0] at h
      have := shGo_mprod hf h1 h.2
      simp [mprod, h0, this]
    · rw [if_neg h0] at h; simp only [Bool.and_eq_true, decide_eq_true_eq] at h
      have hfa : 1 ≤ f * a := by have := Int.mul_le_mul hf (show (1 : Int) ≤ a by omega) (by omega) (by omega); simpa using this
      have := shGo_mprod hfa h.2.1 h.2.2
      simp only [mprod]
      by_cases ha : a ≤ 1
      · obtain rfl : a = 1 := by omega
        simpa using this
      · rw [if_neg ha, ← Int.mul_assoc]; exact this
theorem shOk_mprod {l : List Int} (h : shOk l = true) : mprod l ≤ 10000 := by
  simp only [shOk, Bool.and_eq_true, decide_eq_true_eq] at h
  have := shGo_mprod (by omega) (by omega) h.2; omega
theorem shOk_len {l : List Int} (h : shOk l = true) : l.length ≤ 5 := by
  simp only [shOk, Bool.and_eq_true, decide_eq_true_eq] at h; exact h.1
theorem shOk_range {l : List Int} (h : shOk l = true) : ∀ a ∈ l, 0 ≤ a ∧ a ≤ 10000 := by
  simp only [shOk, Bool.and_eq_true, decide_eq_true_eq] at h; exact shGo_range h.2
theorem shOk_prod {l : List Int} (h : shOk l = true) : 0 ≤ prod l ∧ prod l ≤ 10000 := by
  simp only [shOk, Bool.and_eq_true, decide_eq_true_eq] at h; exact shGo_bound h.2
theorem mx_one (a : Int) : mx 1 a = if a ≤ 1 then 1 else a := by unfold mx; split <;> split <;> omega
theorem set_back (n : Nat) (ys : List Int) (x : Int) : (List.replicate (n + 1) (0 : Int) ++ ys).set n x = List.replicate n 0 ++ x :: ys := by
  rw [List.replicate_succ']; simp
theorem snoc_of {n : Nat} {p : List Int} (h : p.length = n + 1) : ∃ q a, p = q ++ [a] ∧ q.length = n := by
  rcases List.eq_nil_or_concat p with rfl | ⟨q, a, rfl⟩
  · simp at h
  · refine ⟨q, a, by simp, ?_⟩; simpa using h
theorem wstr_app (t : List Int) (a : Int) : wstr (a :: t) = mprod t :: wstr t := rfl
theorem implStr_loop : ∀ (n : Nat) (p t : List Int), p.length = n → (p ++ t).length ≤ 5 → mprod (p ++ t) ≤ 10000 → (∀ a ∈ p ++ t, a ≤ 10000) →
    Ev (fun k => impl_wholeStrides.l0 k (p ++ t) (List.replicate n 0 ++ wstr t) (mprod t) ((n : Int) - 1)) (wstr (p ++ t))
  | 0, p, t, hp, _, _, _ => by
    obtain rfl := List.eq_nil_of_length_eq_zero hp
    refine evVal (evRound (Ev.now _) fun k => ?_) rfl
    simp only [impl_wholeStrides.l0]; rw [if_neg (by omega)]; simp
  | n + 1, p, t, hp, hl, hm, hr => by
    obtain ⟨q, a, rfl, hq⟩ := snoc_of hp
    have e : q ++ [a] ++ t = q ++ a :: t := by simp
    rw [e] at hl hm hr ⊢
    have hql : q.length ≤ 5 := by simp at hl; omega
    have ih := implStr_loop n q (a :: t) hq hl hm hr
    have hm1 := mprod_le_app q (a :: t)
    have hm2 := mprod_pos (a :: t)
    refine evVal (evRound ih fun k => ?_) rfl
    simp only [impl_wholeStrides.l0]
    have hn : ((n + 1 : Nat) : Int) - 1 = (q.length : Int) := by omega
    rw [hn, if_pos (by omega), if_pos (by omega), if_pos (by simp [wstr_len]; omega), if_pos len_lt, rd_mid, Int.toNat_natCast, hq, set_back, mx_one]
    have hmul : mprod t * (if a ≤ 1 then 1 else a) = mprod (a :: t) := by simp only [mprod]; rw [Int.mul_comm]
    rw [hmul, w64 (x := mprod (a :: t)) (by omega) (by omega), w64 (by omega) (by omega)]
    rfl
theorem implStr_ev (l : List Int) (h : shOk l = true) : Ev (fun k => impl_wholeStrides.f k l) (wstr l) := by
  have h5 := shOk_len h
  have h1 := implStr_loop l.length l [] rfl (by simpa using h5) (by simpa using shOk_mprod h) (fun a ha => (shOk_range h a (by simpa using ha)).2)
  simp only [List.append_nil, wstr, mprod] at h1
  refine Ev.congr (fun k => ?_) h1
  simp only [impl_wholeStrides.f]
  rw [if_pos (by omega), if_pos (by simp; omega), w64 (by omega) (by omega)]
  simp
theorem specStr_loop (x0 : Int) (x1 : List Int) : ∀ (n : Nat) (p t : List Int), p.length = n → (p ++ t).length ≤ 5 → mprod (p ++ t) ≤ 10000 → (∀ a ∈ p ++ t, 0 ≤ a ∧ a ≤ 10000) →
    Ev (fun k => spec_WholeView.l0 k (p ++ t) (mprod t) ((n : Int) - 1) x0 x1 (List.replicate n 0 ++ wstr t)) (x0, x1, wstr (p ++ t), true)
  | 0, p, t, hp, _, _, _ => by
    obtain rfl := List.eq_nil_of_length_eq_zero hp
    refine evVal (evRound (Ev.now _) fun k => ?_) rfl
    simp only [spec_WholeView.l0]; rw [if_neg (by omega)]; simp
  | n + 1, p, t, hp, hl, hm, hr => by
    obtain ⟨q, a, rfl, hq⟩ := snoc_of hp
    have e : q ++ [a] ++ t = q ++ a :: t := by simp
    rw [e] at hl hm hr ⊢
    have hql : q.length ≤ 5 := by simp at hl; omega
    have ih := specStr_loop x0 x1 n q (a :: t) hq hl hm hr
    have ha := hr a (by simp)
    have hm1 := mprod_le_app q (a :: t)
    have hm2 := mprod_pos (a :: t)
    refine evVal (evRound ih fun k => ?_) rfl
    simp only [spec_WholeView.l0]
    have hn : ((n + 1 : Nat) : Int) - 1 = (q.length : Int) := by omega
    rw [hn, if_pos (by omega), if_pos (by omega), if_pos (by simp [wstr_len]; omega), Int.toNat_natCast, hq, set_back]
    simp only [Option.bind_some]
    rw [← hq, if_pos len_lt, rd_mid]
    have hw : wrap64 ((q.length : Int) - 1) = (q.length : Int) - 1 := w64 (by omega) (by omega)
    by_cases h0 : a > 0
    · have hmul : mprod t * a = mprod (a :: t) := by
        simp only [mprod]; rw [Int.mul_comm]; congr 1; split <;> omega
      rw [if_pos h0, hmul, w64 (x := mprod (a :: t)) (by omega) (by omega), hw]; rfl
    · have hmul : mprod (a :: t) = mprod t := by simp only [mprod]; rw [if_pos (by omega)]; simp
      rw [if_neg h0, hw, hmul]; rfl
/-- What WholeView answers. -/
def wholeV (l : List Int) : Int × List Int × List Int × Bool := if shOk l then (0, l, wstr l, true) else (0, [], [], false)
theorem specWhole_ev (l : List Int) (hl : l.length ≤ 17592186044415) : Ev (fun k => spec_WholeView.f k l) (wholeV l) := by
  simp only [spec_WholeView.f, wholeV]
  refine Ev.bind (l3ShapeOk_ev l (by omega)) ?_
  by_cases h : shOk l = true
  · have h5 := shOk_len h
    have h1 := specStr_loop 0 l l.length l [] rfl (by simpa using h5) (by simpa using shOk_mprod h) (fun a ha => shOk_range h a (by simpa using ha))
    simp only [List.append_nil, wstr, mprod] at h1
    simp only [h, if_true, l3Ints_eq l (by omega), Option.bind_some]
    refine Ev.congr (fun k => ?_) h1
    rw [if_pos (by omega), if_pos (by simp; omega), w64 (by omega) (by omega)]
    simp
  · simp only [h, Bool.false_eq_true, if_false]; exact Ev.now _
theorem implWhole_ev (l : List Int) (hl : l.length ≤ 17592186044415) : Ev (fun k => impl_WholeView.f k l) (wholeV l) := by
  simp only [impl_WholeView.f, wholeV]
  refine Ev.bind (shapeOk_ev l) ?_
  unfold shSize
  by_cases h : shOk l = true
  · simp only [h, if_true, clone_eq l (by omega), Option.bind_some]
    exact Ev.bind (implStr_ev l h) (Ev.now _)
  · simp only [h, Bool.false_eq_true, if_false]; exact Ev.now _
theorem wholeV_len (l : List Int) : (wholeV l).2.1.length ≤ 5 ∧ (wholeV l).2.2.1.length ≤ 5 := by
  unfold wholeV
  split
  · rename_i h; have := shOk_len h; simp [wstr_len]; omega
  · simp
end Go.Proofs.Ytipjhbngbaifeaa.PA
