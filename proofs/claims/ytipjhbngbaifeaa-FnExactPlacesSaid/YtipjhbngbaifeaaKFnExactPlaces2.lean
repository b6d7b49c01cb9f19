import Derived.Test.YtipjhbngbaifeaaKFnExactPlaces1
import Derived.Shelf.Abstract
import Derived.Shelf.RegionOpen
import Derived.WalkKit
import Derived.OwnWalkIn
import Derived.TacticsInMore
import Derived.LoopNIn
import Derived.LoopIn
import Derived.WalkSpells
import Derived.RegionTactic
import Derived.ChangeAlike
import Derived.BigRegion
import Derived.Laws.CopyOwn
import Derived.Outline
import Derived.Deep.RegionHeld3
import Derived.Deep.DeepCutAuto
import Derived.Deep.RegionLaw
import Derived.Deep.LoopGhost
import Derived.Deep.Draws

-- By a program (prt.py, over the print of the kit), for this claim. Not trusted: Lean checks it.
namespace Go.Proofs.Ytipjhbngbaifeaa.PA
open Go.RowKit Go.Proofs.YtipjhbngbaifeaaW.PrintWords Go.Proofs.YtipjhbngbaifeaaW.PrintLast Go.Proofs.YtipjhbngbaifeaaW.PrintMore
attribute [local go_sem] max2_int min2_int max_two min_two max_three min_three max_four min_four   -- for this text's walks alone
set_option linter.unusedVariables false
set_option linter.unusedSimpArgs false

/-! ### impl_shapeOk: function 52 -/
def impl_shapeOk.l0 : Nat → Int → Int → List Int → Int → Int → Option (Int × Bool)
  | 0, _, _, _, _, _ => none
  | k + 1, x2, x4, x10, x11, x12 => if x12 < x11 then (if 0 ≤ x12 then (if x12 < (x10.length : Int) then ((impl_within.f (rd x10 x12) 0 10000).bind fun t102 => (if t102 = true then (if (rd x10 x12) > 0 then (if (wrap64 (x4 * (rd x10 x12))) > 10000 then (some (0, false)) else (impl_shapeOk.l0 k (wrap64 (x2 * (rd x10 x12))) (wrap64 (x4 * (rd x10 x12))) x10 x11 (wrap64 (x12 + 1)))) else (if x4 > 10000 then (some (0, false)) else (impl_shapeOk.l0 k (wrap64 (x2 * (rd x10 x12))) x4 x10 x11 (wrap64 (x12 + 1))))) else (some (0, false)))) else (none)) else (none)) else (some (x2, true))
def impl_shapeOk.f (k : Nat) (l0 : List Int) : Option (Int × Bool) := if (l0.length : Int) > 5 then (some (0, false)) else (impl_shapeOk.l0 k 1 1 l0 (l0.length : Int) 0)
theorem impl_shapeOk.mono_l : ∀ k, (∀ y0 y1 y2 y3 y4, LeO (impl_shapeOk.l0 k y0 y1 y2 y3 y4) (impl_shapeOk.l0 (k + 1) y0 y1 y2 y3 y4))
  | 0 => fun _ _ _ _ _ r h => by simp [impl_shapeOk.l0] at h
  | k + 1 => by
    have ih0 := impl_shapeOk.mono_l k
    · intro y0 y1 y2 y3 y4
      unfold impl_shapeOk.l0
      repeat' first
      | (with_reducible exact ih0 _ _ _ _ _)
      | (with_reducible exact LeO.refl _)
      | (with_reducible exact LeO.none _)
      | (with_reducible refine LeO.ite ?_ ?_)
      | (with_reducible refine LeO.bind ?_ (fun _ => ?_))
      | exact ih0 _ _ _ _ _
      | exact LeO.none _
      | refine LeO.ite ?_ ?_
      | refine LeO.bind ?_ (fun _ => ?_)
theorem impl_shapeOk.mono : ∀ a0 k, LeO (impl_shapeOk.f k a0) (impl_shapeOk.f (k + 1) a0) := by
  intro a0 k
  have ih0 := impl_shapeOk.mono_l k
  unfold impl_shapeOk.f
  repeat' first
      | (with_reducible exact ih0 _ _ _ _ _)
      | (with_reducible exact LeO.refl _)
      | (with_reducible exact LeO.none _)
      | (with_reducible refine LeO.ite ?_ ?_)
      | (with_reducible refine LeO.bind ?_ (fun _ => ?_))
      | exact ih0 _ _ _ _ _
      | exact LeO.none _
      | refine LeO.ite ?_ ?_
      | refine LeO.bind ?_ (fun _ => ?_)
set_option maxHeartbeats 8000000 in
set_option maxRecDepth 100000 in
theorem impl_shapeOk.calls (k : Nat) (A0 : Option Addr) (c0 : Nat) (l0 : List Int) (r1 : Int) (r2 : Bool) (w : World) (hr0 : Kd.C (Kd.int .i64) w A0 l0.length l0) (hc0 : l0.length ≤ c0) (h : impl_shapeOk.f k l0 = some (r1, r2)) :
    Calls Try.prog 52 #[.slice A0 l0.length c0] w fun e w' => e = .returned (.tuple #[.int .i64 r1, .bool r2]) ∧ Drawn0 w w' := by
  have HR0 := Aside0.mk hr0
  have HC0 := Aside0.mk hc0
  clear hr0 hc0
  have H : (if (l0.length : Int) > 5 then (some (0, false)) else (impl_shapeOk.l0 k 1 1 l0 (l0.length : Int) 0)) = some (r1, r2) := h
  clear h
  by_cases c2 : (l0.length : Int) > 5
  · rw [if_pos c2] at H
    have c2b0 : decide (5 < (l0.length : Int)) = true := decide_eq_true c2
    have c2b1 : decide (5 < l0.length) = true := decide_eq_true (by omega)
    clear c2
    simp only [Option.some.injEq, Prod.mk.injEq] at H
    obtain ⟨rfl, rfl⟩ := H
    go_enter Try.func52, Try.ntmps52
    go_wp2
    go_ret2
    exact ⟨by first | rfl | (simp; done) | (simp [*]; done), by repeat (first | exact Drawn0.refl _ | apply Drawn0.step)⟩
  · rw [if_neg c2] at H
    have c2b0 : decide (5 < (l0.length : Int)) = false := decide_eq_false c2
    have c2b1 : decide (5 < l0.length) = false := decide_eq_false (by omega)
    clear c2
    have H' := Aside0.mk H
    clear H
    go_enter Try.func52, Try.ntmps52
    go_wp2
    go_loopg [2, 4, 12] k (fun kq v2 v4 v12 w' => ∃ (x2_1 : Int) (x4_1 : Int) (x12_1 : Int), v2 = .int .i64 x2_1 ∧ v4 = .int .i64 x4_1 ∧ v12 = .int .i64 x12_1 ∧ Aside0 (impl_shapeOk.l0 kq x2_1 x4_1 l0 (l0.length : Int) x12_1 = some (r1, r2)) ∧ Aside0 (kq ≤ k) ∧ Drawn0 w w')
    case atStart => exact ⟨(1), (1), (0), (by first | rfl | (simp; done) | (simp [*]; done)), (by first | rfl | (simp; done) | (simp [*]; done)), (by first | rfl | (simp; done) | (simp [*]; done)), H', ⟨Nat.le_refl _⟩, by repeat (first | exact Drawn0.refl _ | apply Drawn0.step)⟩
    case round =>
      clear H'
      try clear c2
      try clear c2b0
      try clear c2b1
      try clear p2
      obtain ⟨x2_1, x4_1, x12_1, rfl, rfl, rfl, HA, HK1, ⟨m1, rfl⟩⟩ := hrel
      cases gk with
      | zero => exact absurd HA.out (by simp [impl_shapeOk.l0])
      | succ k1 =>
        have H := HA.out
        clear HA
        simp only [impl_shapeOk.l0] at H
        by_cases c3 : x12_1 < (l0.length : Int)
        · rw [if_pos c3] at H
          have c3b0 : decide (x12_1 < (l0.length : Int)) = true := decide_eq_true c3
          clear c3
          by_cases c4 : 0 ≤ x12_1
          · rw [if_pos c4] at H
            have c4b0 : decide (0 ≤ x12_1) = true := decide_eq_true c4
            clear c4
            by_cases c5 : x12_1 < (l0.length : Int)
            · rw [if_pos c5] at H
              have c5b0 : decide (x12_1 < (l0.length : Int)) = true := decide_eq_true c5
              clear c5
              replace H := Option.bind_eq_some_iff.mp H
              obtain ⟨t102, A60, H⟩ := H
              replace H : (if t102 = true then (if (rd l0 x12_1) > 0 then (if (wrap64 (x4_1 * (rd l0 x12_1))) > 10000 then (some (0, false)) else (impl_shapeOk.l0 k1 (wrap64 (x2_1 * (rd l0 x12_1))) (wrap64 (x4_1 * (rd l0 x12_1))) l0 (l0.length : Int) (wrap64 (x12_1 + 1)))) else (if x4_1 > 10000 then (some (0, false)) else (impl_shapeOk.l0 k1 (wrap64 (x2_1 * (rd l0 x12_1))) x4_1 l0 (l0.length : Int) (wrap64 (x12_1 + 1))))) else (some (0, false))) = some (r1, r2) := H
              have A6 := Aside0.mk A60
              clear A60
              by_cases c7 : t102 = true
              · subst c7
                have H1 : (if (rd l0 x12_1) > 0 then (if (wrap64 (x4_1 * (rd l0 x12_1))) > 10000 then (some (0, false)) else (impl_shapeOk.l0 k1 (wrap64 (x2_1 * (rd l0 x12_1))) (wrap64 (x4_1 * (rd l0 x12_1))) l0 (l0.length : Int) (wrap64 (x12_1 + 1)))) else (if x4_1 > 10000 then (some (0, false)) else (impl_shapeOk.l0 k1 (wrap64 (x2_1 * (rd l0 x12_1))) x4_1 l0 (l0.length : Int) (wrap64 (x12_1 + 1))))) = some (r1, r2) := by rw [if_pos rfl] at H; exact H
                clear H
                have H := H1
                clear H1
                by_cases c8 : (rd l0 x12_1) > 0
                · rw [if_pos c8] at H
                  have c8b0 : decide (0 < (rd l0 x12_1)) = true := decide_eq_true c8
                  clear c8
                  by_cases c9 : (wrap64 (x4_1 * (rd l0 x12_1))) > 10000
                  · rw [if_pos c9] at H
                    have c9b0 : decide (10000 < (wrap64 (x4_1 * (rd l0 x12_1)))) = true := decide_eq_true c9
                    clear c9
                    simp only [Option.some.injEq, Prod.mk.injEq] at H
                    obtain ⟨rfl, rfl⟩ := H
                    have p101 : 0 ≤ (x12_1 : Int) := of_decide_eq_true (by first | (with_reducible assumption) | assumption)
                    have q101 : x12_1 < (l0.length : Int) := of_decide_eq_true (by first | (with_reducible assumption) | assumption)
                    obtain ⟨ad101, e101, hx101_0⟩ := Kd.at_int HR0.out x12_1 p101 q101
                    cases e101
                    replace p101 := eq_true p101
                    replace q101 := eq_true q101
                    go_wp2_with (first | ((with_reducible refine gate_callee (f := 54) rfl ?_); refine goesL_ (some 17) rfl rfl Try.func54 (by kernel_rfl) rfl #[.int .i64 (rd l0 x12_1), .int .i64 0, .int .i64 10000] rfl (by (try simp only [List.map_toArray, List.map_cons, List.map_nil]); first | done | rfl | (simp only [List.length_drop, List.length_take]; rfl)) ?_; (with_reducible refine (impl_within.calls (rd l0 x12_1) 0 10000 true _ A6.out).mono ?_); rintro e w' ⟨rfl, ⟨nd, rfl⟩⟩; refine ⟨_, rfl, ?_⟩))
                    go_ret2
                    exact ⟨by first | rfl | (simp; done) | (simp [*]; done), by repeat (first | exact Drawn0.refl _ | apply Drawn0.step)⟩
                  · rw [if_neg c9] at H
                    have c9b0 : decide (10000 < (wrap64 (x4_1 * (rd l0 x12_1)))) = false := decide_eq_false c9
                    clear c9
                    have H' := Aside0.mk H
                    clear H
                    have p101 : 0 ≤ (x12_1 : Int) := of_decide_eq_true (by first | (with_reducible assumption) | assumption)
                    have q101 : x12_1 < (l0.length : Int) := of_decide_eq_true (by first | (with_reducible assumption) | assumption)
                    obtain ⟨ad101, e101, hx101_0⟩ := Kd.at_int HR0.out x12_1 p101 q101
                    cases e101
                    replace p101 := eq_true p101
                    replace q101 := eq_true q101
                    go_wp2_with (first | ((with_reducible refine gate_callee (f := 54) rfl ?_); refine goesL_ (some 17) rfl rfl Try.func54 (by kernel_rfl) rfl #[.int .i64 (rd l0 x12_1), .int .i64 0, .int .i64 10000] rfl (by (try simp only [List.map_toArray, List.map_cons, List.map_nil]); first | done | rfl | (simp only [List.length_drop, List.length_take]; rfl)) ?_; (with_reducible refine (impl_within.calls (rd l0 x12_1) 0 10000 true _ A6.out).mono ?_); rintro e w' ⟨rfl, ⟨nd, rfl⟩⟩; refine ⟨_, rfl, ?_⟩))
                    go_roundg k1
                    case measure => have := HK1.out; omega
                    case rel => exact ⟨(wrap64 (x2_1 * (rd l0 x12_1))), (wrap64 (x4_1 * (rd l0 x12_1))), (wrap64 (x12_1 + 1)), (by first | rfl | (simp; done) | (simp [*]; done)), (by first | rfl | (simp; done) | (simp [*]; done)), (by first | rfl | (simp; done) | (simp [*]; done)), H', ⟨by have := HK1.out; omega⟩, by repeat (first | exact Drawn0.refl _ | apply Drawn0.step)⟩
                · rw [if_neg c8] at H
                  have c8b0 : decide (0 < (rd l0 x12_1)) = false := decide_eq_false c8
                  clear c8
                  by_cases c10 : x4_1 > 10000
                  · rw [if_pos c10] at H
                    have c10b0 : decide (10000 < x4_1) = true := decide_eq_true c10
                    clear c10
                    simp only [Option.some.injEq, Prod.mk.injEq] at H
                    obtain ⟨rfl, rfl⟩ := H
                    have p101 : 0 ≤ (x12_1 : Int) := of_decide_eq_true (by first | (with_reducible assumption) | assumption)
                    have q101 : x12_1 < (l0.length : Int) := of_decide_eq_true (by first | (with_reducible assumption) | assumption)
                    obtain ⟨ad101, e101, hx101_0⟩ := Kd.at_int HR0.out x12_1 p101 q101
                    cases e101
                    replace p101 := eq_true p101
                    replace q101 := eq_true q101
                    go_wp2_with (first | ((with_reducible refine gate_callee (f := 54) rfl ?_); refine goesL_ (some 17) rfl rfl Try.func54 (by kernel_rfl) rfl #[.int .i64 (rd l0 x12_1), .int .i64 0, .int .i64 10000] rfl (by (try simp only [List.map_toArray, List.map_cons, List.map_nil]); first | done | rfl | (simp only [List.length_drop, List.length_take]; rfl)) ?_; (with_reducible refine (impl_within.calls (rd l0 x12_1) 0 10000 true _ A6.out).mono ?_); rintro e w' ⟨rfl, ⟨nd, rfl⟩⟩; refine ⟨_, rfl, ?_⟩))
                    go_ret2
                    exact ⟨by first | rfl | (simp; done) | (simp [*]; done), by repeat (first | exact Drawn0.refl _ | apply Drawn0.step)⟩
                  · rw [if_neg c10] at H
                    have c10b0 : decide (10000 < x4_1) = false := decide_eq_false c10
                    clear c10
                    have H' := Aside0.mk H
                    clear H
                    have p101 : 0 ≤ (x12_1 : Int) := of_decide_eq_true (by first | (with_reducible assumption) | assumption)
                    have q101 : x12_1 < (l0.length : Int) := of_decide_eq_true (by first | (with_reducible assumption) | assumption)
                    obtain ⟨ad101, e101, hx101_0⟩ := Kd.at_int HR0.out x12_1 p101 q101
                    cases e101
                    replace p101 := eq_true p101
                    replace q101 := eq_true q101
                    go_wp2_with (first | ((with_reducible refine gate_callee (f := 54) rfl ?_); refine goesL_ (some 17) rfl rfl Try.func54 (by kernel_rfl) rfl #[.int .i64 (rd l0 x12_1), .int .i64 0, .int .i64 10000] rfl (by (try simp only [List.map_toArray, List.map_cons, List.map_nil]); first | done | rfl | (simp only [List.length_drop, List.length_take]; rfl)) ?_; (with_reducible refine (impl_within.calls (rd l0 x12_1) 0 10000 true _ A6.out).mono ?_); rintro e w' ⟨rfl, ⟨nd, rfl⟩⟩; refine ⟨_, rfl, ?_⟩))
                    go_roundg k1
                    case measure => have := HK1.out; omega
                    case rel => exact ⟨(wrap64 (x2_1 * (rd l0 x12_1))), (x4_1), (wrap64 (x12_1 + 1)), (by first | rfl | (simp; done) | (simp [*]; done)), (by first | rfl | (simp; done) | (simp [*]; done)), (by first | rfl | (simp; done) | (simp [*]; done)), H', ⟨by have := HK1.out; omega⟩, by repeat (first | exact Drawn0.refl _ | apply Drawn0.step)⟩
              · replace c7 := Bool.eq_false_iff.mpr c7
                subst c7
                have H1 : (some (0, false)) = some (r1, r2) := by rw [if_neg (show ¬ (false = true) by decide)] at H; exact H
                clear H
                have H := H1
                clear H1
                simp only [Option.some.injEq, Prod.mk.injEq] at H
                obtain ⟨rfl, rfl⟩ := H
                have p101 : 0 ≤ (x12_1 : Int) := of_decide_eq_true (by first | (with_reducible assumption) | assumption)
                have q101 : x12_1 < (l0.length : Int) := of_decide_eq_true (by first | (with_reducible assumption) | assumption)
                obtain ⟨ad101, e101, hx101_0⟩ := Kd.at_int HR0.out x12_1 p101 q101
                cases e101
                replace p101 := eq_true p101
                replace q101 := eq_true q101
                go_wp2_with (first | ((with_reducible refine gate_callee (f := 54) rfl ?_); refine goesL_ (some 17) rfl rfl Try.func54 (by kernel_rfl) rfl #[.int .i64 (rd l0 x12_1), .int .i64 0, .int .i64 10000] rfl (by (try simp only [List.map_toArray, List.map_cons, List.map_nil]); first | done | rfl | (simp only [List.length_drop, List.length_take]; rfl)) ?_; (with_reducible refine (impl_within.calls (rd l0 x12_1) 0 10000 false _ A6.out).mono ?_); rintro e w' ⟨rfl, ⟨nd, rfl⟩⟩; refine ⟨_, rfl, ?_⟩))
                go_ret2
                exact ⟨by first | rfl | (simp; done) | (simp [*]; done), by repeat (first | exact Drawn0.refl _ | apply Drawn0.step)⟩
            · rw [if_neg c5] at H
              exact absurd H (by simp)
          · rw [if_neg c4] at H
            exact absurd H (by simp)
        · rw [if_neg c3] at H
          have c3b0 : decide (x12_1 < (l0.length : Int)) = false := decide_eq_false c3
          clear c3
          simp only [Option.some.injEq, Prod.mk.injEq] at H
          obtain ⟨rfl, rfl⟩ := H
          go_wp2
          go_ret2
          exact ⟨by first | rfl | (simp; done) | (simp [*]; done), by repeat (first | exact Drawn0.refl _ | apply Drawn0.step)⟩

end Go.Proofs.Ytipjhbngbaifeaa.PA

namespace Go.Proofs.Ytipjhbngbaifeaa.PA
open Go.RowKit Go.Proofs.YtipjhbngbaifeaaW.PrintWords Go.Proofs.YtipjhbngbaifeaaW.PrintLast Go.Proofs.YtipjhbngbaifeaaW.PrintMore

theorem w64 {x : Int} (h0 : -9223372036854775808 ≤ x) (h1 : x < 9223372036854775808) : wrap64 x = x := by unfold wrap64; omega
theorem rd_mid (p t : List Int) (a : Int) : rd (p ++ a :: t) (p.length : Int) = a := by simp [rd, List.getD_eq_getElem?_getD]
theorem len_lt {p t : List Int} {a : Int} : ((p.length : Nat) : Int) < (((p ++ a :: t).length : Nat) : Int) := by simp; omega
theorem len_nlt {p : List Int} : ¬ ((p.length : Nat) : Int) < (((p ++ ([] : List Int)).length : Nat) : Int) := by simp
theorem next_mid (p t : List Int) (a : Int) (h : (p ++ a :: t).length < 35184372088833) : wrap64 ((p.length : Int) + 1) = (((p ++ [a]).length : Nat) : Int) := by
  rw [w64 (by omega) (by simp at h; omega)]; simp
theorem app_mid (p t : List Int) (a : Int) : p ++ a :: t = (p ++ [a]) ++ t := by simp
theorem evVal {α : Type} {g : Nat → Option α} {r r' : α} (h : Ev g r) (e : r = r') : Ev g r' := e ▸ h
theorem evEq {α : Type} {g : Nat → Option α} {r : α} (h : ∀ k, g k = some r) : Ev g r := ⟨0, fun k _ => h k⟩
/-- One round whose test is decided: from the round's own equation. -/
theorem evRound {α : Type} {g f : Nat → Option α} {r : α} (k : Ev f r) (h : ∀ k, g (k + 1) = f k) : Ev g r := Ev.step h k

/-! ### copies -/
theorem set_mid (q t : List Int) (b a : Int) : (q ++ b :: t).set q.length a = (q ++ [a]) ++ t := by simp
theorem toIntS_loop : ∀ (t p q s : List Int), p.length = q.length → t.length = s.length → (p ++ t).length < 35184372088833 →
    Ev (fun k => laws_toIntS.l0 k (p ++ t) (q ++ s) (p.length : Int)) (q ++ t)
  | [], p, q, s, _, hs, _ => by
    obtain rfl : s = [] := List.eq_nil_of_length_eq_zero hs.symm
    refine evRound (Ev.now _) fun k => ?_
    simp only [laws_toIntS.l0]; rw [if_neg len_nlt]
  | a :: t, p, q, [], _, hs, _ => by simp at hs
  | a :: t, p, q, b :: s, hp, hs, hl => by
    have ih := toIntS_loop t (p ++ [a]) (q ++ [a]) s (by simp [hp]) (by simpa using hs) (by simpa using hl)
    rw [← app_mid, ← app_mid q t] at ih
    refine evRound ih fun k => ?_
    simp only [laws_toIntS.l0]
    rw [if_pos len_lt, if_pos (by omega), if_pos (by simp [hp]; omega), rd_mid, next_mid p t a hl, hp, Int.toNat_natCast, set_mid]
theorem toIntS_ev (l : List Int) (h : l.length ≤ 35184372088832) : Ev (fun k => laws_toIntS.f k l) l := by
  have h1 := toIntS_loop l [] [] (List.replicate l.length 0) rfl (by simp) (by simpa using (by omega : l.length < 35184372088833))
  refine Ev.congr (fun k => ?_) h1
  simp only [laws_toIntS.f]
  rw [if_pos (by omega), if_pos (by simpa using h)]
  simp

/-! ### comparisons -/
theorem eqIntS_loop : ∀ (t p q s : List Int), p.length = q.length → t.length = s.length → (p ++ t).length < 35184372088833 →
    Ev (fun k => laws_eqIntS.l0 k (p ++ t) (q ++ s) (p.length : Int)) (decide (t = s))
  | [], p, q, s, _, hs, _ => by
    obtain rfl : s = [] := List.eq_nil_of_length_eq_zero hs.symm
    refine evRound (Ev.now _) fun k => ?_
    simp only [laws_eqIntS.l0]; rw [if_neg len_nlt]; simp
  | a :: t, p, q, [], _, hs, _ => by simp at hs
  | a :: t, p, q, b :: s, hp, hs, hl => by
    by_cases e : a = b
    · subst e
      have ih := eqIntS_loop t (p ++ [a]) (q ++ [a]) s (by simp [hp]) (by simpa using hs) (by simpa using hl)
      rw [← app_mid, ← app_mid] at ih
      refine evVal (evRound ih fun k => ?_) (by simp)
      simp only [laws_eqIntS.l0]
      rw [if_pos len_lt, if_pos (by omega), if_pos (by simp [hp]; omega), rd_mid, show rd (q ++ a :: s) (p.length : Int) = a by rw [hp]; exact rd_mid _ _ _, if_pos rfl, next_mid p t a hl]
    · refine evRound (Ev.now _) fun k => ?_
      simp only [laws_eqIntS.l0]
      rw [if_pos len_lt, if_pos (by omega), if_pos (by simp [hp]; omega), rd_mid, show rd (q ++ b :: s) (p.length : Int) = b by rw [hp]; exact rd_mid _ _ _, if_neg e]; simp [e]
theorem eqIntS_ev (l m : List Int) (h : l.length ≤ 35184372088832) : Ev (fun k => laws_eqIntS.f k l m) (decide (l = m)) := by
  by_cases e : l.length = m.length
  · have h1 := eqIntS_loop l [] [] m rfl e (by simpa using (by omega : l.length < 35184372088833))
    refine Ev.congr (fun k => ?_) h1
    simp only [laws_eqIntS.f]
    rw [if_pos (by omega)]; rfl
  · refine evEq fun k => ?_
    simp only [laws_eqIntS.f]
    rw [if_neg (by omega)]
    have : l ≠ m := fun h => e (h ▸ rfl)
    simp [this]

/-! ### sizes -/
theorem szIntS_eq (l : List Int) (a : Int) (h0 : 0 ≤ a) (h1 : a ≤ 1048576) (hl : l.length ≤ maxLen) :
    laws_szIntS.f l a = some (if (l.length : Int) ≤ a then a - l.length else -1) := by
  unfold laws_szIntS.f; unfold maxLen at hl
  rw [w64 (by omega) (by omega)]
  by_cases h : (l.length : Int) ≤ a
  · rw [if_neg (by omega), if_pos h]
  · rw [if_pos (by omega), if_neg h]

/-! ### shapes -/
/-- Every number in range, and the product of those that are not 0 at most 10000: from a product on. -/
def shGo : Int → List Int → Bool
  | _, [] => true
  | f, a :: t => decide (0 ≤ a ∧ a ≤ 10000) && (if a = 0 then shGo f t else decide (f * a ≤ 10000) && shGo (f * a) t)
def prod : List Int → Int
  | [] => 1
  | a :: t => a * prod t
def shOk (l : List Int) : Bool := decide (l.length ≤ 5) && shGo 1 l
theorem shGo_range : ∀ {l : List Int} {f : Int}, shGo f l = true → ∀ a ∈ l, 0 ≤ a ∧ a ≤ 10000
  | [], _, _, a, ha => by simp at ha
  | b :: t, f, h, a, ha => by
    simp only [shGo, Bool.and_eq_true, decide_eq_true_eq] at h
    rcases List.mem_cons.1 ha with rfl | ha
    · exact h.1
    · by_cases hb : b = 0
      · rw [if_pos hb] at h; exact shGo_range h.2 a ha
      · rw [if_neg hb] at h; simp only [Bool.and_eq_true] at h; exact shGo_range h.2.2 a ha
theorem prod_nonneg : ∀ {l : List Int}, (∀ a ∈ l, 0 ≤ a) → 0 ≤ prod l
  | [], _ => by simp [prod]
  | a :: t, h => Int.mul_nonneg (h a (by simp)) (prod_nonneg fun b hb => h b (by simp [hb]))
theorem shGo_prod : ∀ {l : List Int} {f : Int}, 1 ≤ f → shGo f l = true → prod l = 0 ∨ (f * prod l ≤ 10000 ∧ 1 ≤ prod l) ∨ l = []
  | [], _, _, _ => .inr (.inr rfl)
  | b :: t, f, hf, h => by
    have hr := shGo_range h
    simp only [shGo, Bool.and_eq_true, decide_eq_true_eq] at h
    by_cases hb : b = 0
    · subst hb; left; simp [prod]
    · rw [if_neg hb] at h; simp only [Bool.and_eq_true, decide_eq_true_eq] at h
      have hb1 : 1 ≤ b := by omega
      have hf1 : 1 ≤ f * b := by have := Int.mul_le_mul hf hb1 (by omega) (by omega); simpa using this
      rcases shGo_prod hf1 h.2.2 with h0 | ⟨h0, h1⟩ | rfl
      · left; simp [prod, h0]
      · right; left; simp only [prod]; refine ⟨by rw [← Int.mul_assoc]; exact h0, ?_⟩
        have := Int.mul_le_mul hb1 h1 (by omega) (by omega); simpa using this
      · right; left; simp only [prod, Int.mul_one]; exact ⟨h.2.1, hb1⟩
theorem shGo_bound {l : List Int} (h : shGo 1 l = true) : 0 ≤ prod l ∧ prod l ≤ 10000 := by
  rcases shGo_prod (by omega) h with h0 | ⟨h0, h1⟩ | rfl
  · omega
  · omega
  · simp [prod]
theorem within_eq (a b c : Int) : impl_within.f a b c = some (decide (b ≤ a ∧ a ≤ c)) := by
  unfold impl_within.f
  by_cases h : a ≥ b
  · rw [if_pos h]; simp; omega
  · rw [if_neg h]; simp; omega
/-- The product that the program keeps: 0, or the product of those that are not 0. -/
def szGo : Int → Int → List Int → Int × Bool
  | s, _, [] => (s, true)
  | s, f, a :: t => if 0 ≤ a ∧ a ≤ 10000 then (if a > 0 then (if f * a > 10000 then (0, false) else szGo (s * a) (f * a) t) else szGo (s * a) f t) else (0, false)
theorem szGo_eq : ∀ (l : List Int) (s f : Int), szGo s f l = if shGo f l then (s * prod l, true) else (0, false)
  | [], s, f => by simp [szGo, shGo, prod]
  | a :: t, s, f => by
    simp only [szGo, shGo]
    by_cases h : 0 ≤ a ∧ a ≤ 10000
    · rw [if_pos h]
      by_cases h0 : a = 0
      · subst h0; simp [szGo_eq t, prod]
      · rw [if_pos (by omega)]
        by_cases h1 : f * a > 10000
        · rw [if_pos h1]; simp [h, h0, show ¬ f * a ≤ 10000 by omega]
        · rw [if_neg h1, szGo_eq t]; simp [h, h0, show f * a ≤ 10000 by omega, prod, Int.mul_assoc]
    · rw [if_neg h]; simp [h]
theorem mul_in {s a : Int} (h0 : 0 ≤ s) (h1 : s ≤ 10000) (h2 : 0 ≤ a) (h3 : a ≤ 10000) : 0 ≤ s * a ∧ s * a ≤ 100000000 := by
  refine ⟨Int.mul_nonneg h0 h2, ?_⟩
  have := Int.mul_le_mul h1 h3 h2 (by omega : (0 : Int) ≤ 10000); omega
theorem shapeOk_loop : ∀ (t p : List Int) (s f : Int) (n : Int), (s = 0 ∨ s = f) → 0 ≤ f → f ≤ 10000 → (p ++ t).length < 35184372088833 → n = ((p ++ t).length : Nat) →
    Ev (fun k => impl_shapeOk.l0 k s f (p ++ t) n (p.length : Int)) (szGo s f t)
  | [], p, s, f, n, _, _, _, _, hn => by
    subst hn
    refine evRound (Ev.now _) fun k => ?_
    simp only [impl_shapeOk.l0]; rw [if_neg len_nlt]; rfl
  | a :: t, p, s, f, n, hs, h0, h1, hl, hn => by
    have hn' := hn
    subst hn
    have hsb : 0 ≤ s ∧ s ≤ 10000 := by rcases hs with rfl | rfl <;> omega
    by_cases ha : 0 ≤ a ∧ a ≤ 10000
    · have hsa := mul_in hsb.1 hsb.2 ha.1 ha.2
      have hfa := mul_in h0 h1 ha.1 ha.2
      by_cases hp : a > 0
      · by_cases hb : f * a > 10000
        · refine evRound (Ev.now _) fun k => ?_
          simp only [impl_shapeOk.l0, szGo]
          rw [if_pos len_lt, if_pos (by omega), if_pos len_lt, rd_mid, within_eq]; simp only [Option.bind_some, ha.1, ha.2, and_self, decide_true, if_true]
          rw [if_pos hp, w64 (by omega) (by omega), if_pos hb, if_pos hp, if_pos hb]
        · have ih := shapeOk_loop t (p ++ [a]) (s * a) (f * a) _ (by rcases hs with rfl | rfl <;> simp) hfa.1 (by omega) (by simpa using hl) rfl
          rw [← app_mid] at ih
          refine evVal (evRound ih fun k => ?_) (by simp [szGo, ha, hp, hb])
          simp only [impl_shapeOk.l0]
          rw [if_pos len_lt, if_pos (by omega), if_pos len_lt, rd_mid, within_eq]; simp only [Option.bind_some, ha.1, ha.2, and_self, decide_true, if_true]
          rw [if_pos hp, w64 (x := f * a) (by omega) (by omega), if_neg hb, w64 (x := s * a) (by omega) (by omega), next_mid p t a hl]
      · have ih := shapeOk_loop t (p ++ [a]) (s * a) f _ (by left; have : a = 0 := by omega
                                                             simp [this]) h0 h1 (by simpa using hl) rfl
        rw [← app_mid] at ih
        refine evVal (evRound ih fun k => ?_) (by simp [szGo, ha, hp])
        simp only [impl_shapeOk.l0]
        rw [if_pos len_lt, if_pos (by omega), if_pos len_lt, rd_mid, within_eq]; simp only [Option.bind_some, ha.1, ha.2, and_self, decide_true, if_true]
        rw [if_neg hp, if_neg (by omega), w64 (x := s * a) (by omega) (by omega), next_mid p t a hl]
    · refine evRound (Ev.now _) fun k => ?_
      simp only [impl_shapeOk.l0, szGo]
      rw [if_pos len_lt, if_pos (by omega), if_pos len_lt, rd_mid, within_eq, if_neg ha]; simp only [Option.bind_some, ha, decide_false, Bool.false_eq_true, if_false]
/-- What the program's shapeOk answers. -/
def shSize (l : List Int) : Int × Bool := if shOk l then (prod l, true) else (0, false)
theorem shapeOk_ev (l : List Int) : Ev (fun k => impl_shapeOk.f k l) (shSize l) := by
  unfold shSize shOk
  by_cases h : l.length ≤ 5
  · have h1 := shapeOk_loop l [] 1 1 _ (.inr rfl) (by omega) (by omega) (by simp; omega) rfl
    refine evVal (Ev.congr (fun k => ?_) h1) ?_
    · simp only [impl_shapeOk.f]; rw [if_neg (by omega)]; rfl
    · rw [szGo_eq]; simp [h]
  · refine evEq fun k => ?_
    simp only [impl_shapeOk.f]; rw [if_pos (by omega)]; simp [h]

/-- What the reference's l3Count answers. -/
def cnGo : Int → Bool → List Int → Int
  | x, z, [] => if z then 0 else x
  | x, z, a :: t => if a = 0 then cnGo x true t else if x * a > 10000 then -1 else cnGo (x * a) z t
def cnt (l : List Int) : Int := if shGo 1 l then prod l else -1
theorem cnGo_eq : ∀ (l : List Int) (x : Int) (z : Bool), (∀ a ∈ l, 0 ≤ a ∧ a ≤ 10000) → cnGo x z l = if shGo x l then (if z then 0 else x * prod l) else -1
  | [], x, z, _ => by simp [cnGo, shGo, prod]
  | a :: t, x, z, h => by
    have ha := h a (by simp)
    have ht : ∀ b ∈ t, 0 ≤ b ∧ b ≤ 10000 := fun b hb => h b (by simp [hb])
    simp only [cnGo, shGo]
    by_cases h0 : a = 0
    · subst h0; simp [cnGo_eq t _ _ ht, prod]
    · rw [if_neg h0]
      by_cases h1 : x * a > 10000
      · rw [if_pos h1]; simp [h0, show ¬ x * a ≤ 10000 by omega]
      · rw [if_neg h1, cnGo_eq t _ _ ht]; simp [ha, h0, show x * a ≤ 10000 by omega, prod, Int.mul_assoc]
theorem l3Count_loop1 : ∀ (t p : List Int) (x : Int) (z : Bool), (∀ a ∈ t, 0 ≤ a ∧ a ≤ 10000) → 0 ≤ x → x ≤ 10000 → (p ++ t).length < 35184372088833 →
    Ev (fun k => spec_l3Count.l1 k (p ++ t) x z (p.length : Int)) (cnGo x z t)
  | [], p, x, z, _, _, _, _ => by
    refine evRound (f := fun _ => some (cnGo x z [])) (Ev.now _) fun k => ?_
    simp only [spec_l3Count.l1]; rw [if_neg len_nlt]; cases z <;> simp [cnGo]
  | a :: t, p, x, z, hr, h0, h1, hl => by
    have ha := hr a (by simp)
    have hxa := mul_in h0 h1 ha.1 ha.2
    have ht : ∀ b ∈ t, 0 ≤ b ∧ b ≤ 10000 := fun b hb => hr b (by simp [hb])
    by_cases e : a = 0
    · have ih := l3Count_loop1 t (p ++ [a]) x true ht h0 h1 (by simpa using hl)
      rw [← app_mid] at ih
      refine evVal (evRound ih fun k => ?_) (by simp [cnGo, e])
      simp only [spec_l3Count.l1]
      rw [if_pos len_lt, if_pos (by omega), rd_mid, if_pos e, next_mid p t a hl]
    · by_cases hb : x * a > 10000
      · refine evRound (f := fun _ => some (cnGo x z (a :: t))) (Ev.now _) fun k => ?_
        simp only [spec_l3Count.l1]
        rw [if_pos len_lt, if_pos (by omega), rd_mid, if_neg e, w64 (by omega) (by omega), if_pos hb]; simp [cnGo, e, hb]
      · have ih := l3Count_loop1 t (p ++ [a]) (x * a) z ht hxa.1 (by omega) (by simpa using hl)
        rw [← app_mid] at ih
        refine evVal (evRound ih fun k => ?_) (by simp [cnGo, e, hb])
        simp only [spec_l3Count.l1]
        rw [if_pos len_lt, if_pos (by omega), rd_mid, if_neg e, w64 (by omega) (by omega), if_neg hb, next_mid p t a hl]
theorem l3Count_loop0 : ∀ (t p : List Int), (∀ a ∈ p, 0 ≤ a ∧ a ≤ 10000) → (p ++ t).length < 35184372088833 →
    Ev (fun k => spec_l3Count.l0 k (p ++ t) 1 (p.length : Int)) (if ∀ a ∈ t, 0 ≤ a ∧ a ≤ 10000 then cnGo 1 false (p ++ t) else -1)
  | [], p, hp, hl => by
    have h1 := l3Count_loop1 p [] 1 false hp (by omega) (by omega) (by simpa using hl)
    refine evVal (evRound h1 fun k => ?_) (by simp)
    simp only [spec_l3Count.l0]; rw [if_neg len_nlt]; simp
  | a :: t, p, hp, hl => by
    by_cases ha : 0 ≤ a ∧ a ≤ 10000
    · have ih := l3Count_loop0 t (p ++ [a]) (fun b hb => by rcases List.mem_append.1 hb with h | h
                                                            · exact hp b h
                                                            · obtain rfl := List.mem_singleton.1 h; exact ha) (by simpa using hl)
      rw [← app_mid] at ih
      refine evVal (evRound ih fun k => ?_) (by simp [ha])
      simp only [spec_l3Count.l0]
      rw [if_pos len_lt, if_pos (by omega), rd_mid, if_neg (by omega), if_neg (by omega), next_mid p t a hl]
    · refine evRound (f := fun _ => some (-1)) (evVal (Ev.now _) (by rw [if_neg]; intro h; exact ha (h a (by simp)))) fun k => ?_
      simp only [spec_l3Count.l0]
      rw [if_pos len_lt, if_pos (by omega), rd_mid]
      by_cases h : a < 0
      · rw [if_pos h]
      · rw [if_neg h, if_pos (by omega)]
theorem l3Count_ev (l : List Int) (h : l.length ≤ 35184372088832) : Ev (fun k => spec_l3Count.f k l) (cnt l) := by
  have h1 := l3Count_loop0 l [] (by simp) (by simp; omega)
  refine evVal (Ev.congr (fun k => rfl) h1) ?_
  unfold cnt
  by_cases hr : ∀ a ∈ l, 0 ≤ a ∧ a ≤ 10000
  · rw [if_pos hr, List.nil_append, cnGo_eq l 1 false hr]; simp
  · rw [if_neg hr, if_neg]; intro hs; exact hr (shGo_range hs)
end Go.Proofs.Ytipjhbngbaifeaa.PA

namespace Go.Proofs.Ytipjhbngbaifeaa.PA
open Go.RowKit Go.Proofs.YtipjhbngbaifeaaW.PrintWords Go.Proofs.YtipjhbngbaifeaaW.PrintLast Go.Proofs.YtipjhbngbaifeaaW.PrintMore
set_option linter.unusedVariables false
set_option linter.unusedSimpArgs false
/-- The next index: the odometer's step over the first a axes. -/
def odo (s : List Int) : Nat → List Int → List Int
  | 0, cur => cur
  | a + 1, cur => if wrap64 (rd cur (a : Int) + 1) < rd s (a : Int) then cur.set a (wrap64 (rd cur (a : Int) + 1)) else odo s a (cur.set a 0)
def idxL (s : List Int) : Nat → List Int
  | 0 => List.replicate s.length 0
  | t + 1 => odo s s.length (idxL s t)
theorem odo_len (s : List Int) : ∀ (a : Nat) (cur : List Int), (odo s a cur).length = cur.length
  | 0, _ => rfl
  | a + 1, cur => by rw [odo]; split; simp; rw [odo_len s a]; simp
theorem idxL_len (s : List Int) : ∀ t, (idxL s t).length = s.length
  | 0 => by simp [idxL]
  | t + 1 => by rw [idxL, odo_len, idxL_len s t]

/-- The digits of a number over a shape that is read from its end. -/
def digR : List Int → Int → List Int
  | [], _ => []
  | a :: r, c => c % a :: digR r (c / a)
def digs (s : List Int) (c : Int) : List Int := (digR s.reverse c).reverse
theorem digR_len : ∀ (r : List Int) (c : Int), (digR r c).length = r.length
  | [], _ => rfl
  | a :: r, c => by simp [digR, digR_len r]
theorem digs_len (s : List Int) (c : Int) : (digs s c).length = s.length := by simp [digs, digR_len]
theorem digs_snoc (p : List Int) (a c : Int) : digs (p ++ [a]) c = digs p (c / a) ++ [c % a] := by simp [digs, digR]
theorem digs_nil (c : Int) : digs [] c = [] := rfl
theorem digR_zero : ∀ (r : List Int), digR r 0 = List.replicate r.length 0
  | [] => rfl
  | a :: r => by simp [digR, digR_zero r, List.replicate_succ]
theorem digs_zero (s : List Int) : digs s 0 = List.replicate s.length 0 := by simp [digs, digR_zero]
theorem snocI {n : Nat} {p : List Int} (h : p.length = n + 1) : ∃ q a, p = q ++ [a] ∧ q.length = n := by
  rcases List.eq_nil_or_concat p with rfl | ⟨q, a, rfl⟩
  · simp at h
  · refine ⟨q, a, by simp, ?_⟩; simpa using h
theorem step_same {c a : Int} (h0 : 0 ≤ c) (ha : 1 ≤ a) (h : c % a + 1 < a) : (c + 1) / a = c / a ∧ (c + 1) % a = c % a + 1 := by
  have e := Int.emod_add_mul_ediv c a
  have h1 := Int.emod_nonneg c (show a ≠ 0 by omega)
  have : c + 1 = (c % a + 1) + a * (c / a) := by omega
  constructor
  · rw [this, Int.add_mul_ediv_left _ _ (by omega), Int.ediv_eq_zero_of_lt (by omega) h]; omega
  · rw [this, Int.add_mul_emod_self_left, Int.emod_eq_of_lt (by omega) h]
theorem step_next {c a : Int} (h0 : 0 ≤ c) (ha : 1 ≤ a) (h : ¬ c % a + 1 < a) : (c + 1) / a = c / a + 1 ∧ (c + 1) % a = 0 := by
  have e := Int.emod_add_mul_ediv c a
  have h1 := Int.emod_lt_of_pos c (show 0 < a by omega)
  have : c + 1 = a * (c / a + 1) := by rw [Int.mul_add]; omega
  constructor
  · rw [this, Int.mul_ediv_cancel_left _ (by omega)]
  · rw [this, Int.mul_emod_right]
theorem rd_last (p z : List Int) (a : Int) (n : Nat) (h : p.length = n) : rd (p ++ a :: z) (n : Int) = a := by subst h; simp [rd, List.getD_eq_getElem?_getD]
theorem set_last (p z : List Int) (a b : Int) (n : Nat) (h : p.length = n) : (p ++ a :: z).set n b = p ++ b :: z := by subst h; simp
/-- One step of the odometer over the first axes. -/
theorem odo_step : ∀ (n : Nat) (p q z : List Int) (c : Int), p.length = n → 0 ≤ c → (∀ a ∈ p, 1 ≤ a ∧ a ≤ 1000000000) → odo (p ++ q) n (digs p c ++ z) = digs p (c + 1) ++ z
  | 0, p, q, z, c, hp, _, _ => by
    obtain rfl := List.eq_nil_of_length_eq_zero hp
    simp [digs_nil, odo]
  | n + 1, p, q, z, c, hp, hc, hr => by
    obtain ⟨p, a, rfl, hq⟩ := snocI hp
    have ha := hr a (by simp)
    have h1 := Int.emod_nonneg c (show a ≠ 0 by omega)
    have h2 := Int.emod_lt_of_pos c (show 0 < a by omega)
    have hdl : (digs p (c / a)).length = n := by rw [digs_len, hq]
    rw [digs_snoc, digs_snoc, odo, List.append_assoc, List.append_assoc, List.append_assoc]
    simp only [List.singleton_append]
    rw [rd_last _ _ _ n hdl, rd_last _ _ _ n hq, w64 (by omega) (by omega), set_last _ _ _ _ n hdl, set_last _ _ _ _ n hdl]
    by_cases h : c % a + 1 < a
    · rw [if_pos h, (step_same hc ha.1 h).1, (step_same hc ha.1 h).2]
    · rw [if_neg h, (step_next hc ha.1 h).1, (step_next hc ha.1 h).2]
      exact odo_step n p (a :: q) (0 :: z) (c / a) hq (Int.ediv_nonneg hc (by omega)) (fun x hx => hr x (by simp [hx]))
/-- The odometer's list is the list of digits. -/
theorem idxL_digs (s : List Int) (hr : ∀ a ∈ s, 1 ≤ a ∧ a ≤ 1000000000) : ∀ t : Nat, idxL s t = digs s (t : Int)
  | 0 => by rw [idxL]; exact (digs_zero s).symm
  | t + 1 => by
    have := odo_step s.length s [] [] (t : Int) rfl (by omega) hr
    simp only [List.append_nil] at this
    rw [idxL, idxL_digs s hr t, this]; rfl
/-- A shape with an element has no number below 1. -/
theorem pos_of_prod : ∀ {s : List Int}, (∀ a ∈ s, 0 ≤ a) → 0 < prod s → ∀ a ∈ s, 1 ≤ a
  | [], _, _, a, ha => by simp at ha
  | b :: s, h, hp, a, ha => by
    have hb := h b (by simp)
    have hs := prod_nonneg (l := s) (fun x hx => h x (by simp [hx]))
    have hb1 : 1 ≤ b := by
      rcases Int.lt_or_le 0 b with h1 | h1
      · omega
      · have : b = 0 := by omega
        simp [prod, this] at hp
    have hs1 : 0 < prod s := by
      rcases Int.lt_or_le 0 (prod s) with h1 | h1
      · exact h1
      · have : prod s = 0 := by omega
        simp [prod, this] at hp
    rcases List.mem_cons.1 ha with rfl | ha
    · exact hb1
    · exact pos_of_prod (fun x hx => h x (by simp [hx])) hs1 a ha
theorem idxL_of {s : List Int} (h0 : ∀ a ∈ s, 0 ≤ a ∧ a ≤ 10000) {t : Nat} (ht : (t : Int) < prod s) : idxL s t = digs s (t : Int) :=
  idxL_digs s (fun a ha => ⟨pos_of_prod (fun x hx => (h0 x hx).1) (by omega) a ha, by have := (h0 a ha).2; omega⟩) t
end Go.Proofs.Ytipjhbngbaifeaa.PA

namespace Go.Proofs.Ytipjhbngbaifeaa.PA
open Go.RowKit Go.Shelf Go.Proofs.YtipjhbngbaifeaaW.PrintWords Go.Proofs.YtipjhbngbaifeaaW.PrintLast Go.Proofs.YtipjhbngbaifeaaW.PrintMore
attribute [local go_sem] Oper.semAt_some
set_option linter.unusedVariables false
set_option linter.unusedSimpArgs false
def rowI (l : List Int) : Array Value := (l.map (Value.int .i64)).toArray
theorem rowI_get (l : List Int) (i : Nat) (h : i < l.length) : (rowI l)[i]? = some (.int .i64 (rd l (i : Int))) := by
  simp [rowI, rd, h, List.getD_eq_getElem?_getD]
theorem rowI_set (l : List Int) (i : Nat) (x : Int) : (rowI l).setIfInBounds i (.int .i64 x) = rowI (l.set i x) := by
  apply Array.ext_getElem?; intro j; simp [rowI, List.getElem?_set, Array.getElem?_setIfInBounds, List.getElem?_map]
theorem rowI_cell {w : World} {g : Nat} {t : TypeId} {l : List Int} (h : w.heap[g]? = some (.cells (rowI l) t (0, 0))) (i : Nat) (hi : i < l.length) : w.cell? ⟨g, i, none⟩ = some (.int .i64 (rd l (i : Int))) :=
  (blk_cell h i).trans (rowI_get l i hi)
theorem rowI_put {w : World} {g : Nat} {t : TypeId} {l : List Int} (h : w.heap[g]? = some (.cells (rowI l) t (0, 0))) (i : Nat) (x : Int) : (w.setCell ⟨g, i, none⟩ (.int .i64 x)).heap[g]? = some (.cells (rowI (l.set i x)) t (0, 0)) := by
  rw [← rowI_set]; exact blk_set h i _
theorem make_row (n : Nat) (hn : n ≤ 1000) (w : World) : (Instr.makeSlice 23 (.int .i64 (n : Int)) (.int .i64 (n : Int))).run Try.prog w = .ok (.slice (some ⟨w.heap.size, 0, none⟩) n n) (w.alloc (.cells (rowI (List.replicate n 0)) 3)) := by
  obtain ⟨i, hi, hz⟩ := Option.map_eq_some_iff.1 info3
  simp only [Prod.mk.injEq] at hz
  have h := run_make (P := Try.prog) w 23 3 i (.int .i64 0) Try.underlying23 hi hz.1 .i64 .i64 (n : Int) (n : Int) (by omega) (by omega) (by rw [hz.2.2]; omega) (by omega)
  rw [h, hz.2.1]
  have e : madeCells (Value.int .i64 0).cells ((n : Int).toNat * 1) = rowI (List.replicate n 0) := by
    apply Array.ext
    · simp [madeCells, rowI]
    · intro j h1 h2
      simp [madeCells, rowI, Value.cells, Nat.mod_one]
  rw [e]; simp
theorem butS_set {S : Nat → Prop} {A B : World} (h : ButS S A B) {G : Nat} (hG : S G) (j : Nat) (v : Value) : ButS S A (B.setCell ⟨G, j, none⟩ v) :=
  ⟨Nat.le_trans h.size (KeepsOthers.setCell B ⟨G, j, none⟩ v).size, fun k hk hn => (Below.heap_setCell B ⟨G, j, none⟩ v k (fun e => hn (e ▸ hG))).trans (h.same k hk hn), h.os, h.tape, h.output⟩
theorem butS_drew {S : Nat → Prop} {A B : World} (h : ButS S A B) : ButS S A B.drew := ⟨h.size, h.same, h.os, h.tape, h.output⟩
def AtI (s : List Int) (G t : Nat) (W : World) : Prop := W.heap[G]? = some (.cells (rowI (idxL s t)) 3 (0, 0))
set_option maxRecDepth 100000 in
set_option maxHeartbeats 2000000 in
theorem idx_in (m : Nat) (hm : 1 ≤ m) (l Bs : Nat) (A : Option Addr) (c : Nat) (s : List Int) (hs5 : s.length ≤ 5) (hp : prod s ≤ 10000) (k : Nat) (hk : impl_shapeOk.f k s = some (prod s, true)) (J Jx : Nat → World → Prop) (W : World) (hJ : ∀ t A B, J t A → ButS (fun k => k = W.heap.size) A B → J t B)
    (hY : ∀ t W1, J t W1 → t < (prod s).toNat → AtI s W.heap.size t W1 → YieldAt Fence.wide (m - 1) Try.prog l #[.slice (some ⟨W.heap.size, 0, none⟩) s.length s.length] W1 fun e W' =>
      (e = .returned (.bool true) ∧ J (t + 1) W' ∧ AtI s W.heap.size t W' ∧ (∀ k, (k = Bs ∨ some k = A.map (·.block)) → W'.heap[k]? = W1.heap[k]?)) ∨ (e = .returned (.bool false) ∧ Jx (t + 1) W'))
    (hBs : W.cell? ⟨Bs, 0, none⟩ = some (.slice A s.length c)) (hr : Kd.C (Kd.int .i64) W A s.length s) (hc : s.length ≤ c) (hadl : ∀ ad, A = some ad → ad.block < W.heap.size) (h0 : J 0 W) :
    CallsIn Fence.wide m Try.prog 82 #[.func (.yield l) #[] #[], .pointer (some ⟨Bs, 0, none⟩)] W fun e W' => (∃ v, e = .returned v) ∧ (J (prod s).toNat W' ∨ ∃ t, t < (prod s).toNat ∧ Jx (t + 1) W') := by
  have HR := Aside0.mk hr
  have HC := Aside0.mk hc
  have HK := Aside0.mk hk
  clear hr hc hk
  have hmk := make_row s.length (by omega)
  refine callsIn_of_wp Try.func82 rfl trivial ?_ rfl
  simp only [Try.ntmps82, List.size_toArray, List.length_cons, List.length_nil, Nat.reduceAdd, Nat.reduceSub, Array.replicate_succ, Array.replicate_zero, List.push_toArray, List.append_toArray, List.nil_append, List.cons_append]
  gi_wp2_with (first | (refine ⟨trivial, ?_⟩; gi_at_call 52; refine (callsIn_wide.2 (impl_shapeOk.calls k A c s (prod s) true W HR.out HC.out HK.out)).mono ?_; rintro e w' ⟨rfl, ⟨⟨n5, rfl⟩⟩⟩))
  gi_loopw [16] (fun i wr => ∃ t : Nat, i = .int .i64 (t : Int) ∧ Aside0 (t ≤ (prod s).toNat) ∧ J t wr ∧ Aside0 (AtI s W.heap.size t wr) ∧ Aside0 (∀ k, (k = Bs ∨ some k = A.map (·.block)) → wr.heap[k]? = W.heap[k]?))
    (fun i _ => (prod s).toNat - (intOf i).toNat)
  case atStart =>
    refine ⟨0, rfl, ⟨Nat.zero_le _⟩, hJ _ _ _ h0 ⟨by simp, fun k hk _ => Below.heap_alloc _ _ k hk, rfl, rfl, rfl⟩, ⟨?_⟩, ⟨fun k hk => Below.heap_alloc _ _ k ?_⟩⟩
    · have := World.alloc_heap_new (W.drewN n5) (.cells (rowI (List.replicate s.length 0)) 3)
      exact this
    · rcases hk with rfl | hk
      · exact World.block_lt_of_cell? W _ hBs
      · obtain ⟨ad, rfl, rfl⟩ : ∃ ad, A = some ad ∧ k = ad.block := by cases A with | none => cases hk | some ad => exact ⟨ad, rfl, Option.some.inj hk⟩
        exact hadl ad rfl
  case round =>
    obtain ⟨t, rfl, ht, hJs, hA, hM⟩ := hrel
    by_cases hlt : (t : Int) < prod s
    · obtain ⟨fn, tmps, assign, body, hy, hR⟩ := hY t wr hJs (by omega) hA.out
      have hb1 := decide_eq_true hlt
      have hb2 := eq_true hlt
      gi_wp2
      refine hR.mono ?_
      rintro e W3 (⟨rfl, hJ3, hA3, hk3⟩ | ⟨rfl, hJx3⟩)
      · gi_wp2
        gi_loopw [6] (fun i wr => ∃ (a : Nat) (cur : List Int), i = .int .i64 ((a : Int) - 1) ∧ Aside0 (a ≤ s.length) ∧ Aside0 (cur.length = s.length) ∧ Aside0 (wr.heap[W.heap.size]? = some (.cells (rowI cur) 3 (0, 0))) ∧ Aside0 (odo s a cur = odo s s.length (idxL s t)) ∧ Aside0 (ButS (fun k => k = W.heap.size) W3 wr))
          (fun i _ => ((intOf i) + 1).toNat)
        case atStart => exact ⟨s.length, idxL s t, by first | rfl | (simp; done) | (unfold wrap64; simp; omega), ⟨Nat.le_refl _⟩, ⟨idxL_len s t⟩, ⟨hA3⟩, ⟨rfl⟩, ⟨⟨Nat.le_refl _, fun _ _ _ => rfl, rfl, rfl, rfl⟩⟩⟩
        case round =>
          obtain ⟨a, cur, rfl, ha, hcl, hcr, hod, hbs⟩ := hrel
          have hlm : ∀ k, (k = Bs ∨ some k = A.map (·.block)) → k < W.heap.size := fun k hk => by
            rcases hk with rfl | hk
            · exact World.block_lt_of_cell? W _ hBs
            · obtain ⟨ad, rfl, rfl⟩ : ∃ ad, A = some ad ∧ k = ad.block := by cases A with | none => cases hk | some ad => exact ⟨ad, rfl, Option.some.inj hk⟩
              exact hadl ad rfl
          have hm3 : ∀ k, (k = Bs ∨ some k = A.map (·.block)) → W3.heap[k]? = W.heap[k]? := fun k hk => (hk3 k hk).trans (hM.out k hk)
          have hl3 : ∀ k, (k = Bs ∨ some k = A.map (·.block)) → k < W3.heap.size := fun k hk => by
            have h := hm3 k hk
            rw [Array.getElem?_eq_getElem (hlm k hk)] at h
            exact (Array.getElem?_eq_some_iff.1 h).1
          cases a with
          | zero =>
            have hc1 : decide (0 ≤ ((0 : Nat) : Int) - 1) = false := rfl
            gi_wp2
            refine ⟨⟨t + 1, rfl, ⟨by omega⟩, hJ _ _ _ hJ3 hbs.out, ⟨?_⟩, ⟨fun k hk => (hbs.out.same k (hl3 k hk) (by have := hlm k hk; omega)).trans (hm3 k hk)⟩⟩, ?_⟩
            · unfold AtI; rw [idxL, ← hod.out]; exact hcr.out
            · simp [intOf]; omega
          | succ a =>
            have hal : a < s.length := by have := ha.out; omega
            have p1 : 0 ≤ (a : Int) := by omega
            have p2 : (a : Int) < (s.length : Int) := by omega
            obtain ⟨ad, rfl, hx'⟩ := Kd.at_int HR.out (a : Int) p1 p2
            rw [Int.toNat_natCast] at hx'
            have HX' := Aside0.mk hx'
            clear hx'
            have hx := rowI_cell hcr.out a (by have := hcl.out; omega)
            have hfz := blk_frozen hcr.out a
            have hb3 : decide (0 ≤ (((a + 1 : Nat) : Int) - 1)) = true := by simp
            gi_wp2
            have E1 := Aside0.mk (rowI_put (t := 3) hcr.out a (wrap64 (rd cur (a : Int) + 1)))
            have hbx : (wr.setCell ⟨W.heap.size, a, none⟩ (.int .i64 (wrap64 (rd cur (a : Int) + 1)))).cell? ⟨Bs, 0, none⟩ = some (.slice (some ad) s.length c) := (World.cell?_of_block (((butS_set hbs.out rfl a _).same Bs (hl3 Bs (.inl rfl)) (by have := hlm Bs (.inl rfl); omega)).trans (hm3 Bs (.inl rfl)))).trans hBs
            have hsx : (wr.setCell ⟨W.heap.size, a, none⟩ (.int .i64 (wrap64 (rd cur (a : Int) + 1)))).cell? (ad.add a) = some (.int .i64 (rd s (a : Int))) := by
              refine (World.cell?_of_block (w := W) ?_).trans HX'.out
              rw [show (ad.add a).block = ad.block by unfold Addr.add; split <;> rfl]
              exact ((butS_set hbs.out rfl a _).same ad.block (hl3 ad.block (.inr rfl)) (by have := hlm ad.block (.inr rfl); omega)).trans (hm3 ad.block (.inr rfl))
            have hcx := rowI_cell E1.out a (by have := hcl.out; rw [List.length_set]; omega)
            rw [show rd (cur.set a (wrap64 (rd cur (a : Int) + 1))) (a : Int) = wrap64 (rd cur (a : Int) + 1) by simp [rd, List.getD_eq_getElem?_getD, List.getElem?_set, show a < cur.length by have := hcl.out; omega]] at hcx
            have hfx := blk_frozen E1.out a
            gi_region
            by_cases hx9 : wrap64 (rd cur (a : Int) + 1) < rd s (a : Int)
            · have hx9b := decide_eq_true hx9
              gi_wp2
              refine ⟨⟨t + 1, rfl, ⟨by omega⟩, hJ _ _ _ hJ3 (butS_drew (butS_set hbs.out rfl a _)), ⟨?_⟩, ⟨fun k hk => ((butS_drew (butS_set hbs.out rfl a _)).same k (hl3 k hk) (by have := hlm k hk; omega)).trans (hm3 k hk)⟩⟩, by simp [intOf]; omega⟩
              unfold AtI
              rw [idxL, ← hod.out, odo, if_pos hx9]
              exact E1.out
            · have hx9b : decide (wrap64 (rd cur (a : Int) + 1) < rd s (a : Int)) = false := decide_eq_false hx9
              gi_wp2
              refine ⟨⟨a, cur.set a 0, rfl, ⟨by omega⟩, ⟨by rw [List.length_set]; exact hcl.out⟩, ⟨?_⟩, ⟨by rw [← hod.out, odo, if_neg hx9]⟩, ⟨butS_drew (butS_set (butS_set hbs.out rfl a _) rfl a _)⟩⟩, by simp [intOf]⟩
              have h0 := rowI_put (t := 3) E1.out a 0
              rw [List.set_set] at h0
              exact h0
      · gi_wp2
        refine bodyPost_ret (results_none rfl _ _ _) rfl ?_
        exact ⟨⟨_, rfl⟩, .inr ⟨t, by omega, hJx3⟩⟩
    · have hb1 : decide ((t : Int) < prod s) = false := decide_eq_false hlt
      have hb2 := eq_false hlt
      gi_wp2
      go_end0
      exact ⟨⟨_, rfl⟩, .inl (by rw [show (prod s).toNat = t by have := ht.out; omega]; exact hJs)⟩
/-- The iterator over a shape's indexes keeps the contract of rounds. -/
theorem idx_rounds (m : Nat) (hm : 1 ≤ m) (Bs : Nat) (A : Option Addr) (c : Nat) (s : List Int) (hs5 : s.length ≤ 5) (hp : prod s ≤ 10000) (k : Nat) (hk : impl_shapeOk.f k s = some (prod s, true)) (w : World)
    (hBs : w.cell? ⟨Bs, 0, none⟩ = some (.slice A s.length c)) (hr : Kd.C (Kd.int .i64) w A s.length s) (hc : s.length ≤ c) (hadl : ∀ ad, A = some ad → ad.block < w.heap.size) :
    RoundsG Fence.wide m Try.prog 82 #[.pointer (some ⟨Bs, 0, none⟩)] (fun G => #[.slice (some ⟨G, 0, none⟩) s.length s.length]) (fun G t W => AtI s G t W) (prod s).toNat (fun k => k = Bs ∨ some k = A.map (·.block)) w :=
  fun l J Jx W hW hJ hY h0 => idx_in m hm l Bs A c s hs5 hp k hk J Jx W hJ hY (pw_cell_below hW hBs) (Kd.C_below hr hW) hc (fun ad e => Nat.lt_of_lt_of_le (hadl ad e) hW.size) h0
set_option maxHeartbeats 1000000 in
theorem indexes_in (m : Nat) (A : Option Addr) (n c : Nat) (w : World) :
    CallsIn Fence.wide m Try.prog 81 #[.slice A n c] w fun e w' => e = .returned (.func (.func 82) #[] #[.pointer (some ⟨w.heap.size, 0, none⟩)]) ∧ w' = w.alloc (.cells #[.slice A n c] 23) := by
  refine callsIn_of_wp Try.func81 rfl trivial ?_ rfl
  simp only [Try.ntmps81, List.size_toArray, List.length_cons, List.length_nil, Nat.reduceAdd, Nat.reduceSub, Array.replicate_succ, Array.replicate_zero, List.push_toArray, List.append_toArray, List.nil_append, List.cons_append]
  gi_wp2
  go_ret
  exact ⟨rfl, rfl⟩
end Go.Proofs.Ytipjhbngbaifeaa.PA

namespace Go.Proofs.Ytipjhbngbaifeaa.PA
open Go.RowKit Go.Proofs.YtipjhbngbaifeaaW.PrintWords Go.Proofs.YtipjhbngbaifeaaW.PrintLast Go.Proofs.YtipjhbngbaifeaaW.PrintMore
set_option linter.unusedVariables false
set_option linter.unusedSimpArgs false
def gi (l : List Int) (i : Nat) : Int := l.getD i 0
def lay (l : List Int) : Array Value := (l.map (Value.int .i64)).toArray
theorem lay_size (l : List Int) : (lay l).size = l.length := by simp [lay]
theorem lay_get (l : List Int) (i : Nat) (h : i < l.length) : (lay l)[i]? = some (.int .i64 (gi l i)) := by
  simp [lay, gi, h, List.getD_eq_getElem?_getD]
theorem lay_set (l : List Int) (i : Nat) (x : Int) : (lay l).setIfInBounds i (.int .i64 x) = lay (l.set i x) := by
  apply Array.ext_getElem?; intro j; simp [lay, List.getElem?_set, Array.getElem?_setIfInBounds, List.getElem?_map]
theorem lay_one (l : List Int) : (lay l).all (·.oneCell') = true := by
  rw [Array.all_eq_true_iff_forall_mem]; intro v hv; simp [lay] at hv; obtain ⟨x, _, rfl⟩ := hv; rfl
theorem lay_cell {w : World} {g : Nat} {t : TypeId} {l : List Int} (h : w.heap[g]? = some (.cells (lay l) t (0, 0))) (i : Nat) (hi : i < l.length) : w.cell? ⟨g, i, none⟩ = some (.int .i64 (gi l i)) :=
  (blk_cell h i).trans (lay_get l i hi)
theorem lay_put {w : World} {g : Nat} {t : TypeId} {l : List Int} (h : w.heap[g]? = some (.cells (lay l) t (0, 0))) (i : Nat) (x : Int) : (w.setCell ⟨g, i, none⟩ (.int .i64 x)).heap[g]? = some (.cells (lay (l.set i x)) t (0, 0)) := by
  rw [← lay_set]; exact blk_set h i _
theorem blk_farG {w : World} {g G i : Nat} {t : TypeId} {cs : Array Value} (h : w.heap[g]? = some (.cells cs t (0, 0))) (hp : g ≠ G) (u : Value) : (w.setCell ⟨G, i, none⟩ u).heap[g]? = some (.cells cs t (0, 0)) :=
  blk_far (p := ⟨G, i, none⟩) h hp u
theorem info67 (l : List Int) (hl : l.length = 12) : (Try.prog.info? 67).map (·.size) = some (lay l).size := by
  rw [lay_size, hl]; kernel_rfl
/-- The numbers of a layout turned round along axis m. -/
def flipL (l : List Int) (m : Nat) : List Int := if 1 < gi l (2 + m) then (l.set 0 (wrap64 (gi l 0 + wrap64 (gi l (7 + m) * wrap64 (gi l (2 + m) - 1))))).set (7 + m) (wrap64 (-(gi l (7 + m)))) else l
end Go.Proofs.Ytipjhbngbaifeaa.PA

namespace Go.Proofs.Ytipjhbngbaifeaa.PA
open Go.RowKit Go.Proofs.YtipjhbngbaifeaaW.PrintWords Go.Proofs.YtipjhbngbaifeaaW.PrintLast Go.Proofs.YtipjhbngbaifeaaW.PrintMore
set_option linter.unusedVariables false
set_option linter.unusedSimpArgs false
def slices_Clone_int_int.f (l0 : List Int) : Option (List Int) := if l0.length < 17592186044416 then some l0 else none
end Go.Proofs.Ytipjhbngbaifeaa.PA

namespace Go.Proofs.Ytipjhbngbaifeaa.PA
open Go.RowKit Go.Proofs.YtipjhbngbaifeaaW.PrintWords Go.Proofs.YtipjhbngbaifeaaW.PrintLast Go.Proofs.YtipjhbngbaifeaaW.PrintMore
set_option linter.unusedVariables false
set_option linter.unusedSimpArgs false
theorem slice_arr (a : Addr) (r : Nat) (h : r ≤ 5) (W : World) : (Instr.sliceAt 65 (.pointer (some a)) none (some (.int .i64 (r : Int))) none).run Try.prog W = .ok (.slice (some a) r 5) W := by
  have hal : Try.prog.arrayLen 65 = 5 := by kernel_rfl
  have hel : Try.prog.elem 65 = 3 := by kernel_rfl
  have := run_sliceAt_array_h (P := Try.prog) (w := W) 65 a (by kernel_rfl) .i64 (r : Int) (by omega) (by rw [hal]; omega)
  rw [hal, hel] at this
  obtain ⟨i, hi, hz⟩ := Option.map_eq_some_iff.1 info3
  rw [this]
  simp [sizeOf, typeInfo, hi, slicedAt, Addr.add]
theorem lay_reads {w : World} {g : Nat} {t : TypeId} {l : List Int} (h : w.heap[g]? = some (.cells (lay l) t (0, 0))) (o r : Nat) (hr : o + r ≤ l.length) (hm : l.length ≤ 9223372036854775807) :
    Kd.C (Kd.int .i64) w (some ⟨g, o, none⟩) ((l.drop o).take r).length ((l.drop o).take r) := by
  have hlen : ((l.drop o).take r).length = r := by simp; omega
  refine Kd.C_of_reads (d := (0 : Int)) (h1 := fun _ => rfl) ⟨rfl, by omega, fun _ => ⟨_, rfl, fun j hj => ?_⟩⟩
  have ha : (⟨g, o, none⟩ : Addr).add j = ⟨g, o + j, none⟩ := by unfold Addr.add; split <;> simp_all
  rw [ha, lay_cell h (o + j) (by omega)]
  simp only [gi, List.getD_eq_getElem?_getD, List.getElem?_take, List.getElem?_drop]
  rw [if_pos (by omega)]
end Go.Proofs.Ytipjhbngbaifeaa.PA

namespace Go.Proofs.Ytipjhbngbaifeaa.PA
open Go.RowKit Go.Shelf Go.Proofs.YtipjhbngbaifeaaW.PrintWords Go.Proofs.YtipjhbngbaifeaaW.PrintLast Go.Proofs.YtipjhbngbaifeaaW.PrintMore
attribute [local go_sem] Oper.semAt_some
set_option linter.unusedVariables false
set_option linter.unusedSimpArgs false
/-- The place of an element: from axis a and a place on, over the numbers that are left. -/
def plc (l : List Int) : Nat → Int → List Int → Int
  | _, p, [] => p
  | a, p, i :: t => plc l (a + 1) (wrap64 (p + wrap64 (i * gi l (7 + a)))) t
def lshape (l : List Int) (r : Nat) : List Int := (l.drop 2).take r
/-- The places of the first t elements. -/
def placesL (l : List Int) (r : Nat) : Nat → List Int
  | 0 => []
  | t + 1 => placesL l r t ++ [plc l 0 (gi l 0) (idxL (lshape l r) t)]
theorem placesL_len (l : List Int) (r : Nat) : ∀ t, (placesL l r t).length = t
  | 0 => rfl
  | t + 1 => by simp [placesL, placesL_len l r t]
theorem plc_step (l : List Int) (cur : List Int) (k : Nat) (p : Int) (hk : k < cur.length) : plc l k p (cur.drop k) = plc l (k + 1) (wrap64 (p + wrap64 (rd cur (k : Int) * gi l (7 + k)))) (cur.drop (k + 1)) := by
  rw [List.drop_eq_getElem_cons hk, plc]; simp [rd, hk, List.getD_eq_getElem?_getD]
theorem plc_end (l : List Int) (cur : List Int) (k : Nat) (p : Int) (hk : cur.length ≤ k) : plc l k p (cur.drop k) = p := by
  rw [List.drop_eq_nil_of_le hk, plc]
set_option maxRecDepth 100000 in
set_option maxHeartbeats 2000000 in
theorem places_in (l : List Int) (r : Nat) (hl : l.length = 12) (hr : gi l 1 = (r : Int)) (h5 : r ≤ 5) (hp : 0 ≤ prod (lshape l r) ∧ prod (lshape l r) ≤ 10000) (k : Nat) (hk : impl_shapeOk.f k (lshape l r) = some (prod (lshape l r), true)) (w : World) :
    CallsIn Fence.wide 9 Try.prog 65 #[.agg (lay l)] w fun e w' => ∃ v, e = .returned v ∧ Kd.R (Kd.int .i64) 3 w' w.heap.size (fun _ => True) v (placesL l r (prod (lshape l r)).toNat) ∧ Below w.heap.size w w' := by
  have HL := Aside0.mk hl
  have HR := Aside0.mk hr
  clear hl hr
  have hsl : (lshape l r).length = r := by have := HL.out; unfold lshape; simp; omega
  have HS := Aside0.mk hsl
  clear hsl
  have B0 := Aside0.mk (blk_alloc (blk_new w (.cells (lay l) 67)) (.cells #[.slice none 0 0] 23))
  have c1 : ((w.alloc (.cells (lay l) 67)).alloc (.cells #[.slice none 0 0] 23)).cell? ⟨w.heap.size, 1, none⟩ = some (.int .i64 (r : Int)) := by
    rw [← HR.out]; exact lay_cell B0.out 1 (by have := HL.out; omega)
  have hs1 := slice_arr ⟨w.heap.size, 2, none⟩ r h5
  refine callsIn_of_wp_marks Try.func65 rfl trivial ?_ rfl
  simp only [Try.ntmps65, List.size_toArray, List.length_cons, List.length_nil, Nat.reduceAdd, Nat.reduceSub, Array.replicate_succ, Array.replicate_zero, List.push_toArray, List.append_toArray, List.nil_append, List.cons_append]
  gi_wp2_with (first | (refine ⟨trivial, ?_⟩; gi_at_call 81; refine (indexes_in _ _ _ _ _).mono ?_; rintro e w' ⟨rfl, rfl⟩))
  clear c1 hs1
  have bO := Boxed.new (w.alloc (.cells (lay l) 67)) 23 (.slice none 0 0)
  have bN := Boxed.new ((w.alloc (.cells (lay l) 67)).alloc (.cells #[.slice none 0 0] 23)) 23 (.slice (some ⟨w.heap.size, 2, none⟩) r 5)
  rw [World.size_alloc] at bO bN
  rw [World.size_alloc] at bN
  obtain ⟨W0, hW0⟩ : ∃ W0, ((w.alloc (.cells (lay l) 67)).alloc (.cells #[.slice none 0 0] 23)).alloc (.cells #[.slice (some ⟨w.heap.size, 2, none⟩) r 5] 23) = W0 := ⟨_, rfl⟩
  have hsz : W0.heap.size = w.heap.size + 3 := by rw [← hW0]; simp
  have hB0 : Below w.heap.size w W0 := by rw [← hW0]; exact (((Below.refl _ w).alloc (Nat.le_refl _) _).alloc (by simp) _).alloc (by simp; omega) _
  have L0 : W0.heap[w.heap.size]? = some (.cells (lay l) 67 (0, 0)) := by rw [← hW0]; exact blk_alloc B0.out _
  have O0 : Boxed W0 (w.heap.size + 1) 23 (.slice none 0 0) := by rw [← hW0]; exact bO.alloc _
  have N0 : Boxed W0 (w.heap.size + 2) 23 (.slice (some ⟨w.heap.size, 2, none⟩) r 5) := by rw [← hW0]; exact bN
  rw [hW0]
  have HSZ := Aside0.mk hsz
  clear hW0 bO bN B0 hsz
  obtain ⟨i0, hi, hz0, hz1, hz2⟩ := info_parts info3
  refine wpIn_rounds rfl (by omega) (gf := 82) (lb := #[.pointer (some ⟨w.heap.size + 2, 0, none⟩)]) rfl trivial (enters_of Try.func82 (by kernel_rfl) rfl)
    (idx_rounds 8 (by omega) (w.heap.size + 2) (some ⟨w.heap.size, 2, none⟩) 5 (lshape l r) (by rw [HS.out]; exact h5) hp.2 k hk W0 (by rw [HS.out]; exact N0.cell) (lay_reads L0 2 r (by have := HL.out; omega) (by have := HL.out; omega)) (by rw [HS.out]; exact h5) (fun ad e => by cases e; have := blk_lt L0; exact this))
    (Below.refl _ _) (fun k hk => by rcases hk with rfl | hk; exact N0.lt; cases Option.some.inj hk; exact blk_lt L0) (fun G t A B h e => by unfold AtI at *; rw [e]; exact h) rfl
    (fun t W => W.heap[w.heap.size]? = some (.cells (lay l) 67 (0, 0)) ∧ (∃ v, Boxed W (w.heap.size + 1) 23 v ∧ W.ownsRow (w.heap.size + 6) 3 1 v t ((placesL l r t).map (Value.int .i64))) ∧ Below w.heap.size w W)
    (fun _ _ _ => False)
    (fun t A B hI hS => ⟨hS.blk hI.1 (by have := HSZ.out; omega), by obtain ⟨v, h1, h2⟩ := hI.2.1; exact ⟨v, hS.blk h1 (by have := HSZ.out; omega), hS.own h2 (fun k hk => by have := HSZ.out; omega)⟩, hI.2.2.trans (hS.below (fun k hk => by have := HSZ.out; omega) hI.2.2.size)⟩)
    (fun _ _ _ _ h _ => h)
    ⟨L0, ⟨_, O0, World.ownsRow_nil _ _ _ _⟩, hB0⟩
    ?a1 ?assign ?body ?done ?stop
  case assign =>
    intro lo W K hK
    gi_wp2
    exact hK
  case body =>
    rintro lo t W ⟨hL, ⟨v, hv, hrow⟩, hB⟩ hlt hat hge
    have hlt' := Aside0.mk hlt
    have HAT := Aside0.mk hat
    have HGE := Aside0.mk hge
    have HL' := Aside0.mk hL
    clear hlt hat hge hL
    have hc0 := lay_cell HL'.out 0 (by have := HL.out; omega)
    have hci := idxL_len (lshape l r) t
    have HCI := Aside0.mk hci
    clear hci
    have hcv := hv.cell
    gi_wp2
    gi_loop [5, 18] (fun p k => ∃ (j : Nat) (q : Int), k = .int .i64 (j : Int) ∧ p = .int .i64 q ∧ Aside0 (j ≤ (lshape l r).length) ∧ Aside0 (plc l j q ((idxL (lshape l r) t).drop j) = plc l 0 (gi l 0) (idxL (lshape l r) t)))
      (fun _ k => (lshape l r).length - (intOf k).toNat)
    case atStart => exact ⟨0, gi l 0, rfl, rfl, ⟨Nat.zero_le _⟩, ⟨rfl⟩⟩
    case round =>
      obtain ⟨j, q, rfl, rfl, hj, hq⟩ := hrel
      by_cases hjl : j < (lshape l r).length
      · have hx := rowI_cell HAT.out j (by have := HCI.out; omega)
        have hy := lay_cell HL'.out (7 + j) (by have := HL.out; have := HS.out; omega)
        have p5 : j < 5 := by have := HS.out; omega
        gi_wp2
        refine ⟨⟨j + 1, _, by push_cast; rfl, rfl, ⟨hjl⟩, ⟨by rw [← plc_step l _ j q (by have := HCI.out; omega)]; exact hq.out⟩⟩, by simp [intOf]; omega⟩
      · have hqe : q = plc l 0 (gi l 0) (idxL (lshape l r) t) := by rw [← hq.out, plc_end _ _ _ _ (by have := HCI.out; omega)]
        subst hqe
        have bd1 : t + 1 ≤ maxLen := by have := hlt'.out; unfold maxLen; omega
        have bd2 : (t + 1) * 8 ≤ 140737488355328 := by have := hlt'.out; omega
        gi_wp2_with (gi_at_builtin; refine wpListIn_append_own _ rfl _ _ 23 rfl (w.heap.size + 6) 3 i0 (.int .i64 0) 1 8 Try.underlying23 hi hz0 hz1 hz2 rfl (by decide) _ _ _ rfl (hrow.alloc _) ⟨W.heap.size, 0, none⟩ 1 1 [.int .i64 (plc l 0 (gi l 0) (idxL (lshape l r) t))] rfl rfl (cell_one_new _ _ _) (by simp [Value.oneCell']) bd1 bd2 (by have := HGE.out; have := HSZ.out; simp; omega) ?_; intro v' w1 hown' hgrow _; obtain ⟨g', cap', rfl⟩ := ownsRow_succ hown'; obtain ⟨hv1, hv2, hr2, hk2, hb2⟩ := box_appended hv (by decide) hrow hown' hgrow; have hc1 := hv1.cell; have hf1 := hv1.frozen)
        refine ⟨hk2, fun j hj => hb2.same j ?_ ?_, ?_, hb2.blk HL'.out (by omega), ⟨_, hv2, by simpa [placesL] using hr2⟩, hB.trans (hb2.below (fun j hj => by omega) hB.size)⟩
        · have := HGE.out; have := HSZ.out; omega
        · have := HGE.out; have := HSZ.out; omega
        · exact hb2.blk (show W.heap[W0.heap.size + 2]? = _ from HAT.out) (by have := HSZ.out; omega)
  case done =>
    rintro W ⟨hL, ⟨v, hv, hrow⟩, hB⟩ hD
    have hc := hv.cell
    gi_wp2
    refine ⟨by simp, .inl ⟨_, _, rfl, run_takeDeferred hD, ?_⟩⟩
    refine ⟨_, results_tmp rfl _ _ _, v, rfl, Kd.R_of_own (own_weaken (base := w.heap.size + 6) (ownsRow_putObj ?_ _ hD rfl) (by omega)) (fun _ _ => trivial), hB.trans (belowK_b (w := w) (Nat.le_refl _) W W0.heap.size _ _ (by have := HSZ.out; omega) hD rfl rfl)⟩
    rw [placesL_len]; exact hrow
  case stop =>
    rintro c t W _ h _
    exact h.elim
end Go.Proofs.Ytipjhbngbaifeaa.PA

-- By a program (prt.py, over the print of the kit), for this claim. Not trusted: Lean checks it.
namespace Go.Proofs.Ytipjhbngbaifeaa.PA
open Go.RowKit Go.Proofs.YtipjhbngbaifeaaW.PrintWords Go.Proofs.YtipjhbngbaifeaaW.PrintLast Go.Proofs.YtipjhbngbaifeaaW.PrintMore
attribute [local go_sem] max2_int min2_int max_two min_two max_three min_three max_four min_four   -- for this text's walks alone
set_option linter.unusedVariables false
set_option linter.unusedSimpArgs false

/-! ### laws_heldView: function 27 -/
def laws_heldView.f (k : Nat) (a0_0 : Int) (l0_1 : List Int) (l0_2 : List Int) (a1 : Int) : Option (Int) := (laws_heldIntS.f k l0_1 a1).bind fun t102 => (if t102 < 0 then (some (-1)) else ((laws_heldIntS.f k l0_2 t102).bind fun t103 => (if t103 < 0 then (some (-1)) else (some t103))))
theorem laws_heldView.mono : ∀ a0 a1 a2 a3 k, LeO (laws_heldView.f k a0 a1 a2 a3) (laws_heldView.f (k + 1) a0 a1 a2 a3) := by
  intro a0 a1 a2 a3 k
  unfold laws_heldView.f
  repeat' first
      | (with_reducible exact laws_heldIntS.mono _ _ _)
      | (with_reducible exact LeO.refl _)
      | (with_reducible exact LeO.none _)
      | (with_reducible refine LeO.ite ?_ ?_)
      | (with_reducible refine LeO.bind ?_ (fun _ => ?_))
      | exact laws_heldIntS.mono _ _ _
      | exact LeO.none _
      | refine LeO.ite ?_ ?_
      | refine LeO.bind ?_ (fun _ => ?_)

end Go.Proofs.Ytipjhbngbaifeaa.PA

-- By a program (prt.py, over the print of the kit), for this claim. Not trusted: Lean checks it.
namespace Go.Proofs.Ytipjhbngbaifeaa.PA
open Go.RowKit Go.Proofs.YtipjhbngbaifeaaW.PrintWords Go.Proofs.YtipjhbngbaifeaaW.PrintLast Go.Proofs.YtipjhbngbaifeaaW.PrintMore
attribute [local go_sem] max2_int min2_int max_two min_two max_three min_three max_four min_four   -- for this text's walks alone
set_option linter.unusedVariables false
set_option linter.unusedSimpArgs false

/-! ### spec_l3Ints: function 56 -/
def spec_l3Ints.f (l0 : List Int) : Option (List Int) := (some (([] : List Int) : List Int)).bind fun y101 => (if y101.length + l0.length < 17592186044416 then (some (y101 ++ l0)) else (none))

end Go.Proofs.Ytipjhbngbaifeaa.PA

-- By a program (prt.py, over the print of the kit), for this claim. Not trusted: Lean checks it.
namespace Go.Proofs.Ytipjhbngbaifeaa.PA
open Go.RowKit Go.Proofs.YtipjhbngbaifeaaW.PrintWords Go.Proofs.YtipjhbngbaifeaaW.PrintLast Go.Proofs.YtipjhbngbaifeaaW.PrintMore
attribute [local go_sem] max2_int min2_int max_two min_two max_three min_three max_four min_four   -- for this text's walks alone
set_option linter.unusedVariables false
set_option linter.unusedSimpArgs false

/-! ### spec_WholeView: function 20 -/
def spec_WholeView.l0 : Nat → List Int → Int → Int → Int → List Int → List Int → Option (Int × List Int × List Int × Bool)
  | 0, _, _, _, _, _, _ => none
  | k + 1, x0, x5, x6, x110000, x110001, x110002 => if x6 ≥ 0 then (if 0 ≤ x6 then (if x6 < (x110002.length : Int) then ((some (x110002.set (x6 : Int).toNat x5 : List Int)).bind fun y110 => (if x6 < (x0.length : Int) then (if (rd x0 x6) > 0 then (spec_WholeView.l0 k x0 (wrap64 (x5 * (rd x0 x6))) (wrap64 (x6 - 1)) x110000 x110001 y110) else (spec_WholeView.l0 k x0 x5 (wrap64 (x6 - 1)) x110000 x110001 y110)) else (none))) else (none)) else (none)) else (some (x110000, x110001, x110002, true))
def spec_WholeView.f (k : Nat) (l0 : List Int) : Option (Int × List Int × List Int × Bool) := (spec_l3ShapeOk.f k l0).bind fun t102 => (if t102 = true then ((spec_l3Ints.f l0).bind fun t103 => (if 0 ≤ (l0.length : Int) then (if ((l0.length : Int) : Int).toNat ≤ 35184372088832 then (spec_WholeView.l0 k l0 1 (wrap64 ((l0.length : Int) - 1)) 0 t103 (List.replicate ((l0.length : Int) : Int).toNat 0)) else (none)) else (none))) else (some (0, ([] : List Int), ([] : List Int), false)))
theorem spec_WholeView.mono_l : ∀ k, (∀ y0 y1 y2 y3 y4 y5, LeO (spec_WholeView.l0 k y0 y1 y2 y3 y4 y5) (spec_WholeView.l0 (k + 1) y0 y1 y2 y3 y4 y5))
  | 0 => fun _ _ _ _ _ _ r h => by simp [spec_WholeView.l0] at h
  | k + 1 => by
    have ih0 := spec_WholeView.mono_l k
    · intro y0 y1 y2 y3 y4 y5
      unfold spec_WholeView.l0
      repeat' first
      | (with_reducible exact ih0 _ _ _ _ _ _)
      | (with_reducible exact spec_l3ShapeOk.mono _ _)
      | (with_reducible exact LeO.refl _)
      | (with_reducible exact LeO.none _)
      | (with_reducible refine LeO.ite ?_ ?_)
      | (with_reducible refine LeO.bind ?_ (fun _ => ?_))
      | exact ih0 _ _ _ _ _ _
      | exact spec_l3ShapeOk.mono _ _
      | exact LeO.none _
      | refine LeO.ite ?_ ?_
      | refine LeO.bind ?_ (fun _ => ?_)
theorem spec_WholeView.mono : ∀ a0 k, LeO (spec_WholeView.f k a0) (spec_WholeView.f (k + 1) a0) := by
  intro a0 k
  have ih0 := spec_WholeView.mono_l k
  unfold spec_WholeView.f
  repeat' first
      | (with_reducible exact ih0 _ _ _ _ _ _)
      | (with_reducible exact spec_l3ShapeOk.mono _ _)
      | (with_reducible exact LeO.refl _)
      | (with_reducible exact LeO.none _)
      | (with_reducible refine LeO.ite ?_ ?_)
      | (with_reducible refine LeO.bind ?_ (fun _ => ?_))
      | exact ih0 _ _ _ _ _ _
      | exact spec_l3ShapeOk.mono _ _
      | exact LeO.none _
      | refine LeO.ite ?_ ?_
      | refine LeO.bind ?_ (fun _ => ?_)
def spec_WholeView.B3 : List Nat := [0, 1, 0, 4, 12, 31, 0, 127]

end Go.Proofs.Ytipjhbngbaifeaa.PA

-- By a program (prt.py, over the print of the kit), for this claim. Not trusted: Lean checks it.
namespace Go.Proofs.Ytipjhbngbaifeaa.PA
open Go.RowKit Go.Proofs.YtipjhbngbaifeaaW.PrintWords Go.Proofs.YtipjhbngbaifeaaW.PrintLast Go.Proofs.YtipjhbngbaifeaaW.PrintMore
attribute [local go_sem] max2_int min2_int max_two min_two max_three min_three max_four min_four   -- for this text's walks alone
set_option linter.unusedVariables false
set_option linter.unusedSimpArgs false

/-! ### impl_wholeStrides: function 58 -/
def impl_wholeStrides.l0 : Nat → List Int → List Int → Int → Int → Option (List Int)
  | 0, _, _, _, _ => none
  | k + 1, x0, x3, x4, x5 => if x5 ≥ 0 then (if 0 ≤ x5 then (if x5 < (x3.length : Int) then (if x5 < (x0.length : Int) then (impl_wholeStrides.l0 k x0 (x3.set (x5 : Int).toNat x4) (wrap64 (x4 * (mx 1 (rd x0 x5)))) (wrap64 (x5 - 1))) else (none)) else (none)) else (none)) else (some x3)
def impl_wholeStrides.f (k : Nat) (l0 : List Int) : Option (List Int) := if 0 ≤ (l0.length : Int) then (if ((l0.length : Int) : Int).toNat ≤ 35184372088832 then (impl_wholeStrides.l0 k l0 (List.replicate ((l0.length : Int) : Int).toNat 0) 1 (wrap64 ((l0.length : Int) - 1))) else (none)) else (none)
theorem impl_wholeStrides.mono_l : ∀ k, (∀ y0 y1 y2 y3, LeO (impl_wholeStrides.l0 k y0 y1 y2 y3) (impl_wholeStrides.l0 (k + 1) y0 y1 y2 y3))
  | 0 => fun _ _ _ _ r h => by simp [impl_wholeStrides.l0] at h
  | k + 1 => by
    have ih0 := impl_wholeStrides.mono_l k
    · intro y0 y1 y2 y3
      unfold impl_wholeStrides.l0
      repeat' first
      | (with_reducible exact ih0 _ _ _ _)
      | (with_reducible exact LeO.refl _)
      | (with_reducible exact LeO.none _)
      | (with_reducible refine LeO.ite ?_ ?_)
      | (with_reducible refine LeO.bind ?_ (fun _ => ?_))
      | exact ih0 _ _ _ _
      | exact LeO.none _
      | refine LeO.ite ?_ ?_
      | refine LeO.bind ?_ (fun _ => ?_)
theorem impl_wholeStrides.mono : ∀ a0 k, LeO (impl_wholeStrides.f k a0) (impl_wholeStrides.f (k + 1) a0) := by
  intro a0 k
  have ih0 := impl_wholeStrides.mono_l k
  unfold impl_wholeStrides.f
  repeat' first
      | (with_reducible exact ih0 _ _ _ _)
      | (with_reducible exact LeO.refl _)
      | (with_reducible exact LeO.none _)
      | (with_reducible refine LeO.ite ?_ ?_)
      | (with_reducible refine LeO.bind ?_ (fun _ => ?_))
      | exact ih0 _ _ _ _
      | exact LeO.none _
      | refine LeO.ite ?_ ?_
      | refine LeO.bind ?_ (fun _ => ?_)

end Go.Proofs.Ytipjhbngbaifeaa.PA

-- By a program (prt.py, over the print of the kit), for this claim. Not trusted: Lean checks it.
namespace Go.Proofs.Ytipjhbngbaifeaa.PA
open Go.RowKit Go.Proofs.YtipjhbngbaifeaaW.PrintWords Go.Proofs.YtipjhbngbaifeaaW.PrintLast Go.Proofs.YtipjhbngbaifeaaW.PrintMore
attribute [local go_sem] max2_int min2_int max_two min_two max_three min_three max_four min_four   -- for this text's walks alone
set_option linter.unusedVariables false
set_option linter.unusedSimpArgs false

/-! ### impl_WholeView: function 22 -/
def impl_WholeView.f (k : Nat) (l0 : List Int) : Option (Int × List Int × List Int × Bool) := (impl_shapeOk.f k l0).bind fun bt102 => (if bt102.2 = true then ((slices_Clone_int_int.f l0).bind fun t104 => ((impl_wholeStrides.f k l0).bind fun t107 => (some (0, t104, t107, true)))) else (some (0, ([] : List Int), ([] : List Int), false)))
theorem impl_WholeView.mono : ∀ a0 k, LeO (impl_WholeView.f k a0) (impl_WholeView.f (k + 1) a0) := by
  intro a0 k
  unfold impl_WholeView.f
  repeat' first
      | (with_reducible exact impl_shapeOk.mono _ _)
      | (with_reducible exact impl_wholeStrides.mono _ _)
      | (with_reducible exact LeO.refl _)
      | (with_reducible exact LeO.none _)
      | (with_reducible refine LeO.ite ?_ ?_)
      | (with_reducible refine LeO.bind ?_ (fun _ => ?_))
      | exact impl_shapeOk.mono _ _
      | exact impl_wholeStrides.mono _ _
      | exact LeO.none _
      | refine LeO.ite ?_ ?_
      | refine LeO.bind ?_ (fun _ => ?_)

end Go.Proofs.Ytipjhbngbaifeaa.PA

namespace Go.Proofs.Ytipjhbngbaifeaa.PA
open Go.RowKit Go.Proofs.YtipjhbngbaifeaaW.PrintWords Go.Proofs.YtipjhbngbaifeaaW.PrintLast Go.Proofs.YtipjhbngbaifeaaW.PrintMore

theorem l3ShapeOk_ev (l : List Int) (h : l.length ≤ 35184372088832) : Ev (fun k => spec_l3ShapeOk.f k l) (shOk l) := by
  simp only [spec_l3ShapeOk.f, shOk]
  by_cases h5 : (l.length : Int) ≤ 5
  · simp only [h5, if_true]
    refine Ev.bind (l3Count_ev l h) ?_
    refine evVal (Ev.now _) ?_
    unfold cnt
    by_cases hs : shGo 1 l = true
    · have := shGo_bound hs
      simp [hs, show l.length ≤ 5 by omega]; omega
    · simp [hs]
  · simp only [h5, if_false]; exact evVal (Ev.now _) (by simp [show ¬ l.length ≤ 5 by omega])

theorem toView_ev (b : Int) (l1 l2 : List Int) (h1 : l1.length ≤ 35184372088832) (h2 : l2.length ≤ 35184372088832) : Ev (fun k => laws_toView.f k b l1 l2) (b, l1, l2) := by
  simp only [laws_toView.f]
  exact Ev.bind (toIntS_ev l1 h1) (Ev.bind (toIntS_ev l2 h2) (Ev.now _))
theorem eqView_self (b : Int) (l1 l2 : List Int) (h1 : l1.length ≤ 35184372088832) (h2 : l2.length ≤ 35184372088832) : Ev (fun k => laws_eqView.f k b l1 l2 b l1 l2) true := by
  simp only [laws_eqView.f, if_true]
  refine Ev.bind (evVal (eqIntS_ev l1 l1 h1) (decide_eq_true rfl)) ?_
  simp only [if_true]
  refine Ev.bind (evVal (eqIntS_ev l2 l2 h2) (decide_eq_true rfl)) ?_
  simp only [if_true]; exact Ev.now _
theorem szView_eq (b : Int) (l1 l2 : List Int) (a : Int) (h0 : 0 ≤ a) (h1 : a ≤ 1048576) (hl1 : l1.length ≤ maxLen) (hl2 : l2.length ≤ maxLen) :
    laws_szView.f b l1 l2 a = some (if (l1.length : Int) + l2.length ≤ a then a - l1.length - l2.length else -1) := by
  unfold laws_szView.f
  rw [szIntS_eq l1 a h0 h1 hl1]; simp only [Option.bind_some]
  by_cases h : (l1.length : Int) ≤ a
  · rw [if_pos h, if_neg (by omega), szIntS_eq l2 _ (by omega) (by omega) hl2]; simp only [Option.bind_some]
    by_cases h' : (l2.length : Int) ≤ a - l1.length
    · rw [if_pos h', if_neg (by omega), if_pos (by omega)]
    · rw [if_neg h', if_pos (by omega), if_neg (by omega)]
  · rw [if_neg h, if_pos (by omega), if_neg (by omega)]

/-- The numbers from a on, n of them. -/
def upFrom : Int → Nat → List Int
  | _, 0 => []
  | a, n + 1 => a :: upFrom (a + 1) n
theorem upFrom_len : ∀ (n : Nat) (a : Int), (upFrom a n).length = n
  | 0, _ => rfl
  | n + 1, a => by simp [upFrom, upFrom_len n]
theorem markIntS_loop : ∀ (t p : List Int) (a : Int), (p ++ t).length < 35184372088833 → 0 ≤ a → a + t.length ≤ 9000000000000000000 →
    Ev (fun k => laws_markIntS.l0 k (p ++ t) a (p.length : Int)) (a + t.length, p ++ upFrom a t.length)
  | [], p, a, _, _, _ => by
    refine evVal (evRound (Ev.now _) fun k => ?_) (by simp [upFrom] : (a, p ++ []) = _)
    simp only [laws_markIntS.l0]; rw [if_neg len_nlt]
  | b :: t, p, a, hl, h0, h1 => by
    have ih := markIntS_loop t (p ++ [a]) (a + 1) (by simpa using hl) (by omega) (by simp only [List.length_cons] at h1; omega)
    refine evVal (evRound ih fun k => ?_) (by simp [upFrom]; omega)
    simp only [laws_markIntS.l0]
    rw [if_pos len_lt, if_pos (by omega), next_mid p t b hl, Int.toNat_natCast, set_mid, w64 (by omega) (by simp only [List.length_cons] at h1; omega)]
    simp
theorem markIntS_ev (l : List Int) (a : Int) (hl : l.length ≤ 35184372088832) (h0 : 0 ≤ a) (h1 : a ≤ 1000000000000000000) : Ev (fun k => laws_markIntS.f k l a) (a + l.length, upFrom a l.length) := by
  have := markIntS_loop l [] a (by simp; omega) h0 (by omega)
  simpa [laws_markIntS.f] using this
theorem heldIntS_loop : ∀ (n : Nat) (p : List Int) (a : Int), p.length + n < 35184372088833 → 0 ≤ a → a + n ≤ 9000000000000000000 →
    Ev (fun k => laws_heldIntS.l0 k (p ++ upFrom a n) a (p.length : Int)) (a + n)
  | 0, p, a, _, _, _ => by
    rw [show upFrom a 0 = [] from rfl]
    refine evVal (evRound (Ev.now a) fun k => ?_) (by simp)
    simp only [laws_heldIntS.l0]; rw [if_neg len_nlt]
  | n + 1, p, a, hl, h0, h1 => by
    have ih := heldIntS_loop n (p ++ [a]) (a + 1) (by simp; omega) (by omega) (by omega)
    rw [← app_mid] at ih
    rw [show upFrom a (n + 1) = a :: upFrom (a + 1) n from rfl]
    refine evVal (evRound ih fun k => ?_) (by omega)
    simp only [laws_heldIntS.l0]
    rw [if_pos len_lt, if_pos (by omega), rd_mid, if_pos rfl, next_mid p (upFrom (a + 1) n) a (by simp [upFrom_len]; omega), w64 (by omega) (by omega)]
theorem heldIntS_ev (n : Nat) (a : Int) (hl : n ≤ 35184372088832) (h0 : 0 ≤ a) (h1 : a ≤ 1000000000000000000) : Ev (fun k => laws_heldIntS.f k (upFrom a n) a) (a + n) := by
  have := heldIntS_loop n [] a (by simp; omega) h0 (by omega)
  simpa [laws_heldIntS.f] using this
theorem markView_ev (b : Int) (l1 l2 : List Int) (a : Int) (h1 : l1.length ≤ 35184372088832) (h2 : l2.length ≤ 35184372088832) (h0 : 0 ≤ a) (ha : a ≤ 1000000000000) :
    Ev (fun k => laws_markView.f k b l1 l2 a) (a + l1.length + l2.length, upFrom a l1.length, upFrom (a + l1.length) l2.length) := by
  simp only [laws_markView.f]
  exact Ev.bind (markIntS_ev l1 a h1 h0 (by omega)) (Ev.bind (markIntS_ev l2 (a + l1.length) h2 (by omega) (by omega)) (Ev.now _))

/-! ### strides -/
theorem shOk_len {l : List Int} (h : shOk l = true) : l.length ≤ 5 := by
  simp only [shOk, Bool.and_eq_true, decide_eq_true_eq] at h; exact h.1
theorem shOk_range {l : List Int} (h : shOk l = true) : ∀ a ∈ l, 0 ≤ a ∧ a ≤ 10000 := by
  simp only [shOk, Bool.and_eq_true, decide_eq_true_eq] at h; exact shGo_range h.2
theorem shOk_prod {l : List Int} (h : shOk l = true) : 0 ≤ prod l ∧ prod l ≤ 10000 := by
  simp only [shOk, Bool.and_eq_true, decide_eq_true_eq] at h; exact shGo_bound h.2
end Go.Proofs.Ytipjhbngbaifeaa.PA

namespace Go.Proofs.Ytipjhbngbaifeaa.PA
open Go.RowKit Go.Proofs.YtipjhbngbaifeaaW.PrintWords Go.Proofs.YtipjhbngbaifeaaW.PrintLast Go.Proofs.YtipjhbngbaifeaaW.PrintMore
set_option linter.unusedVariables false
set_option linter.unusedSimpArgs false
def inR (x : Int) : Bool := decide (-10000 ≤ x ∧ x ≤ 10000)
def pad5 (l : List Int) : List Int := l ++ List.replicate (5 - l.length) 0
def zero12 : List Int := List.replicate 12 0
def formedB (off : Int) (l1 l2 : List Int) : Bool := shOk l1 && decide (l2.length = l1.length) && inR off && l2.all inR
def formedL (off : Int) (l1 l2 : List Int) : List Int := if formedB off l1 l2 then off :: (l1.length : Int) :: (pad5 l1 ++ pad5 l2) else zero12
theorem pad5_len {l : List Int} (h : l.length ≤ 5) : (pad5 l).length = 5 := by simp [pad5]; omega
theorem formedL_len {off : Int} {l1 l2 : List Int} : (formedL off l1 l2).length = 12 := by
  unfold formedL
  by_cases h : formedB off l1 l2 = true
  · rw [if_pos h]
    simp only [formedB, Bool.and_eq_true, decide_eq_true_eq] at h
    have h5 := shOk_len h.1.1.1
    simp [pad5_len h5, pad5_len (show l2.length ≤ 5 by omega)]
  · rw [if_neg h]; rfl
set_option maxHeartbeats 2000000 in
set_option maxRecDepth 100000 in
theorem formed_a (k : Nat) (off : Int) (A1 A2 : Option Addr) (c1 c2 : Nat) (l1 l2 : List Int) (w : World) (hr1 : Kd.C (Kd.int .i64) w A1 l1.length l1) (hc1 : l1.length ≤ c1) (hr2 : Kd.C (Kd.int .i64) w A2 l2.length l2) (hc2 : l2.length ≤ c2)
    (hk : impl_shapeOk.f k l1 = some (shSize l1)) (h : shOk l1 = false) :
    Calls Try.prog 63 #[.agg #[.int .i64 off, .slice A1 l1.length c1, .slice A2 l2.length c2]] w fun e w' => e = .returned (.tuple #[.agg (lay zero12), .bool false]) ∧ Below w.heap.size w w' := by
  have HR1 := Aside0.mk hr1
  have HC1 := Aside0.mk hc1
  have HR2 := Aside0.mk hr2
  have HC2 := Aside0.mk hc2
  clear hr1 hc1 hr2 hc2
  have e : shSize l1 = (0, false) := by simp [shSize, h]
  rw [e] at hk
  have HK := Aside0.mk hk
  clear hk e h
  go_enter Try.func63, Try.ntmps63
  go_wp2_with (first | ((with_reducible refine gate_dst (N := 1) rfl ?_); refine box_event ?hg (N := 1) ?hd (cs := #[.int .i64 off, .slice A1 l1.length c1, .slice A2 l2.length c2]) (t := 33) ?hr ?_; (case hd => rfl); (case hg => rfl); (case hr => first | (go_simp; done) | (go_simp; rfl)); intro g1 hg1 w1 hb1 hB1; have HB1 := Aside0.mk hb1; have HW := Aside0.mk hB1; have HG1 := Aside0.mk hg1; clear hb1 hB1 hg1) | ((with_reducible refine gate_dst (N := 2) rfl ?_); refine box_event ?hg (N := 2) ?hd (cs := lay zero12) (t := 67) ?hr ?_; (case hd => rfl); (case hg => rfl); (case hr => first | (go_simp; done) | (go_simp; rfl)); intro g2 hg2 w2 hb2 hB2; have HB2 := Aside0.mk hb2; have nw := Aside0.mk (below_step HW.out hB2); have HLT := Aside0.mk (show g1 < g2 by have := blk_lt HB1.out; omega); have HGE := Aside0.mk (show w.heap.size ≤ g2 by have h1 := blk_lt HB1.out; have h2 := HG1.out; omega); have n1 := Aside0.mk (blk_below HB1.out hB2); clear HB1 HW; have HB1 := n1; have HW := nw; clear n1 nw; clear hb2 hB2 hg2; have hv0 : w2.cell? ⟨g1, 0, none⟩ = some (.int .i64 off) := (blk_cell HB1.out 0).trans rfl; have hv1 : w2.cell? ⟨g1, 1, none⟩ = some (.slice A1 l1.length c1) := (blk_cell HB1.out 1).trans rfl; have hv2 : w2.cell? ⟨g1, 2, none⟩ = some (.slice A2 l2.length c2) := (blk_cell HB1.out 2).trans rfl) | (go_at_call 52; refine (impl_shapeOk.calls k _ _ l1 0 false _ ?s1 ?s2 HK.out).mono ?_; (case s1 => exact Kd.C_below HR1.out HW.out); (case s2 => exact HC1.out); rintro e w5 ⟨rfl, ⟨⟨n5, rfl⟩⟩⟩) | ((with_reducible refine gate_store rfl ?_); refine wpList_store_row rfl 67 (.tmp 2) (.tmp 32) rfl g2 (lay zero12) rfl rfl 67 (lay zero12) (by (with_reducible repeat (first | refine blk_drew ?_ | refine blk_drewN ?_ _ | refine blk_alloc ?_ _)); exact HB2.out) (info67 _ rfl) rfl (lay_one _) ?_))
  refine bodyPost_ret (results_ct rfl _ _ g2 67 (lay zero12) (0, 0) _ rfl (setRow_heap _ g2 _ _ _ (0, 0) (by (with_reducible repeat (first | refine blk_drew ?_ | refine blk_drewN ?_ _ | refine blk_alloc ?_ _)); exact HB2.out)) Try.underlying67 rfl (info67 _ rfl)) rfl ⟨rfl, below_setRow (by repeat (first | exact HW.out | apply below_drew1 | apply pw_below_drewN)) HGE.out _⟩
set_option maxHeartbeats 2000000 in
set_option maxRecDepth 100000 in
theorem formed_b (k : Nat) (off : Int) (A1 A2 : Option Addr) (c1 c2 : Nat) (l1 l2 : List Int) (w : World) (hr1 : Kd.C (Kd.int .i64) w A1 l1.length l1) (hc1 : l1.length ≤ c1) (hr2 : Kd.C (Kd.int .i64) w A2 l2.length l2) (hc2 : l2.length ≤ c2)
    (hk : impl_shapeOk.f k l1 = some (shSize l1)) (h : shOk l1 = true) (hne : l2.length ≠ l1.length) :
    Calls Try.prog 63 #[.agg #[.int .i64 off, .slice A1 l1.length c1, .slice A2 l2.length c2]] w fun e w' => e = .returned (.tuple #[.agg (lay zero12), .bool false]) ∧ Below w.heap.size w w' := by
  have HR1 := Aside0.mk hr1
  have HC1 := Aside0.mk hc1
  have HR2 := Aside0.mk hr2
  have HC2 := Aside0.mk hc2
  clear hr1 hc1 hr2 hc2
  have e : shSize l1 = (prod l1, true) := by simp [shSize, h]
  rw [e] at hk
  have HK := Aside0.mk hk
  clear hk e h
  have q1 : ((l2.length : Int) != (l1.length : Int)) = true := by simp; omega
  have q2 : (l2.length != l1.length) = true := by simpa using hne
  have q3 : ((l2.length : Int) == (l1.length : Int)) = false := by simp; omega
  clear hne
  go_enter Try.func63, Try.ntmps63
  go_wp2_with (first | ((with_reducible refine gate_dst (N := 1) rfl ?_); refine box_event ?hg (N := 1) ?hd (cs := #[.int .i64 off, .slice A1 l1.length c1, .slice A2 l2.length c2]) (t := 33) ?hr ?_; (case hd => rfl); (case hg => rfl); (case hr => first | (go_simp; done) | (go_simp; rfl)); intro g1 hg1 w1 hb1 hB1; have HB1 := Aside0.mk hb1; have HW := Aside0.mk hB1; have HG1 := Aside0.mk hg1; clear hb1 hB1 hg1) | ((with_reducible refine gate_dst (N := 2) rfl ?_); refine box_event ?hg (N := 2) ?hd (cs := lay zero12) (t := 67) ?hr ?_; (case hd => rfl); (case hg => rfl); (case hr => first | (go_simp; done) | (go_simp; rfl)); intro g2 hg2 w2 hb2 hB2; have HB2 := Aside0.mk hb2; have nw := Aside0.mk (below_step HW.out hB2); have HLT := Aside0.mk (show g1 < g2 by have := blk_lt HB1.out; omega); have HGE := Aside0.mk (show w.heap.size ≤ g2 by have h1 := blk_lt HB1.out; have h2 := HG1.out; omega); have n1 := Aside0.mk (blk_below HB1.out hB2); clear HB1 HW; have HB1 := n1; have HW := nw; clear n1 nw; clear hb2 hB2 hg2; have hv0 : w2.cell? ⟨g1, 0, none⟩ = some (.int .i64 off) := (blk_cell HB1.out 0).trans rfl; have hv1 : w2.cell? ⟨g1, 1, none⟩ = some (.slice A1 l1.length c1) := (blk_cell HB1.out 1).trans rfl; have hv2 : w2.cell? ⟨g1, 2, none⟩ = some (.slice A2 l2.length c2) := (blk_cell HB1.out 2).trans rfl) | (go_at_call 52; refine (impl_shapeOk.calls k _ _ l1 (prod l1) true _ ?s1 ?s2 HK.out).mono ?_; (case s1 => exact Kd.C_below HR1.out HW.out); (case s2 => exact HC1.out); rintro e w5 ⟨rfl, ⟨⟨n5, rfl⟩⟩⟩) | ((with_reducible refine gate_store rfl ?_); refine wpList_store_row rfl 67 (.tmp 2) (.tmp 32) rfl g2 (lay zero12) rfl rfl 67 (lay zero12) (by (with_reducible repeat (first | refine blk_drew ?_ | refine blk_drewN ?_ _ | refine blk_alloc ?_ _)); exact HB2.out) (info67 _ rfl) rfl (lay_one _) ?_))
  refine bodyPost_ret (results_ct rfl _ _ g2 67 (lay zero12) (0, 0) _ rfl (setRow_heap _ g2 _ _ _ (0, 0) (by (with_reducible repeat (first | refine blk_drew ?_ | refine blk_drewN ?_ _ | refine blk_alloc ?_ _)); exact HB2.out)) Try.underlying67 rfl (info67 _ rfl)) rfl ⟨rfl, below_setRow (by repeat (first | exact HW.out | apply below_drew1 | apply pw_below_drewN)) HGE.out _⟩
set_option maxHeartbeats 2000000 in
set_option maxRecDepth 100000 in
theorem formed_c (k : Nat) (off : Int) (A1 A2 : Option Addr) (c1 c2 : Nat) (l1 l2 : List Int) (w : World) (hr1 : Kd.C (Kd.int .i64) w A1 l1.length l1) (hc1 : l1.length ≤ c1) (hr2 : Kd.C (Kd.int .i64) w A2 l2.length l2) (hc2 : l2.length ≤ c2)
    (hk : impl_shapeOk.f k l1 = some (shSize l1)) (h : shOk l1 = true) (hne : l2.length = l1.length) (ho : inR off = false) :
    Calls Try.prog 63 #[.agg #[.int .i64 off, .slice A1 l1.length c1, .slice A2 l2.length c2]] w fun e w' => e = .returned (.tuple #[.agg (lay zero12), .bool false]) ∧ Below w.heap.size w w' := by
  have HR1 := Aside0.mk hr1
  have HC1 := Aside0.mk hc1
  have HR2 := Aside0.mk hr2
  have HC2 := Aside0.mk hc2
  clear hr1 hc1 hr2 hc2
  have e : shSize l1 = (prod l1, true) := by simp [shSize, h]
  rw [e] at hk
  have HK := Aside0.mk hk
  clear hk e h
  have q1 : ((l2.length : Int) != (l1.length : Int)) = false := by simp; omega
  have q2 : (l2.length != l1.length) = false := by simpa using hne
  have HI : Aside0 (impl_within.f off (-10000) 10000 = some false) := ⟨by rw [within_eq]; exact congrArg some ho⟩
  clear hne ho
  go_enter Try.func63, Try.ntmps63
  go_wp2_with (first | ((with_reducible refine gate_dst (N := 1) rfl ?_); refine box_event ?hg (N := 1) ?hd (cs := #[.int .i64 off, .slice A1 l1.length c1, .slice A2 l2.length c2]) (t := 33) ?hr ?_; (case hd => rfl); (case hg => rfl); (case hr => first | (go_simp; done) | (go_simp; rfl)); intro g1 hg1 w1 hb1 hB1; have HB1 := Aside0.mk hb1; have HW := Aside0.mk hB1; have HG1 := Aside0.mk hg1; clear hb1 hB1 hg1) | ((with_reducible refine gate_dst (N := 2) rfl ?_); refine box_event ?hg (N := 2) ?hd (cs := lay zero12) (t := 67) ?hr ?_; (case hd => rfl); (case hg => rfl); (case hr => first | (go_simp; done) | (go_simp; rfl)); intro g2 hg2 w2 hb2 hB2; have HB2 := Aside0.mk hb2; have nw := Aside0.mk (below_step HW.out hB2); have HLT := Aside0.mk (show g1 < g2 by have := blk_lt HB1.out; omega); have HGE := Aside0.mk (show w.heap.size ≤ g2 by have h1 := blk_lt HB1.out; have h2 := HG1.out; omega); have n1 := Aside0.mk (blk_below HB1.out hB2); clear HB1 HW; have HB1 := n1; have HW := nw; clear n1 nw; clear hb2 hB2 hg2; have hv0 : w2.cell? ⟨g1, 0, none⟩ = some (.int .i64 off) := (blk_cell HB1.out 0).trans rfl; have hv1 : w2.cell? ⟨g1, 1, none⟩ = some (.slice A1 l1.length c1) := (blk_cell HB1.out 1).trans rfl; have hv2 : w2.cell? ⟨g1, 2, none⟩ = some (.slice A2 l2.length c2) := (blk_cell HB1.out 2).trans rfl) | (go_at_call 52; refine (impl_shapeOk.calls k _ _ l1 (prod l1) true _ ?s1 ?s2 HK.out).mono ?_; (case s1 => exact Kd.C_below HR1.out HW.out); (case s2 => exact HC1.out); rintro e w5 ⟨rfl, ⟨⟨n5, rfl⟩⟩⟩) | (go_at_call 54; refine (impl_within.calls _ _ _ false _ HI.out).mono ?_; rintro e w6 ⟨rfl, ⟨⟨n6, rfl⟩⟩⟩) | ((with_reducible refine gate_store rfl ?_); refine wpList_store_row rfl 67 (.tmp 2) (.tmp 32) rfl g2 (lay zero12) rfl rfl 67 (lay zero12) (by (with_reducible repeat (first | refine blk_drew ?_ | refine blk_drewN ?_ _ | refine blk_alloc ?_ _)); exact HB2.out) (info67 _ rfl) rfl (lay_one _) ?_))
  refine bodyPost_ret (results_ct rfl _ _ g2 67 (lay zero12) (0, 0) _ rfl (setRow_heap _ g2 _ _ _ (0, 0) (by (with_reducible repeat (first | refine blk_drew ?_ | refine blk_drewN ?_ _ | refine blk_alloc ?_ _)); exact HB2.out)) Try.underlying67 rfl (info67 _ rfl)) rfl ⟨rfl, below_setRow (by repeat (first | exact HW.out | apply below_drew1 | apply pw_below_drewN)) HGE.out _⟩
end Go.Proofs.Ytipjhbngbaifeaa.PA

namespace Go.Proofs.Ytipjhbngbaifeaa.PA
open Go.RowKit Go.Proofs.YtipjhbngbaifeaaW.PrintWords Go.Proofs.YtipjhbngbaifeaaW.PrintLast Go.Proofs.YtipjhbngbaifeaaW.PrintMore
set_option linter.unusedVariables false
set_option linter.unusedSimpArgs false
theorem slice_all (a : Addr) (W : World) : (Instr.sliceAt 65 (.pointer (some a)) none none none).run Try.prog W = .ok (.slice (some a) 5 5) W := by
  have hal : Try.prog.arrayLen 65 = 5 := by kernel_rfl
  have hel : Try.prog.elem 65 = 3 := by kernel_rfl
  have := run_sliceAt_array_all (P := Try.prog) (w := W) 65 a (by kernel_rfl)
  rw [hal, hel] at this
  obtain ⟨i, hi, hz⟩ := Option.map_eq_some_iff.1 info3
  rw [this]
  simp [sizeOf, typeInfo, hi, slicedAt, Addr.add]
theorem lay_splice (off n : Int) (l1 : List Int) (h : l1.length ≤ 5) : (splice (nums .i64 (off :: n :: List.replicate 10 0)) 2 (nums .i64 l1)).toArray = lay (off :: n :: (pad5 l1 ++ List.replicate 5 0)) := by
  unfold splice lay pad5
  congr 1
  have e : List.replicate 10 (0 : Int) = List.replicate l1.length 0 ++ (List.replicate (5 - l1.length) 0 ++ List.replicate 5 0) := by
    rw [List.replicate_append_replicate, List.replicate_append_replicate]; congr 1; omega
  rw [e]
  simp only [nums, List.map_cons, List.map_append, List.map_replicate, List.take_succ_cons, List.take_zero, List.length_map, List.drop_succ_cons, Nat.add_comm 2, Nat.add_eq, Nat.add_zero, List.cons_append, List.nil_append, List.append_assoc]
  rw [List.drop_left' (by simp)]
theorem lay_next {off n : Int} {l1 l2 : List Int} {j : Nat} {x : Int} (h5 : l1.length ≤ 5) (hne : l2.length = l1.length) (hj : j < l2.length) (hx : x = l2[j]) :
    (off :: n :: (pad5 l1 ++ (l2.take j ++ List.replicate (5 - j) 0))).set (7 + j) x = off :: n :: (pad5 l1 ++ (l2.take (j + 1) ++ List.replicate (5 - (j + 1)) 0)) := by
  have hp := pad5_len h5
  rw [show 7 + j = (5 + j) + 1 + 1 by omega, List.set_cons_succ, List.set_cons_succ, List.set_append_right _ _ (by omega), hp, show 5 + j - 5 = j by omega, List.set_append_right _ _ (by simp; omega), List.take_succ_eq_append_getElem hj]
  rw [show 5 - j = (5 - (j + 1)) + 1 by omega, List.replicate_succ]
  have : j - (List.take j l2).length = 0 := by simp; omega
  rw [this, hx]
  simp only [List.set_cons_zero, List.append_assoc, List.cons_append, List.nil_append]
set_option maxHeartbeats 2000000 in
set_option maxRecDepth 100000 in
theorem formed_d (k : Nat) (off : Int) (A1 A2 : Option Addr) (c1 c2 : Nat) (l1 l2 : List Int) (w : World) (hr1 : Kd.C (Kd.int .i64) w A1 l1.length l1) (hc1 : l1.length ≤ c1) (hr2 : Kd.C (Kd.int .i64) w A2 l2.length l2) (hc2 : l2.length ≤ c2)
    (hk : impl_shapeOk.f k l1 = some (shSize l1)) (h : shOk l1 = true) (hne : l2.length = l1.length) (ho : inR off = true) :
    Calls Try.prog 63 #[.agg #[.int .i64 off, .slice A1 l1.length c1, .slice A2 l2.length c2]] w fun e w' => e = .returned (.tuple #[.agg (lay (formedL off l1 l2)), .bool (formedB off l1 l2)]) ∧ Below w.heap.size w w' := by
  have HR1 := Aside0.mk hr1
  have HC1 := Aside0.mk hc1
  have HR2 := Aside0.mk hr2
  have HC2 := Aside0.mk hc2
  clear hr1 hc1 hr2 hc2
  have e : shSize l1 = (prod l1, true) := by simp [shSize, h]
  rw [e] at hk
  have HK := Aside0.mk hk
  have H5 := Aside0.mk (shOk_len h)
  clear hk e
  have HOK := Aside0.mk h
  clear h
  have q1 : ((l2.length : Int) != (l1.length : Int)) = false := by simp; omega
  have q2 : (l2.length != l1.length) = false := by simpa using hne
  have HI : Aside0 (impl_within.f off (-10000) 10000 = some true) := ⟨by rw [within_eq]; exact congrArg some ho⟩
  have HNE := Aside0.mk hne
  have HO := Aside0.mk ho
  clear hne ho
  go_enter Try.func63, Try.ntmps63
  go_upto_region 5 with (first | ((with_reducible refine gate_dst (N := 1) rfl ?_); refine box_event ?hg (N := 1) ?hd (cs := #[.int .i64 off, .slice A1 l1.length c1, .slice A2 l2.length c2]) (t := 33) ?hr ?_; (case hd => rfl); (case hg => rfl); (case hr => first | (go_simp; done) | (go_simp; rfl)); intro g1 hg1 w1 hb1 hB1; have HB1 := Aside0.mk hb1; have HW := Aside0.mk hB1; have HG1 := Aside0.mk hg1; clear hb1 hB1 hg1) | ((with_reducible refine gate_dst (N := 2) rfl ?_); refine box_event ?hg (N := 2) ?hd (cs := lay zero12) (t := 67) ?hr ?_; (case hd => rfl); (case hg => rfl); (case hr => first | (go_simp; done) | (go_simp; rfl)); intro g2 hg2 w2 hb2 hB2; have HB2 := Aside0.mk hb2; have nw := Aside0.mk (below_step HW.out hB2); have HLT := Aside0.mk (show g1 < g2 by have := blk_lt HB1.out; omega); have HGE := Aside0.mk (show w.heap.size ≤ g2 by have h1 := blk_lt HB1.out; have h2 := HG1.out; omega); have n1 := Aside0.mk (blk_below HB1.out hB2); clear HB1 HW; have HB1 := n1; have HW := nw; clear n1 nw; clear hb2 hB2 hg2; have hv0 : w2.cell? ⟨g1, 0, none⟩ = some (.int .i64 off) := (blk_cell HB1.out 0).trans rfl; have hv1 : w2.cell? ⟨g1, 1, none⟩ = some (.slice A1 l1.length c1) := (blk_cell HB1.out 1).trans rfl; have hv2 : w2.cell? ⟨g1, 2, none⟩ = some (.slice A2 l2.length c2) := (blk_cell HB1.out 2).trans rfl) | (go_at_call 52; refine (impl_shapeOk.calls k _ _ l1 (prod l1) true _ ?s1 ?s2 HK.out).mono ?_; (case s1 => exact Kd.C_below HR1.out HW.out); (case s2 => exact HC1.out); rintro e w5 ⟨rfl, ⟨⟨n5, rfl⟩⟩⟩) | (go_at_call 54; refine (impl_within.calls _ _ _ true _ HI.out).mono ?_; rintro e w6 ⟨rfl, ⟨⟨n6, rfl⟩⟩⟩) | ((with_reducible refine gate_dst (N := 6) rfl ?_); refine box_event ?hg (N := 6) ?hd (cs := lay zero12) (t := 67) ?hr ?_; (case hd => rfl); (case hg => rfl); (case hr => first | (go_simp; done) | (go_simp; rfl)); intro g3 hg3 w3 hb3 hB3; have HB3 := Aside0.mk hb3; have nw := Aside0.mk (below_step (by repeat (first | exact HW.out | apply below_drew1 | apply pw_below_drewN)) hB3); have HLT2 := Aside0.mk (show g2 < g3 by have := blk_lt HB2.out; have e := hg3; simp at e; omega); have n1 := Aside0.mk (blk_below (g := g1) (o := .cells #[.int .i64 off, .slice A1 l1.length c1, .slice A2 l2.length c2] 33 (0, 0)) (by (with_reducible repeat (first | refine blk_drew ?_ | refine blk_drewN ?_ _ | refine blk_alloc ?_ _)); exact HB1.out) hB3); have n2 := Aside0.mk (blk_below (g := g2) (o := .cells (lay zero12) 67 (0, 0)) (by (with_reducible repeat (first | refine blk_drew ?_ | refine blk_drewN ?_ _ | refine blk_alloc ?_ _)); exact HB2.out) hB3); clear HB1 HB2 HW; have HB1 := n1; have HB2 := n2; have HW := nw; clear n1 n2 nw; clear hb3 hB3 hg3) | ((with_reducible refine gate_store rfl ?_); refine wpList_store_row rfl 67 (.tmp 6) (.tmp 38) rfl g3 (lay (off :: (l1.length : Int) :: List.replicate 10 0)) rfl rfl 67 (lay zero12) HB3.out (info67 _ rfl) rfl (lay_one _) ?_))
  have NE1 := Aside0.mk (show g1 ≠ g3 by have := HLT.out; have := HLT2.out; omega)
  have NE2 := Aside0.mk (show g2 ≠ g3 by have := HLT2.out; omega)
  have B1 := Aside0.mk ((setRow_other w3 g3 g1 (lay (off :: (l1.length : Int) :: List.replicate 10 0)) NE1.out).trans HB1.out)
  have B2 := Aside0.mk ((setRow_other w3 g3 g2 (lay (off :: (l1.length : Int) :: List.replicate 10 0)) NE2.out).trans HB2.out)
  have B3 := Aside0.mk (setRow_heap w3 g3 _ (lay (off :: (l1.length : Int) :: List.replicate 10 0)) _ _ HB3.out)
  have BW := Aside0.mk (below_setRow HW.out (show w.heap.size ≤ g3 by have := HGE.out; have := HLT2.out; omega) (lay (off :: (l1.length : Int) :: List.replicate 10 0)))
  obtain ⟨W4, hW4⟩ : ∃ W, w3.setRow g3 (lay (off :: (l1.length : Int) :: List.replicate 10 0)) = W := ⟨_, rfl⟩
  rw [hW4] at B1 B2 B3 BW ⊢
  clear hW4 HB1 HB2 HB3 HW hv0 hv1 hv2
  have hu1 : W4.cell? ⟨g1, 1, none⟩ = some (.slice A1 l1.length c1) := (blk_cell B1.out 1).trans rfl
  have hs := slice_all ⟨g3, 2, none⟩
  have HCR := Aside0.mk (Kd.reads_of_C (d := (0 : Int)) (Kd.C_below HR1.out BW.out))
  go_region_law (refine step_copy_splice rfl (.tmp 40) (.tmp 42) 23 23 rfl 3 Try.underlying23 (by kernel_rfl) (some ⟨g3, 2, none⟩) A1 5 5 l1.length c1 rfl rfl g3 2 (nums .i64 (off :: (l1.length : Int) :: List.replicate 10 0)) 67 B3.out (nums .i64 l1) ?hn ?hpos ?hfit ?h1 g3 W4.drew (Below.refl _ _) (Nat.le_refl _) ?_; (case hn => rw [nums_length]; exact (Nat.min_eq_left H5.out).symm); (case hpos => intro hp; rw [nums_length] at hp; obtain ⟨ad, e, hc⟩ := HCR.out.2.2 hp; refine ⟨rfl, ad, e, fun j v hv => ?_⟩; simp only [nums, List.getElem?_map, Option.map_eq_some_iff] at hv; obtain ⟨x, hx, rfl⟩ := hv; have hj := (List.getElem?_eq_some_iff.1 hx).1; rw [show W4.drew.cell? (ad.add j) = W4.cell? (ad.add j) from rfl, hc j hj]; simp [List.getD_eq_getElem?_getD, hx]); (case hfit => have := H5.out; simp [nums_length]; omega); (case h1 => intro v hv; simp only [nums, List.mem_map] at hv; obtain ⟨x, _, rfl⟩ := hv; rfl); intro W5 hcp hB5)
  have LE := Aside0.mk (show w.heap.size ≤ g3 by have := HGE.out; have := HLT2.out; omega)
  have W5B := Aside0.mk ((below_drew1 BW.out).trans (hB5.mono LE.out))
  have C2 := Aside0.mk ((hB5.block g2 HLT2.out).trans B2.out)
  have hu2 : W5.cell? ⟨g1, 2, none⟩ = some (.slice A2 l2.length c2) := (blk_cell ((hB5.block g1 (show g1 < g3 by have := HLT.out; have := HLT2.out; omega)).trans B1.out) 2).trans rfl
  have C3 := Aside0.mk (by have h0 := hcp.out; rw [lay_splice _ _ _ H5.out] at h0; exact h0 : W5.heap[g3]? = some (.cells (lay (off :: (l1.length : Int) :: (pad5 l1 ++ List.replicate 5 0))) 67 (0, 0)))
  clear hcp hB5 B1 B2 B3 hu1 hs HCR BW
  go_wp2_with fail
  go_loopg [7, 8, 47] (l2.length + 1) (fun kq v7 v8 v47 w' => ∃ j : Nat, v47 = .int .i64 (j : Int) ∧ Aside0 (j + kq = l2.length + 1 ∧ j ≤ l2.length) ∧ Aside0 ((l2.take j).all inR = true) ∧ Aside0 (w'.heap[g2]? = some (.cells (lay zero12) 67 (0, 0))) ∧ Aside0 (w'.heap[g3]? = some (.cells (lay (off :: (l1.length : Int) :: (pad5 l1 ++ (l2.take j ++ List.replicate (5 - j) 0)))) 67 (0, 0))) ∧ Aside0 (Below w.heap.size w w'))
  case atStart => exact ⟨0, rfl, ⟨by omega⟩, ⟨rfl⟩, C2, C3, W5B⟩
  case round =>
    clear C2 C3 W5B hu2
    obtain ⟨j, rfl, HJ, HA, D2, D3, HW⟩ := hrel
    have HL12 := Aside0.mk (show (off :: (l1.length : Int) :: (pad5 l1 ++ (l2.take j ++ List.replicate (5 - j) 0))).length = 12 by have := HJ.out; have := H5.out; have := HNE.out; simp [pad5_len H5.out]; omega)
    cases gk with
    | zero => exact absurd HJ.out (by omega)
    | succ k1 =>
      by_cases hj : j < l2.length
      · have p1 : 0 ≤ (j : Int) := by omega
        have p2 : (j : Int) < (l2.length : Int) := by omega
        obtain ⟨ad1, e1, hx1⟩ := Kd.at_int (Kd.C_below HR2.out HW.out) (j : Int) p1 p2
        cases e1
        rw [Int.toNat_natCast] at hx1
        have hjb := decide_eq_true p2
        have hja := decide_eq_true p1
        replace p1 := eq_true p1
        replace p2 := eq_true p2
        have HJL := Aside0.mk hj
        have HX := Aside0.mk (show rd l2 (j : Int) = l2[j]'HJL.out by simp [rd, HJL.out])
        have hm : j < 5 := by have := HNE.out; have := H5.out; omega
        clear hj
        by_cases hin : inR (rd l2 (j : Int)) = true
        · have HI2 : Aside0 (impl_within.f (rd l2 (j : Int)) (-10000) 10000 = some true) := ⟨by rw [within_eq]; exact congrArg some hin⟩
          have hcc := lay_cell D3.out (7 + j) (by have := HL12.out; omega)
          have hff := blk_frozen D3.out (7 + j)
          go_wp2_with (first | (go_at_call 54; refine (impl_within.calls _ _ _ true _ HI2.out).mono ?_; rintro e w6 ⟨rfl, ⟨⟨n6, rfl⟩⟩⟩))
          go_roundg k1
          case measure => omega
          case rel =>
            refine ⟨j + 1, rfl, ⟨by have := HJ.out; have := HJL.out; omega⟩, ⟨?_⟩, ⟨blk_farG (by (with_reducible repeat (first | refine blk_drew ?_ | refine blk_drewN ?_ _)); exact D2.out) NE2.out _⟩, ⟨?_⟩, ⟨below_set (by repeat (first | (with_reducible first | exact HW.out | apply below_drew1 | apply pw_below_drewN) | exact HW.out)) LE.out⟩⟩
            · rw [List.take_succ_eq_append_getElem HJL.out, List.all_append, HA.out]
              simp only [List.all_cons, List.all_nil, Bool.and_true, Bool.true_and]
              rw [← HX.out]; exact hin
            · have h0 := lay_put (t := 67) (by (with_reducible repeat (first | refine blk_drew ?_ | refine blk_drewN ?_ _)); exact D3.out) (7 + j) (rd l2 (j : Int))
              rw [lay_next H5.out HNE.out HJL.out HX.out] at h0
              exact h0
        · have HI2 : Aside0 (impl_within.f (rd l2 (j : Int)) (-10000) 10000 = some false) := ⟨by rw [within_eq]; exact congrArg some ((Bool.not_eq_true _).mp hin)⟩
          have HNO : Aside0 (formedB off l1 l2 = false) := ⟨by
            unfold formedB
            rw [Bool.and_eq_false_iff]; right
            rw [List.all_eq_false]
            exact ⟨l2[j]'HJL.out, List.getElem_mem _, by rw [← HX.out]; exact hin⟩⟩
          clear hin
          have HNL : Aside0 (formedL off l1 l2 = zero12) := ⟨by unfold formedL; rw [HNO.out]; rfl⟩
          go_wp2_with (first | (go_at_call 54; refine (impl_within.calls _ _ _ false _ HI2.out).mono ?_; rintro e w6 ⟨rfl, ⟨⟨n6, rfl⟩⟩⟩) | ((with_reducible refine gate_store rfl ?_); refine wpList_store_row rfl 67 (.tmp 2) (.tmp 55) rfl g2 (lay zero12) rfl rfl 67 (lay zero12) (by (with_reducible repeat (first | refine blk_drew ?_ | refine blk_drewN ?_ _ | refine blk_alloc ?_ _)); exact D2.out) (info67 _ rfl) rfl (lay_one _) ?_))
          refine bodyPost_ret (results_ct rfl _ _ g2 67 (lay zero12) (0, 0) _ rfl (setRow_heap _ g2 _ _ _ (0, 0) (by (with_reducible repeat (first | refine blk_drew ?_ | refine blk_drewN ?_ _ | refine blk_alloc ?_ _)); exact D2.out)) Try.underlying67 rfl (info67 _ rfl)) rfl ⟨by rw [HNO.out, HNL.out]; rfl, below_setRow (by repeat (first | (with_reducible first | exact HW.out | apply below_drew1 | apply pw_below_drewN) | exact HW.out)) HGE.out _⟩
      · have hjb : decide ((j : Int) < (l2.length : Int)) = false := decide_eq_false (by omega)
        have hjc : decide (j < l2.length) = false := decide_eq_false hj
        have hjd : (j < l2.length) = False := eq_false hj
        have HYES : Aside0 (formedB off l1 l2 = true) := ⟨by
          have hl := HA.out
          rw [List.take_of_length_le (by omega)] at hl
          simp [formedB, HOK.out, HNE.out, HO.out, hl]⟩
        have HYL : Aside0 ((off :: (l1.length : Int) :: (pad5 l1 ++ (l2.take j ++ List.replicate (5 - j) 0))) = formedL off l1 l2) := ⟨by
          unfold formedL
          rw [if_pos HYES.out]
          have := HJ.out
          rw [List.take_of_length_le (by omega), show j = l2.length by omega]; rfl⟩
        clear hj
        go_wp2_with (first | ((with_reducible refine gate_dst (N := 61) rfl ?_); refine wpList_load_row rfl 67 (.tmp 6) rfl g3 rfl 67 (lay _) (0, 0) _ (by (with_reducible repeat (first | refine blk_drew ?_ | refine blk_drewN ?_ _ | refine blk_alloc ?_ _)); exact D3.out) Try.underlying67 rfl (info67 _ HL12.out) ?_) | ((with_reducible refine gate_store rfl ?_); refine wpList_store_row rfl 67 (.tmp 2) (.tmp 61) rfl g2 (lay (off :: (l1.length : Int) :: (pad5 l1 ++ (l2.take j ++ List.replicate (5 - j) 0)))) rfl rfl 67 (lay zero12) (by (with_reducible repeat (first | refine blk_drew ?_ | refine blk_drewN ?_ _ | refine blk_alloc ?_ _)); exact D2.out) (info67 _ HL12.out) (by rw [lay_size, lay_size, HL12.out]; rfl) (lay_one _) ?_))
        refine bodyPost_ret (results_ct rfl _ _ g2 67 (lay (off :: (l1.length : Int) :: (pad5 l1 ++ (l2.take j ++ List.replicate (5 - j) 0)))) (0, 0) _ rfl (setRow_heap _ g2 _ _ _ (0, 0) (by (with_reducible repeat (first | refine blk_drew ?_ | refine blk_drewN ?_ _ | refine blk_alloc ?_ _)); exact D2.out)) Try.underlying67 rfl (info67 _ HL12.out)) rfl ⟨by rw [HYES.out, ← HYL.out]; rfl, below_setRow (by repeat (first | (with_reducible first | exact HW.out | apply below_drew1 | apply pw_below_drewN) | exact HW.out)) HGE.out _⟩
theorem formed_calls (off : Int) (A1 A2 : Option Addr) (c1 c2 : Nat) (l1 l2 : List Int) (w : World) (hr1 : Kd.C (Kd.int .i64) w A1 l1.length l1) (hc1 : l1.length ≤ c1) (hr2 : Kd.C (Kd.int .i64) w A2 l2.length l2) (hc2 : l2.length ≤ c2) :
    Calls Try.prog 63 #[.agg #[.int .i64 off, .slice A1 l1.length c1, .slice A2 l2.length c2]] w fun e w' => e = .returned (.tuple #[.agg (lay (formedL off l1 l2)), .bool (formedB off l1 l2)]) ∧ Below w.heap.size w w' := by
  obtain ⟨k, hk0⟩ := shapeOk_ev l1
  have hk := hk0 k (Nat.le_refl _)
  by_cases h : shOk l1 = true
  · by_cases hne : l2.length = l1.length
    · by_cases ho : inR off = true
      · exact formed_d k off A1 A2 c1 c2 l1 l2 w hr1 hc1 hr2 hc2 hk h hne ho
      · have e : formedB off l1 l2 = false := by simp [formedB, (Bool.not_eq_true _).mp ho]
        have e2 : formedL off l1 l2 = zero12 := by simp [formedL, e]
        rw [e, e2]; exact formed_c k off A1 A2 c1 c2 l1 l2 w hr1 hc1 hr2 hc2 hk h hne ((Bool.not_eq_true _).mp ho)
    · have e : formedB off l1 l2 = false := by simp [formedB, hne]
      have e2 : formedL off l1 l2 = zero12 := by simp [formedL, e]
      rw [e, e2]; exact formed_b k off A1 A2 c1 c2 l1 l2 w hr1 hc1 hr2 hc2 hk h hne
  · have e : formedB off l1 l2 = false := by simp [formedB, (Bool.not_eq_true _).mp h]
    have e2 : formedL off l1 l2 = zero12 := by simp [formedL, e]
    rw [e, e2]; exact formed_a k off A1 A2 c1 c2 l1 l2 w hr1 hc1 hr2 hc2 hk ((Bool.not_eq_true _).mp h)
end Go.Proofs.Ytipjhbngbaifeaa.PA

namespace Go.Proofs.Ytipjhbngbaifeaa.PA
open Go.RowKit Go.Proofs.YtipjhbngbaifeaaW.PrintWords Go.Proofs.YtipjhbngbaifeaaW.PrintLast Go.Proofs.YtipjhbngbaifeaaW.PrintMore
set_option linter.unusedVariables false
set_option linter.unusedSimpArgs false
/-- What 'view' of a layout answers, beside the one before. -/
def viewB (l b : List Int) (r : Nat) : Bool := decide (l = b) || formedB (gi l 0) ((l.drop 2).take r) ((l.drop 7).take r)
def viewO (l b : List Int) (r : Nat) : Int := if viewB l b r then gi l 0 else 0
def viewS (l b : List Int) (r : Nat) : List Int := if viewB l b r then (l.drop 2).take r else []
def viewT (l b : List Int) (r : Nat) : List Int := if viewB l b r then (l.drop 7).take r else []
end Go.Proofs.Ytipjhbngbaifeaa.PA

namespace Go.Proofs.Ytipjhbngbaifeaa.PA
open Go.RowKit Go.Proofs.YtipjhbngbaifeaaW.PrintWords Go.Proofs.YtipjhbngbaifeaaW.PrintLast Go.Proofs.YtipjhbngbaifeaaW.PrintMore
set_option linter.unusedVariables false
set_option linter.unusedSimpArgs false
theorem formedL_1 {off : Int} {l1 l2 : List Int} (h : formedB off l1 l2 = true) : gi (formedL off l1 l2) 1 = (l1.length : Int) := by unfold formedL; rw [if_pos h]; rfl
theorem formed_5 {off : Int} {l1 l2 : List Int} (h : formedB off l1 l2 = true) : l1.length ≤ 5 := by
  simp only [formedB, Bool.and_eq_true, decide_eq_true_eq] at h
  exact shOk_len h.1.1.1
def viewed (l b : List Int) (r : Nat) : Int × List Int × List Int × Bool := (viewO l b r, viewS l b r, viewT l b r, viewB l b r)
def noView : Int × List Int × List Int × Bool := (0, [], [], false)
def impl_FlipView.f (off : Int) (l1 l2 : List Int) (a : Int) : Option (Int × List Int × List Int × Bool) :=
  some (if formedB off l1 l2 = true ∧ 0 ≤ a ∧ a < (l1.length : Int) then viewed (flipL (formedL off l1 l2) a.toNat) (formedL off l1 l2) l1.length else noView)
end Go.Proofs.Ytipjhbngbaifeaa.PA

-- By a program (prt.py, over the print of the kit), for this claim. Not trusted: Lean checks it.
namespace Go.Proofs.Ytipjhbngbaifeaa.PA
open Go.RowKit Go.Proofs.YtipjhbngbaifeaaW.PrintWords Go.Proofs.YtipjhbngbaifeaaW.PrintLast Go.Proofs.YtipjhbngbaifeaaW.PrintMore
attribute [local go_sem] max2_int min2_int max_two min_two max_three min_three max_four min_four   -- for this text's walks alone
set_option linter.unusedVariables false
set_option linter.unusedSimpArgs false

/-! ### spec_l7Answer: function 70 -/
def spec_l7Answer.f (k : Nat) (a0_0 : Int) (l0_1 : List Int) (l0_2 : List Int) (a1 : Bool) : Option (Int × List Int × List Int × Bool) := if a1 = true then ((spec_l7Formed.f k a0_0 l0_1 l0_2).bind fun t103 => (if t103 = true then (some (a0_0, l0_1, l0_2, true)) else (some (0, ([] : List Int), ([] : List Int), false)))) else (some (0, ([] : List Int), ([] : List Int), false))
theorem spec_l7Answer.mono : ∀ a0 a1 a2 a3 k, LeO (spec_l7Answer.f k a0 a1 a2 a3) (spec_l7Answer.f (k + 1) a0 a1 a2 a3) := by
  intro a0 a1 a2 a3 k
  unfold spec_l7Answer.f
  repeat' first
      | (with_reducible exact spec_l7Formed.mono _ _ _ _)
      | (with_reducible exact LeO.refl _)
      | (with_reducible exact LeO.none _)
      | (with_reducible refine LeO.ite ?_ ?_)
      | (with_reducible refine LeO.bind ?_ (fun _ => ?_))
      | exact spec_l7Formed.mono _ _ _ _
      | exact LeO.none _
      | refine LeO.ite ?_ ?_
      | refine LeO.bind ?_ (fun _ => ?_)

end Go.Proofs.Ytipjhbngbaifeaa.PA

-- By a program (prt.py, over the print of the kit), for this claim. Not trusted: Lean checks it.
namespace Go.Proofs.Ytipjhbngbaifeaa.PA
open Go.RowKit Go.Proofs.YtipjhbngbaifeaaW.PrintWords Go.Proofs.YtipjhbngbaifeaaW.PrintLast Go.Proofs.YtipjhbngbaifeaaW.PrintMore
attribute [local go_sem] max2_int min2_int max_two min_two max_three min_three max_four min_four   -- for this text's walks alone
set_option linter.unusedVariables false
set_option linter.unusedSimpArgs false

/-! ### spec_l7Copy: function 69 -/
def spec_l7Copy.f (a0_0 : Int) (l0_1 : List Int) (l0_2 : List Int) : Option (Int × List Int × List Int) := (spec_l3Ints.f l0_1).bind fun t103 => ((spec_l3Ints.f l0_2).bind fun t106 => (some (a0_0, t103, t106)))
def spec_l7Copy.B1 : List Nat := [0, 1, 0, 4, 12, 0, 32, 124, 255, 511]

end Go.Proofs.Ytipjhbngbaifeaa.PA

namespace Go.Proofs.Ytipjhbngbaifeaa.PA
set_option linter.unusedVariables false
open Go.RowKit Go.Proofs.YtipjhbngbaifeaaW.PrintWords Go.Proofs.YtipjhbngbaifeaaW.PrintLast Go.Proofs.YtipjhbngbaifeaaW.PrintMore
def mkL (off : Int) (l1 l2 : List Int) : List Int := off :: (l1.length : Int) :: (pad5 l1 ++ pad5 l2)
theorem formedL_mk {off : Int} {l1 l2 : List Int} (h : formedB off l1 l2 = true) : formedL off l1 l2 = mkL off l1 l2 := by unfold formedL; rw [if_pos h]; rfl
theorem formed_lens {off : Int} {l1 l2 : List Int} (h : formedB off l1 l2 = true) : l1.length ≤ 5 ∧ l2.length = l1.length := by
  simp only [formedB, Bool.and_eq_true, decide_eq_true_eq] at h
  exact ⟨shOk_len h.1.1.1, h.1.1.2⟩
theorem formed_sh {off : Int} {l1 l2 : List Int} (h : formedB off l1 l2 = true) : shOk l1 = true := by
  simp only [formedB, Bool.and_eq_true, decide_eq_true_eq] at h
  exact h.1.1.1
theorem gi_mk0 (off : Int) (l1 l2 : List Int) : gi (mkL off l1 l2) 0 = off := rfl
theorem rd_nat {l : List Int} {m : Nat} (h : m < l.length) : rd l (m : Int) = l[m] := by simp [rd, h]
theorem gi_mk7 {off : Int} {l1 l2 : List Int} {m : Nat} (h5 : l1.length ≤ 5) (hm : m < l2.length) : gi (mkL off l1 l2) (7 + m) = rd l2 (m : Int) := by
  have hp := pad5_len h5
  rw [rd_nat hm, show 7 + m = (5 + m) + 2 by omega]
  simp only [gi, mkL, List.getD_cons_succ]
  rw [List.getD_eq_getElem?_getD, List.getElem?_append_right (by omega), hp, show 5 + m - 5 = m by omega, pad5, List.getElem?_append_left hm, List.getElem?_eq_getElem hm]; rfl
theorem take_mk2 {off : Int} {l1 l2 : List Int} {n : Nat} (hn : n = l1.length) : ((mkL off l1 l2).drop 2).take n = l1 := by
  subst hn; simp [mkL, pad5, List.append_assoc]

/-! ### the reference's 'formed' -/
theorem l7In_eq (x : Int) : spec_l7In.f x = some (inR x) := by
  unfold spec_l7In.f inR
  by_cases h : x ≥ -10000
  · rw [if_pos h]; simp; omega
  · rw [if_neg h]; simp; omega
theorem l7Formed_loop (x0 : Int) (x1 : List Int) : ∀ (t p : List Int), (p ++ t).length < 35184372088833 → Ev (fun k => spec_l7Formed.l0 k (p.length : Int) x0 x1 (p ++ t)) (t.all inR)
  | [], p, _ => by
    refine evRound (Ev.now _) fun k => ?_
    simp only [spec_l7Formed.l0]; rw [if_neg len_nlt]; rfl
  | a :: t, p, hl => by
    by_cases h : inR a = true
    · have ih := l7Formed_loop x0 x1 t (p ++ [a]) (by simpa using hl)
      rw [← app_mid] at ih
      refine evVal (evRound ih fun k => ?_) (by simp [h])
      simp only [spec_l7Formed.l0]
      rw [if_pos len_lt, if_pos (by omega), rd_mid, l7In_eq, h, next_mid p t a hl]; simp only [Option.bind_some, if_true]
    · rw [Bool.not_eq_true] at h
      refine evVal (evRound (Ev.now false) fun k => ?_) (by simp [h])
      simp only [spec_l7Formed.l0]
      rw [if_pos len_lt, if_pos (by omega), rd_mid, l7In_eq, h]; simp only [Option.bind_some, Bool.false_eq_true, if_false]
theorem l7Formed_ev (off : Int) (l1 l2 : List Int) (h1 : l1.length ≤ 35184372088832) (h2 : l2.length ≤ 35184372088832) : Ev (fun k => spec_l7Formed.f k off l1 l2) (formedB off l1 l2) := by
  simp only [spec_l7Formed.f]
  refine Ev.bind (l3ShapeOk_ev l1 h1) ?_
  have no : ∀ r, r = false → Ev (fun k => spec_l7Formed.j0 k true off l1 l2) r := fun r e => by
    subst e; exact evRound (Ev.now _) fun k => by simp only [spec_l7Formed.j0, if_true]
  by_cases hs : shOk l1 = true
  · simp only [hs, if_true]
    by_cases e : (l2.length : Int) = (l1.length : Int)
    · simp only [e, if_true, l7In_eq, Option.bind_some]
      by_cases ho : inR off = true
      · have h := l7Formed_loop off l1 l2 [] (by simp; omega)
        refine evVal (evRound (f := fun k => spec_l7Formed.l0 k 0 off l1 l2) h fun k => ?_) (by simp [formedB, hs, ho, show l2.length = l1.length by omega])
        simp only [ho, Bool.not_true, spec_l7Formed.j0, Bool.false_eq_true, if_false]
      · rw [Bool.not_eq_true] at ho
        simp only [ho, Bool.not_false]
        exact no _ (by simp [formedB, ho])
    · simp only [e, if_false]
      exact no _ (by simp [formedB, show l2.length ≠ l1.length by omega])
  · simp only [hs, Bool.false_eq_true, if_false]
    exact no _ (by simp [formedB, hs])
end Go.Proofs.Ytipjhbngbaifeaa.PA

namespace Go.Proofs.Ytipjhbngbaifeaa.PA
open Go.RowKit Go.Shelf Go.Proofs.YtipjhbngbaifeaaW.PrintWords Go.Proofs.YtipjhbngbaifeaaW.PrintLast Go.Proofs.YtipjhbngbaifeaaW.PrintMore
set_option linter.unusedVariables false
set_option linter.unusedSimpArgs false
/-- The number of the first element of which p holds, counted from i; -1. -/
def idxP (p : Int → Bool) : List Int → Int → Int
  | [], _ => -1
  | x :: t, i => if p x then i else idxP p t (i + 1)
theorem idxP_any (p : Int → Bool) : ∀ (l : List Int) (i : Int), 0 ≤ i → decide (idxP p l i ≥ 0) = l.any p
  | [], i, _ => by simp [idxP]
  | x :: t, i, h => by
    simp only [idxP, List.any_cons]
    by_cases hp : p x = true
    · simp [hp, h]
    · simp only [hp, if_false, Bool.false_or]; exact (idxP_any p t (i + 1) (by omega)).trans (by simp)
theorem idxP_step (p : Int → Bool) (l : List Int) (k : Nat) (hk : k < l.length) : idxP p (l.drop k) (k : Int) = if p (rd l (k : Int)) then (k : Int) else idxP p (l.drop (k + 1)) ((k + 1 : Nat) : Int) := by
  rw [List.drop_eq_getElem_cons hk, idxP]; simp [rd, hk, List.getD_eq_getElem?_getD]
/-- What is asked of the function value: it answers p, and only draws. -/
def Gives (g : Nat) (lb : Array Value) (p : Int → Bool) (w : World) : Prop := ∀ (W : World) (x : Int), Below w.heap.size w W → Calls Try.prog g (#[.int .i64 x] ++ lb) W fun e w' => e = .returned (.bool (p x)) ∧ ∃ q, w' = W.drewN q
set_option maxHeartbeats 2000000 in
theorem indexFunc_c (p : Int → Bool) (g : Nat) (lb : Array Value) (eg : ∀ args w, (callFunc g args).run Try.prog w = .ok (.enter g args) w) (A : Option Addr) (c : Nat) (l : List Int) (w : World) (hr : Kd.C (Kd.int .i64) w A l.length l) (hm : l.length ≤ 9223372036854775807) (hp : Gives g lb p w) :
    Calls Try.prog 80 #[.slice A l.length c, .func (.func g) #[] lb] w fun e w' => e = .returned (.int .i64 (idxP p l 0)) ∧ ∃ q, w' = w.drewN q := by
  have HP := Aside0.mk hp
  have HR := Aside0.mk hr
  clear hp hr
  go_enter Try.func80, Try.ntmps80
  go_wp2
  go_loopg [5, 8] l.length (fun gg _ s8 wr => ∃ kk q : Nat, kk ≤ l.length ∧ l.length - kk ≤ gg ∧ s8 = .int .i64 kk ∧ wr = w.drewN q ∧ Aside0 (idxP p (l.drop kk) kk = idxP p l 0))
  case atStart => exact ⟨0, 0, Nat.zero_le _, by omega, rfl, rfl, ⟨rfl⟩⟩
  case round =>
    obtain ⟨kk, q, hkk, hg, rfl, rfl, HI⟩ := hrel
    by_cases hlt : kk < l.length
    · have hltz : (kk : Int) < (l.length : Int) := by omega
      have h0 : (0 : Int) ≤ (kk : Int) := by omega
      obtain ⟨ad, rfl, hx⟩ := Kd.at_int HR.out (kk : Int) h0 hltz
      rw [Int.toNat_natCast] at hx
      have hcall := HP.out
      have HS := Aside0.mk (idxP_step p l kk hlt)
      obtain ⟨y, hy⟩ : ∃ y, y = rd l (kk : Int) := ⟨_, rfl⟩
      rw [← hy] at hx HS
      clear hy
      cases hq : p y with
      | true =>
        have hc : ∀ W, Below w.heap.size w W → Calls Try.prog g (#[.int .i64 y] ++ lb) W fun e w' => e = .returned (.bool true) ∧ ∃ q, w' = W.drewN q := fun W hb => hq ▸ hcall W y hb
        have HQ := Aside0.mk hq
        clear hcall hq
        go_wp2_with (go_at_fn g; refine (hc _ (pw_below_drewN (Below.refl _ w) q)).mono ?_; rintro e w' ⟨rfl, q', rfl⟩)
        go_ret
        refine ⟨?_, _, rfl⟩
        rw [← HI.out, HS.out, HQ.out]; rfl
      | false =>
        have hc : ∀ W, Below w.heap.size w W → Calls Try.prog g (#[.int .i64 y] ++ lb) W fun e w' => e = .returned (.bool false) ∧ ∃ q, w' = W.drewN q := fun W hb => hq ▸ hcall W y hb
        have HQ := Aside0.mk hq
        clear hcall hq
        go_wp2_with (go_at_fn g; refine (hc _ (pw_below_drewN (Below.refl _ w) q)).mono ?_; rintro e w' ⟨rfl, q', rfl⟩)
        go_roundg (l.length - (kk + 1))
        case measure => omega
        case rel => exact ⟨kk + 1, _, by omega, by omega, by go_num, rfl, ⟨by rw [← HI.out, HS.out, HQ.out]; rfl⟩⟩
    · have hltz : ¬ (kk : Int) < (l.length : Int) := by omega
      have hk : kk = l.length := by omega
      have HK := Aside0.mk hk
      clear hk
      go_wp2
      go_ret
      refine ⟨?_, q, rfl⟩
      rw [← HI.out, HK.out, List.drop_length]; rfl
theorem containsFunc_c (p : Int → Bool) (g : Nat) (lb : Array Value) (eg : ∀ args w, (callFunc g args).run Try.prog w = .ok (.enter g args) w) (A : Option Addr) (c : Nat) (l : List Int) (w : World) (hr : Kd.C (Kd.int .i64) w A l.length l) (hm : l.length ≤ 9223372036854775807) (hp : Gives g lb p w) :
    Calls Try.prog 64 #[.slice A l.length c, .func (.func g) #[] lb] w fun e w' => e = .returned (.bool (l.any p)) ∧ ∃ q, w' = w.drewN q := by
  rw [← idxP_any p l 0 (by omega)]
  have HP := Aside0.mk hp
  have HR := Aside0.mk hr
  clear hp hr
  go_enter Try.func64, Try.ntmps64
  go_wp2_with (go_at_call 80; refine (indexFunc_c p g lb eg A c l _ HR.out hm HP.out).mono ?_; rintro e w' ⟨rfl, q, rfl⟩)
  go_ret
  exact ⟨rfl, q, rfl⟩
end Go.Proofs.Ytipjhbngbaifeaa.PA

namespace Go.Proofs.Ytipjhbngbaifeaa.PA
open Go.RowKit Go.Proofs.YtipjhbngbaifeaaW.PrintWords Go.Proofs.YtipjhbngbaifeaaW.PrintLast Go.Proofs.YtipjhbngbaifeaaW.PrintMore
set_option linter.unusedVariables false
set_option linter.unusedSimpArgs false
def plcsV (off : Int) (l1 l2 : List Int) : List Int := placesL (formedL off l1 l2) l1.length (prod l1).toNat
theorem lshape_formed {off : Int} {l1 l2 : List Int} (hf : formedB off l1 l2 = true) : lshape (formedL off l1 l2) l1.length = l1 := by
  rw [formedL_mk hf]; exact take_mk2 rfl
theorem plcsV_len (off : Int) (l1 l2 : List Int) (hf : formedB off l1 l2 = true) : (plcsV off l1 l2).length ≤ 10000 := by
  unfold plcsV; rw [placesL_len]; have := shOk_prod (formed_sh hf); omega
theorem places_f (off : Int) (l1 l2 : List Int) (hf : formedB off l1 l2 = true) (w : World) :
    Calls Try.prog 65 #[.agg (lay (formedL off l1 l2))] w fun e w' => ∃ v, e = .returned v ∧ Kd.R (Kd.int .i64) 3 w' w.heap.size (fun _ => True) v (plcsV off l1 l2) ∧ Below w.heap.size w w' := by
  obtain ⟨k, hk⟩ := (shapeOk_ev l1).rounds
  have hs := formed_sh hf
  have hp := shOk_prod hs
  have hk' : impl_shapeOk.f k l1 = some (prod l1, true) := by rw [hk]; unfold shSize; rw [if_pos hs]
  have e := lshape_formed hf
  refine callsIn_wide.1 (places_in (formedL off l1 l2) l1.length formedL_len (formedL_1 hf) (formed_5 hf) (by rw [e]; exact hp) k (by rw [e]; exact hk') w) |>.mono ?_
  rw [e]
  exact fun _ _ h => h
end Go.Proofs.Ytipjhbngbaifeaa.PA

namespace Go.Proofs.Ytipjhbngbaifeaa.PA
open Go.RowKit Go.Proofs.YtipjhbngbaifeaaW.PrintWords Go.Proofs.YtipjhbngbaifeaaW.PrintLast Go.Proofs.YtipjhbngbaifeaaW.PrintMore
set_option linter.unusedVariables false
set_option linter.unusedSimpArgs false
theorem outOf_gives (g3 : Nat) (a : Int) (w : World) (hb : w.heap[g3]? = some (.cells #[.int .i64 a] 3 (0, 0))) : Gives 66 #[.pointer (some ⟨g3, 0, none⟩)] (fun x => !decide (0 ≤ x ∧ x ≤ wrap64 (a - 1))) w := fun W x hB => by
  have hc : W.cell? ⟨g3, 0, none⟩ = some (.int .i64 a) := (blk_cell (blk_below hb hB) 0).trans rfl
  show Calls Try.prog 66 #[.int .i64 x, .pointer (some ⟨g3, 0, none⟩)] W fun e w' => e = .returned (.bool (!decide (0 ≤ x ∧ x ≤ wrap64 (a - 1)))) ∧ ∃ q, w' = W.drewN q
  have HI := Aside0.mk (within_eq x 0 (wrap64 (a - 1)))
  obtain ⟨b, hb⟩ : ∃ b, b = decide (0 ≤ x ∧ x ≤ wrap64 (a - 1)) := ⟨_, rfl⟩
  rw [← hb] at HI ⊢
  clear hb hB
  go_enter Try.func66, Try.ntmps66
  go_wp2_with (go_at_call 54; (with_reducible refine (impl_within.calls _ _ _ b _ HI.out).mono ?_); rintro e w6 ⟨rfl, ⟨⟨n6, rfl⟩⟩⟩)
  go_ret
  exact ⟨rfl, n6, rfl⟩
/-- Whether a number lies outside of so many cells. -/
def outB (a : Int) (l : List Int) : Bool := l.any fun x => !decide (0 ≤ x ∧ x ≤ wrap64 (a - 1))
theorem contains_out (g3 : Nat) (a : Int) (A : Option Addr) (c : Nat) (l : List Int) (w : World) (hr : Kd.C (Kd.int .i64) w A l.length l) (hm : l.length ≤ 9223372036854775807) (hb : w.heap[g3]? = some (.cells #[.int .i64 a] 3 (0, 0))) :
    Calls Try.prog 64 #[.slice A l.length c, .func (.func 66) #[] #[.pointer (some ⟨g3, 0, none⟩)]] w fun e w' => e = .returned (.bool (outB a l)) ∧ ∃ q, w' = w.drewN q :=
  containsFunc_c _ 66 _ (enters_of Try.func66 (by kernel_rfl) rfl) A c l w hr hm (outOf_gives g3 a w hb)
set_option maxHeartbeats 2000000 in
set_option maxRecDepth 100000 in
theorem viewOk_n (off : Int) (A1 A2 : Option Addr) (c1 c2 : Nat) (l1 l2 : List Int) (a : Int) (w : World) (hr1 : Kd.C (Kd.int .i64) w A1 l1.length l1) (hc1 : l1.length ≤ c1) (hr2 : Kd.C (Kd.int .i64) w A2 l2.length l2) (hc2 : l2.length ≤ c2) (hf : formedB off l1 l2 = false) :
    Calls Try.prog 33 #[.agg #[.int .i64 off, .slice A1 l1.length c1, .slice A2 l2.length c2], .int .i64 a] w fun e w' => e = .returned (.bool false) ∧ Below w.heap.size w w' := by
  have HR1 := Aside0.mk hr1
  have HC1 := Aside0.mk hc1
  have HR2 := Aside0.mk hr2
  have HC2 := Aside0.mk hc2
  have HF := Aside0.mk hf
  clear hr1 hc1 hr2 hc2 hf
  go_enter Try.func33, Try.ntmps33
  go_wp2_with (first | ((with_reducible refine gate_dst (N := 3) rfl ?_); refine box_event ?hg (N := 3) ?hd (cs := #[.int .i64 a]) (t := 3) ?hr ?_; (case hd => rfl); (case hg => rfl); (case hr => first | (go_simp; done) | (go_simp; rfl)); intro g3 hg3 w3 hb3 hB3; have HBc := Aside0.mk hb3; have nw := Aside0.mk (below_step (by repeat (first | (with_reducible first | exact HW.out | apply below_alloc | apply below_drew1 | apply pw_below_drewN) | exact HW.out)) hB3); have n0 := Aside0.mk (blk_below (g := g1) (o := .cells #[.int .i64 off, .slice A1 l1.length c1, .slice A2 l2.length c2] 33 (0, 0)) (by (with_reducible repeat (first | refine blk_drew ?_ | refine blk_drewN ?_ _ | refine blk_alloc ?_ _)); exact HB1.out) hB3); clear HW HB1; have HW := nw; have HB1 := n0; clear nw n0 hB3; clear hb3 hg3) | ((with_reducible refine gate_dst (N := 2) rfl ?_); refine box_event ?hg (N := 2) ?hd (cs := #[.int .i64 off, .slice A1 l1.length c1, .slice A2 l2.length c2]) (t := 33) ?hr ?_; (case hd => rfl); (case hg => rfl); (case hr => first | (go_simp; done) | (go_simp; rfl)); intro g1 hg1 w1 hb1 hB1; have HB1 := Aside0.mk hb1; have HW := Aside0.mk hB1; have HG1 := Aside0.mk (show w.heap.size ≤ g1 by have e := hg1; (try simp at e); omega); clear hb1 hB1 hg1) | ((with_reducible refine gate_dst (N := 8) rfl ?_); refine wpList_load_row rfl 33 (.tmp 2) rfl g1 rfl 33 #[.int .i64 off, .slice A1 l1.length c1, .slice A2 l2.length c2] (0, 0) _ (by (with_reducible repeat (first | refine blk_drew ?_ | refine blk_drewN ?_ _ | refine blk_alloc ?_ _)); exact HB1.out) Try.underlying33 rfl (by kernel_rfl) ?_) | (go_at_call 63; refine (formed_calls off A1 A2 c1 c2 l1 l2 _ (Kd.C_below HR1.out (by repeat (first | (with_reducible first | exact HW.out | apply below_alloc | apply below_drew1 | apply pw_below_drewN) | exact HW.out))) HC1.out (Kd.C_below HR2.out (by repeat (first | (with_reducible first | exact HW.out | apply below_alloc | apply below_drew1 | apply pw_below_drewN) | exact HW.out))) HC2.out).mono ?_; rw [HF.out]; rintro e w8 ⟨rfl, hb8⟩; have nw := Aside0.mk (below_step (by repeat (first | (with_reducible first | exact HW.out | apply below_alloc | apply below_drew1 | apply pw_below_drewN) | exact HW.out)) hb8); have n0 := Aside0.mk (blk_below (g := g1) (o := .cells #[.int .i64 off, .slice A1 l1.length c1, .slice A2 l2.length c2] 33 (0, 0)) (by (with_reducible repeat (first | refine blk_drew ?_ | refine blk_drewN ?_ _ | refine blk_alloc ?_ _)); exact HB1.out) hb8); have n1 := Aside0.mk (blk_below (g := g3) (o := .cells #[.int .i64 a] 3 (0, 0)) (by (with_reducible repeat (first | refine blk_drew ?_ | refine blk_drewN ?_ _ | refine blk_alloc ?_ _)); exact HBc.out) hb8); clear HW HB1 HBc; have HW := nw; have HB1 := n0; have HBc := n1; clear nw n0 n1 hb8) | ((with_reducible refine gate_dst (N := 5) rfl ?_); refine box_event ?hg (N := 5) ?hd (cs := lay zero12) (t := 67) ?hr ?_; (case hd => rfl); (case hg => rfl); (case hr => first | (go_simp; done) | (go_simp; rfl)); intro g8 hg8 w9 hb9 hB9; have HB8 := Aside0.mk hb9; have LT18 := Aside0.mk (show g1 < g8 by have := blk_lt (by (with_reducible repeat (first | refine blk_drew ?_ | refine blk_drewN ?_ _ | refine blk_alloc ?_ _)); exact HB1.out); have e := hg8; (try simp at e); omega); have NE8_0 := Aside0.mk (show g3 ≠ g8 by have := blk_lt (by (with_reducible repeat (first | refine blk_drew ?_ | refine blk_drewN ?_ _ | refine blk_alloc ?_ _)); exact HBc.out); have e := hg8; (try simp at e); omega); have nw := Aside0.mk (below_step (by repeat (first | (with_reducible first | exact HW.out | apply below_alloc | apply below_drew1 | apply pw_below_drewN) | exact HW.out)) hB9); have n0 := Aside0.mk (blk_below (g := g1) (o := .cells #[.int .i64 off, .slice A1 l1.length c1, .slice A2 l2.length c2] 33 (0, 0)) (by (with_reducible repeat (first | refine blk_drew ?_ | refine blk_drewN ?_ _ | refine blk_alloc ?_ _)); exact HB1.out) hB9); have n1 := Aside0.mk (blk_below (g := g3) (o := .cells #[.int .i64 a] 3 (0, 0)) (by (with_reducible repeat (first | refine blk_drew ?_ | refine blk_drewN ?_ _ | refine blk_alloc ?_ _)); exact HBc.out) hB9); clear HW HB1 HBc; have HW := nw; have HB1 := n0; have HBc := n1; clear nw n0 n1 hB9; have n4 := Aside0.mk (setRow_heap w9 g8 _ (lay (formedL off l1 l2)) _ _ HB8.out); have nw2 := Aside0.mk (below_setRow HW.out (show w.heap.size ≤ g8 by have := HG1.out; have := LT18.out; omega) (lay (formedL off l1 l2))); have BL := n4; have m0 := Aside0.mk ((setRow_other w9 g8 g3 (lay (formedL off l1 l2)) (show g3 ≠ g8 by have := blk_lt HBc.out; have := NE8_0.out; omega)).trans HBc.out); clear HBc; have HBc := m0; clear m0; clear HW; have HW := nw2; clear nw2 n4; clear hb9 hg8; have hcc : _ = some (Value.int .i64 a) := (blk_cell HBc.out 0).trans rfl) | ((with_reducible refine gate_store rfl ?_); refine wpList_store_row rfl 67 (.tmp 5) (.tmp 10) rfl g8 (lay (formedL off l1 l2)) rfl rfl 67 (lay zero12) HB8.out (info67 _ formedL_len) (by rw [lay_size, lay_size, formedL_len]; rfl) (lay_one _) ?_))
  go_ret
  exact ⟨rfl, (by repeat (first | (with_reducible first | exact HW.out | apply below_alloc | apply below_drew1 | apply pw_below_drewN) | exact HW.out))⟩
set_option maxHeartbeats 2000000 in
set_option maxRecDepth 100000 in
theorem viewOk_w (off : Int) (A1 A2 : Option Addr) (c1 c2 : Nat) (l1 l2 : List Int) (a : Int) (w : World) (hr1 : Kd.C (Kd.int .i64) w A1 l1.length l1) (hc1 : l1.length ≤ c1) (hr2 : Kd.C (Kd.int .i64) w A2 l2.length l2) (hc2 : l2.length ≤ c2) (hf : formedB off l1 l2 = true) (ha : ¬ (0 ≤ a ∧ a ≤ 10000)) :
    Calls Try.prog 33 #[.agg #[.int .i64 off, .slice A1 l1.length c1, .slice A2 l2.length c2], .int .i64 a] w fun e w' => e = .returned (.bool false) ∧ Below w.heap.size w w' := by
  have HI : Aside0 (impl_within.f a 0 10000 = some false) := ⟨by rw [within_eq]; exact congrArg some (decide_eq_false ha)⟩
  clear ha
  have HR1 := Aside0.mk hr1
  have HC1 := Aside0.mk hc1
  have HR2 := Aside0.mk hr2
  have HC2 := Aside0.mk hc2
  have HF := Aside0.mk hf
  clear hr1 hc1 hr2 hc2 hf
  go_enter Try.func33, Try.ntmps33
  go_wp2_with (first | ((with_reducible refine gate_dst (N := 3) rfl ?_); refine box_event ?hg (N := 3) ?hd (cs := #[.int .i64 a]) (t := 3) ?hr ?_; (case hd => rfl); (case hg => rfl); (case hr => first | (go_simp; done) | (go_simp; rfl)); intro g3 hg3 w3 hb3 hB3; have HBc := Aside0.mk hb3; have nw := Aside0.mk (below_step (by repeat (first | (with_reducible first | exact HW.out | apply below_alloc | apply below_drew1 | apply pw_below_drewN) | exact HW.out)) hB3); have n0 := Aside0.mk (blk_below (g := g1) (o := .cells #[.int .i64 off, .slice A1 l1.length c1, .slice A2 l2.length c2] 33 (0, 0)) (by (with_reducible repeat (first | refine blk_drew ?_ | refine blk_drewN ?_ _ | refine blk_alloc ?_ _)); exact HB1.out) hB3); clear HW HB1; have HW := nw; have HB1 := n0; clear nw n0 hB3; clear hb3 hg3) | ((with_reducible refine gate_dst (N := 2) rfl ?_); refine box_event ?hg (N := 2) ?hd (cs := #[.int .i64 off, .slice A1 l1.length c1, .slice A2 l2.length c2]) (t := 33) ?hr ?_; (case hd => rfl); (case hg => rfl); (case hr => first | (go_simp; done) | (go_simp; rfl)); intro g1 hg1 w1 hb1 hB1; have HB1 := Aside0.mk hb1; have HW := Aside0.mk hB1; have HG1 := Aside0.mk (show w.heap.size ≤ g1 by have e := hg1; (try simp at e); omega); clear hb1 hB1 hg1) | ((with_reducible refine gate_dst (N := 8) rfl ?_); refine wpList_load_row rfl 33 (.tmp 2) rfl g1 rfl 33 #[.int .i64 off, .slice A1 l1.length c1, .slice A2 l2.length c2] (0, 0) _ (by (with_reducible repeat (first | refine blk_drew ?_ | refine blk_drewN ?_ _ | refine blk_alloc ?_ _)); exact HB1.out) Try.underlying33 rfl (by kernel_rfl) ?_) | (go_at_call 63; refine (formed_calls off A1 A2 c1 c2 l1 l2 _ (Kd.C_below HR1.out (by repeat (first | (with_reducible first | exact HW.out | apply below_alloc | apply below_drew1 | apply pw_below_drewN) | exact HW.out))) HC1.out (Kd.C_below HR2.out (by repeat (first | (with_reducible first | exact HW.out | apply below_alloc | apply below_drew1 | apply pw_below_drewN) | exact HW.out))) HC2.out).mono ?_; rw [HF.out]; rintro e w8 ⟨rfl, hb8⟩; have nw := Aside0.mk (below_step (by repeat (first | (with_reducible first | exact HW.out | apply below_alloc | apply below_drew1 | apply pw_below_drewN) | exact HW.out)) hb8); have n0 := Aside0.mk (blk_below (g := g1) (o := .cells #[.int .i64 off, .slice A1 l1.length c1, .slice A2 l2.length c2] 33 (0, 0)) (by (with_reducible repeat (first | refine blk_drew ?_ | refine blk_drewN ?_ _ | refine blk_alloc ?_ _)); exact HB1.out) hb8); have n1 := Aside0.mk (blk_below (g := g3) (o := .cells #[.int .i64 a] 3 (0, 0)) (by (with_reducible repeat (first | refine blk_drew ?_ | refine blk_drewN ?_ _ | refine blk_alloc ?_ _)); exact HBc.out) hb8); clear HW HB1 HBc; have HW := nw; have HB1 := n0; have HBc := n1; clear nw n0 n1 hb8) | ((with_reducible refine gate_dst (N := 5) rfl ?_); refine box_event ?hg (N := 5) ?hd (cs := lay zero12) (t := 67) ?hr ?_; (case hd => rfl); (case hg => rfl); (case hr => first | (go_simp; done) | (go_simp; rfl)); intro g8 hg8 w9 hb9 hB9; have HB8 := Aside0.mk hb9; have LT18 := Aside0.mk (show g1 < g8 by have := blk_lt (by (with_reducible repeat (first | refine blk_drew ?_ | refine blk_drewN ?_ _ | refine blk_alloc ?_ _)); exact HB1.out); have e := hg8; (try simp at e); omega); have NE8_0 := Aside0.mk (show g3 ≠ g8 by have := blk_lt (by (with_reducible repeat (first | refine blk_drew ?_ | refine blk_drewN ?_ _ | refine blk_alloc ?_ _)); exact HBc.out); have e := hg8; (try simp at e); omega); have nw := Aside0.mk (below_step (by repeat (first | (with_reducible first | exact HW.out | apply below_alloc | apply below_drew1 | apply pw_below_drewN) | exact HW.out)) hB9); have n0 := Aside0.mk (blk_below (g := g1) (o := .cells #[.int .i64 off, .slice A1 l1.length c1, .slice A2 l2.length c2] 33 (0, 0)) (by (with_reducible repeat (first | refine blk_drew ?_ | refine blk_drewN ?_ _ | refine blk_alloc ?_ _)); exact HB1.out) hB9); have n1 := Aside0.mk (blk_below (g := g3) (o := .cells #[.int .i64 a] 3 (0, 0)) (by (with_reducible repeat (first | refine blk_drew ?_ | refine blk_drewN ?_ _ | refine blk_alloc ?_ _)); exact HBc.out) hB9); clear HW HB1 HBc; have HW := nw; have HB1 := n0; have HBc := n1; clear nw n0 n1 hB9; have n4 := Aside0.mk (setRow_heap w9 g8 _ (lay (formedL off l1 l2)) _ _ HB8.out); have nw2 := Aside0.mk (below_setRow HW.out (show w.heap.size ≤ g8 by have := HG1.out; have := LT18.out; omega) (lay (formedL off l1 l2))); have BL := n4; have m0 := Aside0.mk ((setRow_other w9 g8 g3 (lay (formedL off l1 l2)) (show g3 ≠ g8 by have := blk_lt HBc.out; have := NE8_0.out; omega)).trans HBc.out); clear HBc; have HBc := m0; clear m0; clear HW; have HW := nw2; clear nw2 n4; clear hb9 hg8; have hcc : _ = some (Value.int .i64 a) := (blk_cell HBc.out 0).trans rfl) | ((with_reducible refine gate_store rfl ?_); refine wpList_store_row rfl 67 (.tmp 5) (.tmp 10) rfl g8 (lay (formedL off l1 l2)) rfl rfl 67 (lay zero12) HB8.out (info67 _ formedL_len) (by rw [lay_size, lay_size, formedL_len]; rfl) (lay_one _) ?_) | (go_at_call 54; (with_reducible refine (impl_within.calls _ _ _ false _ HI.out).mono ?_); rintro e w6 ⟨rfl, ⟨⟨n6, rfl⟩⟩⟩))
  go_ret
  exact ⟨rfl, (by repeat (first | (with_reducible first | exact HW.out | apply below_alloc | apply below_drew1 | apply pw_below_drewN) | exact HW.out))⟩
set_option maxHeartbeats 2000000 in
set_option maxRecDepth 100000 in
theorem viewOk_y (off : Int) (A1 A2 : Option Addr) (c1 c2 : Nat) (l1 l2 : List Int) (a : Int) (w : World) (hr1 : Kd.C (Kd.int .i64) w A1 l1.length l1) (hc1 : l1.length ≤ c1) (hr2 : Kd.C (Kd.int .i64) w A2 l2.length l2) (hc2 : l2.length ≤ c2) (hf : formedB off l1 l2 = true) (ha : 0 ≤ a ∧ a ≤ 10000) :
    Calls Try.prog 33 #[.agg #[.int .i64 off, .slice A1 l1.length c1, .slice A2 l2.length c2], .int .i64 a] w fun e w' => e = .returned (.bool (!outB a (plcsV off l1 l2))) ∧ Below w.heap.size w w' := by
  have HI : Aside0 (impl_within.f a 0 10000 = some true) := ⟨by rw [within_eq]; exact congrArg some (decide_eq_true ha)⟩
  clear ha
  have HM := Aside0.mk (plcsV_len off l1 l2 hf)
  have HR1 := Aside0.mk hr1
  have HC1 := Aside0.mk hc1
  have HR2 := Aside0.mk hr2
  have HC2 := Aside0.mk hc2
  have HF := Aside0.mk hf
  clear hr1 hc1 hr2 hc2 hf
  go_enter Try.func33, Try.ntmps33
  go_wp2_with (first | ((with_reducible refine gate_dst (N := 3) rfl ?_); refine box_event ?hg (N := 3) ?hd (cs := #[.int .i64 a]) (t := 3) ?hr ?_; (case hd => rfl); (case hg => rfl); (case hr => first | (go_simp; done) | (go_simp; rfl)); intro g3 hg3 w3 hb3 hB3; have HBc := Aside0.mk hb3; have nw := Aside0.mk (below_step (by repeat (first | (with_reducible first | exact HW.out | apply below_alloc | apply below_drew1 | apply pw_below_drewN) | exact HW.out)) hB3); have n0 := Aside0.mk (blk_below (g := g1) (o := .cells #[.int .i64 off, .slice A1 l1.length c1, .slice A2 l2.length c2] 33 (0, 0)) (by (with_reducible repeat (first | refine blk_drew ?_ | refine blk_drewN ?_ _ | refine blk_alloc ?_ _)); exact HB1.out) hB3); clear HW HB1; have HW := nw; have HB1 := n0; clear nw n0 hB3; clear hb3 hg3) | ((with_reducible refine gate_dst (N := 2) rfl ?_); refine box_event ?hg (N := 2) ?hd (cs := #[.int .i64 off, .slice A1 l1.length c1, .slice A2 l2.length c2]) (t := 33) ?hr ?_; (case hd => rfl); (case hg => rfl); (case hr => first | (go_simp; done) | (go_simp; rfl)); intro g1 hg1 w1 hb1 hB1; have HB1 := Aside0.mk hb1; have HW := Aside0.mk hB1; have HG1 := Aside0.mk (show w.heap.size ≤ g1 by have e := hg1; (try simp at e); omega); clear hb1 hB1 hg1) | ((with_reducible refine gate_dst (N := 8) rfl ?_); refine wpList_load_row rfl 33 (.tmp 2) rfl g1 rfl 33 #[.int .i64 off, .slice A1 l1.length c1, .slice A2 l2.length c2] (0, 0) _ (by (with_reducible repeat (first | refine blk_drew ?_ | refine blk_drewN ?_ _ | refine blk_alloc ?_ _)); exact HB1.out) Try.underlying33 rfl (by kernel_rfl) ?_) | (go_at_call 63; refine (formed_calls off A1 A2 c1 c2 l1 l2 _ (Kd.C_below HR1.out (by repeat (first | (with_reducible first | exact HW.out | apply below_alloc | apply below_drew1 | apply pw_below_drewN) | exact HW.out))) HC1.out (Kd.C_below HR2.out (by repeat (first | (with_reducible first | exact HW.out | apply below_alloc | apply below_drew1 | apply pw_below_drewN) | exact HW.out))) HC2.out).mono ?_; rw [HF.out]; rintro e w8 ⟨rfl, hb8⟩; have nw := Aside0.mk (below_step (by repeat (first | (with_reducible first | exact HW.out | apply below_alloc | apply below_drew1 | apply pw_below_drewN) | exact HW.out)) hb8); have n0 := Aside0.mk (blk_below (g := g1) (o := .cells #[.int .i64 off, .slice A1 l1.length c1, .slice A2 l2.length c2] 33 (0, 0)) (by (with_reducible repeat (first | refine blk_drew ?_ | refine blk_drewN ?_ _ | refine blk_alloc ?_ _)); exact HB1.out) hb8); have n1 := Aside0.mk (blk_below (g := g3) (o := .cells #[.int .i64 a] 3 (0, 0)) (by (with_reducible repeat (first | refine blk_drew ?_ | refine blk_drewN ?_ _ | refine blk_alloc ?_ _)); exact HBc.out) hb8); clear HW HB1 HBc; have HW := nw; have HB1 := n0; have HBc := n1; clear nw n0 n1 hb8) | ((with_reducible refine gate_dst (N := 5) rfl ?_); refine box_event ?hg (N := 5) ?hd (cs := lay zero12) (t := 67) ?hr ?_; (case hd => rfl); (case hg => rfl); (case hr => first | (go_simp; done) | (go_simp; rfl)); intro g8 hg8 w9 hb9 hB9; have HB8 := Aside0.mk hb9; have LT18 := Aside0.mk (show g1 < g8 by have := blk_lt (by (with_reducible repeat (first | refine blk_drew ?_ | refine blk_drewN ?_ _ | refine blk_alloc ?_ _)); exact HB1.out); have e := hg8; (try simp at e); omega); have NE8_0 := Aside0.mk (show g3 ≠ g8 by have := blk_lt (by (with_reducible repeat (first | refine blk_drew ?_ | refine blk_drewN ?_ _ | refine blk_alloc ?_ _)); exact HBc.out); have e := hg8; (try simp at e); omega); have nw := Aside0.mk (below_step (by repeat (first | (with_reducible first | exact HW.out | apply below_alloc | apply below_drew1 | apply pw_below_drewN) | exact HW.out)) hB9); have n0 := Aside0.mk (blk_below (g := g1) (o := .cells #[.int .i64 off, .slice A1 l1.length c1, .slice A2 l2.length c2] 33 (0, 0)) (by (with_reducible repeat (first | refine blk_drew ?_ | refine blk_drewN ?_ _ | refine blk_alloc ?_ _)); exact HB1.out) hB9); have n1 := Aside0.mk (blk_below (g := g3) (o := .cells #[.int .i64 a] 3 (0, 0)) (by (with_reducible repeat (first | refine blk_drew ?_ | refine blk_drewN ?_ _ | refine blk_alloc ?_ _)); exact HBc.out) hB9); clear HW HB1 HBc; have HW := nw; have HB1 := n0; have HBc := n1; clear nw n0 n1 hB9; have n4 := Aside0.mk (setRow_heap w9 g8 _ (lay (formedL off l1 l2)) _ _ HB8.out); have nw2 := Aside0.mk (below_setRow HW.out (show w.heap.size ≤ g8 by have := HG1.out; have := LT18.out; omega) (lay (formedL off l1 l2))); have BL := n4; have m0 := Aside0.mk ((setRow_other w9 g8 g3 (lay (formedL off l1 l2)) (show g3 ≠ g8 by have := blk_lt HBc.out; have := NE8_0.out; omega)).trans HBc.out); clear HBc; have HBc := m0; clear m0; clear HW; have HW := nw2; clear nw2 n4; clear hb9 hg8; have hcc : _ = some (Value.int .i64 a) := (blk_cell HBc.out 0).trans rfl) | ((with_reducible refine gate_store rfl ?_); refine wpList_store_row rfl 67 (.tmp 5) (.tmp 10) rfl g8 (lay (formedL off l1 l2)) rfl rfl 67 (lay zero12) HB8.out (info67 _ formedL_len) (by rw [lay_size, lay_size, formedL_len]; rfl) (lay_one _) ?_) | (go_at_call 54; (with_reducible refine (impl_within.calls _ _ _ true _ HI.out).mono ?_); rintro e w6 ⟨rfl, ⟨⟨n6, rfl⟩⟩⟩) | ((with_reducible refine gate_dst (N := 19) rfl ?_); refine wpList_load_row rfl 67 (.tmp 5) rfl g8 rfl 67 (lay (formedL off l1 l2)) (0, 0) _ (by (with_reducible repeat (first | refine blk_drew ?_ | refine blk_drewN ?_ _ | refine blk_alloc ?_ _)); exact BL.out) Try.underlying67 rfl (info67 _ formedL_len) ?_) | (go_at_call 65; refine (places_f off l1 l2 HF.out _).mono ?_; rintro e w10 ⟨v10, rfl, ho10, hb10⟩; obtain ⟨A10, c10, rfl⟩ := Kd.R_slice ho10; have HO10 := Aside0.mk (Kd.R_lower ho10 (below_size (by repeat (first | (with_reducible first | exact HW.out | apply below_alloc | apply below_drew1 | apply pw_below_drewN) | exact HW.out)))); clear ho10; have nw := Aside0.mk (below_step (by repeat (first | (with_reducible first | exact HW.out | apply below_alloc | apply below_drew1 | apply pw_below_drewN) | exact HW.out)) hb10); have n0 := Aside0.mk (blk_below (g := g3) (o := .cells #[.int .i64 a] 3 (0, 0)) (by (with_reducible repeat (first | refine blk_drew ?_ | refine blk_drewN ?_ _ | refine blk_alloc ?_ _)); exact HBc.out) hb10); clear HW HBc; have HW := nw; have HBc := n0; clear nw n0 hb10) | (go_at_call 64; obtain ⟨-, hc_, hr_⟩ := Kd.R_reads' HO10.out; refine (contains_out g3 a A10 c10 (plcsV off l1 l2) _ hr_ (by have := HM.out; omega) HBc.out).mono ?_; clear hr_ hc_; rintro e w11 ⟨rfl, n11, rfl⟩))
  go_ret
  exact ⟨rfl, (by repeat (first | (with_reducible first | exact HW.out | apply below_alloc | apply below_drew1 | apply pw_below_drewN) | exact HW.out))⟩
def okV (off : Int) (l1 l2 : List Int) (a : Int) : Bool := formedB off l1 l2 && decide (0 ≤ a ∧ a ≤ 10000) && !outB a (plcsV off l1 l2)
def impl_ViewOk.f (off : Int) (l1 l2 : List Int) (a : Int) : Option Bool := some (okV off l1 l2 a)
theorem impl_ViewOk.calls (off : Int) (A1 : Option Addr) (c1 : Nat) (l1 : List Int) (A2 : Option Addr) (c2 : Nat) (l2 : List Int) (a : Int) (r : Bool) (w : World) (hr1 : Kd.C (Kd.int .i64) w A1 l1.length l1) (hc1 : l1.length ≤ c1) (hr2 : Kd.C (Kd.int .i64) w A2 l2.length l2) (hc2 : l2.length ≤ c2) (h : impl_ViewOk.f off l1 l2 a = some r) :
    Calls Try.prog 33 #[.agg #[.int .i64 off, .slice A1 l1.length c1, .slice A2 l2.length c2], .int .i64 a] w fun e w' => e = .returned (.bool r) ∧ Below w.heap.size w w' := by
  obtain rfl := Option.some.inj h
  unfold okV
  by_cases hf : formedB off l1 l2 = true
  · by_cases ha : 0 ≤ a ∧ a ≤ 10000
    · rw [hf, decide_eq_true ha]
      exact viewOk_y off A1 A2 c1 c2 l1 l2 a w hr1 hc1 hr2 hc2 hf ha
    · rw [hf, decide_eq_false ha]
      exact viewOk_w off A1 A2 c1 c2 l1 l2 a w hr1 hc1 hr2 hc2 hf ha
  · rw [(Bool.not_eq_true _).mp hf]
    exact viewOk_n off A1 A2 c1 c2 l1 l2 a w hr1 hc1 hr2 hc2 ((Bool.not_eq_true _).mp hf)
end Go.Proofs.Ytipjhbngbaifeaa.PA

namespace Go.Proofs.Ytipjhbngbaifeaa.PA
open Go.RowKit Go.Proofs.YtipjhbngbaifeaaW.PrintWords Go.Proofs.YtipjhbngbaifeaaW.PrintLast Go.Proofs.YtipjhbngbaifeaaW.PrintMore
set_option linter.unusedVariables false
set_option linter.unusedSimpArgs false
set_option maxHeartbeats 2000000 in
set_option maxRecDepth 100000 in
theorem placesV_n (off : Int) (A1 A2 : Option Addr) (c1 c2 : Nat) (l1 l2 : List Int) (a : Int) (w : World) (hr1 : Kd.C (Kd.int .i64) w A1 l1.length l1) (hc1 : l1.length ≤ c1) (hr2 : Kd.C (Kd.int .i64) w A2 l2.length l2) (hc2 : l2.length ≤ c2) (hf : okV off l1 l2 a = false) :
    Calls Try.prog 45 #[.agg #[.int .i64 off, .slice A1 l1.length c1, .slice A2 l2.length c2], .int .i64 a] w fun e w' => ∃ v0_ : Value, e = .returned v0_ ∧ Kd.R (Kd.int .i64) 3 w' w.heap.size (fun _ => True) v0_ [] ∧ Below w.heap.size w w' := by
  have HR1 := Aside0.mk hr1
  have HC1 := Aside0.mk hc1
  have HR2 := Aside0.mk hr2
  have HC2 := Aside0.mk hc2
  have HV : Aside0 (impl_ViewOk.f off l1 l2 a = some false) := ⟨by unfold impl_ViewOk.f; rw [hf]⟩
  clear hr1 hc1 hr2 hc2
  clear hf
  go_enter Try.func45, Try.ntmps45
  go_wp2_with (first | ((with_reducible refine gate_dst (N := 2) rfl ?_); refine box_event ?hg (N := 2) ?hd (cs := #[.int .i64 off, .slice A1 l1.length c1, .slice A2 l2.length c2]) (t := 33) ?hr ?_; (case hd => rfl); (case hg => rfl); (case hr => first | (go_simp; done) | (go_simp; rfl)); intro g1 hg1 w1 hb1 hB1; have HB1 := Aside0.mk hb1; have HW := Aside0.mk hB1; have HG1 := Aside0.mk (show w.heap.size ≤ g1 by have e := hg1; (try simp at e); omega); clear hb1 hB1 hg1) | ((with_reducible refine gate_dst (N := 7) rfl ?_); refine wpList_load_row rfl 33 (.tmp 2) rfl g1 rfl 33 #[.int .i64 off, .slice A1 l1.length c1, .slice A2 l2.length c2] (0, 0) _ (by (with_reducible repeat (first | refine blk_drew ?_ | refine blk_drewN ?_ _ | refine blk_alloc ?_ _)); exact HB1.out) Try.underlying33 rfl (by kernel_rfl) ?_) | (go_at_call 33; refine (impl_ViewOk.calls off A1 c1 l1 A2 c2 l2 a false _ (Kd.C_below HR1.out (by repeat (first | (with_reducible first | exact HW.out | apply below_alloc | apply below_drew1 | apply pw_below_drewN) | exact HW.out))) HC1.out (Kd.C_below HR2.out (by repeat (first | (with_reducible first | exact HW.out | apply below_alloc | apply below_drew1 | apply pw_below_drewN) | exact HW.out))) HC2.out HV.out).mono ?_; rintro e w20 ⟨rfl, hb20⟩; have nw := Aside0.mk (below_step (by repeat (first | (with_reducible first | exact HW.out | apply below_alloc | apply below_drew1 | apply pw_below_drewN) | exact HW.out)) hb20); have n0 := Aside0.mk (blk_below (g := g1) (o := .cells #[.int .i64 off, .slice A1 l1.length c1, .slice A2 l2.length c2] 33 (0, 0)) (by (with_reducible repeat (first | refine blk_drew ?_ | refine blk_drewN ?_ _ | refine blk_alloc ?_ _)); exact HB1.out) hb20); clear HW HB1; have HW := nw; have HB1 := n0; clear nw n0 hb20))
  go_ret
  exact ⟨_, rfl, Kd.R_nil _ _ _ _ _, (by repeat (first | (with_reducible first | exact HW.out | apply below_alloc | apply below_drew1 | apply pw_below_drewN) | exact HW.out))⟩
set_option maxHeartbeats 2000000 in
set_option maxRecDepth 100000 in
theorem placesV_y (off : Int) (A1 A2 : Option Addr) (c1 c2 : Nat) (l1 l2 : List Int) (a : Int) (w : World) (hr1 : Kd.C (Kd.int .i64) w A1 l1.length l1) (hc1 : l1.length ≤ c1) (hr2 : Kd.C (Kd.int .i64) w A2 l2.length l2) (hc2 : l2.length ≤ c2) (hf : okV off l1 l2 a = true) :
    Calls Try.prog 45 #[.agg #[.int .i64 off, .slice A1 l1.length c1, .slice A2 l2.length c2], .int .i64 a] w fun e w' => ∃ v0_ : Value, e = .returned v0_ ∧ Kd.R (Kd.int .i64) 3 w' w.heap.size (fun _ => True) v0_ (plcsV off l1 l2) ∧ Below w.heap.size w w' := by
  have HR1 := Aside0.mk hr1
  have HC1 := Aside0.mk hc1
  have HR2 := Aside0.mk hr2
  have HC2 := Aside0.mk hc2
  have HV : Aside0 (impl_ViewOk.f off l1 l2 a = some true) := ⟨by unfold impl_ViewOk.f; rw [hf]⟩
  clear hr1 hc1 hr2 hc2
  have HF : Aside0 (formedB off l1 l2 = true) := ⟨by unfold okV at hf; simp only [Bool.and_eq_true] at hf; exact hf.1.1⟩
  clear hf
  go_enter Try.func45, Try.ntmps45
  go_wp2_with (first | ((with_reducible refine gate_dst (N := 2) rfl ?_); refine box_event ?hg (N := 2) ?hd (cs := #[.int .i64 off, .slice A1 l1.length c1, .slice A2 l2.length c2]) (t := 33) ?hr ?_; (case hd => rfl); (case hg => rfl); (case hr => first | (go_simp; done) | (go_simp; rfl)); intro g1 hg1 w1 hb1 hB1; have HB1 := Aside0.mk hb1; have HW := Aside0.mk hB1; have HG1 := Aside0.mk (show w.heap.size ≤ g1 by have e := hg1; (try simp at e); omega); clear hb1 hB1 hg1) | ((with_reducible refine gate_dst (N := 7) rfl ?_); refine wpList_load_row rfl 33 (.tmp 2) rfl g1 rfl 33 #[.int .i64 off, .slice A1 l1.length c1, .slice A2 l2.length c2] (0, 0) _ (by (with_reducible repeat (first | refine blk_drew ?_ | refine blk_drewN ?_ _ | refine blk_alloc ?_ _)); exact HB1.out) Try.underlying33 rfl (by kernel_rfl) ?_) | (go_at_call 33; refine (impl_ViewOk.calls off A1 c1 l1 A2 c2 l2 a true _ (Kd.C_below HR1.out (by repeat (first | (with_reducible first | exact HW.out | apply below_alloc | apply below_drew1 | apply pw_below_drewN) | exact HW.out))) HC1.out (Kd.C_below HR2.out (by repeat (first | (with_reducible first | exact HW.out | apply below_alloc | apply below_drew1 | apply pw_below_drewN) | exact HW.out))) HC2.out HV.out).mono ?_; rintro e w20 ⟨rfl, hb20⟩; have nw := Aside0.mk (below_step (by repeat (first | (with_reducible first | exact HW.out | apply below_alloc | apply below_drew1 | apply pw_below_drewN) | exact HW.out)) hb20); have n0 := Aside0.mk (blk_below (g := g1) (o := .cells #[.int .i64 off, .slice A1 l1.length c1, .slice A2 l2.length c2] 33 (0, 0)) (by (with_reducible repeat (first | refine blk_drew ?_ | refine blk_drewN ?_ _ | refine blk_alloc ?_ _)); exact HB1.out) hb20); clear HW HB1; have HW := nw; have HB1 := n0; clear nw n0 hb20) | ((with_reducible refine gate_dst (N := 12) rfl ?_); refine wpList_load_row rfl 33 (.tmp 2) rfl g1 rfl 33 #[.int .i64 off, .slice A1 l1.length c1, .slice A2 l2.length c2] (0, 0) _ (by (with_reducible repeat (first | refine blk_drew ?_ | refine blk_drewN ?_ _ | refine blk_alloc ?_ _)); exact HB1.out) Try.underlying33 rfl (by kernel_rfl) ?_) | (go_at_call 63; refine (formed_calls off A1 A2 c1 c2 l1 l2 _ (Kd.C_below HR1.out (by repeat (first | (with_reducible first | exact HW.out | apply below_alloc | apply below_drew1 | apply pw_below_drewN) | exact HW.out))) HC1.out (Kd.C_below HR2.out (by repeat (first | (with_reducible first | exact HW.out | apply below_alloc | apply below_drew1 | apply pw_below_drewN) | exact HW.out))) HC2.out).mono ?_; rw [HF.out]; rintro e w8 ⟨rfl, hb8⟩; have nw := Aside0.mk (below_step (by repeat (first | (with_reducible first | exact HW.out | apply below_alloc | apply below_drew1 | apply pw_below_drewN) | exact HW.out)) hb8); have n0 := Aside0.mk (blk_below (g := g1) (o := .cells #[.int .i64 off, .slice A1 l1.length c1, .slice A2 l2.length c2] 33 (0, 0)) (by (with_reducible repeat (first | refine blk_drew ?_ | refine blk_drewN ?_ _ | refine blk_alloc ?_ _)); exact HB1.out) hb8); clear HW HB1; have HW := nw; have HB1 := n0; clear nw n0 hb8) | ((with_reducible refine gate_dst (N := 5) rfl ?_); refine box_event ?hg (N := 5) ?hd (cs := lay zero12) (t := 67) ?hr ?_; (case hd => rfl); (case hg => rfl); (case hr => first | (go_simp; done) | (go_simp; rfl)); intro g8 hg8 w9 hb9 hB9; have HB8 := Aside0.mk hb9; have LT18 := Aside0.mk (show g1 < g8 by have := blk_lt (by (with_reducible repeat (first | refine blk_drew ?_ | refine blk_drewN ?_ _ | refine blk_alloc ?_ _)); exact HB1.out); have e := hg8; (try simp at e); omega); have nw := Aside0.mk (below_step (by repeat (first | (with_reducible first | exact HW.out | apply below_alloc | apply below_drew1 | apply pw_below_drewN) | exact HW.out)) hB9); have n0 := Aside0.mk (blk_below (g := g1) (o := .cells #[.int .i64 off, .slice A1 l1.length c1, .slice A2 l2.length c2] 33 (0, 0)) (by (with_reducible repeat (first | refine blk_drew ?_ | refine blk_drewN ?_ _ | refine blk_alloc ?_ _)); exact HB1.out) hB9); clear HW HB1; have HW := nw; have HB1 := n0; clear nw n0 hB9; have n4 := Aside0.mk (setRow_heap w9 g8 _ (lay (formedL off l1 l2)) _ _ HB8.out); have nw2 := Aside0.mk (below_setRow HW.out (show w.heap.size ≤ g8 by have := HG1.out; have := LT18.out; omega) (lay (formedL off l1 l2))); have BL := n4; clear HW; have HW := nw2; clear nw2 n4; clear hb9 hg8) | ((with_reducible refine gate_store rfl ?_); refine wpList_store_row rfl 67 (.tmp 5) (.tmp 14) rfl g8 (lay (formedL off l1 l2)) rfl rfl 67 (lay zero12) HB8.out (info67 _ formedL_len) (by rw [lay_size, lay_size, formedL_len]; rfl) (lay_one _) ?_) | ((with_reducible refine gate_dst (N := 16) rfl ?_); refine wpList_load_row rfl 67 (.tmp 5) rfl g8 rfl 67 (lay (formedL off l1 l2)) (0, 0) _ (by (with_reducible repeat (first | refine blk_drew ?_ | refine blk_drewN ?_ _ | refine blk_alloc ?_ _)); exact BL.out) Try.underlying67 rfl (info67 _ formedL_len) ?_) | (go_at_call 65; refine (places_f off l1 l2 HF.out _).mono ?_; rintro e w10 ⟨v10, rfl, ho10, hb10⟩; obtain ⟨A10, c10, rfl⟩ := Kd.R_slice ho10; have HO10 := Aside0.mk (Kd.R_lower ho10 (below_size (by repeat (first | (with_reducible first | exact HW.out | apply below_alloc | apply below_drew1 | apply pw_below_drewN) | exact HW.out)))); clear ho10; have nw := Aside0.mk (below_step (by repeat (first | (with_reducible first | exact HW.out | apply below_alloc | apply below_drew1 | apply pw_below_drewN) | exact HW.out)) hb10); clear HW ; have HW := nw; clear nw  hb10))
  go_ret
  exact ⟨_, rfl, HO10.out, (by repeat (first | (with_reducible first | exact HW.out | apply below_alloc | apply below_drew1 | apply pw_below_drewN) | exact HW.out))⟩
def impl_Places.f (off : Int) (l1 l2 : List Int) (a : Int) : Option (List Int) := some (if okV off l1 l2 a = true then plcsV off l1 l2 else [])
theorem impl_Places.calls (off : Int) (A1 : Option Addr) (c1 : Nat) (l1 : List Int) (A2 : Option Addr) (c2 : Nat) (l2 : List Int) (a : Int) (r : List Int) (w : World) (hr1 : Kd.C (Kd.int .i64) w A1 l1.length l1) (hc1 : l1.length ≤ c1) (hr2 : Kd.C (Kd.int .i64) w A2 l2.length l2) (hc2 : l2.length ≤ c2) (h : impl_Places.f off l1 l2 a = some r) :
    Calls Try.prog 45 #[.agg #[.int .i64 off, .slice A1 l1.length c1, .slice A2 l2.length c2], .int .i64 a] w fun e w' => ∃ v0_ : Value, e = .returned v0_ ∧ Kd.R (Kd.int .i64) 3 w' w.heap.size (fun _ => True) v0_ r ∧ Below w.heap.size w w' := by
  obtain rfl := Option.some.inj h
  by_cases hf : okV off l1 l2 a = true
  · rw [if_pos hf]; exact placesV_y off A1 A2 c1 c2 l1 l2 a w hr1 hc1 hr2 hc2 hf
  · rw [if_neg hf]; exact placesV_n off A1 A2 c1 c2 l1 l2 a w hr1 hc1 hr2 hc2 ((Bool.not_eq_true _).mp hf)
end Go.Proofs.Ytipjhbngbaifeaa.PA

-- By a program (prt.py, over the print of the kit), for this claim. Not trusted: Lean checks it.
namespace Go.Proofs.Ytipjhbngbaifeaa.PA
open Go.RowKit Go.Proofs.YtipjhbngbaifeaaW.PrintWords Go.Proofs.YtipjhbngbaifeaaW.PrintLast Go.Proofs.YtipjhbngbaifeaaW.PrintMore
attribute [local go_sem] max2_int min2_int max_two min_two max_three min_three max_four min_four   -- for this text's walks alone
set_option linter.unusedVariables false
set_option linter.unusedSimpArgs false

/-! ### laws_FnExactPlaces: function 13 -/
def laws_FnExactPlaces.j0 : Nat → Int → List Int → List Int → Bool → Int → List Int → List Int → Option (Bool)
  | 0, _, _, _, _, _, _, _ => none
  | k + 1, x1, x6, x8, x46, x102000, x102001, x102002 => if x46 = true then (some false) else ((laws_markIntS.f k x8 1).bind fun bt137 => ((laws_heldIntS.f k bt137.2 1).bind fun t139 => (if t139 < 0 then (some false) else (if t139 = bt137.1 then ((laws_toView.f k x102000 x102001 x102002).bind fun bt140 => ((impl_Places.f bt140.1 bt140.2.1 bt140.2.2 x1).bind fun t147 => ((laws_eqIntS.f k t147 x6).bind fun t150 => (if t150 = true then ((laws_heldIntS.f k bt137.2 1).bind fun t151 => (if t151 < 0 then (some false) else (if t151 = bt137.1 then (some true) else (some false)))) else (some false))))) else (some false)))))
def laws_FnExactPlaces.f (k : Nat) (a0_0 : Int) (l0_1 : List Int) (l0_2 : List Int) (a1 : Int) : Option (Bool) := (laws_szView.f a0_0 l0_1 l0_2 1048576).bind fun t102 => (if t102 < 0 then (some true) else ((laws_toView.f k a0_0 l0_1 l0_2).bind fun bt103 => ((spec_Places.f k bt103.1 bt103.2.1 bt103.2.2 a1).bind fun t110 => ((laws_toView.f k a0_0 l0_1 l0_2).bind fun bt113 => ((impl_Places.f bt113.1 bt113.2.1 bt113.2.2 a1).bind fun t121 => ((laws_eqIntS.f k t121 t110).bind fun t124 => (if t124 = true then ((laws_toView.f k a0_0 l0_1 l0_2).bind fun bt125 => ((laws_eqView.f k bt113.1 bt113.2.1 bt113.2.2 bt125.1 bt125.2.1 bt125.2.2).bind fun t132 => (if t132 = true then ((laws_markView.f k bt113.1 bt113.2.1 bt113.2.2 1).bind fun bt133 => (if bt133.1 < 0 then (laws_FnExactPlaces.j0 k a1 t110 t121 true a0_0 l0_1 l0_2) else ((laws_eqIntS.f k t121 t110).bind fun t136 => (laws_FnExactPlaces.j0 k a1 t110 t121 (!t136) a0_0 l0_1 l0_2)))) else (some false)))) else (some false))))))))
theorem laws_FnExactPlaces.mono_l : ∀ k, (∀ y0 y1 y2 y3 y4 y5 y6, LeO (laws_FnExactPlaces.j0 k y0 y1 y2 y3 y4 y5 y6) (laws_FnExactPlaces.j0 (k + 1) y0 y1 y2 y3 y4 y5 y6))
  | 0 => fun _ _ _ _ _ _ _ r h => by simp [laws_FnExactPlaces.j0] at h
  | k + 1 => by
    have ih0 := laws_FnExactPlaces.mono_l k
    · intro y0 y1 y2 y3 y4 y5 y6
      unfold laws_FnExactPlaces.j0
      repeat' first
      | (with_reducible exact ih0 _ _ _ _ _ _ _)
      | (with_reducible exact laws_eqIntS.mono _ _ _)
      | (with_reducible exact laws_eqView.mono _ _ _ _ _ _ _)
      | (with_reducible exact laws_heldIntS.mono _ _ _)
      | (with_reducible exact laws_markIntS.mono _ _ _)
      | (with_reducible exact laws_markView.mono _ _ _ _ _)
      | (with_reducible exact laws_toView.mono _ _ _ _)
      | (with_reducible exact spec_Places.mono _ _ _ _ _)
      | (with_reducible exact LeO.refl _)
      | (with_reducible exact LeO.none _)
      | (with_reducible refine LeO.ite ?_ ?_)
      | (with_reducible refine LeO.bind ?_ (fun _ => ?_))
      | exact ih0 _ _ _ _ _ _ _
      | exact laws_eqIntS.mono _ _ _
      | exact laws_eqView.mono _ _ _ _ _ _ _
      | exact laws_heldIntS.mono _ _ _
      | exact laws_markIntS.mono _ _ _
      | exact laws_markView.mono _ _ _ _ _
      | exact laws_toView.mono _ _ _ _
      | exact spec_Places.mono _ _ _ _ _
      | exact LeO.none _
      | refine LeO.ite ?_ ?_
      | refine LeO.bind ?_ (fun _ => ?_)
theorem laws_FnExactPlaces.mono : ∀ a0 a1 a2 a3 k, LeO (laws_FnExactPlaces.f k a0 a1 a2 a3) (laws_FnExactPlaces.f (k + 1) a0 a1 a2 a3) := by
  intro a0 a1 a2 a3 k
  have ih0 := laws_FnExactPlaces.mono_l k
  unfold laws_FnExactPlaces.f
  repeat' first
      | (with_reducible exact ih0 _ _ _ _ _ _ _)
      | (with_reducible exact laws_eqIntS.mono _ _ _)
      | (with_reducible exact laws_eqView.mono _ _ _ _ _ _ _)
      | (with_reducible exact laws_heldIntS.mono _ _ _)
      | (with_reducible exact laws_markIntS.mono _ _ _)
      | (with_reducible exact laws_markView.mono _ _ _ _ _)
      | (with_reducible exact laws_toView.mono _ _ _ _)
      | (with_reducible exact spec_Places.mono _ _ _ _ _)
      | (with_reducible exact LeO.refl _)
      | (with_reducible exact LeO.none _)
      | (with_reducible refine LeO.ite ?_ ?_)
      | (with_reducible refine LeO.bind ?_ (fun _ => ?_))
      | exact ih0 _ _ _ _ _ _ _
      | exact laws_eqIntS.mono _ _ _
      | exact laws_eqView.mono _ _ _ _ _ _ _
      | exact laws_heldIntS.mono _ _ _
      | exact laws_markIntS.mono _ _ _
      | exact laws_markView.mono _ _ _ _ _
      | exact laws_toView.mono _ _ _ _
      | exact spec_Places.mono _ _ _ _ _
      | exact LeO.none _
      | refine LeO.ite ?_ ?_
      | refine LeO.bind ?_ (fun _ => ?_)
set_option maxHeartbeats 8000000 in
set_option maxRecDepth 100000 in
theorem laws_FnExactPlaces.calls (k : Nat) (a0_0 : Int) (A0_1 : Option Addr) (c0_1 : Nat) (l0_1 : List Int) (A0_2 : Option Addr) (c0_2 : Nat) (l0_2 : List Int) (a1 : Int) (r : Bool) (hr_ : Aside0 (r = true)) (w : World) (hr0_1 : Kd.C (Kd.int .i64) w A0_1 l0_1.length l0_1) (hc0_1 : l0_1.length ≤ c0_1) (hr0_2 : Kd.C (Kd.int .i64) w A0_2 l0_2.length l0_2) (hc0_2 : l0_2.length ≤ c0_2) (h : laws_FnExactPlaces.f k a0_0 l0_1 l0_2 a1 = some r) :
    Calls Try.prog 13 #[.agg #[.int .i64 a0_0, .slice A0_1 l0_1.length c0_1, .slice A0_2 l0_2.length c0_2], .int .i64 a1] w fun e w' => e = .returned (.bool r) ∧ Below w.heap.size w w' := by
  have hu43 := Try.underlying43
  have hu33 := Try.underlying33
  have HR0_1 := Aside0.mk hr0_1
  have HC0_1 := Aside0.mk hc0_1
  clear hr0_1 hc0_1
  have HR0_2 := Aside0.mk hr0_2
  have HC0_2 := Aside0.mk hc0_2
  clear hr0_2 hc0_2
  have HB := Aside0.mk (Below.refl w.heap.size w)
  have H : ((laws_szView.f a0_0 l0_1 l0_2 1048576).bind fun t102 => (if t102 < 0 then (some true) else ((laws_toView.f k a0_0 l0_1 l0_2).bind fun bt103 => ((spec_Places.f k bt103.1 bt103.2.1 bt103.2.2 a1).bind fun t110 => ((laws_toView.f k a0_0 l0_1 l0_2).bind fun bt113 => ((impl_Places.f bt113.1 bt113.2.1 bt113.2.2 a1).bind fun t121 => ((laws_eqIntS.f k t121 t110).bind fun t124 => (if t124 = true then ((laws_toView.f k a0_0 l0_1 l0_2).bind fun bt125 => ((laws_eqView.f k bt113.1 bt113.2.1 bt113.2.2 bt125.1 bt125.2.1 bt125.2.2).bind fun t132 => (if t132 = true then ((laws_markView.f k bt113.1 bt113.2.1 bt113.2.2 1).bind fun bt133 => (if bt133.1 < 0 then (laws_FnExactPlaces.j0 k a1 t110 t121 true a0_0 l0_1 l0_2) else ((laws_eqIntS.f k t121 t110).bind fun t136 => (laws_FnExactPlaces.j0 k a1 t110 t121 (!t136) a0_0 l0_1 l0_2)))) else (some false)))) else (some false))))))))) = some r := h
  clear h
  replace H := Option.bind_eq_some_iff.mp H
  obtain ⟨t102, A30, H⟩ := H
  replace H : (if t102 < 0 then (some true) else ((laws_toView.f k a0_0 l0_1 l0_2).bind fun bt103 => ((spec_Places.f k bt103.1 bt103.2.1 bt103.2.2 a1).bind fun t110 => ((laws_toView.f k a0_0 l0_1 l0_2).bind fun bt113 => ((impl_Places.f bt113.1 bt113.2.1 bt113.2.2 a1).bind fun t121 => ((laws_eqIntS.f k t121 t110).bind fun t124 => (if t124 = true then ((laws_toView.f k a0_0 l0_1 l0_2).bind fun bt125 => ((laws_eqView.f k bt113.1 bt113.2.1 bt113.2.2 bt125.1 bt125.2.1 bt125.2.2).bind fun t132 => (if t132 = true then ((laws_markView.f k bt113.1 bt113.2.1 bt113.2.2 1).bind fun bt133 => (if bt133.1 < 0 then (laws_FnExactPlaces.j0 k a1 t110 t121 true a0_0 l0_1 l0_2) else ((laws_eqIntS.f k t121 t110).bind fun t136 => (laws_FnExactPlaces.j0 k a1 t110 t121 (!t136) a0_0 l0_1 l0_2)))) else (some false)))) else (some false)))))))) = some r := H
  have A3 := Aside0.mk A30
  clear A30
  by_cases c4 : t102 < 0
  · rw [if_pos c4] at H
    have c4b0 : decide (t102 < 0) = true := decide_eq_true c4
    clear c4
    obtain rfl := Option.some.inj H
    go_enter Try.func13, Try.ntmps13
    go_wp2_with (first | ((with_reducible refine gate_dst (N := 2) rfl ?_); refine box_event ?hg (N := 2) ?hd (cs := #[.int .i64 a0_0, .slice A0_1 l0_1.length c0_1, .slice A0_2 l0_2.length c0_2]) (t := 43) ?hr ?_; (case hd => rfl); (case hg => rfl); (case hr => first | (go_simp; done) | (go_simp; rfl)); intro gb101 hg w5 hbox hb; have n0_ := Aside0.mk (below_step (by repeat (first | (with_reducible first | exact HB.out | apply below_alloc | apply pw_below_drewN | apply below_drew1) | exact HB.out)) hb); have n1_ := Aside0.mk (hbox); have n2_ := Aside0.mk ((by rw [hg]; exact (below_size (by repeat (first | (with_reducible first | exact HB.out | apply below_alloc | apply pw_below_drewN | apply below_drew1) | exact HB.out))) : w.heap.size ≤ gb101)); have n3_ := Aside0.mk ((by rw [hg]; exact (below_size (by repeat (first | (with_reducible first | exact HB.out | apply below_alloc | apply pw_below_drewN | apply below_drew1) | exact HB.out))) : w.heap.size ≤ gb101)); clear HB; have HB := n0_; have BK101 := n1_; have GW101 := n2_; have GE101 := n3_; clear n0_ n1_ n2_ n3_; clear hb hbox hg; have hcz6_0 : w5.cell? ⟨gb101, 0, none⟩ = some (.int .i64 a0_0) := (blk_cell BK101.out 0).trans rfl; have hcz6_1 : w5.cell? ⟨gb101, 1, none⟩ = some (.slice A0_1 l0_1.length c0_1) := (blk_cell BK101.out 1).trans rfl; have hcz6_2 : w5.cell? ⟨gb101, 2, none⟩ = some (.slice A0_2 l0_2.length c0_2) := (blk_cell BK101.out 2).trans rfl; have hfz6_0 := blk_frozen BK101.out 0; have hfz6_1 := blk_frozen BK101.out 1; have hfz6_2 := blk_frozen BK101.out 2) | ((with_reducible refine gate_callee (f := 30) rfl ?_); refine goesL_ (some 15) rfl rfl Try.func30 (by kernel_rfl) rfl #[.agg #[.int .i64 a0_0, .slice A0_1 l0_1.length c0_1, .slice A0_2 l0_2.length c0_2], .int .i64 1048576] rfl (by (try simp only [List.map_toArray, List.map_cons, List.map_nil]); first | done | rfl | (simp only [List.length_drop, List.length_take]; rfl)) ?_; (with_reducible refine (laws_szView.calls a0_0 _ _ l0_1 _ _ l0_2 1048576 t102 _ ?side1 ?side2 ?side3 ?side4 A3.out).mono ?_); (case side1 => repeat (first | exact (Kd.C_below HR0_1.out HB.out) | (with_reducible refine Kd.C_alloc ?_ _) | (with_reducible refine Kd.C_drewN ?_ _) | (with_reducible refine Kd.C_drew ?_))); (case side2 => exact HC0_1.out); (case side3 => repeat (first | exact (Kd.C_below HR0_2.out HB.out) | (with_reducible refine Kd.C_alloc ?_ _) | (with_reducible refine Kd.C_drewN ?_ _) | (with_reducible refine Kd.C_drew ?_))); (case side4 => exact HC0_2.out); rintro e w7 ⟨rfl, hb⟩; refine ⟨_, rfl, ?_⟩; have n0_ := Aside0.mk (blk_below (g := gb101) (o := .cells #[.int .i64 a0_0, .slice A0_1 l0_1.length c0_1, .slice A0_2 l0_2.length c0_2] 43 (0, 0)) (by (with_reducible repeat (first | refine blk_drewN ?_ _ | refine blk_drew ?_ | refine blk_alloc ?_ _)); exact BK101.out) hb); have n1_ := Aside0.mk (below_step (by repeat (first | (with_reducible first | exact HB.out | apply below_alloc | apply pw_below_drewN | apply below_drew1 | refine below_set ?_ GE101.out) | exact HB.out)) hb); clear BK101; clear HB; have BK101 := n0_; have HB := n1_; clear n0_ n1_; (try clear hb); (try clear hb2); (try clear hk); (try clear hi)))
    go_ret
    exact ⟨by first | rfl | (simp [errW_none, errW_some] <;> rfl) | (simp [*, errW_none, errW_some] <;> rfl), by repeat (first | (with_reducible first | exact HB.out | apply below_alloc | apply pw_below_drewN | apply below_drew1 | refine below_set ?_ GE101.out) | exact HB.out)⟩
  · rw [if_neg c4] at H
    have c4b0 : decide (t102 < 0) = false := decide_eq_false c4
    clear c4
    replace H := Option.bind_eq_some_iff.mp H
    obtain ⟨⟨t103, t104, t107⟩, A80, H⟩ := H
    replace H : ((spec_Places.f k t103 t104 t107 a1).bind fun t110 => ((laws_toView.f k a0_0 l0_1 l0_2).bind fun bt113 => ((impl_Places.f bt113.1 bt113.2.1 bt113.2.2 a1).bind fun t121 => ((laws_eqIntS.f k t121 t110).bind fun t124 => (if t124 = true then ((laws_toView.f k a0_0 l0_1 l0_2).bind fun bt125 => ((laws_eqView.f k bt113.1 bt113.2.1 bt113.2.2 bt125.1 bt125.2.1 bt125.2.2).bind fun t132 => (if t132 = true then ((laws_markView.f k bt113.1 bt113.2.1 bt113.2.2 1).bind fun bt133 => (if bt133.1 < 0 then (laws_FnExactPlaces.j0 k a1 t110 t121 true a0_0 l0_1 l0_2) else ((laws_eqIntS.f k t121 t110).bind fun t136 => (laws_FnExactPlaces.j0 k a1 t110 t121 (!t136) a0_0 l0_1 l0_2)))) else (some false)))) else (some false)))))) = some r := H
    have A8 := Aside0.mk A80
    clear A80
    replace H := Option.bind_eq_some_iff.mp H
    obtain ⟨t110, A90, H⟩ := H
    replace H : ((laws_toView.f k a0_0 l0_1 l0_2).bind fun bt113 => ((impl_Places.f bt113.1 bt113.2.1 bt113.2.2 a1).bind fun t121 => ((laws_eqIntS.f k t121 t110).bind fun t124 => (if t124 = true then ((laws_toView.f k a0_0 l0_1 l0_2).bind fun bt125 => ((laws_eqView.f k bt113.1 bt113.2.1 bt113.2.2 bt125.1 bt125.2.1 bt125.2.2).bind fun t132 => (if t132 = true then ((laws_markView.f k bt113.1 bt113.2.1 bt113.2.2 1).bind fun bt133 => (if bt133.1 < 0 then (laws_FnExactPlaces.j0 k a1 t110 t121 true a0_0 l0_1 l0_2) else ((laws_eqIntS.f k t121 t110).bind fun t136 => (laws_FnExactPlaces.j0 k a1 t110 t121 (!t136) a0_0 l0_1 l0_2)))) else (some false)))) else (some false))))) = some r := H
    have A9 := Aside0.mk A90
    clear A90
    replace H := Option.bind_eq_some_iff.mp H
    obtain ⟨⟨t113, t114, t117⟩, A100, H⟩ := H
    replace H : ((impl_Places.f t113 t114 t117 a1).bind fun t121 => ((laws_eqIntS.f k t121 t110).bind fun t124 => (if t124 = true then ((laws_toView.f k a0_0 l0_1 l0_2).bind fun bt125 => ((laws_eqView.f k t113 t114 t117 bt125.1 bt125.2.1 bt125.2.2).bind fun t132 => (if t132 = true then ((laws_markView.f k t113 t114 t117 1).bind fun bt133 => (if bt133.1 < 0 then (laws_FnExactPlaces.j0 k a1 t110 t121 true a0_0 l0_1 l0_2) else ((laws_eqIntS.f k t121 t110).bind fun t136 => (laws_FnExactPlaces.j0 k a1 t110 t121 (!t136) a0_0 l0_1 l0_2)))) else (some false)))) else (some false)))) = some r := H
    have A10 := Aside0.mk A100
    clear A100
    replace H := Option.bind_eq_some_iff.mp H
    obtain ⟨t121, A110, H⟩ := H
    replace H : ((laws_eqIntS.f k t121 t110).bind fun t124 => (if t124 = true then ((laws_toView.f k a0_0 l0_1 l0_2).bind fun bt125 => ((laws_eqView.f k t113 t114 t117 bt125.1 bt125.2.1 bt125.2.2).bind fun t132 => (if t132 = true then ((laws_markView.f k t113 t114 t117 1).bind fun bt133 => (if bt133.1 < 0 then (laws_FnExactPlaces.j0 k a1 t110 t121 true a0_0 l0_1 l0_2) else ((laws_eqIntS.f k t121 t110).bind fun t136 => (laws_FnExactPlaces.j0 k a1 t110 t121 (!t136) a0_0 l0_1 l0_2)))) else (some false)))) else (some false))) = some r := H
    have A11 := Aside0.mk A110
    clear A110
    replace H := Option.bind_eq_some_iff.mp H
    obtain ⟨t124, A120, H⟩ := H
    replace H : (if t124 = true then ((laws_toView.f k a0_0 l0_1 l0_2).bind fun bt125 => ((laws_eqView.f k t113 t114 t117 bt125.1 bt125.2.1 bt125.2.2).bind fun t132 => (if t132 = true then ((laws_markView.f k t113 t114 t117 1).bind fun bt133 => (if bt133.1 < 0 then (laws_FnExactPlaces.j0 k a1 t110 t121 true a0_0 l0_1 l0_2) else ((laws_eqIntS.f k t121 t110).bind fun t136 => (laws_FnExactPlaces.j0 k a1 t110 t121 (!t136) a0_0 l0_1 l0_2)))) else (some false)))) else (some false)) = some r := H
    have A12 := Aside0.mk A120
    clear A120
    by_cases c13 : t124 = true
    · subst c13
      have H1 : ((laws_toView.f k a0_0 l0_1 l0_2).bind fun bt125 => ((laws_eqView.f k t113 t114 t117 bt125.1 bt125.2.1 bt125.2.2).bind fun t132 => (if t132 = true then ((laws_markView.f k t113 t114 t117 1).bind fun bt133 => (if bt133.1 < 0 then (laws_FnExactPlaces.j0 k a1 t110 t121 true a0_0 l0_1 l0_2) else ((laws_eqIntS.f k t121 t110).bind fun t136 => (laws_FnExactPlaces.j0 k a1 t110 t121 (!t136) a0_0 l0_1 l0_2)))) else (some false)))) = some r := by rw [if_pos rfl] at H; exact H
      clear H
      have H := H1
      clear H1
      replace H := Option.bind_eq_some_iff.mp H
      obtain ⟨⟨t125, t126, t129⟩, A140, H⟩ := H
      replace H : ((laws_eqView.f k t113 t114 t117 t125 t126 t129).bind fun t132 => (if t132 = true then ((laws_markView.f k t113 t114 t117 1).bind fun bt133 => (if bt133.1 < 0 then (laws_FnExactPlaces.j0 k a1 t110 t121 true a0_0 l0_1 l0_2) else ((laws_eqIntS.f k t121 t110).bind fun t136 => (laws_FnExactPlaces.j0 k a1 t110 t121 (!t136) a0_0 l0_1 l0_2)))) else (some false))) = some r := H
      have A14 := Aside0.mk A140
      clear A140
      replace H := Option.bind_eq_some_iff.mp H
      obtain ⟨t132, A150, H⟩ := H
      replace H : (if t132 = true then ((laws_markView.f k t113 t114 t117 1).bind fun bt133 => (if bt133.1 < 0 then (laws_FnExactPlaces.j0 k a1 t110 t121 true a0_0 l0_1 l0_2) else ((laws_eqIntS.f k t121 t110).bind fun t136 => (laws_FnExactPlaces.j0 k a1 t110 t121 (!t136) a0_0 l0_1 l0_2)))) else (some false)) = some r := H
      have A15 := Aside0.mk A150
      clear A150
      by_cases c16 : t132 = true
      · subst c16
        have H1 : ((laws_markView.f k t113 t114 t117 1).bind fun bt133 => (if bt133.1 < 0 then (laws_FnExactPlaces.j0 k a1 t110 t121 true a0_0 l0_1 l0_2) else ((laws_eqIntS.f k t121 t110).bind fun t136 => (laws_FnExactPlaces.j0 k a1 t110 t121 (!t136) a0_0 l0_1 l0_2)))) = some r := by rw [if_pos rfl] at H; exact H
        clear H
        have H := H1
        clear H1
        replace H := Option.bind_eq_some_iff.mp H
        obtain ⟨⟨t133, t134, t135⟩, A170, H⟩ := H
        replace H : (if t133 < 0 then (laws_FnExactPlaces.j0 k a1 t110 t121 true a0_0 l0_1 l0_2) else ((laws_eqIntS.f k t121 t110).bind fun t136 => (laws_FnExactPlaces.j0 k a1 t110 t121 (!t136) a0_0 l0_1 l0_2))) = some r := H
        have A17 := Aside0.mk A170
        clear A170
        have HC18 := Aside0.mk H
        clear H
        go_enter Try.func13, Try.ntmps13
        try go_wp2_with (first | ((with_reducible refine gate_dst (N := 2) rfl ?_); refine box_event ?hg (N := 2) ?hd (cs := #[.int .i64 a0_0, .slice A0_1 l0_1.length c0_1, .slice A0_2 l0_2.length c0_2]) (t := 43) ?hr ?_; (case hd => rfl); (case hg => rfl); (case hr => first | (go_simp; done) | (go_simp; rfl)); intro gb101 hg w19 hbox hb; have n0_ := Aside0.mk (below_step (by repeat (first | (with_reducible first | exact HB.out | apply below_alloc | apply pw_below_drewN | apply below_drew1) | exact HB.out)) hb); have n1_ := Aside0.mk (hbox); have n2_ := Aside0.mk ((by rw [hg]; exact (below_size (by repeat (first | (with_reducible first | exact HB.out | apply below_alloc | apply pw_below_drewN | apply below_drew1) | exact HB.out))) : w.heap.size ≤ gb101)); have n3_ := Aside0.mk ((by rw [hg]; exact (below_size (by repeat (first | (with_reducible first | exact HB.out | apply below_alloc | apply pw_below_drewN | apply below_drew1) | exact HB.out))) : w.heap.size ≤ gb101)); clear HB; have HB := n0_; have BK101 := n1_; have GW101 := n2_; have GE101 := n3_; clear n0_ n1_ n2_ n3_; clear hb hbox hg; have hcz20_0 : w19.cell? ⟨gb101, 0, none⟩ = some (.int .i64 a0_0) := (blk_cell BK101.out 0).trans rfl; have hcz20_1 : w19.cell? ⟨gb101, 1, none⟩ = some (.slice A0_1 l0_1.length c0_1) := (blk_cell BK101.out 1).trans rfl; have hcz20_2 : w19.cell? ⟨gb101, 2, none⟩ = some (.slice A0_2 l0_2.length c0_2) := (blk_cell BK101.out 2).trans rfl; have hfz20_0 := blk_frozen BK101.out 0; have hfz20_1 := blk_frozen BK101.out 1; have hfz20_2 := blk_frozen BK101.out 2) | ((with_reducible refine gate_callee (f := 30) rfl ?_); refine goesL_ (some 15) rfl rfl Try.func30 (by kernel_rfl) rfl #[.agg #[.int .i64 a0_0, .slice A0_1 l0_1.length c0_1, .slice A0_2 l0_2.length c0_2], .int .i64 1048576] rfl (by (try simp only [List.map_toArray, List.map_cons, List.map_nil]); first | done | rfl | (simp only [List.length_drop, List.length_take]; rfl)) ?_; (with_reducible refine (laws_szView.calls a0_0 _ _ l0_1 _ _ l0_2 1048576 t102 _ ?side1 ?side2 ?side3 ?side4 A3.out).mono ?_); (case side1 => repeat (first | exact (Kd.C_below HR0_1.out HB.out) | (with_reducible refine Kd.C_alloc ?_ _) | (with_reducible refine Kd.C_drewN ?_ _) | (with_reducible refine Kd.C_drew ?_))); (case side2 => exact HC0_1.out); (case side3 => repeat (first | exact (Kd.C_below HR0_2.out HB.out) | (with_reducible refine Kd.C_alloc ?_ _) | (with_reducible refine Kd.C_drewN ?_ _) | (with_reducible refine Kd.C_drew ?_))); (case side4 => exact HC0_2.out); rintro e w21 ⟨rfl, hb⟩; refine ⟨_, rfl, ?_⟩; have n0_ := Aside0.mk (blk_below (g := gb101) (o := .cells #[.int .i64 a0_0, .slice A0_1 l0_1.length c0_1, .slice A0_2 l0_2.length c0_2] 43 (0, 0)) (by (with_reducible repeat (first | refine blk_drewN ?_ _ | refine blk_drew ?_ | refine blk_alloc ?_ _)); exact BK101.out) hb); have n1_ := Aside0.mk (below_step (by repeat (first | (with_reducible first | exact HB.out | apply below_alloc | apply pw_below_drewN | apply below_drew1 | refine below_set ?_ GE101.out) | exact HB.out)) hb); clear BK101; clear HB; have BK101 := n0_; have HB := n1_; clear n0_ n1_; (try clear hb); (try clear hb2); (try clear hk); (try clear hi); have hcz22_0 : w21.cell? ⟨gb101, 0, none⟩ = some (.int .i64 a0_0) := (blk_cell BK101.out 0).trans rfl; have hcz22_1 : w21.cell? ⟨gb101, 1, none⟩ = some (.slice A0_1 l0_1.length c0_1) := (blk_cell BK101.out 1).trans rfl; have hcz22_2 : w21.cell? ⟨gb101, 2, none⟩ = some (.slice A0_2 l0_2.length c0_2) := (blk_cell BK101.out 2).trans rfl; have hfz22_0 := blk_frozen BK101.out 0; have hfz22_1 := blk_frozen BK101.out 1; have hfz22_2 := blk_frozen BK101.out 2) | ((with_reducible refine gate_callee (f := 32) rfl ?_); refine goesL_ (some 19) rfl rfl Try.func32 (by kernel_rfl) rfl #[.agg #[.int .i64 a0_0, .slice A0_1 l0_1.length c0_1, .slice A0_2 l0_2.length c0_2]] rfl (by (try simp only [List.map_toArray, List.map_cons, List.map_nil]); first | done | rfl | (simp only [List.length_drop, List.length_take]; rfl)) ?_; (with_reducible refine (laws_toView.calls k a0_0 _ _ l0_1 _ _ l0_2 t103 t104 t107 _ ?side1 ?side2 ?side3 ?side4 A8.out).mono ?_); (case side1 => repeat (first | exact (Kd.C_below HR0_1.out HB.out) | (with_reducible refine Kd.C_alloc ?_ _) | (with_reducible refine Kd.C_drewN ?_ _) | (with_reducible refine Kd.C_drew ?_))); (case side2 => exact HC0_1.out); (case side3 => repeat (first | exact (Kd.C_below HR0_2.out HB.out) | (with_reducible refine Kd.C_alloc ?_ _) | (with_reducible refine Kd.C_drewN ?_ _) | (with_reducible refine Kd.C_drew ?_))); (case side4 => exact HC0_2.out); rintro e w23 ⟨v105, v108, rfl, ho0, ho1, hb⟩; refine ⟨_, rfl, ?_⟩; have n0_ := Aside0.mk (Kd.R_lower ho0 (below_size (by repeat (first | (with_reducible first | exact HB.out | apply below_alloc | apply pw_below_drewN | apply below_drew1 | refine below_set ?_ GE101.out) | exact HB.out)))); have n1_ := Aside0.mk (Kd.R_lower ho1 (below_size (by repeat (first | (with_reducible first | exact HB.out | apply below_alloc | apply pw_below_drewN | apply below_drew1 | refine below_set ?_ GE101.out) | exact HB.out)))); have n2_ := Aside0.mk (blk_below (g := gb101) (o := .cells #[.int .i64 a0_0, .slice A0_1 l0_1.length c0_1, .slice A0_2 l0_2.length c0_2] 43 (0, 0)) (by (with_reducible repeat (first | refine blk_drewN ?_ _ | refine blk_drew ?_ | refine blk_alloc ?_ _)); exact BK101.out) hb); have n3_ := Aside0.mk (below_step (by repeat (first | (with_reducible first | exact HB.out | apply below_alloc | apply pw_below_drewN | apply below_drew1 | refine below_set ?_ GE101.out) | exact HB.out)) hb); clear BK101; clear HB; have HO106 := n0_; have HO109 := n1_; have BK101 := n2_; have HB := n3_; clear n0_ n1_ n2_ n3_; (try clear hb); (try clear hb2); (try clear hk); (try clear hi); (try clear ho0); (try clear ho1); obtain ⟨Ao24, co24, eo24⟩ := Kd.R_slice HO106.out; subst eo24; obtain ⟨Ao25, co25, eo25⟩ := Kd.R_slice HO109.out; subst eo25) | ((with_reducible refine gate_callee (f := 44) rfl ?_); refine goesL_ (some 21) rfl rfl Try.func44 (by kernel_rfl) rfl #[.agg #[.int .i64 t103, .slice Ao24 t104.length co24, .slice Ao25 t107.length co25], .int .i64 a1] rfl (by (try simp only [List.map_toArray, List.map_cons, List.map_nil]); first | done | rfl | (simp only [List.length_drop, List.length_take]; rfl)) ?_; (with_reducible refine (spec_Places.calls k t103 _ _ t104 _ _ t107 a1 t110 _ ?side1 ?side2 ?side3 ?side4 A9.out).mono ?_); (case side1 => repeat (first | exact (Kd.R_reads' HO106.out).2.2 | (with_reducible refine Kd.C_alloc ?_ _) | (with_reducible refine Kd.C_drewN ?_ _) | (with_reducible refine Kd.C_drew ?_))); (case side2 => exact (Kd.R_reads' HO106.out).2.1); (case side3 => repeat (first | exact (Kd.R_reads' HO109.out).2.2 | (with_reducible refine Kd.C_alloc ?_ _) | (with_reducible refine Kd.C_drewN ?_ _) | (with_reducible refine Kd.C_drew ?_))); (case side4 => exact (Kd.R_reads' HO109.out).2.1); rintro e w26 ⟨v111, rfl, ho0, hb⟩; refine ⟨_, rfl, ?_⟩; have n0_ := Aside0.mk (Kd.R_elder' (by (with_reducible repeat (first | apply Kd.R_alloc | apply Kd.R_drewN | apply Kd.R_drew)); exact HO106.out) (Kd.R_base ho0) hb); have n1_ := Aside0.mk (Kd.R_elder' (by (with_reducible repeat (first | apply Kd.R_alloc | apply Kd.R_drewN | apply Kd.R_drew)); exact HO109.out) (Kd.R_base ho0) hb); have n2_ := Aside0.mk (Kd.R_lower (Kd.R_new' (Kd.R_new' ho0 (Kd.R_lt (by (with_reducible repeat (first | apply Kd.R_alloc | apply Kd.R_drewN | apply Kd.R_drew)); exact HO106.out))) (Kd.R_lt (by (with_reducible repeat (first | apply Kd.R_alloc | apply Kd.R_drewN | apply Kd.R_drew)); exact HO109.out))) (below_size (by repeat (first | (with_reducible first | exact HB.out | apply below_alloc | apply pw_below_drewN | apply below_drew1 | refine below_set ?_ GE101.out) | exact HB.out)))); have n3_ := Aside0.mk (blk_below (g := gb101) (o := .cells #[.int .i64 a0_0, .slice A0_1 l0_1.length c0_1, .slice A0_2 l0_2.length c0_2] 43 (0, 0)) (by (with_reducible repeat (first | refine blk_drewN ?_ _ | refine blk_drew ?_ | refine blk_alloc ?_ _)); exact BK101.out) hb); have n4_ := Aside0.mk (below_step (by repeat (first | (with_reducible first | exact HB.out | apply below_alloc | apply pw_below_drewN | apply below_drew1 | refine below_set ?_ GE101.out) | exact HB.out)) hb); clear HO106; clear HO109; clear BK101; clear HB; have HO106 := n0_; have HO109 := n1_; have HO112 := n2_; have BK101 := n3_; have HB := n4_; clear n0_ n1_ n2_ n3_ n4_; (try clear hb); (try clear hb2); (try clear hk); (try clear hi); (try clear ho0); have hcz27_0 : w26.cell? ⟨gb101, 0, none⟩ = some (.int .i64 a0_0) := (blk_cell BK101.out 0).trans rfl; have hcz27_1 : w26.cell? ⟨gb101, 1, none⟩ = some (.slice A0_1 l0_1.length c0_1) := (blk_cell BK101.out 1).trans rfl; have hcz27_2 : w26.cell? ⟨gb101, 2, none⟩ = some (.slice A0_2 l0_2.length c0_2) := (blk_cell BK101.out 2).trans rfl; have hfz27_0 := blk_frozen BK101.out 0; have hfz27_1 := blk_frozen BK101.out 1; have hfz27_2 := blk_frozen BK101.out 2) | ((with_reducible refine gate_callee (f := 32) rfl ?_); refine goesL_ (some 23) rfl rfl Try.func32 (by kernel_rfl) rfl #[.agg #[.int .i64 a0_0, .slice A0_1 l0_1.length c0_1, .slice A0_2 l0_2.length c0_2]] rfl (by (try simp only [List.map_toArray, List.map_cons, List.map_nil]); first | done | rfl | (simp only [List.length_drop, List.length_take]; rfl)) ?_; (with_reducible refine (laws_toView.calls k a0_0 _ _ l0_1 _ _ l0_2 t113 t114 t117 _ ?side1 ?side2 ?side3 ?side4 A10.out).mono ?_); (case side1 => repeat (first | exact (Kd.C_below HR0_1.out HB.out) | (with_reducible refine Kd.C_alloc ?_ _) | (with_reducible refine Kd.C_drewN ?_ _) | (with_reducible refine Kd.C_drew ?_))); (case side2 => exact HC0_1.out); (case side3 => repeat (first | exact (Kd.C_below HR0_2.out HB.out) | (with_reducible refine Kd.C_alloc ?_ _) | (with_reducible refine Kd.C_drewN ?_ _) | (with_reducible refine Kd.C_drew ?_))); (case side4 => exact HC0_2.out); rintro e w28 ⟨v115, v118, rfl, ho0, ho1, hb⟩; refine ⟨_, rfl, ?_⟩; have n0_ := Aside0.mk (Kd.R_mono (Kd.R_told (Kd.R_told (Kd.R_old (by (with_reducible repeat (first | apply Kd.R_alloc | apply Kd.R_drewN | apply Kd.R_drew)); exact HO106.out) hb) (Kd.R_base ho0)) (Kd.R_base ho1)) (fun _ h_ => h_.1)); have n1_ := Aside0.mk (Kd.R_mono (Kd.R_told (Kd.R_told (Kd.R_old (by (with_reducible repeat (first | apply Kd.R_alloc | apply Kd.R_drewN | apply Kd.R_drew)); exact HO109.out) hb) (Kd.R_base ho0)) (Kd.R_base ho1)) (fun _ h_ => h_.1)); have n2_ := Aside0.mk (Kd.R_mono (Kd.R_told (Kd.R_told (Kd.R_old (by (with_reducible repeat (first | apply Kd.R_alloc | apply Kd.R_drewN | apply Kd.R_drew)); exact HO112.out) hb) (Kd.R_base ho0)) (Kd.R_base ho1)) (fun _ h_ => h_.1)); have n3_ := Aside0.mk (Kd.R_lower (Kd.R_new' (Kd.R_new' (Kd.R_new' ho0 (Kd.R_lt (by (with_reducible repeat (first | apply Kd.R_alloc | apply Kd.R_drewN | apply Kd.R_drew)); exact HO106.out))) (Kd.R_lt (by (with_reducible repeat (first | apply Kd.R_alloc | apply Kd.R_drewN | apply Kd.R_drew)); exact HO109.out))) (Kd.R_lt (by (with_reducible repeat (first | apply Kd.R_alloc | apply Kd.R_drewN | apply Kd.R_drew)); exact HO112.out))) (below_size (by repeat (first | (with_reducible first | exact HB.out | apply below_alloc | apply pw_below_drewN | apply below_drew1 | refine below_set ?_ GE101.out) | exact HB.out)))); have n4_ := Aside0.mk (Kd.R_lower (Kd.R_new' (Kd.R_new' (Kd.R_new' ho1 (Kd.R_lt (by (with_reducible repeat (first | apply Kd.R_alloc | apply Kd.R_drewN | apply Kd.R_drew)); exact HO106.out))) (Kd.R_lt (by (with_reducible repeat (first | apply Kd.R_alloc | apply Kd.R_drewN | apply Kd.R_drew)); exact HO109.out))) (Kd.R_lt (by (with_reducible repeat (first | apply Kd.R_alloc | apply Kd.R_drewN | apply Kd.R_drew)); exact HO112.out))) (below_size (by repeat (first | (with_reducible first | exact HB.out | apply below_alloc | apply pw_below_drewN | apply below_drew1 | refine below_set ?_ GE101.out) | exact HB.out)))); have n5_ := Aside0.mk (blk_below (g := gb101) (o := .cells #[.int .i64 a0_0, .slice A0_1 l0_1.length c0_1, .slice A0_2 l0_2.length c0_2] 43 (0, 0)) (by (with_reducible repeat (first | refine blk_drewN ?_ _ | refine blk_drew ?_ | refine blk_alloc ?_ _)); exact BK101.out) hb); have n6_ := Aside0.mk (below_step (by repeat (first | (with_reducible first | exact HB.out | apply below_alloc | apply pw_below_drewN | apply below_drew1 | refine below_set ?_ GE101.out) | exact HB.out)) hb); clear HO106; clear HO109; clear HO112; clear BK101; clear HB; have HO106 := n0_; have HO109 := n1_; have HO112 := n2_; have HO116 := n3_; have HO119 := n4_; have BK101 := n5_; have HB := n6_; clear n0_ n1_ n2_ n3_ n4_ n5_ n6_; (try clear hb); (try clear hb2); (try clear hk); (try clear hi); (try clear ho0); (try clear ho1)) | ((with_reducible refine gate_dst (N := 7) rfl ?_); refine box_event ?hg (N := 7) ?hd (cs := #[.int .i64 0, .slice none 0 0, .slice none 0 0]) (t := 33) ?hr ?_; (case hd => rfl); (case hg => rfl); (case hr => first | (go_simp; done) | (go_simp; rfl)); intro gb120 hg w29 hbox hb; have n0_ := Aside0.mk (Kd.R_below (by (with_reducible repeat (first | apply Kd.R_alloc | apply Kd.R_drewN | apply Kd.R_drew)); exact HO106.out) hb); have n1_ := Aside0.mk (Kd.R_below (by (with_reducible repeat (first | apply Kd.R_alloc | apply Kd.R_drewN | apply Kd.R_drew)); exact HO109.out) hb); have n2_ := Aside0.mk (Kd.R_below (by (with_reducible repeat (first | apply Kd.R_alloc | apply Kd.R_drewN | apply Kd.R_drew)); exact HO112.out) hb); have n3_ := Aside0.mk (Kd.R_below (by (with_reducible repeat (first | apply Kd.R_alloc | apply Kd.R_drewN | apply Kd.R_drew)); exact HO116.out) hb); have n4_ := Aside0.mk (Kd.R_below (by (with_reducible repeat (first | apply Kd.R_alloc | apply Kd.R_drewN | apply Kd.R_drew)); exact HO119.out) hb); have n5_ := Aside0.mk (blk_below (g := gb101) (o := .cells #[.int .i64 a0_0, .slice A0_1 l0_1.length c0_1, .slice A0_2 l0_2.length c0_2] 43 (0, 0)) (by (with_reducible repeat (first | refine blk_drewN ?_ _ | refine blk_drew ?_ | refine blk_alloc ?_ _)); exact BK101.out) hb); have n6_ := Aside0.mk (below_step (by repeat (first | (with_reducible first | exact HB.out | apply below_alloc | apply pw_below_drewN | apply below_drew1 | refine below_set ?_ GE101.out) | exact HB.out)) hb); have n7_ := Aside0.mk (hbox); have n8_ := Aside0.mk ((by rw [hg]; exact (below_size (by repeat (first | (with_reducible first | exact HB.out | apply below_alloc | apply pw_below_drewN | apply below_drew1 | refine below_set ?_ GE101.out) | exact HB.out))) : w.heap.size ≤ gb120)); have n9_ := Aside0.mk ((by rw [hg]; exact (below_size (by repeat (first | (with_reducible first | exact HB.out | apply below_alloc | apply pw_below_drewN | apply below_drew1 | refine below_set ?_ GE101.out) | exact HB.out))) : w.heap.size ≤ gb120)); have n10_ := Aside0.mk ((by rw [hg]; exact Nat.ne_of_lt (blk_lt (g := gb101) (o := .cells #[.int .i64 a0_0, .slice A0_1 l0_1.length c0_1, .slice A0_2 l0_2.length c0_2] 43 (0, 0)) (by (with_reducible repeat (first | refine blk_drewN ?_ _ | refine blk_drew ?_ | refine blk_alloc ?_ _)); exact BK101.out)) : gb101 ≠ gb120)); have n11_ := Aside0.mk ((by rw [hg]; exact Nat.ne_of_gt (blk_lt (g := gb101) (o := .cells #[.int .i64 a0_0, .slice A0_1 l0_1.length c0_1, .slice A0_2 l0_2.length c0_2] 43 (0, 0)) (by (with_reducible repeat (first | refine blk_drewN ?_ _ | refine blk_drew ?_ | refine blk_alloc ?_ _)); exact BK101.out)) : gb120 ≠ gb101)); clear HO106; clear HO109; clear HO112; clear HO116; clear HO119; clear BK101; clear HB; have HO106 := n0_; have HO109 := n1_; have HO112 := n2_; have HO116 := n3_; have HO119 := n4_; have BK101 := n5_; have HB := n6_; have BK120 := n7_; have GW120 := n8_; have GE120 := n9_; have NB101_120 := n10_; have NB120_101 := n11_; clear n0_ n1_ n2_ n3_ n4_ n5_ n6_ n7_ n8_ n9_ n10_ n11_; clear hb hbox hg; have hnb30 := NB120_101.out; have hnc30 := NB101_120.out; have hcz31_0 : w29.cell? ⟨gb120, 0, none⟩ = some (.int .i64 0) := (blk_cell BK120.out 0).trans rfl; have hcz31_1 : w29.cell? ⟨gb120, 1, none⟩ = some (.slice none 0 0) := (blk_cell BK120.out 1).trans rfl; have hcz31_2 : w29.cell? ⟨gb120, 2, none⟩ = some (.slice none 0 0) := (blk_cell BK120.out 2).trans rfl; have hfz31_0 := blk_frozen BK120.out 0; have hfz31_1 := blk_frozen BK120.out 1; have hfz31_2 := blk_frozen BK120.out 2; obtain ⟨Ao32, co32, eo32⟩ := Kd.R_slice HO116.out; subst eo32; obtain ⟨Ao33, co33, eo33⟩ := Kd.R_slice HO119.out; subst eo33) | ((with_reducible refine gate_callee (f := 45) rfl ?_); refine goesL_ (some 26) rfl rfl Try.func45 (by kernel_rfl) rfl #[.agg #[.int .i64 t113, .slice Ao32 t114.length co32, .slice Ao33 t117.length co33], .int .i64 a1] rfl (by (try simp only [List.map_toArray, List.map_cons, List.map_nil]); first | done | rfl | (simp only [List.length_drop, List.length_take]; rfl)) ?_; (with_reducible refine (impl_Places.calls t113 _ _ t114 _ _ t117 a1 t121 _ ?side1 ?side2 ?side3 ?side4 A11.out).mono ?_); (case side1 => refine (Kd.R_reads' (e := 3) (base := w.heap.size) (ok := fun k_ => (((some k_ ≠ (.slice Ao33 t117.length co33 : Value).ownBlock ∧ some k_ ≠ (.slice Ao24 t104.length co24 : Value).ownBlock) ∧ some k_ ≠ (.slice Ao25 t107.length co25 : Value).ownBlock) ∧ some k_ ≠ (v111 : Value).ownBlock)) (n := t114.length) (c := co32) ?_).2.2; exact (by (with_reducible repeat (first | apply Kd.R_alloc | apply Kd.R_drewN | apply Kd.R_drew)); exact (Kd.R_mono (Kd.R_far (p := ⟨gb120, 2, none⟩) (Kd.R_far (p := ⟨gb120, 1, none⟩) (Kd.R_far (p := ⟨gb120, 0, none⟩) (Kd.R_types HO116.out BK120.out (by decide)) (fun _ hk => hk.2) (.int .i64 t113)) (fun _ hk => hk.2) (.slice Ao32 t114.length co32)) (fun _ hk => hk.2) (.slice Ao33 t117.length co33)) (fun _ h_ => h_.1)))); (case side2 => exact (Kd.R_reads' HO116.out).2.1); (case side3 => refine (Kd.R_reads' (e := 3) (base := w.heap.size) (ok := fun k_ => (((some k_ ≠ (.slice Ao32 t114.length co32 : Value).ownBlock ∧ some k_ ≠ (.slice Ao24 t104.length co24 : Value).ownBlock) ∧ some k_ ≠ (.slice Ao25 t107.length co25 : Value).ownBlock) ∧ some k_ ≠ (v111 : Value).ownBlock)) (n := t117.length) (c := co33) ?_).2.2; exact (by (with_reducible repeat (first | apply Kd.R_alloc | apply Kd.R_drewN | apply Kd.R_drew)); exact (Kd.R_mono (Kd.R_far (p := ⟨gb120, 2, none⟩) (Kd.R_far (p := ⟨gb120, 1, none⟩) (Kd.R_far (p := ⟨gb120, 0, none⟩) (Kd.R_types HO119.out BK120.out (by decide)) (fun _ hk => hk.2) (.int .i64 t113)) (fun _ hk => hk.2) (.slice Ao32 t114.length co32)) (fun _ hk => hk.2) (.slice Ao33 t117.length co33)) (fun _ h_ => h_.1)))); (case side4 => exact (Kd.R_reads' HO119.out).2.1); rintro e w34 ⟨v122, rfl, ho0, hb⟩; refine ⟨_, rfl, ?_⟩; have n0_ := Aside0.mk (Kd.R_elder' (by (with_reducible repeat (first | apply Kd.R_alloc | apply Kd.R_drewN | apply Kd.R_drew)); exact (Kd.R_mono (Kd.R_far (p := ⟨gb120, 2, none⟩) (Kd.R_far (p := ⟨gb120, 1, none⟩) (Kd.R_far (p := ⟨gb120, 0, none⟩) (Kd.R_types HO106.out BK120.out (by decide)) (fun _ hk => hk.2) (.int .i64 t113)) (fun _ hk => hk.2) (.slice Ao32 t114.length co32)) (fun _ hk => hk.2) (.slice Ao33 t117.length co33)) (fun _ h_ => h_.1))) (Kd.R_base ho0) hb); have n1_ := Aside0.mk (Kd.R_elder' (by (with_reducible repeat (first | apply Kd.R_alloc | apply Kd.R_drewN | apply Kd.R_drew)); exact (Kd.R_mono (Kd.R_far (p := ⟨gb120, 2, none⟩) (Kd.R_far (p := ⟨gb120, 1, none⟩) (Kd.R_far (p := ⟨gb120, 0, none⟩) (Kd.R_types HO109.out BK120.out (by decide)) (fun _ hk => hk.2) (.int .i64 t113)) (fun _ hk => hk.2) (.slice Ao32 t114.length co32)) (fun _ hk => hk.2) (.slice Ao33 t117.length co33)) (fun _ h_ => h_.1))) (Kd.R_base ho0) hb); have n2_ := Aside0.mk (Kd.R_elder' (by (with_reducible repeat (first | apply Kd.R_alloc | apply Kd.R_drewN | apply Kd.R_drew)); exact (Kd.R_mono (Kd.R_far (p := ⟨gb120, 2, none⟩) (Kd.R_far (p := ⟨gb120, 1, none⟩) (Kd.R_far (p := ⟨gb120, 0, none⟩) (Kd.R_types HO112.out BK120.out (by decide)) (fun _ hk => hk.2) (.int .i64 t113)) (fun _ hk => hk.2) (.slice Ao32 t114.length co32)) (fun _ hk => hk.2) (.slice Ao33 t117.length co33)) (fun _ h_ => h_.1))) (Kd.R_base ho0) hb); have n3_ := Aside0.mk (Kd.R_elder' (by (with_reducible repeat (first | apply Kd.R_alloc | apply Kd.R_drewN | apply Kd.R_drew)); exact (Kd.R_mono (Kd.R_far (p := ⟨gb120, 2, none⟩) (Kd.R_far (p := ⟨gb120, 1, none⟩) (Kd.R_far (p := ⟨gb120, 0, none⟩) (Kd.R_types HO116.out BK120.out (by decide)) (fun _ hk => hk.2) (.int .i64 t113)) (fun _ hk => hk.2) (.slice Ao32 t114.length co32)) (fun _ hk => hk.2) (.slice Ao33 t117.length co33)) (fun _ h_ => h_.1))) (Kd.R_base ho0) hb); have n4_ := Aside0.mk (Kd.R_elder' (by (with_reducible repeat (first | apply Kd.R_alloc | apply Kd.R_drewN | apply Kd.R_drew)); exact (Kd.R_mono (Kd.R_far (p := ⟨gb120, 2, none⟩) (Kd.R_far (p := ⟨gb120, 1, none⟩) (Kd.R_far (p := ⟨gb120, 0, none⟩) (Kd.R_types HO119.out BK120.out (by decide)) (fun _ hk => hk.2) (.int .i64 t113)) (fun _ hk => hk.2) (.slice Ao32 t114.length co32)) (fun _ hk => hk.2) (.slice Ao33 t117.length co33)) (fun _ h_ => h_.1))) (Kd.R_base ho0) hb); have n5_ := Aside0.mk (Kd.R_lower (Kd.R_new' (Kd.R_new' (Kd.R_new' (Kd.R_new' (Kd.R_new' ho0 (Kd.R_lt (by (with_reducible repeat (first | apply Kd.R_alloc | apply Kd.R_drewN | apply Kd.R_drew)); exact (Kd.R_mono (Kd.R_far (p := ⟨gb120, 2, none⟩) (Kd.R_far (p := ⟨gb120, 1, none⟩) (Kd.R_far (p := ⟨gb120, 0, none⟩) (Kd.R_types HO106.out BK120.out (by decide)) (fun _ hk => hk.2) (.int .i64 t113)) (fun _ hk => hk.2) (.slice Ao32 t114.length co32)) (fun _ hk => hk.2) (.slice Ao33 t117.length co33)) (fun _ h_ => h_.1))))) (Kd.R_lt (by (with_reducible repeat (first | apply Kd.R_alloc | apply Kd.R_drewN | apply Kd.R_drew)); exact (Kd.R_mono (Kd.R_far (p := ⟨gb120, 2, none⟩) (Kd.R_far (p := ⟨gb120, 1, none⟩) (Kd.R_far (p := ⟨gb120, 0, none⟩) (Kd.R_types HO109.out BK120.out (by decide)) (fun _ hk => hk.2) (.int .i64 t113)) (fun _ hk => hk.2) (.slice Ao32 t114.length co32)) (fun _ hk => hk.2) (.slice Ao33 t117.length co33)) (fun _ h_ => h_.1))))) (Kd.R_lt (by (with_reducible repeat (first | apply Kd.R_alloc | apply Kd.R_drewN | apply Kd.R_drew)); exact (Kd.R_mono (Kd.R_far (p := ⟨gb120, 2, none⟩) (Kd.R_far (p := ⟨gb120, 1, none⟩) (Kd.R_far (p := ⟨gb120, 0, none⟩) (Kd.R_types HO112.out BK120.out (by decide)) (fun _ hk => hk.2) (.int .i64 t113)) (fun _ hk => hk.2) (.slice Ao32 t114.length co32)) (fun _ hk => hk.2) (.slice Ao33 t117.length co33)) (fun _ h_ => h_.1))))) (Kd.R_lt (by (with_reducible repeat (first | apply Kd.R_alloc | apply Kd.R_drewN | apply Kd.R_drew)); exact (Kd.R_mono (Kd.R_far (p := ⟨gb120, 2, none⟩) (Kd.R_far (p := ⟨gb120, 1, none⟩) (Kd.R_far (p := ⟨gb120, 0, none⟩) (Kd.R_types HO116.out BK120.out (by decide)) (fun _ hk => hk.2) (.int .i64 t113)) (fun _ hk => hk.2) (.slice Ao32 t114.length co32)) (fun _ hk => hk.2) (.slice Ao33 t117.length co33)) (fun _ h_ => h_.1))))) (Kd.R_lt (by (with_reducible repeat (first | apply Kd.R_alloc | apply Kd.R_drewN | apply Kd.R_drew)); exact (Kd.R_mono (Kd.R_far (p := ⟨gb120, 2, none⟩) (Kd.R_far (p := ⟨gb120, 1, none⟩) (Kd.R_far (p := ⟨gb120, 0, none⟩) (Kd.R_types HO119.out BK120.out (by decide)) (fun _ hk => hk.2) (.int .i64 t113)) (fun _ hk => hk.2) (.slice Ao32 t114.length co32)) (fun _ hk => hk.2) (.slice Ao33 t117.length co33)) (fun _ h_ => h_.1))))) (below_size (by repeat (first | (with_reducible first | exact HB.out | apply below_alloc | apply pw_below_drewN | apply below_drew1 | refine below_set ?_ GE101.out | refine below_set ?_ GE120.out) | exact HB.out)))); have n6_ := Aside0.mk (blk_below (g := gb101) (o := .cells #[.int .i64 a0_0, .slice A0_1 l0_1.length c0_1, .slice A0_2 l0_2.length c0_2] 43 (0, 0)) (by (with_reducible repeat (first | refine blk_drewN ?_ _ | refine blk_drew ?_ | refine blk_alloc ?_ _)); refine blk_far ?_ NB101_120.out _; (with_reducible repeat (first | refine blk_drewN ?_ _ | refine blk_drew ?_ | refine blk_alloc ?_ _)); refine blk_far ?_ NB101_120.out _; (with_reducible repeat (first | refine blk_drewN ?_ _ | refine blk_drew ?_ | refine blk_alloc ?_ _)); refine blk_far ?_ NB101_120.out _; (with_reducible repeat (first | refine blk_drewN ?_ _ | refine blk_drew ?_ | refine blk_alloc ?_ _)); exact BK101.out) hb); have n7_ := Aside0.mk (blk_below (g := gb120) (o := .cells #[.int .i64 t113, .slice Ao32 t114.length co32, .slice Ao33 t117.length co33] 33 (0, 0)) (by (with_reducible repeat (first | refine blk_drewN ?_ _ | refine blk_drew ?_ | refine blk_alloc ?_ _)); refine blk_put (cs := #[.int .i64 t113, .slice Ao32 t114.length co32, .slice none 0 0]) ?_ 2 _ rfl; (with_reducible repeat (first | refine blk_drewN ?_ _ | refine blk_drew ?_ | refine blk_alloc ?_ _)); refine blk_put (cs := #[.int .i64 t113, .slice none 0 0, .slice none 0 0]) ?_ 1 _ rfl; (with_reducible repeat (first | refine blk_drewN ?_ _ | refine blk_drew ?_ | refine blk_alloc ?_ _)); refine blk_put (cs := #[.int .i64 0, .slice none 0 0, .slice none 0 0]) ?_ 0 _ rfl; (with_reducible repeat (first | refine blk_drewN ?_ _ | refine blk_drew ?_ | refine blk_alloc ?_ _)); exact BK120.out) hb); have n8_ := Aside0.mk (below_step (by repeat (first | (with_reducible first | exact HB.out | apply below_alloc | apply pw_below_drewN | apply below_drew1 | refine below_set ?_ GE101.out | refine below_set ?_ GE120.out) | exact HB.out)) hb); clear HO106; clear HO109; clear HO112; clear HO116; clear HO119; clear BK101; clear BK120; clear HB; have HO106 := n0_; have HO109 := n1_; have HO112 := n2_; have HO116 := n3_; have HO119 := n4_; have HO123 := n5_; have BK101 := n6_; have BK120 := n7_; have HB := n8_; clear n0_ n1_ n2_ n3_ n4_ n5_ n6_ n7_ n8_; (try clear hb); (try clear hb2); (try clear hk); (try clear hi); (try clear ho0); obtain ⟨Ao35, co35, eo35⟩ := Kd.R_slice HO123.out; subst eo35; obtain ⟨Ao36, co36, eo36⟩ := Kd.R_slice HO112.out; subst eo36) | ((with_reducible refine gate_callee (f := 24) rfl ?_); refine goesL_ (some 29) rfl rfl Try.func24 (by kernel_rfl) rfl #[.slice Ao35 t121.length co35, .slice Ao36 t110.length co36] rfl (by (try simp only [List.map_toArray, List.map_cons, List.map_nil]); first | done | rfl | (simp only [List.length_drop, List.length_take]; rfl)) ?_; (with_reducible refine (laws_eqIntS.calls k _ _ t121 _ _ t110 true _ ?side1 ?side2 ?side3 ?side4 A12.out).mono ?_); (case side1 => repeat (first | exact (Kd.R_reads' HO123.out).2.2 | (with_reducible refine Kd.C_alloc ?_ _) | (with_reducible refine Kd.C_drewN ?_ _) | (with_reducible refine Kd.C_drew ?_))); (case side2 => exact (Kd.R_reads' HO123.out).2.1); (case side3 => repeat (first | exact (Kd.R_reads' HO112.out).2.2 | (with_reducible refine Kd.C_alloc ?_ _) | (with_reducible refine Kd.C_drewN ?_ _) | (with_reducible refine Kd.C_drew ?_))); (case side4 => exact (Kd.R_reads' HO112.out).2.1); rintro e w' ⟨rfl, ⟨nd, rfl⟩⟩; refine ⟨_, rfl, ?_⟩))
        (try (rw [drewN_self w34]; generalize hq_ : World.drewN w34 _ = w34; have n0_ : Aside0 (Kd.R (Kd.int .i64) 3 w34 w.heap.size (fun k_ => some k_ ≠ (.slice Ao25 t107.length co25 : Value).ownBlock ∧ some k_ ≠ (.slice Ao36 t110.length co36 : Value).ownBlock ∧ some k_ ≠ (.slice Ao32 t114.length co32 : Value).ownBlock ∧ some k_ ≠ (.slice Ao33 t117.length co33 : Value).ownBlock ∧ some k_ ≠ (.slice Ao35 t121.length co35 : Value).ownBlock) (.slice Ao24 t104.length co24) t104) := ⟨by rw [← hq_]; exact (by (with_reducible repeat (first | apply Kd.R_alloc | apply Kd.R_drewN | apply Kd.R_drew)); exact Kd.R_mono HO106.out (fun _ hk => (by revert hk; simp only [and_imp]; intros; refine ⟨?_, ⟨?_, ⟨?_, ⟨?_, ?_⟩⟩⟩⟩ <;> assumption)))⟩; have n1_ : Aside0 (Kd.R (Kd.int .i64) 3 w34 w.heap.size (fun k_ => some k_ ≠ (.slice Ao24 t104.length co24 : Value).ownBlock ∧ some k_ ≠ (.slice Ao36 t110.length co36 : Value).ownBlock ∧ some k_ ≠ (.slice Ao32 t114.length co32 : Value).ownBlock ∧ some k_ ≠ (.slice Ao33 t117.length co33 : Value).ownBlock ∧ some k_ ≠ (.slice Ao35 t121.length co35 : Value).ownBlock) (.slice Ao25 t107.length co25) t107) := ⟨by rw [← hq_]; exact (by (with_reducible repeat (first | apply Kd.R_alloc | apply Kd.R_drewN | apply Kd.R_drew)); exact Kd.R_mono HO109.out (fun _ hk => (by revert hk; simp only [and_imp]; intros; refine ⟨?_, ⟨?_, ⟨?_, ⟨?_, ?_⟩⟩⟩⟩ <;> assumption)))⟩; have n2_ : Aside0 (Kd.R (Kd.int .i64) 3 w34 w.heap.size (fun k_ => some k_ ≠ (.slice Ao24 t104.length co24 : Value).ownBlock ∧ some k_ ≠ (.slice Ao25 t107.length co25 : Value).ownBlock ∧ some k_ ≠ (.slice Ao32 t114.length co32 : Value).ownBlock ∧ some k_ ≠ (.slice Ao33 t117.length co33 : Value).ownBlock ∧ some k_ ≠ (.slice Ao35 t121.length co35 : Value).ownBlock) (.slice Ao36 t110.length co36) t110) := ⟨by rw [← hq_]; exact (by (with_reducible repeat (first | apply Kd.R_alloc | apply Kd.R_drewN | apply Kd.R_drew)); exact Kd.R_mono HO112.out (fun _ hk => (by revert hk; simp only [and_imp]; intros; refine ⟨?_, ⟨?_, ⟨?_, ⟨?_, ?_⟩⟩⟩⟩ <;> assumption)))⟩; have n3_ : Aside0 (Kd.R (Kd.int .i64) 3 w34 w.heap.size (fun k_ => some k_ ≠ (.slice Ao24 t104.length co24 : Value).ownBlock ∧ some k_ ≠ (.slice Ao25 t107.length co25 : Value).ownBlock ∧ some k_ ≠ (.slice Ao36 t110.length co36 : Value).ownBlock ∧ some k_ ≠ (.slice Ao33 t117.length co33 : Value).ownBlock ∧ some k_ ≠ (.slice Ao35 t121.length co35 : Value).ownBlock) (.slice Ao32 t114.length co32) t114) := ⟨by rw [← hq_]; exact (by (with_reducible repeat (first | apply Kd.R_alloc | apply Kd.R_drewN | apply Kd.R_drew)); exact Kd.R_mono HO116.out (fun _ hk => (by revert hk; simp only [and_imp]; intros; refine ⟨?_, ⟨?_, ⟨?_, ⟨?_, ?_⟩⟩⟩⟩ <;> assumption)))⟩; have n4_ : Aside0 (Kd.R (Kd.int .i64) 3 w34 w.heap.size (fun k_ => some k_ ≠ (.slice Ao24 t104.length co24 : Value).ownBlock ∧ some k_ ≠ (.slice Ao25 t107.length co25 : Value).ownBlock ∧ some k_ ≠ (.slice Ao36 t110.length co36 : Value).ownBlock ∧ some k_ ≠ (.slice Ao32 t114.length co32 : Value).ownBlock ∧ some k_ ≠ (.slice Ao35 t121.length co35 : Value).ownBlock) (.slice Ao33 t117.length co33) t117) := ⟨by rw [← hq_]; exact (by (with_reducible repeat (first | apply Kd.R_alloc | apply Kd.R_drewN | apply Kd.R_drew)); exact Kd.R_mono HO119.out (fun _ hk => (by revert hk; simp only [and_imp]; intros; refine ⟨?_, ⟨?_, ⟨?_, ⟨?_, ?_⟩⟩⟩⟩ <;> assumption)))⟩; have n5_ : Aside0 (Kd.R (Kd.int .i64) 3 w34 w.heap.size (fun k_ => some k_ ≠ (.slice Ao24 t104.length co24 : Value).ownBlock ∧ some k_ ≠ (.slice Ao25 t107.length co25 : Value).ownBlock ∧ some k_ ≠ (.slice Ao36 t110.length co36 : Value).ownBlock ∧ some k_ ≠ (.slice Ao32 t114.length co32 : Value).ownBlock ∧ some k_ ≠ (.slice Ao33 t117.length co33 : Value).ownBlock) (.slice Ao35 t121.length co35) t121) := ⟨by rw [← hq_]; exact (by (with_reducible repeat (first | apply Kd.R_alloc | apply Kd.R_drewN | apply Kd.R_drew)); exact Kd.R_mono HO123.out (fun _ hk => (by revert hk; simp only [and_imp]; intros; refine ⟨?_, ⟨?_, ⟨?_, ⟨?_, ?_⟩⟩⟩⟩ <;> assumption)))⟩; have n6_ : Aside0 (w34.heap[gb101]? = some (.cells #[.int .i64 a0_0, .slice A0_1 l0_1.length c0_1, .slice A0_2 l0_2.length c0_2] 43 (0, 0))) := ⟨by rw [← hq_]; exact (by (with_reducible repeat (first | refine blk_drewN ?_ _ | refine blk_drew ?_ | refine blk_alloc ?_ _)); exact BK101.out)⟩; have n7_ : Aside0 (w34.heap[gb120]? = some (.cells #[.int .i64 t113, .slice Ao32 t114.length co32, .slice Ao33 t117.length co33] 33 (0, 0))) := ⟨by rw [← hq_]; exact (by (with_reducible repeat (first | refine blk_drewN ?_ _ | refine blk_drew ?_ | refine blk_alloc ?_ _)); exact BK120.out)⟩; have n8_ : Aside0 (Below w.heap.size w w34) := ⟨by rw [← hq_]; exact (by repeat (first | (with_reducible first | exact HB.out | apply below_alloc | apply pw_below_drewN | apply below_drew1 | refine below_set ?_ GE101.out | refine below_set ?_ GE120.out) | exact HB.out))⟩; clear HO106 HO109 HO112 HO116 HO119 HO123 BK101 BK120 HB hq_; have HO106 := n0_; have HO109 := n1_; have HO112 := n2_; have HO116 := n3_; have HO119 := n4_; have HO123 := n5_; have BK101 := n6_; have BK120 := n7_; have HB := n8_; clear n0_ n1_ n2_ n3_ n4_ n5_ n6_ n7_ n8_))
        have n0_ := Aside0.mk (Kd.R_drew HO106.out)
        have n1_ := Aside0.mk (Kd.R_drew HO109.out)
        have n2_ := Aside0.mk (Kd.R_drew HO112.out)
        have n3_ := Aside0.mk (Kd.R_drew HO116.out)
        have n4_ := Aside0.mk (Kd.R_drew HO119.out)
        have n5_ := Aside0.mk (Kd.R_drew HO123.out)
        have n6_ := Aside0.mk (blk_drew BK101.out)
        have n7_ := Aside0.mk (blk_drew BK120.out)
        have n8_ := Aside0.mk (below_drew1 HB.out)
        clear HO106
        clear HO109
        clear HO112
        clear HO116
        clear HO119
        clear HO123
        clear BK101
        clear BK120
        clear HB
        have HO106 := n0_
        have HO109 := n1_
        have HO112 := n2_
        have HO116 := n3_
        have HO119 := n4_
        have HO123 := n5_
        have BK101 := n6_
        have BK120 := n7_
        have HB := n8_
        clear n0_ n1_ n2_ n3_ n4_ n5_ n6_ n7_ n8_
        refine start_ (n := 5) (S := fun w' => w'.cell? ⟨gb120, 0, none⟩ = some (.int .i64 t113) ∧ w'.cell? ⟨gb120, 1, none⟩ = some (.slice Ao32 t114.length co32) ∧ w'.cell? ⟨gb120, 2, none⟩ = some (.slice Ao33 t117.length co33) ∧ w'.cell? ⟨gb101, 0, none⟩ = some (.int .i64 a0_0) ∧ w'.cell? ⟨gb101, 1, none⟩ = some (.slice A0_1 l0_1.length c0_1) ∧ w'.cell? ⟨gb101, 2, none⟩ = some (.slice A0_2 l0_2.length c0_2)) (ds := []) #[false, false, false, false, false] (by kernel_rfl) rfl rfl ⟨(blk_cell BK120.out 0).trans rfl, (blk_cell BK120.out 1).trans rfl, (blk_cell BK120.out 2).trans rfl, (blk_cell BK101.out 0).trans rfl, (blk_cell BK101.out 1).trans rfl, (blk_cell BK101.out 2).trans rfl⟩ (fun hHeld => ?_)
        generalize w34.drew = w37 at HO106 HO109 HO112 HO116 HO119 HO123 BK101 BK120 HB hHeld ⊢
        refine take_ (i := 0) (N := some 31) (v := ?_) (a' := ?_) #[true, false, false, false, false] rfl rfl (by kernel_rfl) (fun _ _ _ h => h) (Or.inl ⟨by rfl, ?_⟩) hHeld ?_ ?_
        rotate_left
        · rintro w' ⟨s0, s1, s2, s3, s4, s5⟩
          go_simp
          with_reducible rfl
        rotate_left
        · simp only [Act.put, List.setIfInBounds_toArray, List.set_cons_zero, List.set_cons_succ, i64_w, i32_w]
          rfl
        refine take_ (i := 1) (N := some 32) (v := ?_) (a' := ?_) #[true, true, false, false, false] rfl rfl (by kernel_rfl) (fun _ _ _ h => h) (Or.inl ⟨by rfl, ?_⟩) hHeld ?_ ?_
        rotate_left
        · rintro w' ⟨s0, s1, s2, s3, s4, s5⟩
          go_simp
          with_reducible rfl
        rotate_left
        · simp only [Act.put, List.setIfInBounds_toArray, List.set_cons_zero, List.set_cons_succ, i64_w, i32_w]
          rfl
        refine one_ (i := 2) (N := some 33) #[true, true, true, false, false] rfl rfl (by kernel_rfl) (by decide) (fun K hK => ?_)
        refine goes_ Try.func32 (by kernel_rfl) rfl #[.agg #[.int .i64 a0_0, .slice A0_1 l0_1.length c0_1, .slice A0_2 l0_2.length c0_2]] (by rfl) rfl rfl (by (try simp only [List.map_toArray, List.map_cons, List.map_nil]); first | done | rfl | (simp only [List.length_drop, List.length_take]; rfl)) ?_
        with_reducible refine (laws_toView.calls k a0_0 _ _ l0_1 _ _ l0_2 t125 t126 t129 _ ?side1 ?side2 ?side3 ?side4 A14.out).mono ?_
        (case side1 => repeat (first | exact (Kd.C_below HR0_1.out HB.out) | (with_reducible refine Kd.C_alloc ?_ _) | (with_reducible refine Kd.C_drewN ?_ _) | (with_reducible refine Kd.C_drew ?_)))
        (case side2 => exact HC0_1.out)
        (case side3 => repeat (first | exact (Kd.C_below HR0_2.out HB.out) | (with_reducible refine Kd.C_alloc ?_ _) | (with_reducible refine Kd.C_drewN ?_ _) | (with_reducible refine Kd.C_drew ?_)))
        (case side4 => exact HC0_2.out)
        rintro e w38 ⟨v127, v130, rfl, ho0, ho1, hb⟩
        refine ⟨_, rfl, ?_⟩
        have n0_ := Aside0.mk (Kd.R_mono (Kd.R_told (Kd.R_told (Kd.R_old (by (with_reducible repeat (first | apply Kd.R_alloc | apply Kd.R_drewN | apply Kd.R_drew)); exact HO106.out) hb) (Kd.R_base ho0)) (Kd.R_base ho1)) (fun _ h_ => h_.1))
        have n1_ := Aside0.mk (Kd.R_mono (Kd.R_told (Kd.R_told (Kd.R_old (by (with_reducible repeat (first | apply Kd.R_alloc | apply Kd.R_drewN | apply Kd.R_drew)); exact HO109.out) hb) (Kd.R_base ho0)) (Kd.R_base ho1)) (fun _ h_ => h_.1))
        have n2_ := Aside0.mk (Kd.R_mono (Kd.R_told (Kd.R_told (Kd.R_old (by (with_reducible repeat (first | apply Kd.R_alloc | apply Kd.R_drewN | apply Kd.R_drew)); exact HO112.out) hb) (Kd.R_base ho0)) (Kd.R_base ho1)) (fun _ h_ => h_.1))
        have n3_ := Aside0.mk (Kd.R_mono (Kd.R_told (Kd.R_told (Kd.R_old (by (with_reducible repeat (first | apply Kd.R_alloc | apply Kd.R_drewN | apply Kd.R_drew)); exact HO116.out) hb) (Kd.R_base ho0)) (Kd.R_base ho1)) (fun _ h_ => h_.1))
        have n4_ := Aside0.mk (Kd.R_mono (Kd.R_told (Kd.R_told (Kd.R_old (by (with_reducible repeat (first | apply Kd.R_alloc | apply Kd.R_drewN | apply Kd.R_drew)); exact HO119.out) hb) (Kd.R_base ho0)) (Kd.R_base ho1)) (fun _ h_ => h_.1))
        have n5_ := Aside0.mk (Kd.R_mono (Kd.R_told (Kd.R_told (Kd.R_old (by (with_reducible repeat (first | apply Kd.R_alloc | apply Kd.R_drewN | apply Kd.R_drew)); exact HO123.out) hb) (Kd.R_base ho0)) (Kd.R_base ho1)) (fun _ h_ => h_.1))
        have n6_ := Aside0.mk (Kd.R_lower (Kd.R_new' (Kd.R_new' (Kd.R_new' (Kd.R_new' (Kd.R_new' (Kd.R_new' ho0 (Kd.R_lt (by (with_reducible repeat (first | apply Kd.R_alloc | apply Kd.R_drewN | apply Kd.R_drew)); exact HO106.out))) (Kd.R_lt (by (with_reducible repeat (first | apply Kd.R_alloc | apply Kd.R_drewN | apply Kd.R_drew)); exact HO109.out))) (Kd.R_lt (by (with_reducible repeat (first | apply Kd.R_alloc | apply Kd.R_drewN | apply Kd.R_drew)); exact HO112.out))) (Kd.R_lt (by (with_reducible repeat (first | apply Kd.R_alloc | apply Kd.R_drewN | apply Kd.R_drew)); exact HO116.out))) (Kd.R_lt (by (with_reducible repeat (first | apply Kd.R_alloc | apply Kd.R_drewN | apply Kd.R_drew)); exact HO119.out))) (Kd.R_lt (by (with_reducible repeat (first | apply Kd.R_alloc | apply Kd.R_drewN | apply Kd.R_drew)); exact HO123.out))) (below_size (by repeat (first | (with_reducible first | exact HB.out | apply below_alloc | apply pw_below_drewN | apply below_drew1 | refine below_set ?_ GE101.out | refine below_set ?_ GE120.out) | exact HB.out))))
        have n7_ := Aside0.mk (Kd.R_lower (Kd.R_new' (Kd.R_new' (Kd.R_new' (Kd.R_new' (Kd.R_new' (Kd.R_new' ho1 (Kd.R_lt (by (with_reducible repeat (first | apply Kd.R_alloc | apply Kd.R_drewN | apply Kd.R_drew)); exact HO106.out))) (Kd.R_lt (by (with_reducible repeat (first | apply Kd.R_alloc | apply Kd.R_drewN | apply Kd.R_drew)); exact HO109.out))) (Kd.R_lt (by (with_reducible repeat (first | apply Kd.R_alloc | apply Kd.R_drewN | apply Kd.R_drew)); exact HO112.out))) (Kd.R_lt (by (with_reducible repeat (first | apply Kd.R_alloc | apply Kd.R_drewN | apply Kd.R_drew)); exact HO116.out))) (Kd.R_lt (by (with_reducible repeat (first | apply Kd.R_alloc | apply Kd.R_drewN | apply Kd.R_drew)); exact HO119.out))) (Kd.R_lt (by (with_reducible repeat (first | apply Kd.R_alloc | apply Kd.R_drewN | apply Kd.R_drew)); exact HO123.out))) (below_size (by repeat (first | (with_reducible first | exact HB.out | apply below_alloc | apply pw_below_drewN | apply below_drew1 | refine below_set ?_ GE101.out | refine below_set ?_ GE120.out) | exact HB.out))))
        have n8_ := Aside0.mk (blk_below (g := gb101) (o := .cells #[.int .i64 a0_0, .slice A0_1 l0_1.length c0_1, .slice A0_2 l0_2.length c0_2] 43 (0, 0)) (by (with_reducible repeat (first | refine blk_drewN ?_ _ | refine blk_drew ?_ | refine blk_alloc ?_ _)); exact BK101.out) hb)
        have n9_ := Aside0.mk (blk_below (g := gb120) (o := .cells #[.int .i64 t113, .slice Ao32 t114.length co32, .slice Ao33 t117.length co33] 33 (0, 0)) (by (with_reducible repeat (first | refine blk_drewN ?_ _ | refine blk_drew ?_ | refine blk_alloc ?_ _)); exact BK120.out) hb)
        have n10_ := Aside0.mk (below_step (by repeat (first | (with_reducible first | exact HB.out | apply below_alloc | apply pw_below_drewN | apply below_drew1 | refine below_set ?_ GE101.out | refine below_set ?_ GE120.out) | exact HB.out)) hb)
        clear HO106
        clear HO109
        clear HO112
        clear HO116
        clear HO119
        clear HO123
        clear BK101
        clear BK120
        clear HB
        have HO106 := n0_
        have HO109 := n1_
        have HO112 := n2_
        have HO116 := n3_
        have HO119 := n4_
        have HO123 := n5_
        have HO128 := n6_
        have HO131 := n7_
        have BK101 := n8_
        have BK120 := n9_
        have HB := n10_
        clear n0_ n1_ n2_ n3_ n4_ n5_ n6_ n7_ n8_ n9_ n10_
        (try clear hb)
        (try clear hb2)
        (try clear hk)
        (try clear hi)
        (try clear ho0)
        (try clear ho1)
        obtain ⟨Ao39, co39, eo39⟩ := Kd.R_slice HO128.out
        (first | subst eo39 | (injection eo39 with f1_ f2_ f3_; have f4_ := f1_.symm; have f5_ := f3_.symm; clear f1_ f2_ f3_; subst f4_; subst f5_))
        obtain ⟨Ao40, co40, eo40⟩ := Kd.R_slice HO131.out
        (first | subst eo40 | (injection eo40 with f1_ f2_ f3_; have f4_ := f1_.symm; have f5_ := f3_.symm; clear f1_ f2_ f3_; subst f4_; subst f5_))
        refine hK.out _ _ ⟨(blk_cell BK120.out 0).trans rfl, (blk_cell BK120.out 1).trans rfl, (blk_cell BK120.out 2).trans rfl, (blk_cell BK101.out 0).trans rfl, (blk_cell BK101.out 1).trans rfl, (blk_cell BK101.out 2).trans rfl⟩ (fun hHeld => ?_)
        clear hK K
        refine norm_ (a' := ?_) ?_ ?_
        rotate_left
        · show Act.put _ (some 33) _ = _
          simp only [Act.put, List.setIfInBounds_toArray, List.set_cons_zero, List.set_cons_succ, i64_w, i32_w]
          rfl
        refine one_ (i := 3) (N := some 34) #[true, true, true, true, false] rfl rfl (by kernel_rfl) (by decide) (fun K hK => ?_)
        refine goes_ Try.func23 (by kernel_rfl) rfl #[.agg #[.int .i64 t113, .slice Ao32 t114.length co32, .slice Ao33 t117.length co33], .agg #[.int .i64 t125, .slice Ao39 t126.length co39, .slice Ao40 t129.length co40]] (by rfl) rfl rfl (by (try simp only [List.map_toArray, List.map_cons, List.map_nil]); first | done | rfl | (simp only [List.length_drop, List.length_take]; rfl)) ?_
        with_reducible refine (laws_eqView.calls k t113 _ _ t114 _ _ t117 t125 _ _ t126 _ _ t129 true _ ?side1 ?side2 ?side3 ?side4 ?side5 ?side6 ?side7 ?side8 A15.out).mono ?_
        (case side1 => repeat (first | exact (Kd.R_reads' HO116.out).2.2 | (with_reducible refine Kd.C_alloc ?_ _) | (with_reducible refine Kd.C_drewN ?_ _) | (with_reducible refine Kd.C_drew ?_)))
        (case side2 => exact (Kd.R_reads' HO116.out).2.1)
        (case side3 => repeat (first | exact (Kd.R_reads' HO119.out).2.2 | (with_reducible refine Kd.C_alloc ?_ _) | (with_reducible refine Kd.C_drewN ?_ _) | (with_reducible refine Kd.C_drew ?_)))
        (case side4 => exact (Kd.R_reads' HO119.out).2.1)
        (case side5 => repeat (first | exact (Kd.R_reads' HO128.out).2.2 | (with_reducible refine Kd.C_alloc ?_ _) | (with_reducible refine Kd.C_drewN ?_ _) | (with_reducible refine Kd.C_drew ?_)))
        (case side6 => exact (Kd.R_reads' HO128.out).2.1)
        (case side7 => repeat (first | exact (Kd.R_reads' HO131.out).2.2 | (with_reducible refine Kd.C_alloc ?_ _) | (with_reducible refine Kd.C_drewN ?_ _) | (with_reducible refine Kd.C_drew ?_)))
        (case side8 => exact (Kd.R_reads' HO131.out).2.1)
        rintro e w41 ⟨rfl, hb⟩
        refine ⟨_, rfl, ?_⟩
        have n0_ := Aside0.mk (Kd.R_below (by (with_reducible repeat (first | apply Kd.R_alloc | apply Kd.R_drewN | apply Kd.R_drew)); exact HO106.out) hb)
        have n1_ := Aside0.mk (Kd.R_below (by (with_reducible repeat (first | apply Kd.R_alloc | apply Kd.R_drewN | apply Kd.R_drew)); exact HO109.out) hb)
        have n2_ := Aside0.mk (Kd.R_below (by (with_reducible repeat (first | apply Kd.R_alloc | apply Kd.R_drewN | apply Kd.R_drew)); exact HO112.out) hb)
        have n3_ := Aside0.mk (Kd.R_below (by (with_reducible repeat (first | apply Kd.R_alloc | apply Kd.R_drewN | apply Kd.R_drew)); exact HO116.out) hb)
        have n4_ := Aside0.mk (Kd.R_below (by (with_reducible repeat (first | apply Kd.R_alloc | apply Kd.R_drewN | apply Kd.R_drew)); exact HO119.out) hb)
        have n5_ := Aside0.mk (Kd.R_below (by (with_reducible repeat (first | apply Kd.R_alloc | apply Kd.R_drewN | apply Kd.R_drew)); exact HO123.out) hb)
        have n6_ := Aside0.mk (Kd.R_below (by (with_reducible repeat (first | apply Kd.R_alloc | apply Kd.R_drewN | apply Kd.R_drew)); exact HO128.out) hb)
        have n7_ := Aside0.mk (Kd.R_below (by (with_reducible repeat (first | apply Kd.R_alloc | apply Kd.R_drewN | apply Kd.R_drew)); exact HO131.out) hb)
        have n8_ := Aside0.mk (blk_below (g := gb101) (o := .cells #[.int .i64 a0_0, .slice A0_1 l0_1.length c0_1, .slice A0_2 l0_2.length c0_2] 43 (0, 0)) (by (with_reducible repeat (first | refine blk_drewN ?_ _ | refine blk_drew ?_ | refine blk_alloc ?_ _)); exact BK101.out) hb)
        have n9_ := Aside0.mk (blk_below (g := gb120) (o := .cells #[.int .i64 t113, .slice Ao32 t114.length co32, .slice Ao33 t117.length co33] 33 (0, 0)) (by (with_reducible repeat (first | refine blk_drewN ?_ _ | refine blk_drew ?_ | refine blk_alloc ?_ _)); exact BK120.out) hb)
        have n10_ := Aside0.mk (below_step (by repeat (first | (with_reducible first | exact HB.out | apply below_alloc | apply pw_below_drewN | apply below_drew1 | refine below_set ?_ GE101.out | refine below_set ?_ GE120.out) | exact HB.out)) hb)
        clear HO106
        clear HO109
        clear HO112
        clear HO116
        clear HO119
        clear HO123
        clear HO128
        clear HO131
        clear BK101
        clear BK120
        clear HB
        have HO106 := n0_
        have HO109 := n1_
        have HO112 := n2_
        have HO116 := n3_
        have HO119 := n4_
        have HO123 := n5_
        have HO128 := n6_
        have HO131 := n7_
        have BK101 := n8_
        have BK120 := n9_
        have HB := n10_
        clear n0_ n1_ n2_ n3_ n4_ n5_ n6_ n7_ n8_ n9_ n10_
        (try clear hb)
        (try clear hb2)
        (try clear hk)
        (try clear hi)
        refine hK.out _ _ ⟨(blk_cell BK120.out 0).trans rfl, (blk_cell BK120.out 1).trans rfl, (blk_cell BK120.out 2).trans rfl, (blk_cell BK101.out 0).trans rfl, (blk_cell BK101.out 1).trans rfl, (blk_cell BK101.out 2).trans rfl⟩ (fun hHeld => ?_)
        clear hK K
        refine norm_ (a' := ?_) ?_ ?_
        rotate_left
        · show Act.put _ (some 34) _ = _
          simp only [Act.put, List.setIfInBounds_toArray, List.set_cons_zero, List.set_cons_succ, i64_w, i32_w]
          rfl
        refine pure_ (i := 4) (N := some 35) (v := ?_) (a' := ?_) #[true, true, true, true, true] rfl rfl (by kernel_rfl) (fun _ _ _ h => h) (Or.inl ⟨by rfl, ?_⟩) ?_ ?_
        rotate_left
        · intro w'
          go_simp
          with_reducible rfl
        rotate_left
        · simp only [Act.put, List.setIfInBounds_toArray, List.set_cons_zero, List.set_cons_succ, i64_w, i32_w]
          rfl
        refine done_ (by kernel_rfl) ?_
        have hcz42_0 : w41.cell? ⟨gb120, 0, none⟩ = some (.int .i64 t113) := (blk_cell BK120.out 0).trans rfl
        have hcz42_1 : w41.cell? ⟨gb120, 1, none⟩ = some (.slice Ao32 t114.length co32) := (blk_cell BK120.out 1).trans rfl
        have hcz42_2 : w41.cell? ⟨gb120, 2, none⟩ = some (.slice Ao33 t117.length co33) := (blk_cell BK120.out 2).trans rfl
        have hfz42_0 := blk_frozen BK120.out 0
        have hfz42_1 := blk_frozen BK120.out 1
        have hfz42_2 := blk_frozen BK120.out 2
        go_upto_region 14 with (first | ((with_reducible refine gate_callee (f := 26) rfl ?_); refine goesL_ (some 38) rfl rfl Try.func26 (by kernel_rfl) rfl #[.agg #[.int .i64 t113, .slice Ao32 t114.length co32, .slice Ao33 t117.length co33], .int .i64 1] rfl (by (try simp only [List.map_toArray, List.map_cons, List.map_nil]); first | done | rfl | (simp only [List.length_drop, List.length_take]; rfl)) ?_; (with_reducible refine (laws_markView.calls k t113 (fun k_ => some k_ = (.slice Ao32 t114.length co32 : Value).ownBlock) (.slice Ao32 t114.length co32) t114 (fun k_ => some k_ = (.slice Ao33 t117.length co33 : Value).ownBlock) (.slice Ao33 t117.length co33) t117 1 t133 t134 t135 w _ ?side1 ?side2 ?side3 ?side4 ?side5 A17.out).mono ?_); (case side1 => repeat (first | (with_reducible first | exact HB.out | apply below_alloc | apply pw_below_drewN | apply below_drew1 | refine below_set ?_ GE101.out | refine below_set ?_ GE120.out) | exact HB.out)); (case side2 => exact Kd.R_tight rfl HO116.out); (case side3 => exact fun k_ e_ => (by have h_ := HO116.out.1 k_ e_.symm; revert h_; simp only [and_imp]; intros; assumption)); (case side4 => exact Kd.R_tight rfl HO119.out); (case side5 => exact fun k_ e_ => (by have h_ := HO119.out.1 k_ e_.symm; revert h_; simp only [and_imp]; intros; assumption)); rintro e w43 ⟨rfl, hy0, hy1, hb, hkp⟩; refine ⟨_, rfl, ?_⟩; have n0_ := Aside0.mk (blk_kept (by (with_reducible repeat (first | refine blk_drewN ?_ _ | refine blk_drew ?_ | refine blk_alloc ?_ _)); exact BK101.out) hkp (fun hs_ => Or.elim hs_ (fun e_ => (fun e_ => (Kd.R_ne HO116.out BK101.out (by decide)) e_) e_) (fun e_ => (fun e_ => (Kd.R_ne HO119.out BK101.out (by decide)) e_) e_))); have n1_ := Aside0.mk (Kd.R_mono (ok' := fun k_ => some k_ ≠ (.slice Ao25 t107.length co25 : Value).ownBlock ∧ some k_ ≠ (.slice Ao36 t110.length co36 : Value).ownBlock ∧ some k_ ≠ (.slice Ao32 t114.length co32 : Value).ownBlock ∧ some k_ ≠ (.slice Ao33 t117.length co33 : Value).ownBlock ∧ some k_ ≠ (.slice Ao35 t121.length co35 : Value).ownBlock ∧ some k_ ≠ (.slice Ao39 t126.length co39 : Value).ownBlock ∧ some k_ ≠ (.slice Ao40 t129.length co40 : Value).ownBlock) (Kd.R_keptB (HO106.out) hkp (fun k_ hk_ hs_ => Or.elim hs_ (fun e_ => absurd e_ (by revert hk_; simp only [and_imp]; intros; assumption)) (fun e_ => absurd e_ (by revert hk_; simp only [and_imp]; intros; assumption)))) (fun k_ hk_ => (by revert hk_; simp only [and_imp]; intros; refine ⟨?_, ?_, ?_, ?_, ?_, ?_, ?_⟩ <;> assumption))); have n2_ := Aside0.mk (Kd.R_mono (ok' := fun k_ => some k_ ≠ (.slice Ao24 t104.length co24 : Value).ownBlock ∧ some k_ ≠ (.slice Ao36 t110.length co36 : Value).ownBlock ∧ some k_ ≠ (.slice Ao32 t114.length co32 : Value).ownBlock ∧ some k_ ≠ (.slice Ao33 t117.length co33 : Value).ownBlock ∧ some k_ ≠ (.slice Ao35 t121.length co35 : Value).ownBlock ∧ some k_ ≠ (.slice Ao39 t126.length co39 : Value).ownBlock ∧ some k_ ≠ (.slice Ao40 t129.length co40 : Value).ownBlock) (Kd.R_keptB (HO109.out) hkp (fun k_ hk_ hs_ => Or.elim hs_ (fun e_ => absurd e_ (by revert hk_; simp only [and_imp]; intros; assumption)) (fun e_ => absurd e_ (by revert hk_; simp only [and_imp]; intros; assumption)))) (fun k_ hk_ => (by revert hk_; simp only [and_imp]; intros; refine ⟨?_, ?_, ?_, ?_, ?_, ?_, ?_⟩ <;> assumption))); have n3_ := Aside0.mk (Kd.R_mono (ok' := fun k_ => some k_ ≠ (.slice Ao24 t104.length co24 : Value).ownBlock ∧ some k_ ≠ (.slice Ao25 t107.length co25 : Value).ownBlock ∧ some k_ ≠ (.slice Ao32 t114.length co32 : Value).ownBlock ∧ some k_ ≠ (.slice Ao33 t117.length co33 : Value).ownBlock ∧ some k_ ≠ (.slice Ao35 t121.length co35 : Value).ownBlock ∧ some k_ ≠ (.slice Ao39 t126.length co39 : Value).ownBlock ∧ some k_ ≠ (.slice Ao40 t129.length co40 : Value).ownBlock) (Kd.R_keptB (HO112.out) hkp (fun k_ hk_ hs_ => Or.elim hs_ (fun e_ => absurd e_ (by revert hk_; simp only [and_imp]; intros; assumption)) (fun e_ => absurd e_ (by revert hk_; simp only [and_imp]; intros; assumption)))) (fun k_ hk_ => (by revert hk_; simp only [and_imp]; intros; refine ⟨?_, ?_, ?_, ?_, ?_, ?_, ?_⟩ <;> assumption))); have n4_ := Aside0.mk (Kd.R_reok rfl hy0 (fun k_ e_ => HO116.out.1 k_ e_)); have n5_ := Aside0.mk (Kd.R_reok rfl hy1 (fun k_ e_ => HO119.out.1 k_ e_)); have n6_ := Aside0.mk (blk_kept (by (with_reducible repeat (first | refine blk_drewN ?_ _ | refine blk_drew ?_ | refine blk_alloc ?_ _)); exact BK120.out) hkp (fun hs_ => Or.elim hs_ (fun e_ => (fun e_ => (Kd.R_ne HO116.out BK120.out (by decide)) e_) e_) (fun e_ => (fun e_ => (Kd.R_ne HO119.out BK120.out (by decide)) e_) e_))); have n7_ := Aside0.mk (Kd.R_mono (ok' := fun k_ => some k_ ≠ (.slice Ao24 t104.length co24 : Value).ownBlock ∧ some k_ ≠ (.slice Ao25 t107.length co25 : Value).ownBlock ∧ some k_ ≠ (.slice Ao36 t110.length co36 : Value).ownBlock ∧ some k_ ≠ (.slice Ao32 t114.length co32 : Value).ownBlock ∧ some k_ ≠ (.slice Ao33 t117.length co33 : Value).ownBlock ∧ some k_ ≠ (.slice Ao39 t126.length co39 : Value).ownBlock ∧ some k_ ≠ (.slice Ao40 t129.length co40 : Value).ownBlock) (Kd.R_keptB (HO123.out) hkp (fun k_ hk_ hs_ => Or.elim hs_ (fun e_ => absurd e_ (by revert hk_; simp only [and_imp]; intros; assumption)) (fun e_ => absurd e_ (by revert hk_; simp only [and_imp]; intros; assumption)))) (fun k_ hk_ => (by revert hk_; simp only [and_imp]; intros; refine ⟨?_, ?_, ?_, ?_, ?_, ?_, ?_⟩ <;> assumption))); have n8_ := Aside0.mk (Kd.R_mono (ok' := fun k_ => some k_ ≠ (.slice Ao24 t104.length co24 : Value).ownBlock ∧ some k_ ≠ (.slice Ao25 t107.length co25 : Value).ownBlock ∧ some k_ ≠ (.slice Ao36 t110.length co36 : Value).ownBlock ∧ some k_ ≠ (.slice Ao32 t114.length co32 : Value).ownBlock ∧ some k_ ≠ (.slice Ao33 t117.length co33 : Value).ownBlock ∧ some k_ ≠ (.slice Ao35 t121.length co35 : Value).ownBlock ∧ some k_ ≠ (.slice Ao40 t129.length co40 : Value).ownBlock) (Kd.R_keptB (HO128.out) hkp (fun k_ hk_ hs_ => Or.elim hs_ (fun e_ => absurd e_ (by revert hk_; simp only [and_imp]; intros; assumption)) (fun e_ => absurd e_ (by revert hk_; simp only [and_imp]; intros; assumption)))) (fun k_ hk_ => (by revert hk_; simp only [and_imp]; intros; refine ⟨?_, ?_, ?_, ?_, ?_, ?_, ?_⟩ <;> assumption))); have n9_ := Aside0.mk (Kd.R_mono (ok' := fun k_ => some k_ ≠ (.slice Ao24 t104.length co24 : Value).ownBlock ∧ some k_ ≠ (.slice Ao25 t107.length co25 : Value).ownBlock ∧ some k_ ≠ (.slice Ao36 t110.length co36 : Value).ownBlock ∧ some k_ ≠ (.slice Ao32 t114.length co32 : Value).ownBlock ∧ some k_ ≠ (.slice Ao33 t117.length co33 : Value).ownBlock ∧ some k_ ≠ (.slice Ao35 t121.length co35 : Value).ownBlock ∧ some k_ ≠ (.slice Ao39 t126.length co39 : Value).ownBlock) (Kd.R_keptB (HO131.out) hkp (fun k_ hk_ hs_ => Or.elim hs_ (fun e_ => absurd e_ (by revert hk_; simp only [and_imp]; intros; assumption)) (fun e_ => absurd e_ (by revert hk_; simp only [and_imp]; intros; assumption)))) (fun k_ hk_ => (by revert hk_; simp only [and_imp]; intros; refine ⟨?_, ?_, ?_, ?_, ?_, ?_, ?_⟩ <;> assumption))); have n10_ := Aside0.mk (hb); clear BK101; clear HO106; clear HO109; clear HO112; clear HO116; clear HO119; clear BK120; clear HO123; clear HO128; clear HO131; clear HB; have BK101 := n0_; have HO106 := n1_; have HO109 := n2_; have HO112 := n3_; have HO116 := n4_; have HO119 := n5_; have BK120 := n6_; have HO123 := n7_; have HO128 := n8_; have HO131 := n9_; have HB := n10_; clear n0_ n1_ n2_ n3_ n4_ n5_ n6_ n7_ n8_ n9_ n10_; (try clear hb); (try clear hkp); (try clear hy0); (try clear hy1)))
        (try simp only [Act.put, List.setIfInBounds_toArray, List.set_cons_zero, List.set_cons_succ])
        go_cut [46] (fun v46 wc => ∃ (kq : Nat) (x46_17 : Bool), v46 = .bool x46_17 ∧ Aside0 (laws_FnExactPlaces.j0 kq a1 t110 t121 x46_17 a0_0 l0_1 l0_2 = some r) ∧ Aside0 (kq ≤ k) ∧ Aside0 (Kd.R (Kd.int .i64) 3 wc w.heap.size (fun k_ => some k_ ≠ ((.slice Ao35 t121.length co35) : Value).ownBlock ∧ some k_ ≠ ((.slice Ao32 t114.length co32) : Value).ownBlock ∧ some k_ ≠ ((.slice Ao33 t117.length co33) : Value).ownBlock) (.slice Ao36 t110.length co36) t110) ∧ Aside0 (Kd.R (Kd.int .i64) 3 wc w.heap.size (fun k_ => some k_ ≠ ((.slice Ao36 t110.length co36) : Value).ownBlock ∧ some k_ ≠ ((.slice Ao32 t114.length co32) : Value).ownBlock ∧ some k_ ≠ ((.slice Ao33 t117.length co33) : Value).ownBlock) (.slice Ao35 t121.length co35) t121) ∧ Aside0 (Kd.R (Kd.int .i64) 3 wc w.heap.size (fun k_ => some k_ ≠ ((.slice Ao36 t110.length co36) : Value).ownBlock ∧ some k_ ≠ ((.slice Ao35 t121.length co35) : Value).ownBlock ∧ some k_ ≠ ((.slice Ao33 t117.length co33) : Value).ownBlock) (.slice Ao32 t114.length co32) t134) ∧ Aside0 (Kd.R (Kd.int .i64) 3 wc w.heap.size (fun k_ => some k_ ≠ ((.slice Ao36 t110.length co36) : Value).ownBlock ∧ some k_ ≠ ((.slice Ao35 t121.length co35) : Value).ownBlock ∧ some k_ ≠ ((.slice Ao32 t114.length co32) : Value).ownBlock) (.slice Ao33 t117.length co33) t135) ∧ Aside0 (wc.heap[gb101]? = some (.cells #[.int .i64 a0_0, (.slice A0_1 l0_1.length c0_1), (.slice A0_2 l0_2.length c0_2)] 43 (0, 0))) ∧ Aside0 (wc.heap[gb120]? = some (.cells #[.int .i64 t113, (.slice Ao32 t114.length co32), (.slice Ao33 t117.length co33)] 33 (0, 0))) ∧ Aside0 (Below w.heap.size w wc))
        case first =>
          have H := HC18.out
          clear HC18
          by_cases c44 : t133 < 0
          · rw [if_pos c44] at H
            have c44b0 : decide (t133 < 0) = true := decide_eq_true c44
            clear c44
            (first | rw [c44b0] | (simp only [i64_w, i32_w]; rw [c44b0]) | skip)
            have H' := Aside0.mk H
            clear H
            go_wp2
            go_meet
            case rel => exact ⟨_, (true), (by first | rfl | (simp; done) | (simp [*]; done)), H', ⟨by first | omega | exact Nat.le_refl _⟩, ⟨by (with_reducible repeat (first | apply Kd.R_alloc | apply Kd.R_drewN | apply Kd.R_drew)); exact Kd.R_mono HO112.out (fun _ hk => (by revert hk; simp only [and_imp]; intros; refine ⟨?_, ⟨?_, ?_⟩⟩ <;> assumption))⟩, ⟨by (with_reducible repeat (first | apply Kd.R_alloc | apply Kd.R_drewN | apply Kd.R_drew)); exact Kd.R_mono HO123.out (fun _ hk => (by revert hk; simp only [and_imp]; intros; refine ⟨?_, ⟨?_, ?_⟩⟩ <;> assumption))⟩, ⟨by (with_reducible repeat (first | apply Kd.R_alloc | apply Kd.R_drewN | apply Kd.R_drew)); exact Kd.R_mono HO116.out (fun _ hk => (by revert hk; simp only [and_imp]; intros; refine ⟨?_, ⟨?_, ?_⟩⟩ <;> assumption))⟩, ⟨by (with_reducible repeat (first | apply Kd.R_alloc | apply Kd.R_drewN | apply Kd.R_drew)); exact Kd.R_mono HO119.out (fun _ hk => (by revert hk; simp only [and_imp]; intros; refine ⟨?_, ⟨?_, ?_⟩⟩ <;> assumption))⟩, ⟨by (with_reducible repeat (first | refine blk_drewN ?_ _ | refine blk_drew ?_ | refine blk_alloc ?_ _)); exact BK101.out⟩, ⟨by (with_reducible repeat (first | refine blk_drewN ?_ _ | refine blk_drew ?_ | refine blk_alloc ?_ _)); exact BK120.out⟩, ⟨by repeat (first | (with_reducible first | exact HB.out | apply below_alloc | apply pw_below_drewN | apply below_drew1 | refine below_set ?_ GE101.out | refine below_set ?_ GE120.out) | exact HB.out)⟩⟩
          · rw [if_neg c44] at H
            have c44b0 : decide (t133 < 0) = false := decide_eq_false c44
            clear c44
            (first | rw [c44b0] | (simp only [i64_w, i32_w]; rw [c44b0]) | skip)
            replace H := Option.bind_eq_some_iff.mp H
            obtain ⟨t136, A450, H⟩ := H
            replace H : (laws_FnExactPlaces.j0 k a1 t110 t121 (!t136) a0_0 l0_1 l0_2) = some r := H
            have A45 := Aside0.mk A450
            clear A450
            have H' := Aside0.mk H
            clear H
            go_wp2_with (first | (go_at_call 24; (with_reducible refine (laws_eqIntS.calls k _ _ t121 _ _ t110 t136 _ ?side1 ?side2 ?side3 ?side4 A45.out).mono ?_); (case side1 => repeat (first | exact (Kd.R_reads' HO123.out).2.2 | (with_reducible refine Kd.C_alloc ?_ _) | (with_reducible refine Kd.C_drewN ?_ _) | (with_reducible refine Kd.C_drew ?_))); (case side2 => exact (Kd.R_reads' HO123.out).2.1); (case side3 => repeat (first | exact (Kd.R_reads' HO112.out).2.2 | (with_reducible refine Kd.C_alloc ?_ _) | (with_reducible refine Kd.C_drewN ?_ _) | (with_reducible refine Kd.C_drew ?_))); (case side4 => exact (Kd.R_reads' HO112.out).2.1); rintro e w' ⟨rfl, ⟨nd, rfl⟩⟩))
            go_meet
            case rel => exact ⟨_, (!t136), (by first | rfl | (simp; done) | (simp [*]; done)), H', ⟨by first | omega | exact Nat.le_refl _⟩, ⟨by (with_reducible repeat (first | apply Kd.R_alloc | apply Kd.R_drewN | apply Kd.R_drew)); exact Kd.R_mono HO112.out (fun _ hk => (by revert hk; simp only [and_imp]; intros; refine ⟨?_, ⟨?_, ?_⟩⟩ <;> assumption))⟩, ⟨by (with_reducible repeat (first | apply Kd.R_alloc | apply Kd.R_drewN | apply Kd.R_drew)); exact Kd.R_mono HO123.out (fun _ hk => (by revert hk; simp only [and_imp]; intros; refine ⟨?_, ⟨?_, ?_⟩⟩ <;> assumption))⟩, ⟨by (with_reducible repeat (first | apply Kd.R_alloc | apply Kd.R_drewN | apply Kd.R_drew)); exact Kd.R_mono HO116.out (fun _ hk => (by revert hk; simp only [and_imp]; intros; refine ⟨?_, ⟨?_, ?_⟩⟩ <;> assumption))⟩, ⟨by (with_reducible repeat (first | apply Kd.R_alloc | apply Kd.R_drewN | apply Kd.R_drew)); exact Kd.R_mono HO119.out (fun _ hk => (by revert hk; simp only [and_imp]; intros; refine ⟨?_, ⟨?_, ?_⟩⟩ <;> assumption))⟩, ⟨by (with_reducible repeat (first | refine blk_drewN ?_ _ | refine blk_drew ?_ | refine blk_alloc ?_ _)); exact BK101.out⟩, ⟨by (with_reducible repeat (first | refine blk_drewN ?_ _ | refine blk_drew ?_ | refine blk_alloc ?_ _)); exact BK120.out⟩, ⟨by repeat (first | (with_reducible first | exact HB.out | apply below_alloc | apply pw_below_drewN | apply below_drew1 | refine below_set ?_ GE101.out | refine below_set ?_ GE120.out) | exact HB.out)⟩⟩
        case rest =>
          clear HC18
          try clear c1
          try clear c2
          try clear p2
          try clear c3
          try clear c4
          try clear c4b0
          try clear c13
          try clear c16
          try clear c23
          try clear c24
          try clear c26
          try clear c30
          try clear c32
          try clear c44
          try clear c44b0
          try clear c45
          try clear hcz20_0
          try clear hcz20_1
          try clear hcz20_2
          try clear hcz22_0
          try clear hcz22_1
          try clear hcz22_2
          try clear hcz27_0
          try clear hcz27_1
          try clear hcz27_2
          try clear hcz31_0
          try clear hcz31_1
          try clear hcz31_2
          try clear hcz42_0
          try clear hcz42_1
          try clear hcz42_2
          try clear hcz6_0
          try clear hcz6_1
          try clear hcz6_2
          try clear hfz20_0
          try clear hfz20_1
          try clear hfz20_2
          try clear hfz22_0
          try clear hfz22_1
          try clear hfz22_2
          try clear hfz27_0
          try clear hfz27_1
          try clear hfz27_2
          try clear hfz31_0
          try clear hfz31_1
          try clear hfz31_2
          try clear hfz42_0
          try clear hfz42_1
          try clear hfz42_2
          try clear hfz6_0
          try clear hfz6_1
          try clear hfz6_2
          obtain ⟨kq, x46_17, rfl, HA, HJ17, HO_6, HO_8, HO_121001, HO_121002, BK101, BK120, HB⟩ := hcut
          have hl121001_17 := (Kd.R_reads' HO_121001.out).1
          rw [hl121001_17] at HO_121001
          (try simp only [hl121001_17])
          (try simp only [hl121001_17] at BK101)
          (try simp only [hl121001_17] at BK120)
          (try simp only [hl121001_17] at HO_6)
          (try simp only [hl121001_17] at HO_8)
          (try simp only [hl121001_17] at HO_121002)
          have hl121002_17 := (Kd.R_reads' HO_121002.out).1
          rw [hl121002_17] at HO_121002
          (try simp only [hl121002_17])
          (try simp only [hl121002_17] at BK101)
          (try simp only [hl121002_17] at BK120)
          (try simp only [hl121002_17] at HO_6)
          (try simp only [hl121002_17] at HO_8)
          (try simp only [hl121002_17] at HO_121001)
          cases kq with
          | zero => exact absurd HA.out (by simp [laws_FnExactPlaces.j0])
          | succ kj17 =>
            have H := HA.out
            clear HA
            simp only [laws_FnExactPlaces.j0] at H
            by_cases c46 : x46_17 = true
            · subst c46
              have H1 : (some false) = some r := by rw [if_pos rfl] at H; exact H
              clear H
              have H := H1
              clear H1
              exact absurd ((Option.some.inj H).trans hr_.out) (by decide)
            · replace c46 := Bool.eq_false_iff.mpr c46
              subst c46
              have H1 : ((laws_markIntS.f kj17 t121 1).bind fun bt137 => ((laws_heldIntS.f kj17 bt137.2 1).bind fun t139 => (if t139 < 0 then (some false) else (if t139 = bt137.1 then ((laws_toView.f kj17 a0_0 l0_1 l0_2).bind fun bt140 => ((impl_Places.f bt140.1 bt140.2.1 bt140.2.2 a1).bind fun t147 => ((laws_eqIntS.f kj17 t147 t110).bind fun t150 => (if t150 = true then ((laws_heldIntS.f kj17 bt137.2 1).bind fun t151 => (if t151 < 0 then (some false) else (if t151 = bt137.1 then (some true) else (some false)))) else (some false))))) else (some false))))) = some r := by rw [if_neg (show ¬ (false = true) by decide)] at H; exact H
              clear H
              have H := H1
              clear H1
              replace H := Option.bind_eq_some_iff.mp H
              obtain ⟨⟨t137, t138⟩, A470, H⟩ := H
              replace H : ((laws_heldIntS.f kj17 t138 1).bind fun t139 => (if t139 < 0 then (some false) else (if t139 = t137 then ((laws_toView.f kj17 a0_0 l0_1 l0_2).bind fun bt140 => ((impl_Places.f bt140.1 bt140.2.1 bt140.2.2 a1).bind fun t147 => ((laws_eqIntS.f kj17 t147 t110).bind fun t150 => (if t150 = true then ((laws_heldIntS.f kj17 t138 1).bind fun t151 => (if t151 < 0 then (some false) else (if t151 = t137 then (some true) else (some false)))) else (some false))))) else (some false)))) = some r := H
              have A47 := Aside0.mk A470
              clear A470
              replace H := Option.bind_eq_some_iff.mp H
              obtain ⟨t139, A480, H⟩ := H
              replace H : (if t139 < 0 then (some false) else (if t139 = t137 then ((laws_toView.f kj17 a0_0 l0_1 l0_2).bind fun bt140 => ((impl_Places.f bt140.1 bt140.2.1 bt140.2.2 a1).bind fun t147 => ((laws_eqIntS.f kj17 t147 t110).bind fun t150 => (if t150 = true then ((laws_heldIntS.f kj17 t138 1).bind fun t151 => (if t151 < 0 then (some false) else (if t151 = t137 then (some true) else (some false)))) else (some false))))) else (some false))) = some r := H
              have A48 := Aside0.mk A480
              clear A480
              by_cases c49 : t139 < 0
              · rw [if_pos c49] at H
                have c49b0 : decide (t139 < 0) = true := decide_eq_true c49
                clear c49
                exact absurd ((Option.some.inj H).trans hr_.out) (by decide)
              · rw [if_neg c49] at H
                have c49b0 : decide (t139 < 0) = false := decide_eq_false c49
                clear c49
                by_cases c50 : t139 = t137
                · rw [if_pos c50] at H
                  have c50b0 : (t139 == t137) = true := beq_iff_eq.mpr c50
                  have c50b1 : (t139 != t137) = false := bne_eq_false_iff_eq.mpr c50
                  clear c50
                  replace H := Option.bind_eq_some_iff.mp H
                  obtain ⟨⟨t140, t141, t144⟩, A510, H⟩ := H
                  replace H : ((impl_Places.f t140 t141 t144 a1).bind fun t147 => ((laws_eqIntS.f kj17 t147 t110).bind fun t150 => (if t150 = true then ((laws_heldIntS.f kj17 t138 1).bind fun t151 => (if t151 < 0 then (some false) else (if t151 = t137 then (some true) else (some false)))) else (some false)))) = some r := H
                  have A51 := Aside0.mk A510
                  clear A510
                  replace H := Option.bind_eq_some_iff.mp H
                  obtain ⟨t147, A520, H⟩ := H
                  replace H : ((laws_eqIntS.f kj17 t147 t110).bind fun t150 => (if t150 = true then ((laws_heldIntS.f kj17 t138 1).bind fun t151 => (if t151 < 0 then (some false) else (if t151 = t137 then (some true) else (some false)))) else (some false))) = some r := H
                  have A52 := Aside0.mk A520
                  clear A520
                  replace H := Option.bind_eq_some_iff.mp H
                  obtain ⟨t150, A530, H⟩ := H
                  replace H : (if t150 = true then ((laws_heldIntS.f kj17 t138 1).bind fun t151 => (if t151 < 0 then (some false) else (if t151 = t137 then (some true) else (some false)))) else (some false)) = some r := H
                  have A53 := Aside0.mk A530
                  clear A530
                  by_cases c54 : t150 = true
                  · subst c54
                    have H1 : ((laws_heldIntS.f kj17 t138 1).bind fun t151 => (if t151 < 0 then (some false) else (if t151 = t137 then (some true) else (some false)))) = some r := by rw [if_pos rfl] at H; exact H
                    clear H
                    have H := H1
                    clear H1
                    replace H := Option.bind_eq_some_iff.mp H
                    obtain ⟨t151, A550, H⟩ := H
                    replace H : (if t151 < 0 then (some false) else (if t151 = t137 then (some true) else (some false))) = some r := H
                    have A55 := Aside0.mk A550
                    clear A550
                    by_cases c56 : t151 < 0
                    · rw [if_pos c56] at H
                      have c56b0 : decide (t151 < 0) = true := decide_eq_true c56
                      clear c56
                      exact absurd ((Option.some.inj H).trans hr_.out) (by decide)
                    · rw [if_neg c56] at H
                      have c56b0 : decide (t151 < 0) = false := decide_eq_false c56
                      clear c56
                      by_cases c57 : t151 = t137
                      · rw [if_pos c57] at H
                        have c57b0 : (t151 == t137) = true := beq_iff_eq.mpr c57
                        have c57b1 : (t151 != t137) = false := bne_eq_false_iff_eq.mpr c57
                        clear c57
                        obtain rfl := Option.some.inj H
                        go_wp2_with (first | ((with_reducible refine gate_callee (f := 25) rfl ?_); refine goesL_ (some 49) rfl rfl Try.func25 (by kernel_rfl) rfl #[.slice Ao35 t121.length co35, .int .i64 1] rfl (by (try simp only [List.map_toArray, List.map_cons, List.map_nil]); first | done | rfl | (simp only [List.length_drop, List.length_take]; rfl)) ?_; (with_reducible refine (laws_markIntS.calls kj17 (fun k_ => some k_ = (.slice Ao35 t121.length co35 : Value).ownBlock) (.slice Ao35 t121.length co35) t121 1 t137 t138 w _ ?side1 ?side2 A47.out).mono ?_); (case side1 => repeat (first | (with_reducible first | exact HB.out | apply below_alloc | apply pw_below_drewN | apply below_drew1 | refine below_set ?_ GE101.out | refine below_set ?_ GE120.out) | exact HB.out)); (case side2 => exact Kd.R_tight rfl HO_8.out); rintro e w58 ⟨rfl, hy0, hb, hkp⟩; refine ⟨_, rfl, ?_⟩; have n0_ := Aside0.mk (Kd.R_mono (ok' := fun k_ => some k_ ≠ (.slice Ao35 t121.length co35 : Value).ownBlock ∧ some k_ ≠ (.slice Ao32 t134.length co32 : Value).ownBlock ∧ some k_ ≠ (.slice Ao33 t135.length co33 : Value).ownBlock) (Kd.R_keptB (HO_6.out) hkp (fun k_ hk_ hs_ => absurd hs_ (by revert hk_; simp only [and_imp]; intros; assumption))) (fun k_ hk_ => (by revert hk_; simp only [and_imp]; intros; refine ⟨?_, ?_, ?_⟩ <;> assumption))); have n1_ := Aside0.mk (Kd.R_reok rfl hy0 (fun k_ e_ => HO_8.out.1 k_ e_)); have n2_ := Aside0.mk (Kd.R_mono (ok' := fun k_ => some k_ ≠ (.slice Ao36 t110.length co36 : Value).ownBlock ∧ some k_ ≠ (.slice Ao35 t121.length co35 : Value).ownBlock ∧ some k_ ≠ (.slice Ao33 t135.length co33 : Value).ownBlock) (Kd.R_keptB (HO_121001.out) hkp (fun k_ hk_ hs_ => absurd hs_ (by revert hk_; simp only [and_imp]; intros; assumption))) (fun k_ hk_ => (by revert hk_; simp only [and_imp]; intros; refine ⟨?_, ?_, ?_⟩ <;> assumption))); have n3_ := Aside0.mk (Kd.R_mono (ok' := fun k_ => some k_ ≠ (.slice Ao36 t110.length co36 : Value).ownBlock ∧ some k_ ≠ (.slice Ao35 t121.length co35 : Value).ownBlock ∧ some k_ ≠ (.slice Ao32 t134.length co32 : Value).ownBlock) (Kd.R_keptB (HO_121002.out) hkp (fun k_ hk_ hs_ => absurd hs_ (by revert hk_; simp only [and_imp]; intros; assumption))) (fun k_ hk_ => (by revert hk_; simp only [and_imp]; intros; refine ⟨?_, ?_, ?_⟩ <;> assumption))); have n4_ := Aside0.mk (blk_kept (by (with_reducible repeat (first | refine blk_drewN ?_ _ | refine blk_drew ?_ | refine blk_alloc ?_ _)); exact BK101.out) hkp (fun hs_ => (fun e_ => (Kd.R_ne HO_8.out BK101.out (by decide)) e_) hs_)); have n5_ := Aside0.mk (blk_kept (by (with_reducible repeat (first | refine blk_drewN ?_ _ | refine blk_drew ?_ | refine blk_alloc ?_ _)); exact BK120.out) hkp (fun hs_ => (fun e_ => (Kd.R_ne HO_8.out BK120.out (by decide)) e_) hs_)); have n6_ := Aside0.mk (hb); clear HO_6; clear HO_8; clear HO_121001; clear HO_121002; clear BK101; clear BK120; clear HB; have HO_6 := n0_; have HO_8 := n1_; have HO_121001 := n2_; have HO_121002 := n3_; have BK101 := n4_; have BK120 := n5_; have HB := n6_; clear n0_ n1_ n2_ n3_ n4_ n5_ n6_; (try clear hb); (try clear hkp); (try clear hy0)) | ((with_reducible refine gate_callee (f := 46) rfl ?_); refine goesL_ (some 52) rfl rfl Try.func46 (by kernel_rfl) rfl #[.slice Ao35 t138.length co35, .int .i64 1] rfl (by (try simp only [List.map_toArray, List.map_cons, List.map_nil]); first | done | (rw [show t138.length = t121.length from (Kd.R_reads' HO_8.out).1.symm] <;> rfl) | rfl | (simp only [List.length_drop, List.length_take]; rfl)) ?_; (with_reducible refine (laws_heldIntS.calls kj17 _ _ t138 1 t139 _ ?side1 ?side2 A48.out).mono ?_); (case side1 => repeat (first | exact (Kd.R_reads' HO_8.out).2.2 | (with_reducible refine Kd.C_alloc ?_ _) | (with_reducible refine Kd.C_drewN ?_ _) | (with_reducible refine Kd.C_drew ?_))); (case side2 => rw [show t138.length = t121.length from (Kd.R_reads' HO_8.out).1.symm]; exact (Kd.R_reads' HO_8.out).2.1); rintro e w' ⟨rfl, ⟨nd, rfl⟩⟩; refine ⟨_, rfl, ?_⟩; have hnb59 := NB101_120.out; have hnc59 := NB120_101.out; have hcz60_0 : w58.cell? ⟨gb101, 0, none⟩ = some (.int .i64 a0_0) := (blk_cell BK101.out 0).trans rfl; have hcz60_1 : w58.cell? ⟨gb101, 1, none⟩ = some (.slice A0_1 l0_1.length c0_1) := (blk_cell BK101.out 1).trans rfl; have hcz60_2 : w58.cell? ⟨gb101, 2, none⟩ = some (.slice A0_2 l0_2.length c0_2) := (blk_cell BK101.out 2).trans rfl; have hfz60_0 := blk_frozen BK101.out 0; have hfz60_1 := blk_frozen BK101.out 1; have hfz60_2 := blk_frozen BK101.out 2) | ((with_reducible refine gate_callee (f := 32) rfl ?_); refine goesL_ (some 59) rfl rfl Try.func32 (by kernel_rfl) rfl #[.agg #[.int .i64 a0_0, .slice A0_1 l0_1.length c0_1, .slice A0_2 l0_2.length c0_2]] rfl (by (try simp only [List.map_toArray, List.map_cons, List.map_nil]); first | done | rfl | (simp only [List.length_drop, List.length_take]; rfl)) ?_; (with_reducible refine (laws_toView.calls kj17 a0_0 _ _ l0_1 _ _ l0_2 t140 t141 t144 _ ?side1 ?side2 ?side3 ?side4 A51.out).mono ?_); (case side1 => repeat (first | exact (Kd.C_below HR0_1.out (by repeat (first | (with_reducible first | exact HB.out | apply below_alloc | apply pw_below_drewN | apply below_drew1 | refine below_set ?_ GE101.out | refine below_set ?_ GE120.out) | exact HB.out))) | (with_reducible refine Kd.C_alloc ?_ _) | (with_reducible refine Kd.C_drewN ?_ _) | (with_reducible refine Kd.C_drew ?_))); (case side2 => exact HC0_1.out); (case side3 => repeat (first | exact (Kd.C_below HR0_2.out (by repeat (first | (with_reducible first | exact HB.out | apply below_alloc | apply pw_below_drewN | apply below_drew1 | refine below_set ?_ GE101.out | refine below_set ?_ GE120.out) | exact HB.out))) | (with_reducible refine Kd.C_alloc ?_ _) | (with_reducible refine Kd.C_drewN ?_ _) | (with_reducible refine Kd.C_drew ?_))); (case side4 => exact HC0_2.out); rintro e w61 ⟨v142, v145, rfl, ho0, ho1, hb⟩; refine ⟨_, rfl, ?_⟩; have n0_ := Aside0.mk (Kd.R_mono (Kd.R_told (Kd.R_told (Kd.R_old (by (with_reducible repeat (first | apply Kd.R_alloc | apply Kd.R_drewN | apply Kd.R_drew)); exact HO_6.out) hb) (Kd.R_base ho0)) (Kd.R_base ho1)) (fun _ h_ => h_.1)); have n1_ := Aside0.mk (Kd.R_mono (Kd.R_told (Kd.R_told (Kd.R_old (by (with_reducible repeat (first | apply Kd.R_alloc | apply Kd.R_drewN | apply Kd.R_drew)); exact HO_8.out) hb) (Kd.R_base ho0)) (Kd.R_base ho1)) (fun _ h_ => h_.1)); have n2_ := Aside0.mk (Kd.R_mono (Kd.R_told (Kd.R_told (Kd.R_old (by (with_reducible repeat (first | apply Kd.R_alloc | apply Kd.R_drewN | apply Kd.R_drew)); exact HO_121001.out) hb) (Kd.R_base ho0)) (Kd.R_base ho1)) (fun _ h_ => h_.1)); have n3_ := Aside0.mk (Kd.R_mono (Kd.R_told (Kd.R_told (Kd.R_old (by (with_reducible repeat (first | apply Kd.R_alloc | apply Kd.R_drewN | apply Kd.R_drew)); exact HO_121002.out) hb) (Kd.R_base ho0)) (Kd.R_base ho1)) (fun _ h_ => h_.1)); have n4_ := Aside0.mk (Kd.R_lower (Kd.R_new' (Kd.R_new' (Kd.R_new' (Kd.R_new' ho0 (Kd.R_lt (by (with_reducible repeat (first | apply Kd.R_alloc | apply Kd.R_drewN | apply Kd.R_drew)); exact HO_6.out))) (Kd.R_lt (by (with_reducible repeat (first | apply Kd.R_alloc | apply Kd.R_drewN | apply Kd.R_drew)); exact HO_8.out))) (Kd.R_lt (by (with_reducible repeat (first | apply Kd.R_alloc | apply Kd.R_drewN | apply Kd.R_drew)); exact HO_121001.out))) (Kd.R_lt (by (with_reducible repeat (first | apply Kd.R_alloc | apply Kd.R_drewN | apply Kd.R_drew)); exact HO_121002.out))) (below_size (by repeat (first | (with_reducible first | exact HB.out | apply below_alloc | apply pw_below_drewN | apply below_drew1 | refine below_set ?_ GE101.out | refine below_set ?_ GE120.out) | exact HB.out)))); have n5_ := Aside0.mk (Kd.R_lower (Kd.R_new' (Kd.R_new' (Kd.R_new' (Kd.R_new' ho1 (Kd.R_lt (by (with_reducible repeat (first | apply Kd.R_alloc | apply Kd.R_drewN | apply Kd.R_drew)); exact HO_6.out))) (Kd.R_lt (by (with_reducible repeat (first | apply Kd.R_alloc | apply Kd.R_drewN | apply Kd.R_drew)); exact HO_8.out))) (Kd.R_lt (by (with_reducible repeat (first | apply Kd.R_alloc | apply Kd.R_drewN | apply Kd.R_drew)); exact HO_121001.out))) (Kd.R_lt (by (with_reducible repeat (first | apply Kd.R_alloc | apply Kd.R_drewN | apply Kd.R_drew)); exact HO_121002.out))) (below_size (by repeat (first | (with_reducible first | exact HB.out | apply below_alloc | apply pw_below_drewN | apply below_drew1 | refine below_set ?_ GE101.out | refine below_set ?_ GE120.out) | exact HB.out)))); have n6_ := Aside0.mk (blk_below (g := gb101) (o := .cells #[.int .i64 a0_0, .slice A0_1 l0_1.length c0_1, .slice A0_2 l0_2.length c0_2] 43 (0, 0)) (by (with_reducible repeat (first | refine blk_drewN ?_ _ | refine blk_drew ?_ | refine blk_alloc ?_ _)); exact BK101.out) hb); have n7_ := Aside0.mk (blk_below (g := gb120) (o := .cells #[.int .i64 t113, .slice Ao32 t134.length co32, .slice Ao33 t135.length co33] 33 (0, 0)) (by (with_reducible repeat (first | refine blk_drewN ?_ _ | refine blk_drew ?_ | refine blk_alloc ?_ _)); exact BK120.out) hb); have n8_ := Aside0.mk (below_step (by repeat (first | (with_reducible first | exact HB.out | apply below_alloc | apply pw_below_drewN | apply below_drew1 | refine below_set ?_ GE101.out | refine below_set ?_ GE120.out) | exact HB.out)) hb); clear HO_6; clear HO_8; clear HO_121001; clear HO_121002; clear BK101; clear BK120; clear HB; have HO_6 := n0_; have HO_8 := n1_; have HO_121001 := n2_; have HO_121002 := n3_; have HO143 := n4_; have HO146 := n5_; have BK101 := n6_; have BK120 := n7_; have HB := n8_; clear n0_ n1_ n2_ n3_ n4_ n5_ n6_ n7_ n8_; (try clear hb); (try clear hb2); (try clear hk); (try clear hi); (try clear ho0); (try clear ho1); obtain ⟨Ao62, co62, eo62⟩ := Kd.R_slice HO143.out; subst eo62; obtain ⟨Ao63, co63, eo63⟩ := Kd.R_slice HO146.out; subst eo63) | ((with_reducible refine gate_callee (f := 45) rfl ?_); refine goesL_ (some 61) rfl rfl Try.func45 (by kernel_rfl) rfl #[.agg #[.int .i64 t140, .slice Ao62 t141.length co62, .slice Ao63 t144.length co63], .int .i64 a1] rfl (by (try simp only [List.map_toArray, List.map_cons, List.map_nil]); first | done | rfl | (simp only [List.length_drop, List.length_take]; rfl)) ?_; (with_reducible refine (impl_Places.calls t140 _ _ t141 _ _ t144 a1 t147 _ ?side1 ?side2 ?side3 ?side4 A52.out).mono ?_); (case side1 => repeat (first | exact (Kd.R_reads' HO143.out).2.2 | (with_reducible refine Kd.C_alloc ?_ _) | (with_reducible refine Kd.C_drewN ?_ _) | (with_reducible refine Kd.C_drew ?_))); (case side2 => exact (Kd.R_reads' HO143.out).2.1); (case side3 => repeat (first | exact (Kd.R_reads' HO146.out).2.2 | (with_reducible refine Kd.C_alloc ?_ _) | (with_reducible refine Kd.C_drewN ?_ _) | (with_reducible refine Kd.C_drew ?_))); (case side4 => exact (Kd.R_reads' HO146.out).2.1); rintro e w64 ⟨v148, rfl, ho0, hb⟩; refine ⟨_, rfl, ?_⟩; have n0_ := Aside0.mk (Kd.R_elder' (by (with_reducible repeat (first | apply Kd.R_alloc | apply Kd.R_drewN | apply Kd.R_drew)); exact HO_6.out) (Kd.R_base ho0) hb); have n1_ := Aside0.mk (Kd.R_elder' (by (with_reducible repeat (first | apply Kd.R_alloc | apply Kd.R_drewN | apply Kd.R_drew)); exact HO_8.out) (Kd.R_base ho0) hb); have n2_ := Aside0.mk (Kd.R_elder' (by (with_reducible repeat (first | apply Kd.R_alloc | apply Kd.R_drewN | apply Kd.R_drew)); exact HO_121001.out) (Kd.R_base ho0) hb); have n3_ := Aside0.mk (Kd.R_elder' (by (with_reducible repeat (first | apply Kd.R_alloc | apply Kd.R_drewN | apply Kd.R_drew)); exact HO_121002.out) (Kd.R_base ho0) hb); have n4_ := Aside0.mk (Kd.R_elder' (by (with_reducible repeat (first | apply Kd.R_alloc | apply Kd.R_drewN | apply Kd.R_drew)); exact HO143.out) (Kd.R_base ho0) hb); have n5_ := Aside0.mk (Kd.R_elder' (by (with_reducible repeat (first | apply Kd.R_alloc | apply Kd.R_drewN | apply Kd.R_drew)); exact HO146.out) (Kd.R_base ho0) hb); have n6_ := Aside0.mk (Kd.R_lower (Kd.R_new' (Kd.R_new' (Kd.R_new' (Kd.R_new' (Kd.R_new' (Kd.R_new' ho0 (Kd.R_lt (by (with_reducible repeat (first | apply Kd.R_alloc | apply Kd.R_drewN | apply Kd.R_drew)); exact HO_6.out))) (Kd.R_lt (by (with_reducible repeat (first | apply Kd.R_alloc | apply Kd.R_drewN | apply Kd.R_drew)); exact HO_8.out))) (Kd.R_lt (by (with_reducible repeat (first | apply Kd.R_alloc | apply Kd.R_drewN | apply Kd.R_drew)); exact HO_121001.out))) (Kd.R_lt (by (with_reducible repeat (first | apply Kd.R_alloc | apply Kd.R_drewN | apply Kd.R_drew)); exact HO_121002.out))) (Kd.R_lt (by (with_reducible repeat (first | apply Kd.R_alloc | apply Kd.R_drewN | apply Kd.R_drew)); exact HO143.out))) (Kd.R_lt (by (with_reducible repeat (first | apply Kd.R_alloc | apply Kd.R_drewN | apply Kd.R_drew)); exact HO146.out))) (below_size (by repeat (first | (with_reducible first | exact HB.out | apply below_alloc | apply pw_below_drewN | apply below_drew1 | refine below_set ?_ GE101.out | refine below_set ?_ GE120.out) | exact HB.out)))); have n7_ := Aside0.mk (blk_below (g := gb101) (o := .cells #[.int .i64 a0_0, .slice A0_1 l0_1.length c0_1, .slice A0_2 l0_2.length c0_2] 43 (0, 0)) (by (with_reducible repeat (first | refine blk_drewN ?_ _ | refine blk_drew ?_ | refine blk_alloc ?_ _)); exact BK101.out) hb); have n8_ := Aside0.mk (blk_below (g := gb120) (o := .cells #[.int .i64 t113, .slice Ao32 t134.length co32, .slice Ao33 t135.length co33] 33 (0, 0)) (by (with_reducible repeat (first | refine blk_drewN ?_ _ | refine blk_drew ?_ | refine blk_alloc ?_ _)); exact BK120.out) hb); have n9_ := Aside0.mk (below_step (by repeat (first | (with_reducible first | exact HB.out | apply below_alloc | apply pw_below_drewN | apply below_drew1 | refine below_set ?_ GE101.out | refine below_set ?_ GE120.out) | exact HB.out)) hb); clear HO_6; clear HO_8; clear HO_121001; clear HO_121002; clear HO143; clear HO146; clear BK101; clear BK120; clear HB; have HO_6 := n0_; have HO_8 := n1_; have HO_121001 := n2_; have HO_121002 := n3_; have HO143 := n4_; have HO146 := n5_; have HO149 := n6_; have BK101 := n7_; have BK120 := n8_; have HB := n9_; clear n0_ n1_ n2_ n3_ n4_ n5_ n6_ n7_ n8_ n9_; (try clear hb); (try clear hb2); (try clear hk); (try clear hi); (try clear ho0); obtain ⟨Ao65, co65, eo65⟩ := Kd.R_slice HO149.out; subst eo65) | ((with_reducible refine gate_callee (f := 24) rfl ?_); refine goesL_ (some 64) rfl rfl Try.func24 (by kernel_rfl) rfl #[.slice Ao65 t147.length co65, .slice Ao36 t110.length co36] rfl (by (try simp only [List.map_toArray, List.map_cons, List.map_nil]); first | done | rfl | (simp only [List.length_drop, List.length_take]; rfl)) ?_; (with_reducible refine (laws_eqIntS.calls kj17 _ _ t147 _ _ t110 true _ ?side1 ?side2 ?side3 ?side4 A53.out).mono ?_); (case side1 => repeat (first | exact (Kd.R_reads' HO149.out).2.2 | (with_reducible refine Kd.C_alloc ?_ _) | (with_reducible refine Kd.C_drewN ?_ _) | (with_reducible refine Kd.C_drew ?_))); (case side2 => exact (Kd.R_reads' HO149.out).2.1); (case side3 => repeat (first | exact (Kd.R_reads' HO_6.out).2.2 | (with_reducible refine Kd.C_alloc ?_ _) | (with_reducible refine Kd.C_drewN ?_ _) | (with_reducible refine Kd.C_drew ?_))); (case side4 => exact (Kd.R_reads' HO_6.out).2.1); rintro e w' ⟨rfl, ⟨nd, rfl⟩⟩; refine ⟨_, rfl, ?_⟩) | ((with_reducible refine gate_callee (f := 46) rfl ?_); refine goesL_ (some 68) rfl rfl Try.func46 (by kernel_rfl) rfl #[.slice Ao35 t138.length co35, .int .i64 1] rfl (by (try simp only [List.map_toArray, List.map_cons, List.map_nil]); first | done | (rw [show t138.length = t121.length from (Kd.R_reads' HO_8.out).1.symm] <;> rfl) | rfl | (simp only [List.length_drop, List.length_take]; rfl)) ?_; (with_reducible refine (laws_heldIntS.calls kj17 _ _ t138 1 t151 _ ?side1 ?side2 A55.out).mono ?_); (case side1 => repeat (first | exact (Kd.R_reads' HO_8.out).2.2 | (with_reducible refine Kd.C_alloc ?_ _) | (with_reducible refine Kd.C_drewN ?_ _) | (with_reducible refine Kd.C_drew ?_))); (case side2 => rw [show t138.length = t121.length from (Kd.R_reads' HO_8.out).1.symm]; exact (Kd.R_reads' HO_8.out).2.1); rintro e w' ⟨rfl, ⟨nd, rfl⟩⟩; refine ⟨_, rfl, ?_⟩))
                        go_ret
                        exact ⟨by first | rfl | (simp [errW_none, errW_some] <;> rfl) | (simp [*, errW_none, errW_some] <;> rfl), by repeat (first | (with_reducible first | exact HB.out | apply below_alloc | apply pw_below_drewN | apply below_drew1 | refine below_set ?_ GE101.out | refine below_set ?_ GE120.out) | exact HB.out)⟩
                      · rw [if_neg c57] at H
                        have c57b0 : (t151 == t137) = false := beq_eq_false_iff_ne.mpr c57
                        have c57b1 : (t151 != t137) = true := bne_iff_ne.mpr c57
                        exact absurd ((Option.some.inj H).trans hr_.out) (by decide)
                  · replace c54 := Bool.eq_false_iff.mpr c54
                    subst c54
                    have H1 : (some false) = some r := by rw [if_neg (show ¬ (false = true) by decide)] at H; exact H
                    clear H
                    have H := H1
                    clear H1
                    exact absurd ((Option.some.inj H).trans hr_.out) (by decide)
                · rw [if_neg c50] at H
                  have c50b0 : (t139 == t137) = false := beq_eq_false_iff_ne.mpr c50
                  have c50b1 : (t139 != t137) = true := bne_iff_ne.mpr c50
                  exact absurd ((Option.some.inj H).trans hr_.out) (by decide)
      · replace c16 := Bool.eq_false_iff.mpr c16
        subst c16
        have H1 : (some false) = some r := by rw [if_neg (show ¬ (false = true) by decide)] at H; exact H
        clear H
        have H := H1
        clear H1
        exact absurd ((Option.some.inj H).trans hr_.out) (by decide)
    · replace c13 := Bool.eq_false_iff.mpr c13
      subst c13
      have H1 : (some false) = some r := by rw [if_neg (show ¬ (false = true) by decide)] at H; exact H
      clear H
      have H := H1
      clear H1
      exact absurd ((Option.some.inj H).trans hr_.out) (by decide)

end Go.Proofs.Ytipjhbngbaifeaa.PA

-- By a program (prt.py, over the print of the kit), for this claim. Not trusted: Lean checks it.
namespace Go.Proofs.Ytipjhbngbaifeaa.PA
open Go.RowKit Go.Proofs.YtipjhbngbaifeaaW.PrintWords Go.Proofs.YtipjhbngbaifeaaW.PrintLast Go.Proofs.YtipjhbngbaifeaaW.PrintMore
attribute [local go_sem] max2_int min2_int max_two min_two max_three min_three max_four min_four   -- for this text's walks alone
set_option linter.unusedVariables false
set_option linter.unusedSimpArgs false

/-! ### impl_evenly: function 68 -/
def impl_evenly.l0 : Nat → List Int → Int → Int → Option (Int × Bool)
  | 0, _, _, _ => none
  | k + 1, x0, x4, x5 => if x5 < (x0.length : Int) then (if 0 ≤ x5 then (if 0 ≤ (wrap64 (x5 - 1)) then (if (wrap64 (x5 - 1)) < (x0.length : Int) then (if (wrap64 ((rd x0 x5) - (rd x0 (wrap64 (x5 - 1))))) = x4 then (impl_evenly.l0 k x0 x4 (wrap64 (x5 + 1))) else (some (0, false))) else (none)) else (none)) else (none)) else (some (x4, true))
def impl_evenly.f (k : Nat) (l0 : List Int) : Option (Int × Bool) := if (l0.length : Int) < 2 then (some (1, true)) else (if 1 < (l0.length : Int) then (if 0 < (l0.length : Int) then (impl_evenly.l0 k l0 (wrap64 ((rd l0 1) - (rd l0 0))) 1) else (none)) else (none))
theorem impl_evenly.mono_l : ∀ k, (∀ y0 y1 y2, LeO (impl_evenly.l0 k y0 y1 y2) (impl_evenly.l0 (k + 1) y0 y1 y2))
  | 0 => fun _ _ _ r h => by simp [impl_evenly.l0] at h
  | k + 1 => by
    have ih0 := impl_evenly.mono_l k
    · intro y0 y1 y2
      unfold impl_evenly.l0
      repeat' first
      | (with_reducible exact ih0 _ _ _)
      | (with_reducible exact LeO.refl _)
      | (with_reducible exact LeO.none _)
      | (with_reducible refine LeO.ite ?_ ?_)
      | (with_reducible refine LeO.bind ?_ (fun _ => ?_))
      | exact ih0 _ _ _
      | exact LeO.none _
      | refine LeO.ite ?_ ?_
      | refine LeO.bind ?_ (fun _ => ?_)
theorem impl_evenly.mono : ∀ a0 k, LeO (impl_evenly.f k a0) (impl_evenly.f (k + 1) a0) := by
  intro a0 k
  have ih0 := impl_evenly.mono_l k
  unfold impl_evenly.f
  repeat' first
      | (with_reducible exact ih0 _ _ _)
      | (with_reducible exact LeO.refl _)
      | (with_reducible exact LeO.none _)
      | (with_reducible refine LeO.ite ?_ ?_)
      | (with_reducible refine LeO.bind ?_ (fun _ => ?_))
      | exact ih0 _ _ _
      | exact LeO.none _
      | refine LeO.ite ?_ ?_
      | refine LeO.bind ?_ (fun _ => ?_)

end Go.Proofs.Ytipjhbngbaifeaa.PA

namespace Go.Proofs.Ytipjhbngbaifeaa.PA
open Go.RowKit Go.Proofs.YtipjhbngbaifeaaW.PrintWords Go.Proofs.YtipjhbngbaifeaaW.PrintLast Go.Proofs.YtipjhbngbaifeaaW.PrintMore
set_option linter.unusedVariables false
set_option linter.unusedSimpArgs false
/-- From element i on, n times: the distance is d. -/
def evN (l : List Int) (d : Int) : Nat → Nat → Bool
  | 0, _ => true
  | n + 1, i => decide (wrap64 (rd l (i : Int) - rd l ((i : Int) - 1)) = d) && evN l d n (i + 1)
/-- The distance of numbers, if it is the same everywhere. -/
def lineR (l : List Int) : Int × Bool := if (l.length : Int) < 2 then (1, true) else if evN l (wrap64 (rd l 1 - rd l 0)) (l.length - 1) 1 then (wrap64 (rd l 1 - rd l 0), true) else (0, false)
def impl_LineView.f (off : Int) (l1 l2 : List Int) : Option (Int × Bool) := some (if formedB off l1 l2 = true then lineR (plcsV off l1 l2) else (0, false))
end Go.Proofs.Ytipjhbngbaifeaa.PA

namespace Go.Proofs.Ytipjhbngbaifeaa.PA
open Go.RowKit Go.Proofs.YtipjhbngbaifeaaW.PrintWords Go.Proofs.YtipjhbngbaifeaaW.PrintLast Go.Proofs.YtipjhbngbaifeaaW.PrintMore
set_option linter.unusedVariables false
set_option linter.unusedSimpArgs false
theorem set_backI (n : Nat) (ys : List Int) (x : Int) : (List.replicate (n + 1) (0 : Int) ++ ys).set n x = List.replicate n 0 ++ x :: ys := by
  rw [List.replicate_succ']; simp
theorem l5Index_loop : ∀ (n : Nat) (p q dn : List Int) (c : Int), p.length = n → (p ++ q).length ≤ 1000000 → 0 ≤ c → c ≤ 1000000000 → (∀ a ∈ p, 1 ≤ a ∧ a ≤ 1000000000) →
    Ev (fun k => spec_l5Index.l0 k (p ++ q) c (List.replicate n 0 ++ dn) ((n : Int) - 1)) (digs p c ++ dn)
  | 0, p, q, dn, c, hp, _, _, _, _ => by
    obtain rfl := List.eq_nil_of_length_eq_zero hp
    refine evVal (evRound (Ev.now _) fun k => ?_) rfl
    simp only [spec_l5Index.l0]; rw [if_neg (by omega)]; simp [digs_nil]
  | n + 1, p, q, dn, c, hp, hl, h0, h1, hr => by
    obtain ⟨p, a, rfl, hq⟩ := snocI hp
    have ha := hr a (by simp)
    have ih := l5Index_loop n p (a :: q) (c % a :: dn) (c / a) hq (by simpa using hl) (Int.ediv_nonneg h0 (by omega)) (by have := Int.ediv_le_self a h0; omega) (fun x hx => hr x (by simp [hx]))
    rw [digs_snoc]
    refine evVal (evRound ih fun k => ?_) (by simp)
    have e : p ++ [a] ++ q = p ++ a :: q := by simp
    have hn : ((n + 1 : Nat) : Int) - 1 = (n : Int) := by omega
    have hlen : (p ++ [a] ++ q).length ≤ 1000000 := hl
    rw [e, hn]
    simp only [spec_l5Index.l0]
    rw [if_pos (by omega), if_pos (by omega), if_pos (by simp; omega), rd_last p q a n hq, if_neg (by omega), if_pos (by simp; omega), Int.toNat_natCast, set_backI,
      Int.tdiv_eq_ediv_of_nonneg h0, Int.tmod_eq_emod_of_nonneg h0, w64 (x := c / a) (by have := Int.ediv_nonneg h0 (show 0 ≤ a by omega); omega) (by have := Int.ediv_le_self a h0; omega),
      w64 (by omega) (by simp at hlen; omega)]
theorem l5Index_ev (s : List Int) (c : Int) (hl : s.length ≤ 1000000) (h0 : 0 ≤ c) (h1 : c ≤ 1000000000) (hr : ∀ a ∈ s, 1 ≤ a ∧ a ≤ 1000000000) : Ev (fun k => spec_l5Index.f k s c) (digs s c) := by
  have h := l5Index_loop s.length s [] [] c rfl (by simpa using hl) h0 h1 hr
  simp only [List.append_nil] at h
  refine Ev.congr (fun k => ?_) h
  simp only [spec_l5Index.f]
  rw [if_pos (by omega), if_pos (by omega), w64 (by omega) (by omega)]
  simp
end Go.Proofs.Ytipjhbngbaifeaa.PA

-- By a program (prt.py, over the print of the kit), for this claim. Not trusted: Lean checks it.
namespace Go.Proofs.Ytipjhbngbaifeaa.PA
open Go.RowKit Go.Proofs.YtipjhbngbaifeaaW.PrintWords Go.Proofs.YtipjhbngbaifeaaW.PrintLast Go.Proofs.YtipjhbngbaifeaaW.PrintMore
attribute [local go_sem] max2_int min2_int max_two min_two max_three min_three max_four min_four   -- for this text's walks alone
set_option linter.unusedVariables false
set_option linter.unusedSimpArgs false

/-! ### spec_l7Line: function 67 -/
def spec_l7Line.l0 : Nat → List Int → Int → Int → Option (Int × Bool)
  | 0, _, _, _ => none
  | k + 1, x0, x4, x5 => if x5 < (x0.length : Int) then (if 0 ≤ x5 then (if 0 ≤ (wrap64 (x5 - 1)) then (if (wrap64 (x5 - 1)) < (x0.length : Int) then (if (wrap64 ((rd x0 x5) - (rd x0 (wrap64 (x5 - 1))))) = x4 then (spec_l7Line.l0 k x0 x4 (wrap64 (x5 + 1))) else (some (0, false))) else (none)) else (none)) else (none)) else (some (x4, true))
def spec_l7Line.f (k : Nat) (l0 : List Int) : Option (Int × Bool) := if (l0.length : Int) < 2 then (some (1, true)) else (if 1 < (l0.length : Int) then (if 0 < (l0.length : Int) then (spec_l7Line.l0 k l0 (wrap64 ((rd l0 1) - (rd l0 0))) 1) else (none)) else (none))
theorem spec_l7Line.mono_l : ∀ k, (∀ y0 y1 y2, LeO (spec_l7Line.l0 k y0 y1 y2) (spec_l7Line.l0 (k + 1) y0 y1 y2))
  | 0 => fun _ _ _ r h => by simp [spec_l7Line.l0] at h
  | k + 1 => by
    have ih0 := spec_l7Line.mono_l k
    · intro y0 y1 y2
      unfold spec_l7Line.l0
      repeat' first
      | (with_reducible exact ih0 _ _ _)
      | (with_reducible exact LeO.refl _)
      | (with_reducible exact LeO.none _)
      | (with_reducible refine LeO.ite ?_ ?_)
      | (with_reducible refine LeO.bind ?_ (fun _ => ?_))
      | exact ih0 _ _ _
      | exact LeO.none _
      | refine LeO.ite ?_ ?_
      | refine LeO.bind ?_ (fun _ => ?_)
theorem spec_l7Line.mono : ∀ a0 k, LeO (spec_l7Line.f k a0) (spec_l7Line.f (k + 1) a0) := by
  intro a0 k
  have ih0 := spec_l7Line.mono_l k
  unfold spec_l7Line.f
  repeat' first
      | (with_reducible exact ih0 _ _ _)
      | (with_reducible exact LeO.refl _)
      | (with_reducible exact LeO.none _)
      | (with_reducible refine LeO.ite ?_ ?_)
      | (with_reducible refine LeO.bind ?_ (fun _ => ?_))
      | exact ih0 _ _ _
      | exact LeO.none _
      | refine LeO.ite ?_ ?_
      | refine LeO.bind ?_ (fun _ => ?_)

end Go.Proofs.Ytipjhbngbaifeaa.PA

-- By a program (prt.py, over the print of the kit), for this claim. Not trusted: Lean checks it.
namespace Go.Proofs.Ytipjhbngbaifeaa.PA
open Go.RowKit Go.Proofs.YtipjhbngbaifeaaW.PrintWords Go.Proofs.YtipjhbngbaifeaaW.PrintLast Go.Proofs.YtipjhbngbaifeaaW.PrintMore
attribute [local go_sem] max2_int min2_int max_two min_two max_three min_three max_four min_four   -- for this text's walks alone
set_option linter.unusedVariables false
set_option linter.unusedSimpArgs false

/-! ### spec_LineView: function 34 -/
def spec_LineView.f (k : Nat) (a0_0 : Int) (l0_1 : List Int) (l0_2 : List Int) : Option (Int × Bool) := (spec_l7Formed.f k a0_0 l0_1 l0_2).bind fun t102 => (if t102 = true then ((spec_l7Places.f k a0_0 l0_1 l0_2).bind fun t103 => ((spec_l7Line.f k t103).bind fun bt106 => (some (bt106.1, bt106.2)))) else (some (0, false)))
theorem spec_LineView.mono : ∀ a0 a1 a2 k, LeO (spec_LineView.f k a0 a1 a2) (spec_LineView.f (k + 1) a0 a1 a2) := by
  intro a0 a1 a2 k
  unfold spec_LineView.f
  repeat' first
      | (with_reducible exact spec_l7Formed.mono _ _ _ _)
      | (with_reducible exact spec_l7Line.mono _ _)
      | (with_reducible exact spec_l7Places.mono _ _ _ _)
      | (with_reducible exact LeO.refl _)
      | (with_reducible exact LeO.none _)
      | (with_reducible refine LeO.ite ?_ ?_)
      | (with_reducible refine LeO.bind ?_ (fun _ => ?_))
      | exact spec_l7Formed.mono _ _ _ _
      | exact spec_l7Line.mono _ _
      | exact spec_l7Places.mono _ _ _ _
      | exact LeO.none _
      | refine LeO.ite ?_ ?_
      | refine LeO.bind ?_ (fun _ => ?_)

end Go.Proofs.Ytipjhbngbaifeaa.PA

namespace Go.Proofs.Ytipjhbngbaifeaa.PA
open Go.RowKit Go.Proofs.YtipjhbngbaifeaaW.PrintWords Go.Proofs.YtipjhbngbaifeaaW.PrintLast Go.Proofs.YtipjhbngbaifeaaW.PrintMore
set_option linter.unusedVariables false
set_option linter.unusedSimpArgs false
theorem l7P_inner {off : Int} {l1 l2 : List Int} (hf : formedB off l1 l2 = true) (acc idx : List Int) (n t : Int) (R : List Int) (hidx : idx.length = l1.length) (ha : acc.length < 17592186044416) (tot : Int)
    (hN : Ev (fun k => spec_l7Places.l0 k (acc ++ [tot]) n (wrap64 (t + 1)) off l1 l2) R) : ∀ (d j : Nat) (q : Int), idx.length - j = d → j ≤ idx.length → plc (formedL off l1 l2) j q (idx.drop j) = tot →
    Ev (fun k => spec_l7Places.l1 k acc n t idx q (j : Int) off l1 l2) R
  | 0, j, q, hd, hj, hq => by
    rw [plc_end _ _ _ _ (by omega)] at hq
    subst hq
    refine evRound hN fun k => ?_
    simp only [spec_l7Places.l1]; rw [if_neg (by omega), if_pos ha]
  | d + 1, j, q, hd, hj, hq => by
    have h5 := formed_lens hf
    rw [plc_step _ _ _ _ (by omega), formedL_mk hf, gi_mk7 h5.1 (by omega), ← formedL_mk hf] at hq
    have ih := l7P_inner hf acc idx n t R hidx ha tot hN d (j + 1) _ (by omega) (by omega) hq
    refine evRound ih fun k => ?_
    simp only [spec_l7Places.l1]
    rw [if_pos (by omega), if_pos (by omega), if_pos (by omega), w64 (x := (j : Int) + 1) (by omega) (by omega)]; push_cast; rfl
theorem l7P_outer {off : Int} {l1 l2 : List Int} (hf : formedB off l1 l2 = true) : ∀ (d t : Nat), (prod l1).toNat - t = d → t ≤ (prod l1).toNat →
    Ev (fun k => spec_l7Places.l0 k (placesL (formedL off l1 l2) l1.length t) (prod l1) (t : Int) off l1 l2) (plcsV off l1 l2)
  | 0, t, hd, ht => by
    have hp := shOk_prod (formed_sh hf)
    obtain rfl : t = (prod l1).toNat := by omega
    refine evRound (Ev.now _) fun k => ?_
    simp only [spec_l7Places.l0]; rw [if_neg (by omega)]; rfl
  | d + 1, t, hd, ht => by
    have hp := shOk_prod (formed_sh hf)
    have hr := shOk_range (formed_sh hf)
    have h5 := formed_lens hf
    have ih := l7P_outer hf d (t + 1) (by omega) (by omega)
    have hlt : (t : Int) < prod l1 := by omega
    have hpos := pos_of_prod (fun x hx => (hr x hx).1) (by omega)
    have hi := l5Index_ev l1 (t : Int) (by omega) (by omega) (by omega) (fun a ha => ⟨hpos a ha, by have := (hr a ha).2; omega⟩)
    have hL := placesL_len (formedL off l1 l2) l1.length t
    rw [placesL, lshape_formed hf, idxL_of hr hlt] at ih
    have hin := l7P_inner hf (placesL (formedL off l1 l2) l1.length t) (digs l1 (t : Int)) (prod l1) (t : Int) (plcsV off l1 l2) (digs_len _ _) (by omega) _
      (by rw [w64 (by omega) (by omega)]; push_cast at ih; exact ih) _ 0 (gi (formedL off l1 l2) 0) rfl (Nat.zero_le _) rfl
    rw [formedL_mk hf, gi_mk0, ← formedL_mk hf] at hin
    refine evRound (Ev.bind (f := fun k idx => spec_l7Places.l1 k (placesL (formedL off l1 l2) l1.length t) (prod l1) (t : Int) idx off 0 off l1 l2) hi hin) fun k => ?_
    simp only [spec_l7Places.l0]; rw [if_pos hlt]
theorem l7Places_ev {off : Int} {l1 l2 : List Int} (hf : formedB off l1 l2 = true) : Ev (fun k => spec_l7Places.f k off l1 l2) (plcsV off l1 l2) := by
  have h5 := formed_lens hf
  simp only [spec_l7Places.f]
  refine Ev.bind (l3Count_ev l1 (by omega)) ?_
  have hs := formed_sh hf
  have hc : cnt l1 = prod l1 := by
    unfold cnt; simp only [shOk, Bool.and_eq_true] at hs; rw [if_pos hs.2]
  rw [hc]
  exact l7P_outer hf _ 0 rfl (Nat.zero_le _)
theorem specViewOk_loop (a : Int) (h0 : 0 ≤ a) (h1 : a ≤ 10000) : ∀ (t p : List Int), (p ++ t).length < 35184372088833 → Ev (fun k => spec_ViewOk.l0 k a (p ++ t) (p.length : Int)) (!outB a t)
  | [], p, _ => by
    refine evRound (Ev.now _) fun k => ?_
    simp only [spec_ViewOk.l0]; rw [if_neg len_nlt]; rfl
  | x :: t, p, hl => by
    have hw : wrap64 (a - 1) = a - 1 := w64 (by omega) (by omega)
    by_cases hx : x < 0
    · refine evVal (evRound (Ev.now false) fun k => ?_) (by simp [outB, show ¬ (0 ≤ x) by omega])
      simp only [spec_ViewOk.l0]; rw [if_pos len_lt, if_pos (by omega), rd_mid, if_pos hx]
    · by_cases hy : x ≥ a
      · refine evVal (evRound (Ev.now false) fun k => ?_) (by simp [outB, hw]; intro _ h; omega)
        simp only [spec_ViewOk.l0]; rw [if_pos len_lt, if_pos (by omega), rd_mid, if_neg hx, if_pos hy]
      · have ih := specViewOk_loop a h0 h1 t (p ++ [x]) (by simpa using hl)
        rw [← app_mid] at ih
        refine evVal (evRound ih fun k => ?_) ?_
        · simp only [spec_ViewOk.l0]; rw [if_pos len_lt, if_pos (by omega), rd_mid, if_neg hx, if_neg hy, next_mid p t x hl]
        · simp only [outB, List.any_cons, hw]
          rw [decide_eq_true (show 0 ≤ x ∧ x ≤ a - 1 by omega)]; rfl
theorem specViewOk_ev (off : Int) (l1 l2 : List Int) (a : Int) (h1 : l1.length ≤ 35184372088832) (h2 : l2.length ≤ 35184372088832) : Ev (fun k => spec_ViewOk.f k off l1 l2 a) (okV off l1 l2 a) := by
  simp only [spec_ViewOk.f]
  refine Ev.bind (l7Formed_ev off l1 l2 h1 h2) ?_
  have no : okV off l1 l2 a = false → Ev (fun k => spec_ViewOk.j0 k a true off l1 l2) (okV off l1 l2 a) := fun e => by
    rw [e]; refine evRound (Ev.now _) fun k => by simp only [spec_ViewOk.j0, if_true]
  by_cases hf : formedB off l1 l2 = true
  · simp only [hf, if_true]
    by_cases h0 : a < 0
    · simp only [h0, if_true]; exact no (by unfold okV; rw [decide_eq_false (by omega)]; simp)
    · simp only [h0, if_false]
      by_cases h3 : a > 10000
      · rw [decide_eq_true h3]; exact no (by unfold okV; rw [decide_eq_false (by omega)]; simp)
      · rw [decide_eq_false h3]
        have hl := specViewOk_loop a (by omega) (by omega) (plcsV off l1 l2) [] (by have := plcsV_len off l1 l2 hf; simp; omega)
        refine evVal (evRound (Ev.bind (f := fun k l => spec_ViewOk.l0 k a l 0) (l7Places_ev hf) hl) fun k => ?_) ?_
        · simp only [spec_ViewOk.j0, Bool.false_eq_true, if_false]
        · unfold okV; rw [hf, decide_eq_true (by omega)]; rfl
  · simp only [hf, if_false]
    exact no (by unfold okV; rw [(Bool.not_eq_true _).mp hf]; rfl)
/-- What Places answers. -/
def plcR (off : Int) (l1 l2 : List Int) (a : Int) : List Int := if okV off l1 l2 a = true then plcsV off l1 l2 else []
theorem specPlaces_ev (off : Int) (l1 l2 : List Int) (a : Int) (h1 : l1.length ≤ 35184372088832) (h2 : l2.length ≤ 35184372088832) : Ev (fun k => spec_Places.f k off l1 l2 a) (plcR off l1 l2 a) := by
  simp only [spec_Places.f, plcR]
  refine Ev.bind (specViewOk_ev off l1 l2 a h1 h2) ?_
  by_cases h : okV off l1 l2 a = true
  · simp only [h, if_true]
    have hf : formedB off l1 l2 = true := by unfold okV at h; simp only [Bool.and_eq_true] at h; exact h.1.1
    exact Ev.bind (l7Places_ev hf) (Ev.now _)
  · simp only [h, if_false]; exact Ev.now _
theorem plcR_len (off : Int) (l1 l2 : List Int) (a : Int) : (plcR off l1 l2 a).length ≤ 10000 := by
  unfold plcR
  split
  · rename_i h
    exact plcsV_len off l1 l2 (by unfold okV at h; simp only [Bool.and_eq_true] at h; exact h.1.1)
  · simp
end Go.Proofs.Ytipjhbngbaifeaa.PA
