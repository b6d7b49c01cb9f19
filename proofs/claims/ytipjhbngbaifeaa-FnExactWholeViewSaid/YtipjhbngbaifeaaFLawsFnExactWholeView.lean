-- By a program (prt.py, over the print of the kit), for this claim. Not trusted: Lean checks it.
import Derived.Test.YtipjhbngbaifeaaF0
import Derived.Test.YtipjhbngbaifeaaFImplWholeView
import Derived.Test.YtipjhbngbaifeaaFLawsEqIntS
import Derived.Test.YtipjhbngbaifeaaFLawsEqView
import Derived.Test.YtipjhbngbaifeaaFLawsHeldView
import Derived.Test.YtipjhbngbaifeaaFLawsMarkIntS
import Derived.Test.YtipjhbngbaifeaaFLawsMarkView
import Derived.Test.YtipjhbngbaifeaaFLawsToIntS
import Derived.Test.YtipjhbngbaifeaaFSpecWholeView
namespace Go.Proofs.Ytipjhbngbaifeaa.PA
open Go.RowKit Go.Proofs.YtipjhbngbaifeaaW.PrintWords Go.Proofs.YtipjhbngbaifeaaW.PrintLast Go.Proofs.YtipjhbngbaifeaaW.PrintMore
attribute [local go_sem] max2_int min2_int max_two min_two max_three min_three max_four min_four   -- for this text's walks alone
set_option linter.unusedVariables false
set_option linter.unusedSimpArgs false

/-! ### laws_FnExactWholeView: function 5 -/
mutual
def laws_FnExactWholeView.j0 : Nat → List Int → Bool → List Int → Bool → Bool → Int → List Int → List Int → Int → List Int → List Int → Option (Bool)
  | 0, _, _, _, _, _, _, _, _, _, _, _ => none
  | k + 1, x0, x4, x5, x7, x37, x113000, x113001, x113002, x125000, x125001, x125002 => if x37 = true then (some false) else ((laws_toIntS.f k x0).bind fun t126 => ((laws_eqIntS.f k x5 t126).bind fun t129 => (if t129 = true then ((laws_markIntS.f k x5 1).bind fun bt130 => (if bt130.1 < 0 then (laws_FnExactWholeView.j1 k x0 x4 true x113000 x113001 x113002 x125000 x125001 x125002) else ((laws_eqView.f k x125000 x125001 x125002 x113000 x113001 x113002).bind fun t132 => (if t132 = true then (laws_FnExactWholeView.j1 k x0 x4 (x7 != x4) x113000 x113001 x113002 x125000 x125001 x125002) else (laws_FnExactWholeView.j1 k x0 x4 true x113000 x113001 x113002 x125000 x125001 x125002))))) else (some false))))
def laws_FnExactWholeView.j1 : Nat → List Int → Bool → Bool → Int → List Int → List Int → Int → List Int → List Int → Option (Bool)
  | 0, _, _, _, _, _, _, _, _, _ => none
  | k + 1, x0, x4, x58, x113000, x113001, x113002, x125000, x125001, x125002 => if x58 = true then (some false) else ((laws_markView.f k x125000 x125001 x125002 1).bind fun bt133 => ((laws_heldView.f k x125000 bt133.2.1 bt133.2.2 1).bind fun t136 => (if t136 < 0 then (some false) else (if t136 = bt133.1 then ((laws_toIntS.f k x0).bind fun t137 => ((impl_WholeView.f k t137).bind fun bt140 => ((laws_eqView.f k bt140.1 bt140.2.1 bt140.2.2.1 x113000 x113001 x113002).bind fun t149 => (if t149 = true then (laws_FnExactWholeView.j2 k bt133.1 (bt140.2.2.2 != x4) x125000 bt133.2.1 bt133.2.2) else (laws_FnExactWholeView.j2 k bt133.1 true x125000 bt133.2.1 bt133.2.2))))) else (some false)))))
def laws_FnExactWholeView.j2 : Nat → Int → Bool → Int → List Int → List Int → Option (Bool)
  | 0, _, _, _, _, _ => none
  | k + 1, x9, x84, x125000, x125001, x125002 => if x84 = true then (some false) else ((laws_heldView.f k x125000 x125001 x125002 1).bind fun t150 => (if t150 < 0 then (some false) else (if t150 = x9 then (some true) else (some false))))
end
def laws_FnExactWholeView.f (k : Nat) (l0 : List Int) : Option (Bool) := if (l0.length : Int) > 1048576 then (some true) else ((laws_toIntS.f k l0).bind fun t101 => ((spec_WholeView.f k t101).bind fun bt104 => ((laws_toIntS.f k l0).bind fun t113 => ((impl_WholeView.f k t113).bind fun bt116 => ((laws_eqView.f k bt116.1 bt116.2.1 bt116.2.2.1 bt104.1 bt104.2.1 bt104.2.2.1).bind fun t125 => (if t125 = true then (laws_FnExactWholeView.j0 k l0 bt104.2.2.2 t113 bt116.2.2.2 (bt116.2.2.2 != bt104.2.2.2) bt104.1 bt104.2.1 bt104.2.2.1 bt116.1 bt116.2.1 bt116.2.2.1) else (laws_FnExactWholeView.j0 k l0 bt104.2.2.2 t113 bt116.2.2.2 true bt104.1 bt104.2.1 bt104.2.2.1 bt116.1 bt116.2.1 bt116.2.2.1)))))))
theorem laws_FnExactWholeView.mono_l : ∀ k, (∀ y0 y1 y2 y3 y4 y5 y6 y7 y8 y9 y10, LeO (laws_FnExactWholeView.j0 k y0 y1 y2 y3 y4 y5 y6 y7 y8 y9 y10) (laws_FnExactWholeView.j0 (k + 1) y0 y1 y2 y3 y4 y5 y6 y7 y8 y9 y10)) ∧ (∀ y0 y1 y2 y3 y4 y5 y6 y7 y8, LeO (laws_FnExactWholeView.j1 k y0 y1 y2 y3 y4 y5 y6 y7 y8) (laws_FnExactWholeView.j1 (k + 1) y0 y1 y2 y3 y4 y5 y6 y7 y8)) ∧ (∀ y0 y1 y2 y3 y4, LeO (laws_FnExactWholeView.j2 k y0 y1 y2 y3 y4) (laws_FnExactWholeView.j2 (k + 1) y0 y1 y2 y3 y4))
  | 0 => ⟨fun _ _ _ _ _ _ _ _ _ _ _ r h => by simp [laws_FnExactWholeView.j0] at h, fun _ _ _ _ _ _ _ _ _ r h => by simp [laws_FnExactWholeView.j1] at h, fun _ _ _ _ _ r h => by simp [laws_FnExactWholeView.j2] at h⟩
  | k + 1 => by
    obtain ⟨ih0, ih1, ih2⟩ := laws_FnExactWholeView.mono_l k
    refine ⟨?_, ?_, ?_⟩
    · intro y0 y1 y2 y3 y4 y5 y6 y7 y8 y9 y10
      unfold laws_FnExactWholeView.j0
      repeat' first
      | (with_reducible exact ih0 _ _ _ _ _ _ _ _ _ _ _)
      | (with_reducible exact ih1 _ _ _ _ _ _ _ _ _)
      | (with_reducible exact ih2 _ _ _ _ _)
      | (with_reducible exact impl_WholeView.mono _ _)
      | (with_reducible exact laws_eqIntS.mono _ _ _)
      | (with_reducible exact laws_eqView.mono _ _ _ _ _ _ _)
      | (with_reducible exact laws_heldView.mono _ _ _ _ _)
      | (with_reducible exact laws_markIntS.mono _ _ _)
      | (with_reducible exact laws_markView.mono _ _ _ _ _)
      | (with_reducible exact laws_toIntS.mono _ _)
      | (with_reducible exact spec_WholeView.mono _ _)
      | (with_reducible exact LeO.refl _)
      | (with_reducible exact LeO.none _)
      | (with_reducible refine LeO.ite ?_ ?_)
      | (with_reducible refine LeO.bind ?_ (fun _ => ?_))
      | exact ih0 _ _ _ _ _ _ _ _ _ _ _
      | exact ih1 _ _ _ _ _ _ _ _ _
      | exact ih2 _ _ _ _ _
      | exact impl_WholeView.mono _ _
      | exact laws_eqIntS.mono _ _ _
      | exact laws_eqView.mono _ _ _ _ _ _ _
      | exact laws_heldView.mono _ _ _ _ _
      | exact laws_markIntS.mono _ _ _
      | exact laws_markView.mono _ _ _ _ _
      | exact laws_toIntS.mono _ _
      | exact spec_WholeView.mono _ _
      | exact LeO.none _
      | refine LeO.ite ?_ ?_
      | refine LeO.bind ?_ (fun _ => ?_)
    · intro y0 y1 y2 y3 y4 y5 y6 y7 y8
      unfold laws_FnExactWholeView.j1
      repeat' first
      | (with_reducible exact ih0 _ _ _ _ _ _ _ _ _ _ _)
      | (with_reducible exact ih1 _ _ _ _ _ _ _ _ _)
      | (with_reducible exact ih2 _ _ _ _ _)
      | (with_reducible exact impl_WholeView.mono _ _)
      | (with_reducible exact laws_eqIntS.mono _ _ _)
      | (with_reducible exact laws_eqView.mono _ _ _ _ _ _ _)
      | (with_reducible exact laws_heldView.mono _ _ _ _ _)
      | (with_reducible exact laws_markIntS.mono _ _ _)
      | (with_reducible exact laws_markView.mono _ _ _ _ _)
      | (with_reducible exact laws_toIntS.mono _ _)
      | (with_reducible exact spec_WholeView.mono _ _)
      | (with_reducible exact LeO.refl _)
      | (with_reducible exact LeO.none _)
      | (with_reducible refine LeO.ite ?_ ?_)
      | (with_reducible refine LeO.bind ?_ (fun _ => ?_))
      | exact ih0 _ _ _ _ _ _ _ _ _ _ _
      | exact ih1 _ _ _ _ _ _ _ _ _
      | exact ih2 _ _ _ _ _
      | exact impl_WholeView.mono _ _
      | exact laws_eqIntS.mono _ _ _
      | exact laws_eqView.mono _ _ _ _ _ _ _
      | exact laws_heldView.mono _ _ _ _ _
      | exact laws_markIntS.mono _ _ _
      | exact laws_markView.mono _ _ _ _ _
      | exact laws_toIntS.mono _ _
      | exact spec_WholeView.mono _ _
      | exact LeO.none _
      | refine LeO.ite ?_ ?_
      | refine LeO.bind ?_ (fun _ => ?_)
    · intro y0 y1 y2 y3 y4
      unfold laws_FnExactWholeView.j2
      repeat' first
      | (with_reducible exact ih0 _ _ _ _ _ _ _ _ _ _ _)
      | (with_reducible exact ih1 _ _ _ _ _ _ _ _ _)
      | (with_reducible exact ih2 _ _ _ _ _)
      | (with_reducible exact impl_WholeView.mono _ _)
      | (with_reducible exact laws_eqIntS.mono _ _ _)
      | (with_reducible exact laws_eqView.mono _ _ _ _ _ _ _)
      | (with_reducible exact laws_heldView.mono _ _ _ _ _)
      | (with_reducible exact laws_markIntS.mono _ _ _)
      | (with_reducible exact laws_markView.mono _ _ _ _ _)
      | (with_reducible exact laws_toIntS.mono _ _)
      | (with_reducible exact spec_WholeView.mono _ _)
      | (with_reducible exact LeO.refl _)
      | (with_reducible exact LeO.none _)
      | (with_reducible refine LeO.ite ?_ ?_)
      | (with_reducible refine LeO.bind ?_ (fun _ => ?_))
      | exact ih0 _ _ _ _ _ _ _ _ _ _ _
      | exact ih1 _ _ _ _ _ _ _ _ _
      | exact ih2 _ _ _ _ _
      | exact impl_WholeView.mono _ _
      | exact laws_eqIntS.mono _ _ _
      | exact laws_eqView.mono _ _ _ _ _ _ _
      | exact laws_heldView.mono _ _ _ _ _
      | exact laws_markIntS.mono _ _ _
      | exact laws_markView.mono _ _ _ _ _
      | exact laws_toIntS.mono _ _
      | exact spec_WholeView.mono _ _
      | exact LeO.none _
      | refine LeO.ite ?_ ?_
      | refine LeO.bind ?_ (fun _ => ?_)
theorem laws_FnExactWholeView.mono : ∀ a0 k, LeO (laws_FnExactWholeView.f k a0) (laws_FnExactWholeView.f (k + 1) a0) := by
  intro a0 k
  obtain ⟨ih0, ih1, ih2⟩ := laws_FnExactWholeView.mono_l k
  unfold laws_FnExactWholeView.f
  repeat' first
      | (with_reducible exact ih0 _ _ _ _ _ _ _ _ _ _ _)
      | (with_reducible exact ih1 _ _ _ _ _ _ _ _ _)
      | (with_reducible exact ih2 _ _ _ _ _)
      | (with_reducible exact impl_WholeView.mono _ _)
      | (with_reducible exact laws_eqIntS.mono _ _ _)
      | (with_reducible exact laws_eqView.mono _ _ _ _ _ _ _)
      | (with_reducible exact laws_heldView.mono _ _ _ _ _)
      | (with_reducible exact laws_markIntS.mono _ _ _)
      | (with_reducible exact laws_markView.mono _ _ _ _ _)
      | (with_reducible exact laws_toIntS.mono _ _)
      | (with_reducible exact spec_WholeView.mono _ _)
      | (with_reducible exact LeO.refl _)
      | (with_reducible exact LeO.none _)
      | (with_reducible refine LeO.ite ?_ ?_)
      | (with_reducible refine LeO.bind ?_ (fun _ => ?_))
      | exact ih0 _ _ _ _ _ _ _ _ _ _ _
      | exact ih1 _ _ _ _ _ _ _ _ _
      | exact ih2 _ _ _ _ _
      | exact impl_WholeView.mono _ _
      | exact laws_eqIntS.mono _ _ _
      | exact laws_eqView.mono _ _ _ _ _ _ _
      | exact laws_heldView.mono _ _ _ _ _
      | exact laws_markIntS.mono _ _ _
      | exact laws_markView.mono _ _ _ _ _
      | exact laws_toIntS.mono _ _
      | exact spec_WholeView.mono _ _
      | exact LeO.none _
      | refine LeO.ite ?_ ?_
      | refine LeO.bind ?_ (fun _ => ?_)
set_option maxHeartbeats 8000000 in
set_option maxRecDepth 100000 in
theorem laws_FnExactWholeView.calls (k : Nat) (A0 : Option Addr) (c0 : Nat) (l0 : List Int) (r : Bool) (hr_ : Aside0 (r = true)) (w : World) (hr0 : Kd.C (Kd.int .i64) w A0 l0.length l0) (hc0 : l0.length ≤ c0) (h : laws_FnExactWholeView.f k l0 = some r) :
    Calls Try.prog 5 #[.slice A0 l0.length c0] w fun e w' => e = .returned (.bool r) ∧ Below w.heap.size w w' := by
  have hu33 := Try.underlying33
  have HR0 := Aside0.mk hr0
  have HC0 := Aside0.mk hc0
  clear hr0 hc0
  have HB := Aside0.mk (Below.refl w.heap.size w)
  have H : (if (l0.length : Int) > 1048576 then (some true) else ((laws_toIntS.f k l0).bind fun t101 => ((spec_WholeView.f k t101).bind fun bt104 => ((laws_toIntS.f k l0).bind fun t113 => ((impl_WholeView.f k t113).bind fun bt116 => ((laws_eqView.f k bt116.1 bt116.2.1 bt116.2.2.1 bt104.1 bt104.2.1 bt104.2.2.1).bind fun t125 => (if t125 = true then (laws_FnExactWholeView.j0 k l0 bt104.2.2.2 t113 bt116.2.2.2 (bt116.2.2.2 != bt104.2.2.2) bt104.1 bt104.2.1 bt104.2.2.1 bt116.1 bt116.2.1 bt116.2.2.1) else (laws_FnExactWholeView.j0 k l0 bt104.2.2.2 t113 bt116.2.2.2 true bt104.1 bt104.2.1 bt104.2.2.1 bt116.1 bt116.2.1 bt116.2.2.1)))))))) = some r := h
  clear h
  by_cases c2 : (l0.length : Int) > 1048576
  · rw [if_pos c2] at H
    have c2b0 : decide (1048576 < (l0.length : Int)) = true := decide_eq_true c2
    have c2b1 : decide (1048576 < l0.length) = true := decide_eq_true (by omega)
    clear c2
    obtain rfl := Option.some.inj H
    go_enter Try.func5, Try.ntmps5
    go_wp2
    go_ret
    exact ⟨by first | rfl | (simp [errW_none, errW_some] <;> rfl) | (simp [*, errW_none, errW_some] <;> rfl), by repeat (first | (with_reducible first | exact HB.out | apply below_alloc | apply pw_below_drewN | apply below_drew1) | exact HB.out)⟩
  · rw [if_neg c2] at H
    have c2b0 : decide (1048576 < (l0.length : Int)) = false := decide_eq_false c2
    have c2b1 : decide (1048576 < l0.length) = false := decide_eq_false (by omega)
    clear c2
    replace H := Option.bind_eq_some_iff.mp H
    obtain ⟨t101, A30, H⟩ := H
    replace H : ((spec_WholeView.f k t101).bind fun bt104 => ((laws_toIntS.f k l0).bind fun t113 => ((impl_WholeView.f k t113).bind fun bt116 => ((laws_eqView.f k bt116.1 bt116.2.1 bt116.2.2.1 bt104.1 bt104.2.1 bt104.2.2.1).bind fun t125 => (if t125 = true then (laws_FnExactWholeView.j0 k l0 bt104.2.2.2 t113 bt116.2.2.2 (bt116.2.2.2 != bt104.2.2.2) bt104.1 bt104.2.1 bt104.2.2.1 bt116.1 bt116.2.1 bt116.2.2.1) else (laws_FnExactWholeView.j0 k l0 bt104.2.2.2 t113 bt116.2.2.2 true bt104.1 bt104.2.1 bt104.2.2.1 bt116.1 bt116.2.1 bt116.2.2.1)))))) = some r := H
    have A3 := Aside0.mk A30
    clear A30
    replace H := Option.bind_eq_some_iff.mp H
    obtain ⟨⟨t104, t105, t108, t111⟩, A40, H⟩ := H
    replace H : ((laws_toIntS.f k l0).bind fun t113 => ((impl_WholeView.f k t113).bind fun bt116 => ((laws_eqView.f k bt116.1 bt116.2.1 bt116.2.2.1 t104 t105 t108).bind fun t125 => (if t125 = true then (laws_FnExactWholeView.j0 k l0 t111 t113 bt116.2.2.2 (bt116.2.2.2 != t111) t104 t105 t108 bt116.1 bt116.2.1 bt116.2.2.1) else (laws_FnExactWholeView.j0 k l0 t111 t113 bt116.2.2.2 true t104 t105 t108 bt116.1 bt116.2.1 bt116.2.2.1))))) = some r := H
    have A4 := Aside0.mk A40
    clear A40
    replace H := Option.bind_eq_some_iff.mp H
    obtain ⟨t113, A50, H⟩ := H
    replace H : ((impl_WholeView.f k t113).bind fun bt116 => ((laws_eqView.f k bt116.1 bt116.2.1 bt116.2.2.1 t104 t105 t108).bind fun t125 => (if t125 = true then (laws_FnExactWholeView.j0 k l0 t111 t113 bt116.2.2.2 (bt116.2.2.2 != t111) t104 t105 t108 bt116.1 bt116.2.1 bt116.2.2.1) else (laws_FnExactWholeView.j0 k l0 t111 t113 bt116.2.2.2 true t104 t105 t108 bt116.1 bt116.2.1 bt116.2.2.1)))) = some r := H
    have A5 := Aside0.mk A50
    clear A50
    replace H := Option.bind_eq_some_iff.mp H
    obtain ⟨⟨t116, t117, t120, t123⟩, A60, H⟩ := H
    replace H : ((laws_eqView.f k t116 t117 t120 t104 t105 t108).bind fun t125 => (if t125 = true then (laws_FnExactWholeView.j0 k l0 t111 t113 t123 (t123 != t111) t104 t105 t108 t116 t117 t120) else (laws_FnExactWholeView.j0 k l0 t111 t113 t123 true t104 t105 t108 t116 t117 t120))) = some r := H
    have A6 := Aside0.mk A60
    clear A60
    have HC7 := Aside0.mk H
    clear H
    go_enter Try.func5, Try.ntmps5
    go_upto_region 6 with (first | ((with_reducible refine gate_callee (f := 21) rfl ?_); refine goesL_ (some 18) rfl rfl Try.func21 (by kernel_rfl) rfl #[.slice A0 l0.length c0] rfl (by (try simp only [List.map_toArray, List.map_cons, List.map_nil]); first | done | rfl | (simp only [List.length_drop, List.length_take]; rfl)) ?_; (with_reducible refine (laws_toIntS.calls k _ _ l0 t101 _ ?side1 ?side2 A3.out).mono ?_); (case side1 => repeat (first | exact HR0.out | (with_reducible refine Kd.C_alloc ?_ _) | (with_reducible refine Kd.C_drewN ?_ _) | (with_reducible refine Kd.C_drew ?_))); (case side2 => exact HC0.out); rintro e w8 ⟨v102, rfl, ho0, hb⟩; refine ⟨_, rfl, ?_⟩; have n0_ := Aside0.mk (Kd.R_lower ho0 (below_size (by repeat (first | (with_reducible first | exact HB.out | apply below_alloc | apply pw_below_drewN | apply below_drew1) | exact HB.out)))); have n1_ := Aside0.mk (below_step (by repeat (first | (with_reducible first | exact HB.out | apply below_alloc | apply pw_below_drewN | apply below_drew1) | exact HB.out)) hb); clear HB; have HO103 := n0_; have HB := n1_; clear n0_ n1_; (try clear hb); (try clear hb2); (try clear hk); (try clear hi); (try clear ho0); obtain ⟨Ao9, co9, eo9⟩ := Kd.R_slice HO103.out; subst eo9) | ((with_reducible refine gate_callee (f := 20) rfl ?_); refine goesL_ (some 19) rfl rfl Try.func20 (by kernel_rfl) rfl #[.slice Ao9 t101.length co9] rfl (by (try simp only [List.map_toArray, List.map_cons, List.map_nil]); first | done | rfl | (simp only [List.length_drop, List.length_take]; rfl)) ?_; (with_reducible refine (spec_WholeView.calls k _ _ t101 t104 t105 t108 t111 _ ?side1 ?side2 A4.out).mono ?_); (case side1 => repeat (first | exact (Kd.R_reads' HO103.out).2.2 | (with_reducible refine Kd.C_alloc ?_ _) | (with_reducible refine Kd.C_drewN ?_ _) | (with_reducible refine Kd.C_drew ?_))); (case side2 => exact (Kd.R_reads' HO103.out).2.1); rintro e w10 ⟨v106, v109, rfl, ho0, ho1, hb⟩; refine ⟨_, rfl, ?_⟩; have n0_ := Aside0.mk (Kd.R_mono (Kd.R_told (Kd.R_told (Kd.R_old (by (with_reducible repeat (first | apply Kd.R_alloc | apply Kd.R_drewN | apply Kd.R_drew)); exact HO103.out) hb) (Kd.R_base ho0)) (Kd.R_base ho1)) (fun _ h_ => h_.1)); have n1_ := Aside0.mk (Kd.R_lower (Kd.R_new' ho0 (Kd.R_lt (by (with_reducible repeat (first | apply Kd.R_alloc | apply Kd.R_drewN | apply Kd.R_drew)); exact HO103.out))) (below_size (by repeat (first | (with_reducible first | exact HB.out | apply below_alloc | apply pw_below_drewN | apply below_drew1) | exact HB.out)))); have n2_ := Aside0.mk (Kd.R_lower (Kd.R_new' ho1 (Kd.R_lt (by (with_reducible repeat (first | apply Kd.R_alloc | apply Kd.R_drewN | apply Kd.R_drew)); exact HO103.out))) (below_size (by repeat (first | (with_reducible first | exact HB.out | apply below_alloc | apply pw_below_drewN | apply below_drew1) | exact HB.out)))); have n3_ := Aside0.mk (below_step (by repeat (first | (with_reducible first | exact HB.out | apply below_alloc | apply pw_below_drewN | apply below_drew1) | exact HB.out)) hb); clear HO103; clear HB; have HO103 := n0_; have HO107 := n1_; have HO110 := n2_; have HB := n3_; clear n0_ n1_ n2_ n3_; (try clear hb); (try clear hb2); (try clear hk); (try clear hi); (try clear ho0); (try clear ho1)) | ((with_reducible refine gate_dst (N := 3) rfl ?_); refine box_event ?hg (N := 3) ?hd (cs := #[.int .i64 0, .slice none 0 0, .slice none 0 0]) (t := 33) ?hr ?_; (case hd => rfl); (case hg => rfl); (case hr => first | (go_simp; done) | (go_simp; rfl)); intro gb112 hg w11 hbox hb; have n0_ := Aside0.mk (Kd.R_below (by (with_reducible repeat (first | apply Kd.R_alloc | apply Kd.R_drewN | apply Kd.R_drew)); exact HO103.out) hb); have n1_ := Aside0.mk (Kd.R_below (by (with_reducible repeat (first | apply Kd.R_alloc | apply Kd.R_drewN | apply Kd.R_drew)); exact HO107.out) hb); have n2_ := Aside0.mk (Kd.R_below (by (with_reducible repeat (first | apply Kd.R_alloc | apply Kd.R_drewN | apply Kd.R_drew)); exact HO110.out) hb); have n3_ := Aside0.mk (below_step (by repeat (first | (with_reducible first | exact HB.out | apply below_alloc | apply pw_below_drewN | apply below_drew1) | exact HB.out)) hb); have n4_ := Aside0.mk (hbox); have n5_ := Aside0.mk ((by rw [hg]; exact (below_size (by repeat (first | (with_reducible first | exact HB.out | apply below_alloc | apply pw_below_drewN | apply below_drew1) | exact HB.out))) : w.heap.size ≤ gb112)); have n6_ := Aside0.mk ((by rw [hg]; exact (below_size (by repeat (first | (with_reducible first | exact HB.out | apply below_alloc | apply pw_below_drewN | apply below_drew1) | exact HB.out))) : w.heap.size ≤ gb112)); clear HO103; clear HO107; clear HO110; clear HB; have HO103 := n0_; have HO107 := n1_; have HO110 := n2_; have HB := n3_; have BK112 := n4_; have GW112 := n5_; have GE112 := n6_; clear n0_ n1_ n2_ n3_ n4_ n5_ n6_; clear hb hbox hg; have hcz12_0 : w11.cell? ⟨gb112, 0, none⟩ = some (.int .i64 0) := (blk_cell BK112.out 0).trans rfl; have hcz12_1 : w11.cell? ⟨gb112, 1, none⟩ = some (.slice none 0 0) := (blk_cell BK112.out 1).trans rfl; have hcz12_2 : w11.cell? ⟨gb112, 2, none⟩ = some (.slice none 0 0) := (blk_cell BK112.out 2).trans rfl; have hfz12_0 := blk_frozen BK112.out 0; have hfz12_1 := blk_frozen BK112.out 1; have hfz12_2 := blk_frozen BK112.out 2; obtain ⟨Ao13, co13, eo13⟩ := Kd.R_slice HO107.out; subst eo13; obtain ⟨Ao14, co14, eo14⟩ := Kd.R_slice HO110.out; subst eo14) | ((with_reducible refine gate_callee (f := 21) rfl ?_); refine goesL_ (some 23) rfl rfl Try.func21 (by kernel_rfl) rfl #[.slice A0 l0.length c0] rfl (by (try simp only [List.map_toArray, List.map_cons, List.map_nil]); first | done | rfl | (simp only [List.length_drop, List.length_take]; rfl)) ?_; (with_reducible refine (laws_toIntS.calls k _ _ l0 t113 _ ?side1 ?side2 A5.out).mono ?_); (case side1 => exact Kd.C_below HR0.out (by repeat (first | (with_reducible first | exact HB.out | apply below_alloc | apply pw_below_drewN | apply below_drew1 | refine below_set ?_ GE112.out) | exact HB.out))); (case side2 => exact HC0.out); rintro e w15 ⟨v114, rfl, ho0, hb⟩; refine ⟨_, rfl, ?_⟩; have n0_ := Aside0.mk (Kd.R_elder' (by (with_reducible repeat (first | apply Kd.R_alloc | apply Kd.R_drewN | apply Kd.R_drew)); exact (Kd.R_mono (Kd.R_far (p := ⟨gb112, 2, none⟩) (Kd.R_far (p := ⟨gb112, 1, none⟩) (Kd.R_far (p := ⟨gb112, 0, none⟩) (Kd.R_types HO103.out BK112.out (by decide)) (fun _ hk => hk.2) (.int .i64 t104)) (fun _ hk => hk.2) (.slice Ao13 t105.length co13)) (fun _ hk => hk.2) (.slice Ao14 t108.length co14)) (fun _ h_ => h_.1))) (Kd.R_base ho0) hb); have n1_ := Aside0.mk (Kd.R_elder' (by (with_reducible repeat (first | apply Kd.R_alloc | apply Kd.R_drewN | apply Kd.R_drew)); exact (Kd.R_mono (Kd.R_far (p := ⟨gb112, 2, none⟩) (Kd.R_far (p := ⟨gb112, 1, none⟩) (Kd.R_far (p := ⟨gb112, 0, none⟩) (Kd.R_types HO107.out BK112.out (by decide)) (fun _ hk => hk.2) (.int .i64 t104)) (fun _ hk => hk.2) (.slice Ao13 t105.length co13)) (fun _ hk => hk.2) (.slice Ao14 t108.length co14)) (fun _ h_ => h_.1))) (Kd.R_base ho0) hb); have n2_ := Aside0.mk (Kd.R_elder' (by (with_reducible repeat (first | apply Kd.R_alloc | apply Kd.R_drewN | apply Kd.R_drew)); exact (Kd.R_mono (Kd.R_far (p := ⟨gb112, 2, none⟩) (Kd.R_far (p := ⟨gb112, 1, none⟩) (Kd.R_far (p := ⟨gb112, 0, none⟩) (Kd.R_types HO110.out BK112.out (by decide)) (fun _ hk => hk.2) (.int .i64 t104)) (fun _ hk => hk.2) (.slice Ao13 t105.length co13)) (fun _ hk => hk.2) (.slice Ao14 t108.length co14)) (fun _ h_ => h_.1))) (Kd.R_base ho0) hb); have n3_ := Aside0.mk (Kd.R_lower (Kd.R_new' (Kd.R_new' (Kd.R_new' ho0 (Kd.R_lt (by (with_reducible repeat (first | apply Kd.R_alloc | apply Kd.R_drewN | apply Kd.R_drew)); exact (Kd.R_mono (Kd.R_far (p := ⟨gb112, 2, none⟩) (Kd.R_far (p := ⟨gb112, 1, none⟩) (Kd.R_far (p := ⟨gb112, 0, none⟩) (Kd.R_types HO103.out BK112.out (by decide)) (fun _ hk => hk.2) (.int .i64 t104)) (fun _ hk => hk.2) (.slice Ao13 t105.length co13)) (fun _ hk => hk.2) (.slice Ao14 t108.length co14)) (fun _ h_ => h_.1))))) (Kd.R_lt (by (with_reducible repeat (first | apply Kd.R_alloc | apply Kd.R_drewN | apply Kd.R_drew)); exact (Kd.R_mono (Kd.R_far (p := ⟨gb112, 2, none⟩) (Kd.R_far (p := ⟨gb112, 1, none⟩) (Kd.R_far (p := ⟨gb112, 0, none⟩) (Kd.R_types HO107.out BK112.out (by decide)) (fun _ hk => hk.2) (.int .i64 t104)) (fun _ hk => hk.2) (.slice Ao13 t105.length co13)) (fun _ hk => hk.2) (.slice Ao14 t108.length co14)) (fun _ h_ => h_.1))))) (Kd.R_lt (by (with_reducible repeat (first | apply Kd.R_alloc | apply Kd.R_drewN | apply Kd.R_drew)); exact (Kd.R_mono (Kd.R_far (p := ⟨gb112, 2, none⟩) (Kd.R_far (p := ⟨gb112, 1, none⟩) (Kd.R_far (p := ⟨gb112, 0, none⟩) (Kd.R_types HO110.out BK112.out (by decide)) (fun _ hk => hk.2) (.int .i64 t104)) (fun _ hk => hk.2) (.slice Ao13 t105.length co13)) (fun _ hk => hk.2) (.slice Ao14 t108.length co14)) (fun _ h_ => h_.1))))) (below_size (by repeat (first | (with_reducible first | exact HB.out | apply below_alloc | apply pw_below_drewN | apply below_drew1 | refine below_set ?_ GE112.out) | exact HB.out)))); have n4_ := Aside0.mk (blk_below (g := gb112) (o := .cells #[.int .i64 t104, .slice Ao13 t105.length co13, .slice Ao14 t108.length co14] 33 (0, 0)) (by (with_reducible repeat (first | refine blk_drewN ?_ _ | refine blk_drew ?_ | refine blk_alloc ?_ _)); refine blk_put (cs := #[.int .i64 t104, .slice Ao13 t105.length co13, .slice none 0 0]) ?_ 2 _ rfl; (with_reducible repeat (first | refine blk_drewN ?_ _ | refine blk_drew ?_ | refine blk_alloc ?_ _)); refine blk_put (cs := #[.int .i64 t104, .slice none 0 0, .slice none 0 0]) ?_ 1 _ rfl; (with_reducible repeat (first | refine blk_drewN ?_ _ | refine blk_drew ?_ | refine blk_alloc ?_ _)); refine blk_put (cs := #[.int .i64 0, .slice none 0 0, .slice none 0 0]) ?_ 0 _ rfl; (with_reducible repeat (first | refine blk_drewN ?_ _ | refine blk_drew ?_ | refine blk_alloc ?_ _)); exact BK112.out) hb); have n5_ := Aside0.mk (below_step (by repeat (first | (with_reducible first | exact HB.out | apply below_alloc | apply pw_below_drewN | apply below_drew1 | refine below_set ?_ GE112.out) | exact HB.out)) hb); clear HO103; clear HO107; clear HO110; clear BK112; clear HB; have HO103 := n0_; have HO107 := n1_; have HO110 := n2_; have HO115 := n3_; have BK112 := n4_; have HB := n5_; clear n0_ n1_ n2_ n3_ n4_ n5_; (try clear hb); (try clear hb2); (try clear hk); (try clear hi); (try clear ho0); obtain ⟨Ao16, co16, eo16⟩ := Kd.R_slice HO115.out; subst eo16) | ((with_reducible refine gate_callee (f := 22) rfl ?_); refine goesL_ (some 26) rfl rfl Try.func22 (by kernel_rfl) rfl #[.slice Ao16 t113.length co16] rfl (by (try simp only [List.map_toArray, List.map_cons, List.map_nil]); first | done | rfl | (simp only [List.length_drop, List.length_take]; rfl)) ?_; (with_reducible refine (impl_WholeView.calls k _ _ t113 t116 t117 t120 t123 _ ?side1 ?side2 A6.out).mono ?_); (case side1 => repeat (first | exact (Kd.R_reads' HO115.out).2.2 | (with_reducible refine Kd.C_alloc ?_ _) | (with_reducible refine Kd.C_drewN ?_ _) | (with_reducible refine Kd.C_drew ?_))); (case side2 => exact (Kd.R_reads' HO115.out).2.1); rintro e w17 ⟨v118, v121, rfl, ho0, ho1, hb⟩; refine ⟨_, rfl, ?_⟩; have n0_ := Aside0.mk (Kd.R_mono (Kd.R_told (Kd.R_told (Kd.R_old (by (with_reducible repeat (first | apply Kd.R_alloc | apply Kd.R_drewN | apply Kd.R_drew)); exact HO103.out) hb) (Kd.R_base ho0)) (Kd.R_base ho1)) (fun _ h_ => h_.1)); have n1_ := Aside0.mk (Kd.R_mono (Kd.R_told (Kd.R_told (Kd.R_old (by (with_reducible repeat (first | apply Kd.R_alloc | apply Kd.R_drewN | apply Kd.R_drew)); exact HO107.out) hb) (Kd.R_base ho0)) (Kd.R_base ho1)) (fun _ h_ => h_.1)); have n2_ := Aside0.mk (Kd.R_mono (Kd.R_told (Kd.R_told (Kd.R_old (by (with_reducible repeat (first | apply Kd.R_alloc | apply Kd.R_drewN | apply Kd.R_drew)); exact HO110.out) hb) (Kd.R_base ho0)) (Kd.R_base ho1)) (fun _ h_ => h_.1)); have n3_ := Aside0.mk (Kd.R_mono (Kd.R_told (Kd.R_told (Kd.R_old (by (with_reducible repeat (first | apply Kd.R_alloc | apply Kd.R_drewN | apply Kd.R_drew)); exact HO115.out) hb) (Kd.R_base ho0)) (Kd.R_base ho1)) (fun _ h_ => h_.1)); have n4_ := Aside0.mk (Kd.R_lower (Kd.R_new' (Kd.R_new' (Kd.R_new' (Kd.R_new' ho0 (Kd.R_lt (by (with_reducible repeat (first | apply Kd.R_alloc | apply Kd.R_drewN | apply Kd.R_drew)); exact HO103.out))) (Kd.R_lt (by (with_reducible repeat (first | apply Kd.R_alloc | apply Kd.R_drewN | apply Kd.R_drew)); exact HO107.out))) (Kd.R_lt (by (with_reducible repeat (first | apply Kd.R_alloc | apply Kd.R_drewN | apply Kd.R_drew)); exact HO110.out))) (Kd.R_lt (by (with_reducible repeat (first | apply Kd.R_alloc | apply Kd.R_drewN | apply Kd.R_drew)); exact HO115.out))) (below_size (by repeat (first | (with_reducible first | exact HB.out | apply below_alloc | apply pw_below_drewN | apply below_drew1 | refine below_set ?_ GE112.out) | exact HB.out)))); have n5_ := Aside0.mk (Kd.R_lower (Kd.R_new' (Kd.R_new' (Kd.R_new' (Kd.R_new' ho1 (Kd.R_lt (by (with_reducible repeat (first | apply Kd.R_alloc | apply Kd.R_drewN | apply Kd.R_drew)); exact HO103.out))) (Kd.R_lt (by (with_reducible repeat (first | apply Kd.R_alloc | apply Kd.R_drewN | apply Kd.R_drew)); exact HO107.out))) (Kd.R_lt (by (with_reducible repeat (first | apply Kd.R_alloc | apply Kd.R_drewN | apply Kd.R_drew)); exact HO110.out))) (Kd.R_lt (by (with_reducible repeat (first | apply Kd.R_alloc | apply Kd.R_drewN | apply Kd.R_drew)); exact HO115.out))) (below_size (by repeat (first | (with_reducible first | exact HB.out | apply below_alloc | apply pw_below_drewN | apply below_drew1 | refine below_set ?_ GE112.out) | exact HB.out)))); have n6_ := Aside0.mk (blk_below (g := gb112) (o := .cells #[.int .i64 t104, .slice Ao13 t105.length co13, .slice Ao14 t108.length co14] 33 (0, 0)) (by (with_reducible repeat (first | refine blk_drewN ?_ _ | refine blk_drew ?_ | refine blk_alloc ?_ _)); exact BK112.out) hb); have n7_ := Aside0.mk (below_step (by repeat (first | (with_reducible first | exact HB.out | apply below_alloc | apply pw_below_drewN | apply below_drew1 | refine below_set ?_ GE112.out) | exact HB.out)) hb); clear HO103; clear HO107; clear HO110; clear HO115; clear BK112; clear HB; have HO103 := n0_; have HO107 := n1_; have HO110 := n2_; have HO115 := n3_; have HO119 := n4_; have HO122 := n5_; have BK112 := n6_; have HB := n7_; clear n0_ n1_ n2_ n3_ n4_ n5_ n6_ n7_; (try clear hb); (try clear hb2); (try clear hk); (try clear hi); (try clear ho0); (try clear ho1)) | ((with_reducible refine gate_dst (N := 6) rfl ?_); refine box_event ?hg (N := 6) ?hd (cs := #[.int .i64 0, .slice none 0 0, .slice none 0 0]) (t := 33) ?hr ?_; (case hd => rfl); (case hg => rfl); (case hr => first | (go_simp; done) | (go_simp; rfl)); intro gb124 hg w18 hbox hb; have n0_ := Aside0.mk (Kd.R_below (by (with_reducible repeat (first | apply Kd.R_alloc | apply Kd.R_drewN | apply Kd.R_drew)); exact HO103.out) hb); have n1_ := Aside0.mk (Kd.R_below (by (with_reducible repeat (first | apply Kd.R_alloc | apply Kd.R_drewN | apply Kd.R_drew)); exact HO107.out) hb); have n2_ := Aside0.mk (Kd.R_below (by (with_reducible repeat (first | apply Kd.R_alloc | apply Kd.R_drewN | apply Kd.R_drew)); exact HO110.out) hb); have n3_ := Aside0.mk (Kd.R_below (by (with_reducible repeat (first | apply Kd.R_alloc | apply Kd.R_drewN | apply Kd.R_drew)); exact HO115.out) hb); have n4_ := Aside0.mk (Kd.R_below (by (with_reducible repeat (first | apply Kd.R_alloc | apply Kd.R_drewN | apply Kd.R_drew)); exact HO119.out) hb); have n5_ := Aside0.mk (Kd.R_below (by (with_reducible repeat (first | apply Kd.R_alloc | apply Kd.R_drewN | apply Kd.R_drew)); exact HO122.out) hb); have n6_ := Aside0.mk (blk_below (g := gb112) (o := .cells #[.int .i64 t104, .slice Ao13 t105.length co13, .slice Ao14 t108.length co14] 33 (0, 0)) (by (with_reducible repeat (first | refine blk_drewN ?_ _ | refine blk_drew ?_ | refine blk_alloc ?_ _)); exact BK112.out) hb); have n7_ := Aside0.mk (below_step (by repeat (first | (with_reducible first | exact HB.out | apply below_alloc | apply pw_below_drewN | apply below_drew1 | refine below_set ?_ GE112.out) | exact HB.out)) hb); have n8_ := Aside0.mk (hbox); have n9_ := Aside0.mk ((by rw [hg]; exact (below_size (by repeat (first | (with_reducible first | exact HB.out | apply below_alloc | apply pw_below_drewN | apply below_drew1 | refine below_set ?_ GE112.out) | exact HB.out))) : w.heap.size ≤ gb124)); have n10_ := Aside0.mk ((by rw [hg]; exact (below_size (by repeat (first | (with_reducible first | exact HB.out | apply below_alloc | apply pw_below_drewN | apply below_drew1 | refine below_set ?_ GE112.out) | exact HB.out))) : w.heap.size ≤ gb124)); have n11_ := Aside0.mk ((by rw [hg]; exact Nat.ne_of_lt (blk_lt (g := gb112) (o := .cells #[.int .i64 t104, .slice Ao13 t105.length co13, .slice Ao14 t108.length co14] 33 (0, 0)) (by (with_reducible repeat (first | refine blk_drewN ?_ _ | refine blk_drew ?_ | refine blk_alloc ?_ _)); exact BK112.out)) : gb112 ≠ gb124)); have n12_ := Aside0.mk ((by rw [hg]; exact Nat.ne_of_gt (blk_lt (g := gb112) (o := .cells #[.int .i64 t104, .slice Ao13 t105.length co13, .slice Ao14 t108.length co14] 33 (0, 0)) (by (with_reducible repeat (first | refine blk_drewN ?_ _ | refine blk_drew ?_ | refine blk_alloc ?_ _)); exact BK112.out)) : gb124 ≠ gb112)); clear HO103; clear HO107; clear HO110; clear HO115; clear HO119; clear HO122; clear BK112; clear HB; have HO103 := n0_; have HO107 := n1_; have HO110 := n2_; have HO115 := n3_; have HO119 := n4_; have HO122 := n5_; have BK112 := n6_; have HB := n7_; have BK124 := n8_; have GW124 := n9_; have GE124 := n10_; have NB112_124 := n11_; have NB124_112 := n12_; clear n0_ n1_ n2_ n3_ n4_ n5_ n6_ n7_ n8_ n9_ n10_ n11_ n12_; clear hb hbox hg; have hnb19 := NB124_112.out; have hnc19 := NB112_124.out; have hcz20_0 : w18.cell? ⟨gb124, 0, none⟩ = some (.int .i64 0) := (blk_cell BK124.out 0).trans rfl; have hcz20_1 : w18.cell? ⟨gb124, 1, none⟩ = some (.slice none 0 0) := (blk_cell BK124.out 1).trans rfl; have hcz20_2 : w18.cell? ⟨gb124, 2, none⟩ = some (.slice none 0 0) := (blk_cell BK124.out 2).trans rfl; have hfz20_0 := blk_frozen BK124.out 0; have hfz20_1 := blk_frozen BK124.out 1; have hfz20_2 := blk_frozen BK124.out 2; obtain ⟨Ao21, co21, eo21⟩ := Kd.R_slice HO119.out; subst eo21; obtain ⟨Ao22, co22, eo22⟩ := Kd.R_slice HO122.out; subst eo22))
    (try simp only [Act.put, List.setIfInBounds_toArray, List.set_cons_zero, List.set_cons_succ])
    go_cut [37] (fun v37 wc => ∃ (kq : Nat) (x37_6 : Bool), v37 = .bool x37_6 ∧ Aside0 (laws_FnExactWholeView.j0 kq l0 t111 t113 t123 x37_6 t104 t105 t108 t116 t117 t120 = some r) ∧ Aside0 (kq ≤ k) ∧ Aside0 (Kd.R (Kd.int .i64) 3 wc w.heap.size (fun k_ => some k_ ≠ ((.slice Ao13 t105.length co13) : Value).ownBlock ∧ some k_ ≠ ((.slice Ao14 t108.length co14) : Value).ownBlock ∧ some k_ ≠ ((.slice Ao21 t117.length co21) : Value).ownBlock ∧ some k_ ≠ ((.slice Ao22 t120.length co22) : Value).ownBlock) (.slice Ao16 t113.length co16) t113) ∧ Aside0 (Kd.R (Kd.int .i64) 3 wc w.heap.size (fun k_ => some k_ ≠ ((.slice Ao16 t113.length co16) : Value).ownBlock ∧ some k_ ≠ ((.slice Ao14 t108.length co14) : Value).ownBlock ∧ some k_ ≠ ((.slice Ao21 t117.length co21) : Value).ownBlock ∧ some k_ ≠ ((.slice Ao22 t120.length co22) : Value).ownBlock) (.slice Ao13 t105.length co13) t105) ∧ Aside0 (Kd.R (Kd.int .i64) 3 wc w.heap.size (fun k_ => some k_ ≠ ((.slice Ao16 t113.length co16) : Value).ownBlock ∧ some k_ ≠ ((.slice Ao13 t105.length co13) : Value).ownBlock ∧ some k_ ≠ ((.slice Ao21 t117.length co21) : Value).ownBlock ∧ some k_ ≠ ((.slice Ao22 t120.length co22) : Value).ownBlock) (.slice Ao14 t108.length co14) t108) ∧ Aside0 (Kd.R (Kd.int .i64) 3 wc w.heap.size (fun k_ => some k_ ≠ ((.slice Ao16 t113.length co16) : Value).ownBlock ∧ some k_ ≠ ((.slice Ao13 t105.length co13) : Value).ownBlock ∧ some k_ ≠ ((.slice Ao14 t108.length co14) : Value).ownBlock ∧ some k_ ≠ ((.slice Ao22 t120.length co22) : Value).ownBlock) (.slice Ao21 t117.length co21) t117) ∧ Aside0 (Kd.R (Kd.int .i64) 3 wc w.heap.size (fun k_ => some k_ ≠ ((.slice Ao16 t113.length co16) : Value).ownBlock ∧ some k_ ≠ ((.slice Ao13 t105.length co13) : Value).ownBlock ∧ some k_ ≠ ((.slice Ao14 t108.length co14) : Value).ownBlock ∧ some k_ ≠ ((.slice Ao21 t117.length co21) : Value).ownBlock) (.slice Ao22 t120.length co22) t120) ∧ Aside0 (wc.heap[gb112]? = some (.cells #[.int .i64 t104, (.slice Ao13 t105.length co13), (.slice Ao14 t108.length co14)] 33 (0, 0))) ∧ Aside0 (wc.heap[gb124]? = some (.cells #[.int .i64 t116, (.slice Ao21 t117.length co21), (.slice Ao22 t120.length co22)] 33 (0, 0))) ∧ Aside0 (Below w.heap.size w wc))
    case first =>
      have H := HC7.out
      clear HC7
      replace H := Option.bind_eq_some_iff.mp H
      obtain ⟨t125, A230, H⟩ := H
      replace H : (if t125 = true then (laws_FnExactWholeView.j0 k l0 t111 t113 t123 (t123 != t111) t104 t105 t108 t116 t117 t120) else (laws_FnExactWholeView.j0 k l0 t111 t113 t123 true t104 t105 t108 t116 t117 t120)) = some r := H
      have A23 := Aside0.mk A230
      clear A230
      by_cases c24 : t125 = true
      · subst c24
        have H1 : (laws_FnExactWholeView.j0 k l0 t111 t113 t123 (t123 != t111) t104 t105 t108 t116 t117 t120) = some r := by rw [if_pos rfl] at H; exact H
        clear H
        have H := H1
        clear H1
        have H' := Aside0.mk H
        clear H
        have hnb25 := NB124_112.out
        have hnc25 := NB112_124.out
        have hcz26_0 : w18.cell? ⟨gb124, 0, none⟩ = some (.int .i64 0) := (blk_cell BK124.out 0).trans rfl
        have hcz26_1 : w18.cell? ⟨gb124, 1, none⟩ = some (.slice none 0 0) := (blk_cell BK124.out 1).trans rfl
        have hcz26_2 : w18.cell? ⟨gb124, 2, none⟩ = some (.slice none 0 0) := (blk_cell BK124.out 2).trans rfl
        have hfz26_0 := blk_frozen BK124.out 0
        have hfz26_1 := blk_frozen BK124.out 1
        have hfz26_2 := blk_frozen BK124.out 2
        have hcz27_0 : w18.cell? ⟨gb112, 0, none⟩ = some (.int .i64 t104) := (blk_cell BK112.out 0).trans rfl
        have hcz27_1 : w18.cell? ⟨gb112, 1, none⟩ = some (.slice Ao13 t105.length co13) := (blk_cell BK112.out 1).trans rfl
        have hcz27_2 : w18.cell? ⟨gb112, 2, none⟩ = some (.slice Ao14 t108.length co14) := (blk_cell BK112.out 2).trans rfl
        have hfz27_0 := blk_frozen BK112.out 0
        have hfz27_1 := blk_frozen BK112.out 1
        have hfz27_2 := blk_frozen BK112.out 2
        go_wp2_with (first | ((with_reducible refine gate_callee (f := 23) rfl ?_); refine goesL_ (some 31) rfl rfl Try.func23 (by kernel_rfl) rfl #[.agg #[.int .i64 t116, .slice Ao21 t117.length co21, .slice Ao22 t120.length co22], .agg #[.int .i64 t104, .slice Ao13 t105.length co13, .slice Ao14 t108.length co14]] rfl (by (try simp only [List.map_toArray, List.map_cons, List.map_nil]); first | done | rfl | (simp only [List.length_drop, List.length_take]; rfl)) ?_; (with_reducible refine (laws_eqView.calls k t116 _ _ t117 _ _ t120 t104 _ _ t105 _ _ t108 true _ ?side1 ?side2 ?side3 ?side4 ?side5 ?side6 ?side7 ?side8 A23.out).mono ?_); (case side1 => refine (Kd.R_reads' (e := 3) (base := w.heap.size) (ok := fun k_ => ((((some k_ ≠ (.slice Ao22 t120.length co22 : Value).ownBlock ∧ some k_ ≠ (.slice Ao9 t101.length co9 : Value).ownBlock) ∧ some k_ ≠ (.slice Ao13 t105.length co13 : Value).ownBlock) ∧ some k_ ≠ (.slice Ao14 t108.length co14 : Value).ownBlock) ∧ some k_ ≠ (.slice Ao16 t113.length co16 : Value).ownBlock)) (n := t117.length) (c := co21) ?_).2.2; exact (by (with_reducible repeat (first | apply Kd.R_alloc | apply Kd.R_drewN | apply Kd.R_drew)); exact (Kd.R_mono (Kd.R_far (p := ⟨gb124, 2, none⟩) (Kd.R_far (p := ⟨gb124, 1, none⟩) (Kd.R_far (p := ⟨gb124, 0, none⟩) (Kd.R_types HO119.out BK124.out (by decide)) (fun _ hk => hk.2) (.int .i64 t116)) (fun _ hk => hk.2) (.slice Ao21 t117.length co21)) (fun _ hk => hk.2) (.slice Ao22 t120.length co22)) (fun _ h_ => h_.1)))); (case side2 => exact (Kd.R_reads' HO119.out).2.1); (case side3 => refine (Kd.R_reads' (e := 3) (base := w.heap.size) (ok := fun k_ => ((((some k_ ≠ (.slice Ao21 t117.length co21 : Value).ownBlock ∧ some k_ ≠ (.slice Ao9 t101.length co9 : Value).ownBlock) ∧ some k_ ≠ (.slice Ao13 t105.length co13 : Value).ownBlock) ∧ some k_ ≠ (.slice Ao14 t108.length co14 : Value).ownBlock) ∧ some k_ ≠ (.slice Ao16 t113.length co16 : Value).ownBlock)) (n := t120.length) (c := co22) ?_).2.2; exact (by (with_reducible repeat (first | apply Kd.R_alloc | apply Kd.R_drewN | apply Kd.R_drew)); exact (Kd.R_mono (Kd.R_far (p := ⟨gb124, 2, none⟩) (Kd.R_far (p := ⟨gb124, 1, none⟩) (Kd.R_far (p := ⟨gb124, 0, none⟩) (Kd.R_types HO122.out BK124.out (by decide)) (fun _ hk => hk.2) (.int .i64 t116)) (fun _ hk => hk.2) (.slice Ao21 t117.length co21)) (fun _ hk => hk.2) (.slice Ao22 t120.length co22)) (fun _ h_ => h_.1)))); (case side4 => exact (Kd.R_reads' HO122.out).2.1); (case side5 => refine (Kd.R_reads' (e := 3) (base := w.heap.size) (ok := fun k_ => ((((some k_ ≠ (.slice Ao14 t108.length co14 : Value).ownBlock ∧ some k_ ≠ (.slice Ao9 t101.length co9 : Value).ownBlock) ∧ some k_ ≠ (.slice Ao16 t113.length co16 : Value).ownBlock) ∧ some k_ ≠ (.slice Ao21 t117.length co21 : Value).ownBlock) ∧ some k_ ≠ (.slice Ao22 t120.length co22 : Value).ownBlock)) (n := t105.length) (c := co13) ?_).2.2; exact (by (with_reducible repeat (first | apply Kd.R_alloc | apply Kd.R_drewN | apply Kd.R_drew)); exact (Kd.R_mono (Kd.R_far (p := ⟨gb124, 2, none⟩) (Kd.R_far (p := ⟨gb124, 1, none⟩) (Kd.R_far (p := ⟨gb124, 0, none⟩) (Kd.R_types HO107.out BK124.out (by decide)) (fun _ hk => hk.2) (.int .i64 t116)) (fun _ hk => hk.2) (.slice Ao21 t117.length co21)) (fun _ hk => hk.2) (.slice Ao22 t120.length co22)) (fun _ h_ => h_.1)))); (case side6 => exact (Kd.R_reads' HO107.out).2.1); (case side7 => refine (Kd.R_reads' (e := 3) (base := w.heap.size) (ok := fun k_ => ((((some k_ ≠ (.slice Ao13 t105.length co13 : Value).ownBlock ∧ some k_ ≠ (.slice Ao9 t101.length co9 : Value).ownBlock) ∧ some k_ ≠ (.slice Ao16 t113.length co16 : Value).ownBlock) ∧ some k_ ≠ (.slice Ao21 t117.length co21 : Value).ownBlock) ∧ some k_ ≠ (.slice Ao22 t120.length co22 : Value).ownBlock)) (n := t108.length) (c := co14) ?_).2.2; exact (by (with_reducible repeat (first | apply Kd.R_alloc | apply Kd.R_drewN | apply Kd.R_drew)); exact (Kd.R_mono (Kd.R_far (p := ⟨gb124, 2, none⟩) (Kd.R_far (p := ⟨gb124, 1, none⟩) (Kd.R_far (p := ⟨gb124, 0, none⟩) (Kd.R_types HO110.out BK124.out (by decide)) (fun _ hk => hk.2) (.int .i64 t116)) (fun _ hk => hk.2) (.slice Ao21 t117.length co21)) (fun _ hk => hk.2) (.slice Ao22 t120.length co22)) (fun _ h_ => h_.1)))); (case side8 => exact (Kd.R_reads' HO110.out).2.1); rintro e w28 ⟨rfl, hb⟩; refine ⟨_, rfl, ?_⟩; have n0_ := Aside0.mk (Kd.R_below (by (with_reducible repeat (first | apply Kd.R_alloc | apply Kd.R_drewN | apply Kd.R_drew)); exact (Kd.R_mono (Kd.R_far (p := ⟨gb124, 2, none⟩) (Kd.R_far (p := ⟨gb124, 1, none⟩) (Kd.R_far (p := ⟨gb124, 0, none⟩) (Kd.R_types HO103.out BK124.out (by decide)) (fun _ hk => hk.2) (.int .i64 t116)) (fun _ hk => hk.2) (.slice Ao21 t117.length co21)) (fun _ hk => hk.2) (.slice Ao22 t120.length co22)) (fun _ h_ => h_.1))) hb); have n1_ := Aside0.mk (Kd.R_below (by (with_reducible repeat (first | apply Kd.R_alloc | apply Kd.R_drewN | apply Kd.R_drew)); exact (Kd.R_mono (Kd.R_far (p := ⟨gb124, 2, none⟩) (Kd.R_far (p := ⟨gb124, 1, none⟩) (Kd.R_far (p := ⟨gb124, 0, none⟩) (Kd.R_types HO107.out BK124.out (by decide)) (fun _ hk => hk.2) (.int .i64 t116)) (fun _ hk => hk.2) (.slice Ao21 t117.length co21)) (fun _ hk => hk.2) (.slice Ao22 t120.length co22)) (fun _ h_ => h_.1))) hb); have n2_ := Aside0.mk (Kd.R_below (by (with_reducible repeat (first | apply Kd.R_alloc | apply Kd.R_drewN | apply Kd.R_drew)); exact (Kd.R_mono (Kd.R_far (p := ⟨gb124, 2, none⟩) (Kd.R_far (p := ⟨gb124, 1, none⟩) (Kd.R_far (p := ⟨gb124, 0, none⟩) (Kd.R_types HO110.out BK124.out (by decide)) (fun _ hk => hk.2) (.int .i64 t116)) (fun _ hk => hk.2) (.slice Ao21 t117.length co21)) (fun _ hk => hk.2) (.slice Ao22 t120.length co22)) (fun _ h_ => h_.1))) hb); have n3_ := Aside0.mk (Kd.R_below (by (with_reducible repeat (first | apply Kd.R_alloc | apply Kd.R_drewN | apply Kd.R_drew)); exact (Kd.R_mono (Kd.R_far (p := ⟨gb124, 2, none⟩) (Kd.R_far (p := ⟨gb124, 1, none⟩) (Kd.R_far (p := ⟨gb124, 0, none⟩) (Kd.R_types HO115.out BK124.out (by decide)) (fun _ hk => hk.2) (.int .i64 t116)) (fun _ hk => hk.2) (.slice Ao21 t117.length co21)) (fun _ hk => hk.2) (.slice Ao22 t120.length co22)) (fun _ h_ => h_.1))) hb); have n4_ := Aside0.mk (Kd.R_below (by (with_reducible repeat (first | apply Kd.R_alloc | apply Kd.R_drewN | apply Kd.R_drew)); exact (Kd.R_mono (Kd.R_far (p := ⟨gb124, 2, none⟩) (Kd.R_far (p := ⟨gb124, 1, none⟩) (Kd.R_far (p := ⟨gb124, 0, none⟩) (Kd.R_types HO119.out BK124.out (by decide)) (fun _ hk => hk.2) (.int .i64 t116)) (fun _ hk => hk.2) (.slice Ao21 t117.length co21)) (fun _ hk => hk.2) (.slice Ao22 t120.length co22)) (fun _ h_ => h_.1))) hb); have n5_ := Aside0.mk (Kd.R_below (by (with_reducible repeat (first | apply Kd.R_alloc | apply Kd.R_drewN | apply Kd.R_drew)); exact (Kd.R_mono (Kd.R_far (p := ⟨gb124, 2, none⟩) (Kd.R_far (p := ⟨gb124, 1, none⟩) (Kd.R_far (p := ⟨gb124, 0, none⟩) (Kd.R_types HO122.out BK124.out (by decide)) (fun _ hk => hk.2) (.int .i64 t116)) (fun _ hk => hk.2) (.slice Ao21 t117.length co21)) (fun _ hk => hk.2) (.slice Ao22 t120.length co22)) (fun _ h_ => h_.1))) hb); have n6_ := Aside0.mk (blk_below (g := gb112) (o := .cells #[.int .i64 t104, .slice Ao13 t105.length co13, .slice Ao14 t108.length co14] 33 (0, 0)) (by (with_reducible repeat (first | refine blk_drewN ?_ _ | refine blk_drew ?_ | refine blk_alloc ?_ _)); refine blk_far ?_ NB112_124.out _; (with_reducible repeat (first | refine blk_drewN ?_ _ | refine blk_drew ?_ | refine blk_alloc ?_ _)); refine blk_far ?_ NB112_124.out _; (with_reducible repeat (first | refine blk_drewN ?_ _ | refine blk_drew ?_ | refine blk_alloc ?_ _)); refine blk_far ?_ NB112_124.out _; (with_reducible repeat (first | refine blk_drewN ?_ _ | refine blk_drew ?_ | refine blk_alloc ?_ _)); exact BK112.out) hb); have n7_ := Aside0.mk (blk_below (g := gb124) (o := .cells #[.int .i64 t116, .slice Ao21 t117.length co21, .slice Ao22 t120.length co22] 33 (0, 0)) (by (with_reducible repeat (first | refine blk_drewN ?_ _ | refine blk_drew ?_ | refine blk_alloc ?_ _)); refine blk_put (cs := #[.int .i64 t116, .slice Ao21 t117.length co21, .slice none 0 0]) ?_ 2 _ rfl; (with_reducible repeat (first | refine blk_drewN ?_ _ | refine blk_drew ?_ | refine blk_alloc ?_ _)); refine blk_put (cs := #[.int .i64 t116, .slice none 0 0, .slice none 0 0]) ?_ 1 _ rfl; (with_reducible repeat (first | refine blk_drewN ?_ _ | refine blk_drew ?_ | refine blk_alloc ?_ _)); refine blk_put (cs := #[.int .i64 0, .slice none 0 0, .slice none 0 0]) ?_ 0 _ rfl; (with_reducible repeat (first | refine blk_drewN ?_ _ | refine blk_drew ?_ | refine blk_alloc ?_ _)); exact BK124.out) hb); have n8_ := Aside0.mk (below_step (by repeat (first | (with_reducible first | exact HB.out | apply below_alloc | apply pw_below_drewN | apply below_drew1 | refine below_set ?_ GE112.out | refine below_set ?_ GE124.out) | exact HB.out)) hb); clear HO103; clear HO107; clear HO110; clear HO115; clear HO119; clear HO122; clear BK112; clear BK124; clear HB; have HO103 := n0_; have HO107 := n1_; have HO110 := n2_; have HO115 := n3_; have HO119 := n4_; have HO122 := n5_; have BK112 := n6_; have BK124 := n7_; have HB := n8_; clear n0_ n1_ n2_ n3_ n4_ n5_ n6_ n7_ n8_; (try clear hb); (try clear hb2); (try clear hk); (try clear hi)))
        go_meet
        case rel => exact ⟨_, ((t123 != t111)), (by first | rfl | (simp; done) | (simp [*]; done)), H', ⟨by first | omega | exact Nat.le_refl _⟩, ⟨by (with_reducible repeat (first | apply Kd.R_alloc | apply Kd.R_drewN | apply Kd.R_drew)); exact Kd.R_mono HO115.out (fun _ hk => ⟨hk.1.1.1.2, ⟨hk.1.1.2, ⟨hk.1.2, hk.2⟩⟩⟩)⟩, ⟨by (with_reducible repeat (first | apply Kd.R_alloc | apply Kd.R_drewN | apply Kd.R_drew)); exact Kd.R_mono HO107.out (fun _ hk => ⟨hk.1.1.2, ⟨hk.1.1.1.1, ⟨hk.1.2, hk.2⟩⟩⟩)⟩, ⟨by (with_reducible repeat (first | apply Kd.R_alloc | apply Kd.R_drewN | apply Kd.R_drew)); exact Kd.R_mono HO110.out (fun _ hk => ⟨hk.1.1.2, ⟨hk.1.1.1.1, ⟨hk.1.2, hk.2⟩⟩⟩)⟩, ⟨by (with_reducible repeat (first | apply Kd.R_alloc | apply Kd.R_drewN | apply Kd.R_drew)); exact Kd.R_mono HO119.out (fun _ hk => ⟨hk.2, ⟨hk.1.1.2, ⟨hk.1.2, hk.1.1.1.1⟩⟩⟩)⟩, ⟨by (with_reducible repeat (first | apply Kd.R_alloc | apply Kd.R_drewN | apply Kd.R_drew)); exact Kd.R_mono HO122.out (fun _ hk => ⟨hk.2, ⟨hk.1.1.2, ⟨hk.1.2, hk.1.1.1.1⟩⟩⟩)⟩, ⟨by (with_reducible repeat (first | refine blk_drewN ?_ _ | refine blk_drew ?_ | refine blk_alloc ?_ _)); exact BK112.out⟩, ⟨by (with_reducible repeat (first | refine blk_drewN ?_ _ | refine blk_drew ?_ | refine blk_alloc ?_ _)); exact BK124.out⟩, ⟨by repeat (first | (with_reducible first | exact HB.out | apply below_alloc | apply pw_below_drewN | apply below_drew1 | refine below_set ?_ GE112.out | refine below_set ?_ GE124.out) | exact HB.out)⟩⟩
      · replace c24 := Bool.eq_false_iff.mpr c24
        subst c24
        have H1 : (laws_FnExactWholeView.j0 k l0 t111 t113 t123 true t104 t105 t108 t116 t117 t120) = some r := by rw [if_neg (show ¬ (false = true) by decide)] at H; exact H
        clear H
        have H := H1
        clear H1
        have H' := Aside0.mk H
        clear H
        have hnb29 := NB124_112.out
        have hnc29 := NB112_124.out
        have hcz30_0 : w18.cell? ⟨gb124, 0, none⟩ = some (.int .i64 0) := (blk_cell BK124.out 0).trans rfl
        have hcz30_1 : w18.cell? ⟨gb124, 1, none⟩ = some (.slice none 0 0) := (blk_cell BK124.out 1).trans rfl
        have hcz30_2 : w18.cell? ⟨gb124, 2, none⟩ = some (.slice none 0 0) := (blk_cell BK124.out 2).trans rfl
        have hfz30_0 := blk_frozen BK124.out 0
        have hfz30_1 := blk_frozen BK124.out 1
        have hfz30_2 := blk_frozen BK124.out 2
        have hcz31_0 : w18.cell? ⟨gb112, 0, none⟩ = some (.int .i64 t104) := (blk_cell BK112.out 0).trans rfl
        have hcz31_1 : w18.cell? ⟨gb112, 1, none⟩ = some (.slice Ao13 t105.length co13) := (blk_cell BK112.out 1).trans rfl
        have hcz31_2 : w18.cell? ⟨gb112, 2, none⟩ = some (.slice Ao14 t108.length co14) := (blk_cell BK112.out 2).trans rfl
        have hfz31_0 := blk_frozen BK112.out 0
        have hfz31_1 := blk_frozen BK112.out 1
        have hfz31_2 := blk_frozen BK112.out 2
        go_wp2_with (first | ((with_reducible refine gate_callee (f := 23) rfl ?_); refine goesL_ (some 31) rfl rfl Try.func23 (by kernel_rfl) rfl #[.agg #[.int .i64 t116, .slice Ao21 t117.length co21, .slice Ao22 t120.length co22], .agg #[.int .i64 t104, .slice Ao13 t105.length co13, .slice Ao14 t108.length co14]] rfl (by (try simp only [List.map_toArray, List.map_cons, List.map_nil]); first | done | rfl | (simp only [List.length_drop, List.length_take]; rfl)) ?_; (with_reducible refine (laws_eqView.calls k t116 _ _ t117 _ _ t120 t104 _ _ t105 _ _ t108 false _ ?side1 ?side2 ?side3 ?side4 ?side5 ?side6 ?side7 ?side8 A23.out).mono ?_); (case side1 => refine (Kd.R_reads' (e := 3) (base := w.heap.size) (ok := fun k_ => ((((some k_ ≠ (.slice Ao22 t120.length co22 : Value).ownBlock ∧ some k_ ≠ (.slice Ao9 t101.length co9 : Value).ownBlock) ∧ some k_ ≠ (.slice Ao13 t105.length co13 : Value).ownBlock) ∧ some k_ ≠ (.slice Ao14 t108.length co14 : Value).ownBlock) ∧ some k_ ≠ (.slice Ao16 t113.length co16 : Value).ownBlock)) (n := t117.length) (c := co21) ?_).2.2; exact (by (with_reducible repeat (first | apply Kd.R_alloc | apply Kd.R_drewN | apply Kd.R_drew)); exact (Kd.R_mono (Kd.R_far (p := ⟨gb124, 2, none⟩) (Kd.R_far (p := ⟨gb124, 1, none⟩) (Kd.R_far (p := ⟨gb124, 0, none⟩) (Kd.R_types HO119.out BK124.out (by decide)) (fun _ hk => hk.2) (.int .i64 t116)) (fun _ hk => hk.2) (.slice Ao21 t117.length co21)) (fun _ hk => hk.2) (.slice Ao22 t120.length co22)) (fun _ h_ => h_.1)))); (case side2 => exact (Kd.R_reads' HO119.out).2.1); (case side3 => refine (Kd.R_reads' (e := 3) (base := w.heap.size) (ok := fun k_ => ((((some k_ ≠ (.slice Ao21 t117.length co21 : Value).ownBlock ∧ some k_ ≠ (.slice Ao9 t101.length co9 : Value).ownBlock) ∧ some k_ ≠ (.slice Ao13 t105.length co13 : Value).ownBlock) ∧ some k_ ≠ (.slice Ao14 t108.length co14 : Value).ownBlock) ∧ some k_ ≠ (.slice Ao16 t113.length co16 : Value).ownBlock)) (n := t120.length) (c := co22) ?_).2.2; exact (by (with_reducible repeat (first | apply Kd.R_alloc | apply Kd.R_drewN | apply Kd.R_drew)); exact (Kd.R_mono (Kd.R_far (p := ⟨gb124, 2, none⟩) (Kd.R_far (p := ⟨gb124, 1, none⟩) (Kd.R_far (p := ⟨gb124, 0, none⟩) (Kd.R_types HO122.out BK124.out (by decide)) (fun _ hk => hk.2) (.int .i64 t116)) (fun _ hk => hk.2) (.slice Ao21 t117.length co21)) (fun _ hk => hk.2) (.slice Ao22 t120.length co22)) (fun _ h_ => h_.1)))); (case side4 => exact (Kd.R_reads' HO122.out).2.1); (case side5 => refine (Kd.R_reads' (e := 3) (base := w.heap.size) (ok := fun k_ => ((((some k_ ≠ (.slice Ao14 t108.length co14 : Value).ownBlock ∧ some k_ ≠ (.slice Ao9 t101.length co9 : Value).ownBlock) ∧ some k_ ≠ (.slice Ao16 t113.length co16 : Value).ownBlock) ∧ some k_ ≠ (.slice Ao21 t117.length co21 : Value).ownBlock) ∧ some k_ ≠ (.slice Ao22 t120.length co22 : Value).ownBlock)) (n := t105.length) (c := co13) ?_).2.2; exact (by (with_reducible repeat (first | apply Kd.R_alloc | apply Kd.R_drewN | apply Kd.R_drew)); exact (Kd.R_mono (Kd.R_far (p := ⟨gb124, 2, none⟩) (Kd.R_far (p := ⟨gb124, 1, none⟩) (Kd.R_far (p := ⟨gb124, 0, none⟩) (Kd.R_types HO107.out BK124.out (by decide)) (fun _ hk => hk.2) (.int .i64 t116)) (fun _ hk => hk.2) (.slice Ao21 t117.length co21)) (fun _ hk => hk.2) (.slice Ao22 t120.length co22)) (fun _ h_ => h_.1)))); (case side6 => exact (Kd.R_reads' HO107.out).2.1); (case side7 => refine (Kd.R_reads' (e := 3) (base := w.heap.size) (ok := fun k_ => ((((some k_ ≠ (.slice Ao13 t105.length co13 : Value).ownBlock ∧ some k_ ≠ (.slice Ao9 t101.length co9 : Value).ownBlock) ∧ some k_ ≠ (.slice Ao16 t113.length co16 : Value).ownBlock) ∧ some k_ ≠ (.slice Ao21 t117.length co21 : Value).ownBlock) ∧ some k_ ≠ (.slice Ao22 t120.length co22 : Value).ownBlock)) (n := t108.length) (c := co14) ?_).2.2; exact (by (with_reducible repeat (first | apply Kd.R_alloc | apply Kd.R_drewN | apply Kd.R_drew)); exact (Kd.R_mono (Kd.R_far (p := ⟨gb124, 2, none⟩) (Kd.R_far (p := ⟨gb124, 1, none⟩) (Kd.R_far (p := ⟨gb124, 0, none⟩) (Kd.R_types HO110.out BK124.out (by decide)) (fun _ hk => hk.2) (.int .i64 t116)) (fun _ hk => hk.2) (.slice Ao21 t117.length co21)) (fun _ hk => hk.2) (.slice Ao22 t120.length co22)) (fun _ h_ => h_.1)))); (case side8 => exact (Kd.R_reads' HO110.out).2.1); rintro e w32 ⟨rfl, hb⟩; refine ⟨_, rfl, ?_⟩; have n0_ := Aside0.mk (Kd.R_below (by (with_reducible repeat (first | apply Kd.R_alloc | apply Kd.R_drewN | apply Kd.R_drew)); exact (Kd.R_mono (Kd.R_far (p := ⟨gb124, 2, none⟩) (Kd.R_far (p := ⟨gb124, 1, none⟩) (Kd.R_far (p := ⟨gb124, 0, none⟩) (Kd.R_types HO103.out BK124.out (by decide)) (fun _ hk => hk.2) (.int .i64 t116)) (fun _ hk => hk.2) (.slice Ao21 t117.length co21)) (fun _ hk => hk.2) (.slice Ao22 t120.length co22)) (fun _ h_ => h_.1))) hb); have n1_ := Aside0.mk (Kd.R_below (by (with_reducible repeat (first | apply Kd.R_alloc | apply Kd.R_drewN | apply Kd.R_drew)); exact (Kd.R_mono (Kd.R_far (p := ⟨gb124, 2, none⟩) (Kd.R_far (p := ⟨gb124, 1, none⟩) (Kd.R_far (p := ⟨gb124, 0, none⟩) (Kd.R_types HO107.out BK124.out (by decide)) (fun _ hk => hk.2) (.int .i64 t116)) (fun _ hk => hk.2) (.slice Ao21 t117.length co21)) (fun _ hk => hk.2) (.slice Ao22 t120.length co22)) (fun _ h_ => h_.1))) hb); have n2_ := Aside0.mk (Kd.R_below (by (with_reducible repeat (first | apply Kd.R_alloc | apply Kd.R_drewN | apply Kd.R_drew)); exact (Kd.R_mono (Kd.R_far (p := ⟨gb124, 2, none⟩) (Kd.R_far (p := ⟨gb124, 1, none⟩) (Kd.R_far (p := ⟨gb124, 0, none⟩) (Kd.R_types HO110.out BK124.out (by decide)) (fun _ hk => hk.2) (.int .i64 t116)) (fun _ hk => hk.2) (.slice Ao21 t117.length co21)) (fun _ hk => hk.2) (.slice Ao22 t120.length co22)) (fun _ h_ => h_.1))) hb); have n3_ := Aside0.mk (Kd.R_below (by (with_reducible repeat (first | apply Kd.R_alloc | apply Kd.R_drewN | apply Kd.R_drew)); exact (Kd.R_mono (Kd.R_far (p := ⟨gb124, 2, none⟩) (Kd.R_far (p := ⟨gb124, 1, none⟩) (Kd.R_far (p := ⟨gb124, 0, none⟩) (Kd.R_types HO115.out BK124.out (by decide)) (fun _ hk => hk.2) (.int .i64 t116)) (fun _ hk => hk.2) (.slice Ao21 t117.length co21)) (fun _ hk => hk.2) (.slice Ao22 t120.length co22)) (fun _ h_ => h_.1))) hb); have n4_ := Aside0.mk (Kd.R_below (by (with_reducible repeat (first | apply Kd.R_alloc | apply Kd.R_drewN | apply Kd.R_drew)); exact (Kd.R_mono (Kd.R_far (p := ⟨gb124, 2, none⟩) (Kd.R_far (p := ⟨gb124, 1, none⟩) (Kd.R_far (p := ⟨gb124, 0, none⟩) (Kd.R_types HO119.out BK124.out (by decide)) (fun _ hk => hk.2) (.int .i64 t116)) (fun _ hk => hk.2) (.slice Ao21 t117.length co21)) (fun _ hk => hk.2) (.slice Ao22 t120.length co22)) (fun _ h_ => h_.1))) hb); have n5_ := Aside0.mk (Kd.R_below (by (with_reducible repeat (first | apply Kd.R_alloc | apply Kd.R_drewN | apply Kd.R_drew)); exact (Kd.R_mono (Kd.R_far (p := ⟨gb124, 2, none⟩) (Kd.R_far (p := ⟨gb124, 1, none⟩) (Kd.R_far (p := ⟨gb124, 0, none⟩) (Kd.R_types HO122.out BK124.out (by decide)) (fun _ hk => hk.2) (.int .i64 t116)) (fun _ hk => hk.2) (.slice Ao21 t117.length co21)) (fun _ hk => hk.2) (.slice Ao22 t120.length co22)) (fun _ h_ => h_.1))) hb); have n6_ := Aside0.mk (blk_below (g := gb112) (o := .cells #[.int .i64 t104, .slice Ao13 t105.length co13, .slice Ao14 t108.length co14] 33 (0, 0)) (by (with_reducible repeat (first | refine blk_drewN ?_ _ | refine blk_drew ?_ | refine blk_alloc ?_ _)); refine blk_far ?_ NB112_124.out _; (with_reducible repeat (first | refine blk_drewN ?_ _ | refine blk_drew ?_ | refine blk_alloc ?_ _)); refine blk_far ?_ NB112_124.out _; (with_reducible repeat (first | refine blk_drewN ?_ _ | refine blk_drew ?_ | refine blk_alloc ?_ _)); refine blk_far ?_ NB112_124.out _; (with_reducible repeat (first | refine blk_drewN ?_ _ | refine blk_drew ?_ | refine blk_alloc ?_ _)); exact BK112.out) hb); have n7_ := Aside0.mk (blk_below (g := gb124) (o := .cells #[.int .i64 t116, .slice Ao21 t117.length co21, .slice Ao22 t120.length co22] 33 (0, 0)) (by (with_reducible repeat (first | refine blk_drewN ?_ _ | refine blk_drew ?_ | refine blk_alloc ?_ _)); refine blk_put (cs := #[.int .i64 t116, .slice Ao21 t117.length co21, .slice none 0 0]) ?_ 2 _ rfl; (with_reducible repeat (first | refine blk_drewN ?_ _ | refine blk_drew ?_ | refine blk_alloc ?_ _)); refine blk_put (cs := #[.int .i64 t116, .slice none 0 0, .slice none 0 0]) ?_ 1 _ rfl; (with_reducible repeat (first | refine blk_drewN ?_ _ | refine blk_drew ?_ | refine blk_alloc ?_ _)); refine blk_put (cs := #[.int .i64 0, .slice none 0 0, .slice none 0 0]) ?_ 0 _ rfl; (with_reducible repeat (first | refine blk_drewN ?_ _ | refine blk_drew ?_ | refine blk_alloc ?_ _)); exact BK124.out) hb); have n8_ := Aside0.mk (below_step (by repeat (first | (with_reducible first | exact HB.out | apply below_alloc | apply pw_below_drewN | apply below_drew1 | refine below_set ?_ GE112.out | refine below_set ?_ GE124.out) | exact HB.out)) hb); clear HO103; clear HO107; clear HO110; clear HO115; clear HO119; clear HO122; clear BK112; clear BK124; clear HB; have HO103 := n0_; have HO107 := n1_; have HO110 := n2_; have HO115 := n3_; have HO119 := n4_; have HO122 := n5_; have BK112 := n6_; have BK124 := n7_; have HB := n8_; clear n0_ n1_ n2_ n3_ n4_ n5_ n6_ n7_ n8_; (try clear hb); (try clear hb2); (try clear hk); (try clear hi)))
        go_meet
        case rel => exact ⟨_, (true), (by first | rfl | (simp; done) | (simp [*]; done)), H', ⟨by first | omega | exact Nat.le_refl _⟩, ⟨by (with_reducible repeat (first | apply Kd.R_alloc | apply Kd.R_drewN | apply Kd.R_drew)); exact Kd.R_mono HO115.out (fun _ hk => ⟨hk.1.1.1.2, ⟨hk.1.1.2, ⟨hk.1.2, hk.2⟩⟩⟩)⟩, ⟨by (with_reducible repeat (first | apply Kd.R_alloc | apply Kd.R_drewN | apply Kd.R_drew)); exact Kd.R_mono HO107.out (fun _ hk => ⟨hk.1.1.2, ⟨hk.1.1.1.1, ⟨hk.1.2, hk.2⟩⟩⟩)⟩, ⟨by (with_reducible repeat (first | apply Kd.R_alloc | apply Kd.R_drewN | apply Kd.R_drew)); exact Kd.R_mono HO110.out (fun _ hk => ⟨hk.1.1.2, ⟨hk.1.1.1.1, ⟨hk.1.2, hk.2⟩⟩⟩)⟩, ⟨by (with_reducible repeat (first | apply Kd.R_alloc | apply Kd.R_drewN | apply Kd.R_drew)); exact Kd.R_mono HO119.out (fun _ hk => ⟨hk.2, ⟨hk.1.1.2, ⟨hk.1.2, hk.1.1.1.1⟩⟩⟩)⟩, ⟨by (with_reducible repeat (first | apply Kd.R_alloc | apply Kd.R_drewN | apply Kd.R_drew)); exact Kd.R_mono HO122.out (fun _ hk => ⟨hk.2, ⟨hk.1.1.2, ⟨hk.1.2, hk.1.1.1.1⟩⟩⟩)⟩, ⟨by (with_reducible repeat (first | refine blk_drewN ?_ _ | refine blk_drew ?_ | refine blk_alloc ?_ _)); exact BK112.out⟩, ⟨by (with_reducible repeat (first | refine blk_drewN ?_ _ | refine blk_drew ?_ | refine blk_alloc ?_ _)); exact BK124.out⟩, ⟨by repeat (first | (with_reducible first | exact HB.out | apply below_alloc | apply pw_below_drewN | apply below_drew1 | refine below_set ?_ GE112.out | refine below_set ?_ GE124.out) | exact HB.out)⟩⟩
    case rest =>
      clear HC7
      try clear c1
      try clear c2
      try clear c2b0
      try clear c2b1
      try clear p2
      try clear c5
      try clear c19
      try clear c20
      try clear c21
      try clear c22
      try clear c23
      try clear c24
      try clear c25
      try clear c29
      try clear hcz12_0
      try clear hcz12_1
      try clear hcz12_2
      try clear hcz20_0
      try clear hcz20_1
      try clear hcz20_2
      try clear hcz26_0
      try clear hcz26_1
      try clear hcz26_2
      try clear hcz27_0
      try clear hcz27_1
      try clear hcz27_2
      try clear hcz30_0
      try clear hcz30_1
      try clear hcz30_2
      try clear hcz31_0
      try clear hcz31_1
      try clear hcz31_2
      try clear hfz12_0
      try clear hfz12_1
      try clear hfz12_2
      try clear hfz20_0
      try clear hfz20_1
      try clear hfz20_2
      try clear hfz26_0
      try clear hfz26_1
      try clear hfz26_2
      try clear hfz27_0
      try clear hfz27_1
      try clear hfz27_2
      try clear hfz30_0
      try clear hfz30_1
      try clear hfz30_2
      try clear hfz31_0
      try clear hfz31_1
      try clear hfz31_2
      obtain ⟨kq, x37_6, rfl, HA, HJ6, HO_5, HO_113001, HO_113002, HO_125001, HO_125002, BK112, BK124, HB⟩ := hcut
      cases kq with
      | zero => exact absurd HA.out (by simp [laws_FnExactWholeView.j0])
      | succ kj6 =>
        have H := HA.out
        clear HA
        simp only [laws_FnExactWholeView.j0] at H
        by_cases c33 : x37_6 = true
        · subst c33
          have H1 : (some false) = some r := by rw [if_pos rfl] at H; exact H
          clear H
          have H := H1
          clear H1
          exact absurd ((Option.some.inj H).trans hr_.out) (by decide)
        · replace c33 := Bool.eq_false_iff.mpr c33
          subst c33
          have H1 : ((laws_toIntS.f kj6 l0).bind fun t126 => ((laws_eqIntS.f kj6 t113 t126).bind fun t129 => (if t129 = true then ((laws_markIntS.f kj6 t113 1).bind fun bt130 => (if bt130.1 < 0 then (laws_FnExactWholeView.j1 kj6 l0 t111 true t104 t105 t108 t116 t117 t120) else ((laws_eqView.f kj6 t116 t117 t120 t104 t105 t108).bind fun t132 => (if t132 = true then (laws_FnExactWholeView.j1 kj6 l0 t111 (t123 != t111) t104 t105 t108 t116 t117 t120) else (laws_FnExactWholeView.j1 kj6 l0 t111 true t104 t105 t108 t116 t117 t120))))) else (some false)))) = some r := by rw [if_neg (show ¬ (false = true) by decide)] at H; exact H
          clear H
          have H := H1
          clear H1
          replace H := Option.bind_eq_some_iff.mp H
          obtain ⟨t126, A340, H⟩ := H
          replace H : ((laws_eqIntS.f kj6 t113 t126).bind fun t129 => (if t129 = true then ((laws_markIntS.f kj6 t113 1).bind fun bt130 => (if bt130.1 < 0 then (laws_FnExactWholeView.j1 kj6 l0 t111 true t104 t105 t108 t116 t117 t120) else ((laws_eqView.f kj6 t116 t117 t120 t104 t105 t108).bind fun t132 => (if t132 = true then (laws_FnExactWholeView.j1 kj6 l0 t111 (t123 != t111) t104 t105 t108 t116 t117 t120) else (laws_FnExactWholeView.j1 kj6 l0 t111 true t104 t105 t108 t116 t117 t120))))) else (some false))) = some r := H
          have A34 := Aside0.mk A340
          clear A340
          replace H := Option.bind_eq_some_iff.mp H
          obtain ⟨t129, A350, H⟩ := H
          replace H : (if t129 = true then ((laws_markIntS.f kj6 t113 1).bind fun bt130 => (if bt130.1 < 0 then (laws_FnExactWholeView.j1 kj6 l0 t111 true t104 t105 t108 t116 t117 t120) else ((laws_eqView.f kj6 t116 t117 t120 t104 t105 t108).bind fun t132 => (if t132 = true then (laws_FnExactWholeView.j1 kj6 l0 t111 (t123 != t111) t104 t105 t108 t116 t117 t120) else (laws_FnExactWholeView.j1 kj6 l0 t111 true t104 t105 t108 t116 t117 t120))))) else (some false)) = some r := H
          have A35 := Aside0.mk A350
          clear A350
          by_cases c36 : t129 = true
          · subst c36
            have H1 : ((laws_markIntS.f kj6 t113 1).bind fun bt130 => (if bt130.1 < 0 then (laws_FnExactWholeView.j1 kj6 l0 t111 true t104 t105 t108 t116 t117 t120) else ((laws_eqView.f kj6 t116 t117 t120 t104 t105 t108).bind fun t132 => (if t132 = true then (laws_FnExactWholeView.j1 kj6 l0 t111 (t123 != t111) t104 t105 t108 t116 t117 t120) else (laws_FnExactWholeView.j1 kj6 l0 t111 true t104 t105 t108 t116 t117 t120))))) = some r := by rw [if_pos rfl] at H; exact H
            clear H
            have H := H1
            clear H1
            replace H := Option.bind_eq_some_iff.mp H
            obtain ⟨⟨t130, t131⟩, A370, H⟩ := H
            replace H : (if t130 < 0 then (laws_FnExactWholeView.j1 kj6 l0 t111 true t104 t105 t108 t116 t117 t120) else ((laws_eqView.f kj6 t116 t117 t120 t104 t105 t108).bind fun t132 => (if t132 = true then (laws_FnExactWholeView.j1 kj6 l0 t111 (t123 != t111) t104 t105 t108 t116 t117 t120) else (laws_FnExactWholeView.j1 kj6 l0 t111 true t104 t105 t108 t116 t117 t120)))) = some r := H
            have A37 := Aside0.mk A370
            clear A370
            have HC38 := Aside0.mk H
            clear H
            go_upto_region 12 with (first | ((with_reducible refine gate_callee (f := 21) rfl ?_); refine goesL_ (some 40) rfl rfl Try.func21 (by kernel_rfl) rfl #[.slice A0 l0.length c0] rfl (by (try simp only [List.map_toArray, List.map_cons, List.map_nil]); first | done | rfl | (simp only [List.length_drop, List.length_take]; rfl)) ?_; (with_reducible refine (laws_toIntS.calls kj6 _ _ l0 t126 _ ?side1 ?side2 A34.out).mono ?_); (case side1 => repeat (first | exact (Kd.C_below HR0.out HB.out) | (with_reducible refine Kd.C_alloc ?_ _) | (with_reducible refine Kd.C_drewN ?_ _) | (with_reducible refine Kd.C_drew ?_))); (case side2 => exact HC0.out); rintro e w39 ⟨v127, rfl, ho0, hb⟩; refine ⟨_, rfl, ?_⟩; have n0_ := Aside0.mk (Kd.R_elder' (by (with_reducible repeat (first | apply Kd.R_alloc | apply Kd.R_drewN | apply Kd.R_drew)); exact HO_5.out) (Kd.R_base ho0) hb); have n1_ := Aside0.mk (Kd.R_elder' (by (with_reducible repeat (first | apply Kd.R_alloc | apply Kd.R_drewN | apply Kd.R_drew)); exact HO_113001.out) (Kd.R_base ho0) hb); have n2_ := Aside0.mk (Kd.R_elder' (by (with_reducible repeat (first | apply Kd.R_alloc | apply Kd.R_drewN | apply Kd.R_drew)); exact HO_113002.out) (Kd.R_base ho0) hb); have n3_ := Aside0.mk (Kd.R_elder' (by (with_reducible repeat (first | apply Kd.R_alloc | apply Kd.R_drewN | apply Kd.R_drew)); exact HO_125001.out) (Kd.R_base ho0) hb); have n4_ := Aside0.mk (Kd.R_elder' (by (with_reducible repeat (first | apply Kd.R_alloc | apply Kd.R_drewN | apply Kd.R_drew)); exact HO_125002.out) (Kd.R_base ho0) hb); have n5_ := Aside0.mk (Kd.R_lower (Kd.R_new' (Kd.R_new' (Kd.R_new' (Kd.R_new' (Kd.R_new' ho0 (Kd.R_lt (by (with_reducible repeat (first | apply Kd.R_alloc | apply Kd.R_drewN | apply Kd.R_drew)); exact HO_5.out))) (Kd.R_lt (by (with_reducible repeat (first | apply Kd.R_alloc | apply Kd.R_drewN | apply Kd.R_drew)); exact HO_113001.out))) (Kd.R_lt (by (with_reducible repeat (first | apply Kd.R_alloc | apply Kd.R_drewN | apply Kd.R_drew)); exact HO_113002.out))) (Kd.R_lt (by (with_reducible repeat (first | apply Kd.R_alloc | apply Kd.R_drewN | apply Kd.R_drew)); exact HO_125001.out))) (Kd.R_lt (by (with_reducible repeat (first | apply Kd.R_alloc | apply Kd.R_drewN | apply Kd.R_drew)); exact HO_125002.out))) (below_size (by repeat (first | (with_reducible first | exact HB.out | apply below_alloc | apply pw_below_drewN | apply below_drew1 | refine below_set ?_ GE112.out | refine below_set ?_ GE124.out) | exact HB.out)))); have n6_ := Aside0.mk (blk_below (g := gb112) (o := .cells #[.int .i64 t104, .slice Ao13 t105.length co13, .slice Ao14 t108.length co14] 33 (0, 0)) (by (with_reducible repeat (first | refine blk_drewN ?_ _ | refine blk_drew ?_ | refine blk_alloc ?_ _)); exact BK112.out) hb); have n7_ := Aside0.mk (blk_below (g := gb124) (o := .cells #[.int .i64 t116, .slice Ao21 t117.length co21, .slice Ao22 t120.length co22] 33 (0, 0)) (by (with_reducible repeat (first | refine blk_drewN ?_ _ | refine blk_drew ?_ | refine blk_alloc ?_ _)); exact BK124.out) hb); have n8_ := Aside0.mk (below_step (by repeat (first | (with_reducible first | exact HB.out | apply below_alloc | apply pw_below_drewN | apply below_drew1 | refine below_set ?_ GE112.out | refine below_set ?_ GE124.out) | exact HB.out)) hb); clear HO_5; clear HO_113001; clear HO_113002; clear HO_125001; clear HO_125002; clear BK112; clear BK124; clear HB; have HO_5 := n0_; have HO_113001 := n1_; have HO_113002 := n2_; have HO_125001 := n3_; have HO_125002 := n4_; have HO128 := n5_; have BK112 := n6_; have BK124 := n7_; have HB := n8_; clear n0_ n1_ n2_ n3_ n4_ n5_ n6_ n7_ n8_; (try clear hb); (try clear hb2); (try clear hk); (try clear hi); (try clear ho0); obtain ⟨Ao40, co40, eo40⟩ := Kd.R_slice HO128.out; subst eo40) | ((with_reducible refine gate_callee (f := 24) rfl ?_); refine goesL_ (some 41) rfl rfl Try.func24 (by kernel_rfl) rfl #[.slice Ao16 t113.length co16, .slice Ao40 t126.length co40] rfl (by (try simp only [List.map_toArray, List.map_cons, List.map_nil]); first | done | rfl | (simp only [List.length_drop, List.length_take]; rfl)) ?_; (with_reducible refine (laws_eqIntS.calls kj6 _ _ t113 _ _ t126 true _ ?side1 ?side2 ?side3 ?side4 A35.out).mono ?_); (case side1 => repeat (first | exact (Kd.R_reads' HO_5.out).2.2 | (with_reducible refine Kd.C_alloc ?_ _) | (with_reducible refine Kd.C_drewN ?_ _) | (with_reducible refine Kd.C_drew ?_))); (case side2 => exact (Kd.R_reads' HO_5.out).2.1); (case side3 => repeat (first | exact (Kd.R_reads' HO128.out).2.2 | (with_reducible refine Kd.C_alloc ?_ _) | (with_reducible refine Kd.C_drewN ?_ _) | (with_reducible refine Kd.C_drew ?_))); (case side4 => exact (Kd.R_reads' HO128.out).2.1); rintro e w' ⟨rfl, ⟨nd, rfl⟩⟩; refine ⟨_, rfl, ?_⟩) | ((with_reducible refine gate_callee (f := 25) rfl ?_); refine goesL_ (some 45) rfl rfl Try.func25 (by kernel_rfl) rfl #[.slice Ao16 t113.length co16, .int .i64 1] rfl (by (try simp only [List.map_toArray, List.map_cons, List.map_nil]); first | done | rfl | (simp only [List.length_drop, List.length_take]; rfl)) ?_; (with_reducible refine (laws_markIntS.calls kj6 (fun k_ => some k_ = (.slice Ao16 t113.length co16 : Value).ownBlock) (.slice Ao16 t113.length co16) t113 1 t130 t131 w _ ?side1 ?side2 A37.out).mono ?_); (case side1 => repeat (first | (with_reducible first | exact HB.out | apply below_alloc | apply pw_below_drewN | apply below_drew1 | refine below_set ?_ GE112.out | refine below_set ?_ GE124.out) | exact HB.out)); (case side2 => exact Kd.R_tight rfl HO_5.out); rintro e w41 ⟨rfl, hy0, hb, hkp⟩; refine ⟨_, rfl, ?_⟩; have n0_ := Aside0.mk (Kd.R_reok rfl hy0 (fun k_ e_ => HO_5.out.1 k_ e_)); have n1_ := Aside0.mk (Kd.R_mono (ok' := fun k_ => some k_ ≠ (.slice Ao16 t113.length co16 : Value).ownBlock ∧ some k_ ≠ (.slice Ao14 t108.length co14 : Value).ownBlock ∧ some k_ ≠ (.slice Ao21 t117.length co21 : Value).ownBlock ∧ some k_ ≠ (.slice Ao22 t120.length co22 : Value).ownBlock ∧ some k_ ≠ (.slice Ao40 t126.length co40 : Value).ownBlock) (Kd.R_keptB (HO_113001.out) hkp (fun k_ hk_ hs_ => (hk_.1.1) hs_)) (fun k_ hk_ => ⟨hk_.1.1.1, hk_.1.1.2.1, hk_.1.1.2.2.1, hk_.1.1.2.2.2, hk_.1.2⟩)); have n2_ := Aside0.mk (Kd.R_mono (ok' := fun k_ => some k_ ≠ (.slice Ao16 t113.length co16 : Value).ownBlock ∧ some k_ ≠ (.slice Ao13 t105.length co13 : Value).ownBlock ∧ some k_ ≠ (.slice Ao21 t117.length co21 : Value).ownBlock ∧ some k_ ≠ (.slice Ao22 t120.length co22 : Value).ownBlock ∧ some k_ ≠ (.slice Ao40 t126.length co40 : Value).ownBlock) (Kd.R_keptB (HO_113002.out) hkp (fun k_ hk_ hs_ => (hk_.1.1) hs_)) (fun k_ hk_ => ⟨hk_.1.1.1, hk_.1.1.2.1, hk_.1.1.2.2.1, hk_.1.1.2.2.2, hk_.1.2⟩)); have n3_ := Aside0.mk (Kd.R_mono (ok' := fun k_ => some k_ ≠ (.slice Ao16 t113.length co16 : Value).ownBlock ∧ some k_ ≠ (.slice Ao13 t105.length co13 : Value).ownBlock ∧ some k_ ≠ (.slice Ao14 t108.length co14 : Value).ownBlock ∧ some k_ ≠ (.slice Ao22 t120.length co22 : Value).ownBlock ∧ some k_ ≠ (.slice Ao40 t126.length co40 : Value).ownBlock) (Kd.R_keptB (HO_125001.out) hkp (fun k_ hk_ hs_ => (hk_.1.1) hs_)) (fun k_ hk_ => ⟨hk_.1.1.1, hk_.1.1.2.1, hk_.1.1.2.2.1, hk_.1.1.2.2.2, hk_.1.2⟩)); have n4_ := Aside0.mk (Kd.R_mono (ok' := fun k_ => some k_ ≠ (.slice Ao16 t113.length co16 : Value).ownBlock ∧ some k_ ≠ (.slice Ao13 t105.length co13 : Value).ownBlock ∧ some k_ ≠ (.slice Ao14 t108.length co14 : Value).ownBlock ∧ some k_ ≠ (.slice Ao21 t117.length co21 : Value).ownBlock ∧ some k_ ≠ (.slice Ao40 t126.length co40 : Value).ownBlock) (Kd.R_keptB (HO_125002.out) hkp (fun k_ hk_ hs_ => (hk_.1.1) hs_)) (fun k_ hk_ => ⟨hk_.1.1.1, hk_.1.1.2.1, hk_.1.1.2.2.1, hk_.1.1.2.2.2, hk_.1.2⟩)); have n5_ := Aside0.mk (blk_kept (by (with_reducible repeat (first | refine blk_drewN ?_ _ | refine blk_drew ?_ | refine blk_alloc ?_ _)); exact BK112.out) hkp (fun hs_ => (fun e_ => (Kd.R_ne HO_5.out BK112.out (by decide)) e_) hs_)); have n6_ := Aside0.mk (blk_kept (by (with_reducible repeat (first | refine blk_drewN ?_ _ | refine blk_drew ?_ | refine blk_alloc ?_ _)); exact BK124.out) hkp (fun hs_ => (fun e_ => (Kd.R_ne HO_5.out BK124.out (by decide)) e_) hs_)); have n7_ := Aside0.mk (Kd.R_mono (ok' := fun k_ => some k_ ≠ (.slice Ao16 t113.length co16 : Value).ownBlock ∧ some k_ ≠ (.slice Ao13 t105.length co13 : Value).ownBlock ∧ some k_ ≠ (.slice Ao14 t108.length co14 : Value).ownBlock ∧ some k_ ≠ (.slice Ao21 t117.length co21 : Value).ownBlock ∧ some k_ ≠ (.slice Ao22 t120.length co22 : Value).ownBlock) (Kd.R_keptB (HO128.out) hkp (fun k_ hk_ hs_ => (hk_.1.1.1.1.2) hs_)) (fun k_ hk_ => ⟨hk_.1.1.1.1.1.2, hk_.1.1.1.1.2, hk_.1.1.1.2, hk_.1.1.2, hk_.1.2⟩)); have n8_ := Aside0.mk (hb); clear HO_5; clear HO_113001; clear HO_113002; clear HO_125001; clear HO_125002; clear BK112; clear BK124; clear HO128; clear HB; have HO_5 := n0_; have HO_113001 := n1_; have HO_113002 := n2_; have HO_125001 := n3_; have HO_125002 := n4_; have BK112 := n5_; have BK124 := n6_; have HO128 := n7_; have HB := n8_; clear n0_ n1_ n2_ n3_ n4_ n5_ n6_ n7_ n8_; (try clear hb); (try clear hkp); (try clear hy0)))
            (try simp only [Act.put, List.setIfInBounds_toArray, List.set_cons_zero, List.set_cons_succ])
            go_cut [58] (fun v58 wc => ∃ (kq : Nat) (x58_37 : Bool), v58 = .bool x58_37 ∧ Aside0 (laws_FnExactWholeView.j1 kq l0 t111 x58_37 t104 t105 t108 t116 t117 t120 = some r) ∧ Aside0 (kq ≤ kj6) ∧ Aside0 (Kd.R (Kd.int .i64) 3 wc w.heap.size (fun k_ => some k_ ≠ ((.slice Ao14 t108.length co14) : Value).ownBlock ∧ some k_ ≠ ((.slice Ao21 t117.length co21) : Value).ownBlock ∧ some k_ ≠ ((.slice Ao22 t120.length co22) : Value).ownBlock) (.slice Ao13 t105.length co13) t105) ∧ Aside0 (Kd.R (Kd.int .i64) 3 wc w.heap.size (fun k_ => some k_ ≠ ((.slice Ao13 t105.length co13) : Value).ownBlock ∧ some k_ ≠ ((.slice Ao21 t117.length co21) : Value).ownBlock ∧ some k_ ≠ ((.slice Ao22 t120.length co22) : Value).ownBlock) (.slice Ao14 t108.length co14) t108) ∧ Aside0 (Kd.R (Kd.int .i64) 3 wc w.heap.size (fun k_ => some k_ ≠ ((.slice Ao13 t105.length co13) : Value).ownBlock ∧ some k_ ≠ ((.slice Ao14 t108.length co14) : Value).ownBlock ∧ some k_ ≠ ((.slice Ao22 t120.length co22) : Value).ownBlock) (.slice Ao21 t117.length co21) t117) ∧ Aside0 (Kd.R (Kd.int .i64) 3 wc w.heap.size (fun k_ => some k_ ≠ ((.slice Ao13 t105.length co13) : Value).ownBlock ∧ some k_ ≠ ((.slice Ao14 t108.length co14) : Value).ownBlock ∧ some k_ ≠ ((.slice Ao21 t117.length co21) : Value).ownBlock) (.slice Ao22 t120.length co22) t120) ∧ Aside0 (wc.heap[gb112]? = some (.cells #[.int .i64 t104, (.slice Ao13 t105.length co13), (.slice Ao14 t108.length co14)] 33 (0, 0))) ∧ Aside0 (wc.heap[gb124]? = some (.cells #[.int .i64 t116, (.slice Ao21 t117.length co21), (.slice Ao22 t120.length co22)] 33 (0, 0))) ∧ Aside0 (Below w.heap.size w wc))
            case first =>
              have H := HC38.out
              clear HC38
              by_cases c42 : t130 < 0
              · rw [if_pos c42] at H
                have c42b0 : decide (t130 < 0) = true := decide_eq_true c42
                clear c42
                (first | rw [c42b0] | (simp only [i64_w, i32_w]; rw [c42b0]) | skip)
                have H' := Aside0.mk H
                clear H
                go_wp2
                go_meet
                case rel => exact ⟨_, (true), (by first | rfl | (simp; done) | (simp [*]; done)), H', ⟨by have := HJ6.out; first | omega | exact Nat.le_refl _⟩, ⟨by (with_reducible repeat (first | apply Kd.R_alloc | apply Kd.R_drewN | apply Kd.R_drew)); exact Kd.R_mono HO_113001.out (fun _ hk => ⟨hk.2.1, ⟨hk.2.2.1, hk.2.2.2.1⟩⟩)⟩, ⟨by (with_reducible repeat (first | apply Kd.R_alloc | apply Kd.R_drewN | apply Kd.R_drew)); exact Kd.R_mono HO_113002.out (fun _ hk => ⟨hk.2.1, ⟨hk.2.2.1, hk.2.2.2.1⟩⟩)⟩, ⟨by (with_reducible repeat (first | apply Kd.R_alloc | apply Kd.R_drewN | apply Kd.R_drew)); exact Kd.R_mono HO_125001.out (fun _ hk => ⟨hk.2.1, ⟨hk.2.2.1, hk.2.2.2.1⟩⟩)⟩, ⟨by (with_reducible repeat (first | apply Kd.R_alloc | apply Kd.R_drewN | apply Kd.R_drew)); exact Kd.R_mono HO_125002.out (fun _ hk => ⟨hk.2.1, ⟨hk.2.2.1, hk.2.2.2.1⟩⟩)⟩, ⟨by (with_reducible repeat (first | refine blk_drewN ?_ _ | refine blk_drew ?_ | refine blk_alloc ?_ _)); exact BK112.out⟩, ⟨by (with_reducible repeat (first | refine blk_drewN ?_ _ | refine blk_drew ?_ | refine blk_alloc ?_ _)); exact BK124.out⟩, ⟨by repeat (first | (with_reducible first | exact HB.out | apply below_alloc | apply pw_below_drewN | apply below_drew1 | refine below_set ?_ GE112.out | refine below_set ?_ GE124.out) | exact HB.out)⟩⟩
              · rw [if_neg c42] at H
                have c42b0 : decide (t130 < 0) = false := decide_eq_false c42
                clear c42
                (first | rw [c42b0] | (simp only [i64_w, i32_w]; rw [c42b0]) | skip)
                replace H := Option.bind_eq_some_iff.mp H
                obtain ⟨t132, A430, H⟩ := H
                replace H : (if t132 = true then (laws_FnExactWholeView.j1 kj6 l0 t111 (t123 != t111) t104 t105 t108 t116 t117 t120) else (laws_FnExactWholeView.j1 kj6 l0 t111 true t104 t105 t108 t116 t117 t120)) = some r := H
                have A43 := Aside0.mk A430
                clear A430
                by_cases c44 : t132 = true
                · subst c44
                  have H1 : (laws_FnExactWholeView.j1 kj6 l0 t111 (t123 != t111) t104 t105 t108 t116 t117 t120) = some r := by rw [if_pos rfl] at H; exact H
                  clear H
                  have H := H1
                  clear H1
                  have H' := Aside0.mk H
                  clear H
                  have hnb45 := NB124_112.out
                  have hnc45 := NB112_124.out
                  have hcz46_0 : w41.cell? ⟨gb124, 0, none⟩ = some (.int .i64 t116) := (blk_cell BK124.out 0).trans rfl
                  have hcz46_1 : w41.cell? ⟨gb124, 1, none⟩ = some (.slice Ao21 t117.length co21) := (blk_cell BK124.out 1).trans rfl
                  have hcz46_2 : w41.cell? ⟨gb124, 2, none⟩ = some (.slice Ao22 t120.length co22) := (blk_cell BK124.out 2).trans rfl
                  have hfz46_0 := blk_frozen BK124.out 0
                  have hfz46_1 := blk_frozen BK124.out 1
                  have hfz46_2 := blk_frozen BK124.out 2
                  have hcz47_0 : w41.cell? ⟨gb112, 0, none⟩ = some (.int .i64 t104) := (blk_cell BK112.out 0).trans rfl
                  have hcz47_1 : w41.cell? ⟨gb112, 1, none⟩ = some (.slice Ao13 t105.length co13) := (blk_cell BK112.out 1).trans rfl
                  have hcz47_2 : w41.cell? ⟨gb112, 2, none⟩ = some (.slice Ao14 t108.length co14) := (blk_cell BK112.out 2).trans rfl
                  have hfz47_0 := blk_frozen BK112.out 0
                  have hfz47_1 := blk_frozen BK112.out 1
                  have hfz47_2 := blk_frozen BK112.out 2
                  go_wp2_with (first | (go_at_call 23; (with_reducible refine (laws_eqView.calls kj6 t116 _ _ t117 _ _ t120 t104 _ _ t105 _ _ t108 true _ ?side1 ?side2 ?side3 ?side4 ?side5 ?side6 ?side7 ?side8 A43.out).mono ?_); (case side1 => repeat (first | exact (Kd.R_reads' HO_125001.out).2.2 | (with_reducible refine Kd.C_alloc ?_ _) | (with_reducible refine Kd.C_drewN ?_ _) | (with_reducible refine Kd.C_drew ?_))); (case side2 => exact (Kd.R_reads' HO_125001.out).2.1); (case side3 => repeat (first | exact (Kd.R_reads' HO_125002.out).2.2 | (with_reducible refine Kd.C_alloc ?_ _) | (with_reducible refine Kd.C_drewN ?_ _) | (with_reducible refine Kd.C_drew ?_))); (case side4 => exact (Kd.R_reads' HO_125002.out).2.1); (case side5 => repeat (first | exact (Kd.R_reads' HO_113001.out).2.2 | (with_reducible refine Kd.C_alloc ?_ _) | (with_reducible refine Kd.C_drewN ?_ _) | (with_reducible refine Kd.C_drew ?_))); (case side6 => exact (Kd.R_reads' HO_113001.out).2.1); (case side7 => repeat (first | exact (Kd.R_reads' HO_113002.out).2.2 | (with_reducible refine Kd.C_alloc ?_ _) | (with_reducible refine Kd.C_drewN ?_ _) | (with_reducible refine Kd.C_drew ?_))); (case side8 => exact (Kd.R_reads' HO_113002.out).2.1); rintro e w48 ⟨rfl, hb⟩; have n0_ := Aside0.mk (Kd.R_below (by (with_reducible repeat (first | apply Kd.R_alloc | apply Kd.R_drewN | apply Kd.R_drew)); exact HO_5.out) hb); have n1_ := Aside0.mk (Kd.R_below (by (with_reducible repeat (first | apply Kd.R_alloc | apply Kd.R_drewN | apply Kd.R_drew)); exact HO_113001.out) hb); have n2_ := Aside0.mk (Kd.R_below (by (with_reducible repeat (first | apply Kd.R_alloc | apply Kd.R_drewN | apply Kd.R_drew)); exact HO_113002.out) hb); have n3_ := Aside0.mk (Kd.R_below (by (with_reducible repeat (first | apply Kd.R_alloc | apply Kd.R_drewN | apply Kd.R_drew)); exact HO_125001.out) hb); have n4_ := Aside0.mk (Kd.R_below (by (with_reducible repeat (first | apply Kd.R_alloc | apply Kd.R_drewN | apply Kd.R_drew)); exact HO_125002.out) hb); have n5_ := Aside0.mk (Kd.R_below (by (with_reducible repeat (first | apply Kd.R_alloc | apply Kd.R_drewN | apply Kd.R_drew)); exact HO128.out) hb); have n6_ := Aside0.mk (blk_below (g := gb112) (o := .cells #[.int .i64 t104, .slice Ao13 t105.length co13, .slice Ao14 t108.length co14] 33 (0, 0)) (by (with_reducible repeat (first | refine blk_drewN ?_ _ | refine blk_drew ?_ | refine blk_alloc ?_ _)); exact BK112.out) hb); have n7_ := Aside0.mk (blk_below (g := gb124) (o := .cells #[.int .i64 t116, .slice Ao21 t117.length co21, .slice Ao22 t120.length co22] 33 (0, 0)) (by (with_reducible repeat (first | refine blk_drewN ?_ _ | refine blk_drew ?_ | refine blk_alloc ?_ _)); exact BK124.out) hb); have n8_ := Aside0.mk (below_step (by repeat (first | (with_reducible first | exact HB.out | apply below_alloc | apply pw_below_drewN | apply below_drew1 | refine below_set ?_ GE112.out | refine below_set ?_ GE124.out) | exact HB.out)) hb); clear HO_5; clear HO_113001; clear HO_113002; clear HO_125001; clear HO_125002; clear HO128; clear BK112; clear BK124; clear HB; have HO_5 := n0_; have HO_113001 := n1_; have HO_113002 := n2_; have HO_125001 := n3_; have HO_125002 := n4_; have HO128 := n5_; have BK112 := n6_; have BK124 := n7_; have HB := n8_; clear n0_ n1_ n2_ n3_ n4_ n5_ n6_ n7_ n8_; (try clear hb); (try clear hb2); (try clear hk); (try clear hi)))
                  go_meet
                  case rel => exact ⟨_, ((t123 != t111)), (by first | rfl | (simp; done) | (simp [*]; done)), H', ⟨by have := HJ6.out; first | omega | exact Nat.le_refl _⟩, ⟨by (with_reducible repeat (first | apply Kd.R_alloc | apply Kd.R_drewN | apply Kd.R_drew)); exact Kd.R_mono HO_113001.out (fun _ hk => ⟨hk.2.1, ⟨hk.2.2.1, hk.2.2.2.1⟩⟩)⟩, ⟨by (with_reducible repeat (first | apply Kd.R_alloc | apply Kd.R_drewN | apply Kd.R_drew)); exact Kd.R_mono HO_113002.out (fun _ hk => ⟨hk.2.1, ⟨hk.2.2.1, hk.2.2.2.1⟩⟩)⟩, ⟨by (with_reducible repeat (first | apply Kd.R_alloc | apply Kd.R_drewN | apply Kd.R_drew)); exact Kd.R_mono HO_125001.out (fun _ hk => ⟨hk.2.1, ⟨hk.2.2.1, hk.2.2.2.1⟩⟩)⟩, ⟨by (with_reducible repeat (first | apply Kd.R_alloc | apply Kd.R_drewN | apply Kd.R_drew)); exact Kd.R_mono HO_125002.out (fun _ hk => ⟨hk.2.1, ⟨hk.2.2.1, hk.2.2.2.1⟩⟩)⟩, ⟨by (with_reducible repeat (first | refine blk_drewN ?_ _ | refine blk_drew ?_ | refine blk_alloc ?_ _)); exact BK112.out⟩, ⟨by (with_reducible repeat (first | refine blk_drewN ?_ _ | refine blk_drew ?_ | refine blk_alloc ?_ _)); exact BK124.out⟩, ⟨by repeat (first | (with_reducible first | exact HB.out | apply below_alloc | apply pw_below_drewN | apply below_drew1 | refine below_set ?_ GE112.out | refine below_set ?_ GE124.out) | exact HB.out)⟩⟩
                · replace c44 := Bool.eq_false_iff.mpr c44
                  subst c44
                  have H1 : (laws_FnExactWholeView.j1 kj6 l0 t111 true t104 t105 t108 t116 t117 t120) = some r := by rw [if_neg (show ¬ (false = true) by decide)] at H; exact H
                  clear H
                  have H := H1
                  clear H1
                  have H' := Aside0.mk H
                  clear H
                  have hnb49 := NB124_112.out
                  have hnc49 := NB112_124.out
                  have hcz50_0 : w41.cell? ⟨gb124, 0, none⟩ = some (.int .i64 t116) := (blk_cell BK124.out 0).trans rfl
                  have hcz50_1 : w41.cell? ⟨gb124, 1, none⟩ = some (.slice Ao21 t117.length co21) := (blk_cell BK124.out 1).trans rfl
                  have hcz50_2 : w41.cell? ⟨gb124, 2, none⟩ = some (.slice Ao22 t120.length co22) := (blk_cell BK124.out 2).trans rfl
                  have hfz50_0 := blk_frozen BK124.out 0
                  have hfz50_1 := blk_frozen BK124.out 1
                  have hfz50_2 := blk_frozen BK124.out 2
                  have hcz51_0 : w41.cell? ⟨gb112, 0, none⟩ = some (.int .i64 t104) := (blk_cell BK112.out 0).trans rfl
                  have hcz51_1 : w41.cell? ⟨gb112, 1, none⟩ = some (.slice Ao13 t105.length co13) := (blk_cell BK112.out 1).trans rfl
                  have hcz51_2 : w41.cell? ⟨gb112, 2, none⟩ = some (.slice Ao14 t108.length co14) := (blk_cell BK112.out 2).trans rfl
                  have hfz51_0 := blk_frozen BK112.out 0
                  have hfz51_1 := blk_frozen BK112.out 1
                  have hfz51_2 := blk_frozen BK112.out 2
                  go_wp2_with (first | (go_at_call 23; (with_reducible refine (laws_eqView.calls kj6 t116 _ _ t117 _ _ t120 t104 _ _ t105 _ _ t108 false _ ?side1 ?side2 ?side3 ?side4 ?side5 ?side6 ?side7 ?side8 A43.out).mono ?_); (case side1 => repeat (first | exact (Kd.R_reads' HO_125001.out).2.2 | (with_reducible refine Kd.C_alloc ?_ _) | (with_reducible refine Kd.C_drewN ?_ _) | (with_reducible refine Kd.C_drew ?_))); (case side2 => exact (Kd.R_reads' HO_125001.out).2.1); (case side3 => repeat (first | exact (Kd.R_reads' HO_125002.out).2.2 | (with_reducible refine Kd.C_alloc ?_ _) | (with_reducible refine Kd.C_drewN ?_ _) | (with_reducible refine Kd.C_drew ?_))); (case side4 => exact (Kd.R_reads' HO_125002.out).2.1); (case side5 => repeat (first | exact (Kd.R_reads' HO_113001.out).2.2 | (with_reducible refine Kd.C_alloc ?_ _) | (with_reducible refine Kd.C_drewN ?_ _) | (with_reducible refine Kd.C_drew ?_))); (case side6 => exact (Kd.R_reads' HO_113001.out).2.1); (case side7 => repeat (first | exact (Kd.R_reads' HO_113002.out).2.2 | (with_reducible refine Kd.C_alloc ?_ _) | (with_reducible refine Kd.C_drewN ?_ _) | (with_reducible refine Kd.C_drew ?_))); (case side8 => exact (Kd.R_reads' HO_113002.out).2.1); rintro e w52 ⟨rfl, hb⟩; have n0_ := Aside0.mk (Kd.R_below (by (with_reducible repeat (first | apply Kd.R_alloc | apply Kd.R_drewN | apply Kd.R_drew)); exact HO_5.out) hb); have n1_ := Aside0.mk (Kd.R_below (by (with_reducible repeat (first | apply Kd.R_alloc | apply Kd.R_drewN | apply Kd.R_drew)); exact HO_113001.out) hb); have n2_ := Aside0.mk (Kd.R_below (by (with_reducible repeat (first | apply Kd.R_alloc | apply Kd.R_drewN | apply Kd.R_drew)); exact HO_113002.out) hb); have n3_ := Aside0.mk (Kd.R_below (by (with_reducible repeat (first | apply Kd.R_alloc | apply Kd.R_drewN | apply Kd.R_drew)); exact HO_125001.out) hb); have n4_ := Aside0.mk (Kd.R_below (by (with_reducible repeat (first | apply Kd.R_alloc | apply Kd.R_drewN | apply Kd.R_drew)); exact HO_125002.out) hb); have n5_ := Aside0.mk (Kd.R_below (by (with_reducible repeat (first | apply Kd.R_alloc | apply Kd.R_drewN | apply Kd.R_drew)); exact HO128.out) hb); have n6_ := Aside0.mk (blk_below (g := gb112) (o := .cells #[.int .i64 t104, .slice Ao13 t105.length co13, .slice Ao14 t108.length co14] 33 (0, 0)) (by (with_reducible repeat (first | refine blk_drewN ?_ _ | refine blk_drew ?_ | refine blk_alloc ?_ _)); exact BK112.out) hb); have n7_ := Aside0.mk (blk_below (g := gb124) (o := .cells #[.int .i64 t116, .slice Ao21 t117.length co21, .slice Ao22 t120.length co22] 33 (0, 0)) (by (with_reducible repeat (first | refine blk_drewN ?_ _ | refine blk_drew ?_ | refine blk_alloc ?_ _)); exact BK124.out) hb); have n8_ := Aside0.mk (below_step (by repeat (first | (with_reducible first | exact HB.out | apply below_alloc | apply pw_below_drewN | apply below_drew1 | refine below_set ?_ GE112.out | refine below_set ?_ GE124.out) | exact HB.out)) hb); clear HO_5; clear HO_113001; clear HO_113002; clear HO_125001; clear HO_125002; clear HO128; clear BK112; clear BK124; clear HB; have HO_5 := n0_; have HO_113001 := n1_; have HO_113002 := n2_; have HO_125001 := n3_; have HO_125002 := n4_; have HO128 := n5_; have BK112 := n6_; have BK124 := n7_; have HB := n8_; clear n0_ n1_ n2_ n3_ n4_ n5_ n6_ n7_ n8_; (try clear hb); (try clear hb2); (try clear hk); (try clear hi)))
                  go_meet
                  case rel => exact ⟨_, (true), (by first | rfl | (simp; done) | (simp [*]; done)), H', ⟨by have := HJ6.out; first | omega | exact Nat.le_refl _⟩, ⟨by (with_reducible repeat (first | apply Kd.R_alloc | apply Kd.R_drewN | apply Kd.R_drew)); exact Kd.R_mono HO_113001.out (fun _ hk => ⟨hk.2.1, ⟨hk.2.2.1, hk.2.2.2.1⟩⟩)⟩, ⟨by (with_reducible repeat (first | apply Kd.R_alloc | apply Kd.R_drewN | apply Kd.R_drew)); exact Kd.R_mono HO_113002.out (fun _ hk => ⟨hk.2.1, ⟨hk.2.2.1, hk.2.2.2.1⟩⟩)⟩, ⟨by (with_reducible repeat (first | apply Kd.R_alloc | apply Kd.R_drewN | apply Kd.R_drew)); exact Kd.R_mono HO_125001.out (fun _ hk => ⟨hk.2.1, ⟨hk.2.2.1, hk.2.2.2.1⟩⟩)⟩, ⟨by (with_reducible repeat (first | apply Kd.R_alloc | apply Kd.R_drewN | apply Kd.R_drew)); exact Kd.R_mono HO_125002.out (fun _ hk => ⟨hk.2.1, ⟨hk.2.2.1, hk.2.2.2.1⟩⟩)⟩, ⟨by (with_reducible repeat (first | refine blk_drewN ?_ _ | refine blk_drew ?_ | refine blk_alloc ?_ _)); exact BK112.out⟩, ⟨by (with_reducible repeat (first | refine blk_drewN ?_ _ | refine blk_drew ?_ | refine blk_alloc ?_ _)); exact BK124.out⟩, ⟨by repeat (first | (with_reducible first | exact HB.out | apply below_alloc | apply pw_below_drewN | apply below_drew1 | refine below_set ?_ GE112.out | refine below_set ?_ GE124.out) | exact HB.out)⟩⟩
            case rest =>
              clear HC38
              try clear c1
              try clear c2
              try clear c2b0
              try clear c2b1
              try clear p2
              try clear c3
              try clear c4
              try clear c5
              try clear c19
              try clear c20
              try clear c21
              try clear c22
              try clear c23
              try clear c24
              try clear c25
              try clear c29
              try clear c33
              try clear c36
              try clear c42
              try clear c42b0
              try clear c44
              try clear c45
              try clear c49
              try clear hcz12_0
              try clear hcz12_1
              try clear hcz12_2
              try clear hcz20_0
              try clear hcz20_1
              try clear hcz20_2
              try clear hcz26_0
              try clear hcz26_1
              try clear hcz26_2
              try clear hcz27_0
              try clear hcz27_1
              try clear hcz27_2
              try clear hcz30_0
              try clear hcz30_1
              try clear hcz30_2
              try clear hcz31_0
              try clear hcz31_1
              try clear hcz31_2
              try clear hcz46_0
              try clear hcz46_1
              try clear hcz46_2
              try clear hcz47_0
              try clear hcz47_1
              try clear hcz47_2
              try clear hcz50_0
              try clear hcz50_1
              try clear hcz50_2
              try clear hcz51_0
              try clear hcz51_1
              try clear hcz51_2
              try clear hfz12_0
              try clear hfz12_1
              try clear hfz12_2
              try clear hfz20_0
              try clear hfz20_1
              try clear hfz20_2
              try clear hfz26_0
              try clear hfz26_1
              try clear hfz26_2
              try clear hfz27_0
              try clear hfz27_1
              try clear hfz27_2
              try clear hfz30_0
              try clear hfz30_1
              try clear hfz30_2
              try clear hfz31_0
              try clear hfz31_1
              try clear hfz31_2
              try clear hfz46_0
              try clear hfz46_1
              try clear hfz46_2
              try clear hfz47_0
              try clear hfz47_1
              try clear hfz47_2
              try clear hfz50_0
              try clear hfz50_1
              try clear hfz50_2
              try clear hfz51_0
              try clear hfz51_1
              try clear hfz51_2
              try clear p2
              obtain ⟨kq, x58_37, rfl, HA, HJ37, HO_113001, HO_113002, HO_125001, HO_125002, BK112, BK124, HB⟩ := hcut
              cases kq with
              | zero => exact absurd HA.out (by simp [laws_FnExactWholeView.j1])
              | succ kj37 =>
                have H := HA.out
                clear HA
                simp only [laws_FnExactWholeView.j1] at H
                by_cases c53 : x58_37 = true
                · subst c53
                  have H1 : (some false) = some r := by rw [if_pos rfl] at H; exact H
                  clear H
                  have H := H1
                  clear H1
                  exact absurd ((Option.some.inj H).trans hr_.out) (by decide)
                · replace c53 := Bool.eq_false_iff.mpr c53
                  subst c53
                  have H1 : ((laws_markView.f kj37 t116 t117 t120 1).bind fun bt133 => ((laws_heldView.f kj37 t116 bt133.2.1 bt133.2.2 1).bind fun t136 => (if t136 < 0 then (some false) else (if t136 = bt133.1 then ((laws_toIntS.f kj37 l0).bind fun t137 => ((impl_WholeView.f kj37 t137).bind fun bt140 => ((laws_eqView.f kj37 bt140.1 bt140.2.1 bt140.2.2.1 t104 t105 t108).bind fun t149 => (if t149 = true then (laws_FnExactWholeView.j2 kj37 bt133.1 (bt140.2.2.2 != t111) t116 bt133.2.1 bt133.2.2) else (laws_FnExactWholeView.j2 kj37 bt133.1 true t116 bt133.2.1 bt133.2.2))))) else (some false))))) = some r := by rw [if_neg (show ¬ (false = true) by decide)] at H; exact H
                  clear H
                  have H := H1
                  clear H1
                  replace H := Option.bind_eq_some_iff.mp H
                  obtain ⟨⟨t133, t134, t135⟩, A540, H⟩ := H
                  replace H : ((laws_heldView.f kj37 t116 t134 t135 1).bind fun t136 => (if t136 < 0 then (some false) else (if t136 = t133 then ((laws_toIntS.f kj37 l0).bind fun t137 => ((impl_WholeView.f kj37 t137).bind fun bt140 => ((laws_eqView.f kj37 bt140.1 bt140.2.1 bt140.2.2.1 t104 t105 t108).bind fun t149 => (if t149 = true then (laws_FnExactWholeView.j2 kj37 t133 (bt140.2.2.2 != t111) t116 t134 t135) else (laws_FnExactWholeView.j2 kj37 t133 true t116 t134 t135))))) else (some false)))) = some r := H
                  have A54 := Aside0.mk A540
                  clear A540
                  replace H := Option.bind_eq_some_iff.mp H
                  obtain ⟨t136, A550, H⟩ := H
                  replace H : (if t136 < 0 then (some false) else (if t136 = t133 then ((laws_toIntS.f kj37 l0).bind fun t137 => ((impl_WholeView.f kj37 t137).bind fun bt140 => ((laws_eqView.f kj37 bt140.1 bt140.2.1 bt140.2.2.1 t104 t105 t108).bind fun t149 => (if t149 = true then (laws_FnExactWholeView.j2 kj37 t133 (bt140.2.2.2 != t111) t116 t134 t135) else (laws_FnExactWholeView.j2 kj37 t133 true t116 t134 t135))))) else (some false))) = some r := H
                  have A55 := Aside0.mk A550
                  clear A550
                  by_cases c56 : t136 < 0
                  · rw [if_pos c56] at H
                    have c56b0 : decide (t136 < 0) = true := decide_eq_true c56
                    clear c56
                    exact absurd ((Option.some.inj H).trans hr_.out) (by decide)
                  · rw [if_neg c56] at H
                    have c56b0 : decide (t136 < 0) = false := decide_eq_false c56
                    clear c56
                    by_cases c57 : t136 = t133
                    · rw [if_pos c57] at H
                      have c57b0 : (t136 == t133) = true := beq_iff_eq.mpr c57
                      have c57b1 : (t136 != t133) = false := bne_eq_false_iff_eq.mpr c57
                      clear c57
                      replace H := Option.bind_eq_some_iff.mp H
                      obtain ⟨t137, A580, H⟩ := H
                      replace H : ((impl_WholeView.f kj37 t137).bind fun bt140 => ((laws_eqView.f kj37 bt140.1 bt140.2.1 bt140.2.2.1 t104 t105 t108).bind fun t149 => (if t149 = true then (laws_FnExactWholeView.j2 kj37 t133 (bt140.2.2.2 != t111) t116 t134 t135) else (laws_FnExactWholeView.j2 kj37 t133 true t116 t134 t135)))) = some r := H
                      have A58 := Aside0.mk A580
                      clear A580
                      replace H := Option.bind_eq_some_iff.mp H
                      obtain ⟨⟨t140, t141, t144, t147⟩, A590, H⟩ := H
                      replace H : ((laws_eqView.f kj37 t140 t141 t144 t104 t105 t108).bind fun t149 => (if t149 = true then (laws_FnExactWholeView.j2 kj37 t133 (t147 != t111) t116 t134 t135) else (laws_FnExactWholeView.j2 kj37 t133 true t116 t134 t135))) = some r := H
                      have A59 := Aside0.mk A590
                      clear A590
                      have HC60 := Aside0.mk H
                      clear H
                      have hnb61 := NB124_112.out
                      have hnc61 := NB112_124.out
                      have hcz62_0 : wc.cell? ⟨gb124, 0, none⟩ = some (.int .i64 t116) := (blk_cell BK124.out 0).trans rfl
                      have hcz62_1 : wc.cell? ⟨gb124, 1, none⟩ = some (.slice Ao21 t117.length co21) := (blk_cell BK124.out 1).trans rfl
                      have hcz62_2 : wc.cell? ⟨gb124, 2, none⟩ = some (.slice Ao22 t120.length co22) := (blk_cell BK124.out 2).trans rfl
                      have hfz62_0 := blk_frozen BK124.out 0
                      have hfz62_1 := blk_frozen BK124.out 1
                      have hfz62_2 := blk_frozen BK124.out 2
                      go_upto_region 23 with (first | ((with_reducible refine gate_callee (f := 26) rfl ?_); refine goesL_ (some 61) rfl rfl Try.func26 (by kernel_rfl) rfl #[.agg #[.int .i64 t116, .slice Ao21 t117.length co21, .slice Ao22 t120.length co22], .int .i64 1] rfl (by (try simp only [List.map_toArray, List.map_cons, List.map_nil]); first | done | rfl | (simp only [List.length_drop, List.length_take]; rfl)) ?_; (with_reducible refine (laws_markView.calls kj37 t116 (fun k_ => some k_ = (.slice Ao21 t117.length co21 : Value).ownBlock) (.slice Ao21 t117.length co21) t117 (fun k_ => some k_ = (.slice Ao22 t120.length co22 : Value).ownBlock) (.slice Ao22 t120.length co22) t120 1 t133 t134 t135 w _ ?side1 ?side2 ?side3 ?side4 ?side5 A54.out).mono ?_); (case side1 => repeat (first | (with_reducible first | exact HB.out | apply below_alloc | apply pw_below_drewN | apply below_drew1 | refine below_set ?_ GE112.out | refine below_set ?_ GE124.out) | exact HB.out)); (case side2 => exact Kd.R_tight rfl HO_125001.out); (case side3 => exact fun k_ e_ => (HO_125001.out.1 k_ e_.symm).2.2); (case side4 => exact Kd.R_tight rfl HO_125002.out); (case side5 => exact fun k_ e_ => (HO_125002.out.1 k_ e_.symm).2.2); rintro e w63 ⟨rfl, hy0, hy1, hb, hkp⟩; refine ⟨_, rfl, ?_⟩; have n0_ := Aside0.mk (Kd.R_mono (ok' := fun k_ => some k_ ≠ (.slice Ao14 t108.length co14 : Value).ownBlock ∧ some k_ ≠ (.slice Ao21 t117.length co21 : Value).ownBlock ∧ some k_ ≠ (.slice Ao22 t120.length co22 : Value).ownBlock) (Kd.R_keptB (HO_113001.out) hkp (fun k_ hk_ hs_ => Or.elim hs_ (fun e_ => (hk_.2.1) e_) (fun e_ => (hk_.2.2) e_))) (fun k_ hk_ => ⟨hk_.1.1, hk_.1.2.1, hk_.1.2.2⟩)); have n1_ := Aside0.mk (Kd.R_mono (ok' := fun k_ => some k_ ≠ (.slice Ao13 t105.length co13 : Value).ownBlock ∧ some k_ ≠ (.slice Ao21 t117.length co21 : Value).ownBlock ∧ some k_ ≠ (.slice Ao22 t120.length co22 : Value).ownBlock) (Kd.R_keptB (HO_113002.out) hkp (fun k_ hk_ hs_ => Or.elim hs_ (fun e_ => (hk_.2.1) e_) (fun e_ => (hk_.2.2) e_))) (fun k_ hk_ => ⟨hk_.1.1, hk_.1.2.1, hk_.1.2.2⟩)); have n2_ := Aside0.mk (Kd.R_reok rfl hy0 (fun k_ e_ => HO_125001.out.1 k_ e_)); have n3_ := Aside0.mk (Kd.R_reok rfl hy1 (fun k_ e_ => HO_125002.out.1 k_ e_)); have n4_ := Aside0.mk (blk_kept (by (with_reducible repeat (first | refine blk_drewN ?_ _ | refine blk_drew ?_ | refine blk_alloc ?_ _)); exact BK112.out) hkp (fun hs_ => Or.elim hs_ (fun e_ => (fun e_ => (Kd.R_ne HO_125001.out BK112.out (by decide)) e_) e_) (fun e_ => (fun e_ => (Kd.R_ne HO_125002.out BK112.out (by decide)) e_) e_))); have n5_ := Aside0.mk (blk_kept (by (with_reducible repeat (first | refine blk_drewN ?_ _ | refine blk_drew ?_ | refine blk_alloc ?_ _)); exact BK124.out) hkp (fun hs_ => Or.elim hs_ (fun e_ => (fun e_ => (Kd.R_ne HO_125001.out BK124.out (by decide)) e_) e_) (fun e_ => (fun e_ => (Kd.R_ne HO_125002.out BK124.out (by decide)) e_) e_))); have n6_ := Aside0.mk (hb); clear HO_113001; clear HO_113002; clear HO_125001; clear HO_125002; clear BK112; clear BK124; clear HB; have HO_113001 := n0_; have HO_113002 := n1_; have HO_125001 := n2_; have HO_125002 := n3_; have BK112 := n4_; have BK124 := n5_; have HB := n6_; clear n0_ n1_ n2_ n3_ n4_ n5_ n6_; (try clear hb); (try clear hkp); (try clear hy0); (try clear hy1); have hcz64_0 : w63.cell? ⟨gb124, 0, none⟩ = some (.int .i64 t116) := (blk_cell BK124.out 0).trans rfl; have hcz64_1 : w63.cell? ⟨gb124, 1, none⟩ = some (.slice Ao21 t117.length co21) := (blk_cell BK124.out 1).trans rfl; have hcz64_2 : w63.cell? ⟨gb124, 2, none⟩ = some (.slice Ao22 t120.length co22) := (blk_cell BK124.out 2).trans rfl; have hfz64_0 := blk_frozen BK124.out 0; have hfz64_1 := blk_frozen BK124.out 1; have hfz64_2 := blk_frozen BK124.out 2) | ((with_reducible refine gate_callee (f := 27) rfl ?_); refine goesL_ (some 64) rfl rfl Try.func27 (by kernel_rfl) rfl #[.agg #[.int .i64 t116, .slice Ao21 t134.length co21, .slice Ao22 t135.length co22], .int .i64 1] rfl (by (try simp only [List.map_toArray, List.map_cons, List.map_nil]); first | done | (rw [show t134.length = t117.length from (Kd.R_reads' HO_125001.out).1.symm, show t135.length = t120.length from (Kd.R_reads' HO_125002.out).1.symm] <;> rfl) | rfl | (simp only [List.length_drop, List.length_take]; rfl)) ?_; (with_reducible refine (laws_heldView.calls kj37 t116 _ _ t134 _ _ t135 1 t136 _ ?side1 ?side2 ?side3 ?side4 A55.out).mono ?_); (case side1 => repeat (first | exact (Kd.R_reads' HO_125001.out).2.2 | (with_reducible refine Kd.C_alloc ?_ _) | (with_reducible refine Kd.C_drewN ?_ _) | (with_reducible refine Kd.C_drew ?_))); (case side2 => rw [show t134.length = t117.length from (Kd.R_reads' HO_125001.out).1.symm]; exact (Kd.R_reads' HO_125001.out).2.1); (case side3 => repeat (first | exact (Kd.R_reads' HO_125002.out).2.2 | (with_reducible refine Kd.C_alloc ?_ _) | (with_reducible refine Kd.C_drewN ?_ _) | (with_reducible refine Kd.C_drew ?_))); (case side4 => rw [show t135.length = t120.length from (Kd.R_reads' HO_125002.out).1.symm]; exact (Kd.R_reads' HO_125002.out).2.1); rintro e w65 ⟨rfl, hb⟩; refine ⟨_, rfl, ?_⟩; have n0_ := Aside0.mk (Kd.R_below (by (with_reducible repeat (first | apply Kd.R_alloc | apply Kd.R_drewN | apply Kd.R_drew)); exact HO_113001.out) hb); have n1_ := Aside0.mk (Kd.R_below (by (with_reducible repeat (first | apply Kd.R_alloc | apply Kd.R_drewN | apply Kd.R_drew)); exact HO_113002.out) hb); have n2_ := Aside0.mk (Kd.R_below (by (with_reducible repeat (first | apply Kd.R_alloc | apply Kd.R_drewN | apply Kd.R_drew)); exact HO_125001.out) hb); have n3_ := Aside0.mk (Kd.R_below (by (with_reducible repeat (first | apply Kd.R_alloc | apply Kd.R_drewN | apply Kd.R_drew)); exact HO_125002.out) hb); have n4_ := Aside0.mk (blk_below (g := gb112) (o := .cells #[.int .i64 t104, .slice Ao13 t105.length co13, .slice Ao14 t108.length co14] 33 (0, 0)) (by (with_reducible repeat (first | refine blk_drewN ?_ _ | refine blk_drew ?_ | refine blk_alloc ?_ _)); exact BK112.out) hb); have n5_ := Aside0.mk (blk_below (g := gb124) (o := .cells #[.int .i64 t116, .slice Ao21 t117.length co21, .slice Ao22 t120.length co22] 33 (0, 0)) (by (with_reducible repeat (first | refine blk_drewN ?_ _ | refine blk_drew ?_ | refine blk_alloc ?_ _)); exact BK124.out) hb); have n6_ := Aside0.mk (below_step (by repeat (first | (with_reducible first | exact HB.out | apply below_alloc | apply pw_below_drewN | apply below_drew1 | refine below_set ?_ GE112.out | refine below_set ?_ GE124.out) | exact HB.out)) hb); clear HO_113001; clear HO_113002; clear HO_125001; clear HO_125002; clear BK112; clear BK124; clear HB; have HO_113001 := n0_; have HO_113002 := n1_; have HO_125001 := n2_; have HO_125002 := n3_; have BK112 := n4_; have BK124 := n5_; have HB := n6_; clear n0_ n1_ n2_ n3_ n4_ n5_ n6_; (try clear hb); (try clear hb2); (try clear hk); (try clear hi)) | ((with_reducible refine gate_callee (f := 21) rfl ?_); refine goesL_ (some 72) rfl rfl Try.func21 (by kernel_rfl) rfl #[.slice A0 l0.length c0] rfl (by (try simp only [List.map_toArray, List.map_cons, List.map_nil]); first | done | rfl | (simp only [List.length_drop, List.length_take]; rfl)) ?_; (with_reducible refine (laws_toIntS.calls kj37 _ _ l0 t137 _ ?side1 ?side2 A58.out).mono ?_); (case side1 => repeat (first | exact (Kd.C_below HR0.out HB.out) | (with_reducible refine Kd.C_alloc ?_ _) | (with_reducible refine Kd.C_drewN ?_ _) | (with_reducible refine Kd.C_drew ?_))); (case side2 => exact HC0.out); rintro e w66 ⟨v138, rfl, ho0, hb⟩; refine ⟨_, rfl, ?_⟩; have n0_ := Aside0.mk (Kd.R_elder' (by (with_reducible repeat (first | apply Kd.R_alloc | apply Kd.R_drewN | apply Kd.R_drew)); exact HO_113001.out) (Kd.R_base ho0) hb); have n1_ := Aside0.mk (Kd.R_elder' (by (with_reducible repeat (first | apply Kd.R_alloc | apply Kd.R_drewN | apply Kd.R_drew)); exact HO_113002.out) (Kd.R_base ho0) hb); have n2_ := Aside0.mk (Kd.R_elder' (by (with_reducible repeat (first | apply Kd.R_alloc | apply Kd.R_drewN | apply Kd.R_drew)); exact HO_125001.out) (Kd.R_base ho0) hb); have n3_ := Aside0.mk (Kd.R_elder' (by (with_reducible repeat (first | apply Kd.R_alloc | apply Kd.R_drewN | apply Kd.R_drew)); exact HO_125002.out) (Kd.R_base ho0) hb); have n4_ := Aside0.mk (Kd.R_lower (Kd.R_new' (Kd.R_new' (Kd.R_new' (Kd.R_new' ho0 (Kd.R_lt (by (with_reducible repeat (first | apply Kd.R_alloc | apply Kd.R_drewN | apply Kd.R_drew)); exact HO_113001.out))) (Kd.R_lt (by (with_reducible repeat (first | apply Kd.R_alloc | apply Kd.R_drewN | apply Kd.R_drew)); exact HO_113002.out))) (Kd.R_lt (by (with_reducible repeat (first | apply Kd.R_alloc | apply Kd.R_drewN | apply Kd.R_drew)); exact HO_125001.out))) (Kd.R_lt (by (with_reducible repeat (first | apply Kd.R_alloc | apply Kd.R_drewN | apply Kd.R_drew)); exact HO_125002.out))) (below_size (by repeat (first | (with_reducible first | exact HB.out | apply below_alloc | apply pw_below_drewN | apply below_drew1 | refine below_set ?_ GE112.out | refine below_set ?_ GE124.out) | exact HB.out)))); have n5_ := Aside0.mk (blk_below (g := gb112) (o := .cells #[.int .i64 t104, .slice Ao13 t105.length co13, .slice Ao14 t108.length co14] 33 (0, 0)) (by (with_reducible repeat (first | refine blk_drewN ?_ _ | refine blk_drew ?_ | refine blk_alloc ?_ _)); exact BK112.out) hb); have n6_ := Aside0.mk (blk_below (g := gb124) (o := .cells #[.int .i64 t116, .slice Ao21 t117.length co21, .slice Ao22 t120.length co22] 33 (0, 0)) (by (with_reducible repeat (first | refine blk_drewN ?_ _ | refine blk_drew ?_ | refine blk_alloc ?_ _)); exact BK124.out) hb); have n7_ := Aside0.mk (below_step (by repeat (first | (with_reducible first | exact HB.out | apply below_alloc | apply pw_below_drewN | apply below_drew1 | refine below_set ?_ GE112.out | refine below_set ?_ GE124.out) | exact HB.out)) hb); clear HO_113001; clear HO_113002; clear HO_125001; clear HO_125002; clear BK112; clear BK124; clear HB; have HO_113001 := n0_; have HO_113002 := n1_; have HO_125001 := n2_; have HO_125002 := n3_; have HO139 := n4_; have BK112 := n5_; have BK124 := n6_; have HB := n7_; clear n0_ n1_ n2_ n3_ n4_ n5_ n6_ n7_; (try clear hb); (try clear hb2); (try clear hk); (try clear hi); (try clear ho0); obtain ⟨Ao67, co67, eo67⟩ := Kd.R_slice HO139.out; subst eo67) | ((with_reducible refine gate_callee (f := 22) rfl ?_); refine goesL_ (some 73) rfl rfl Try.func22 (by kernel_rfl) rfl #[.slice Ao67 t137.length co67] rfl (by (try simp only [List.map_toArray, List.map_cons, List.map_nil]); first | done | rfl | (simp only [List.length_drop, List.length_take]; rfl)) ?_; (with_reducible refine (impl_WholeView.calls kj37 _ _ t137 t140 t141 t144 t147 _ ?side1 ?side2 A59.out).mono ?_); (case side1 => repeat (first | exact (Kd.R_reads' HO139.out).2.2 | (with_reducible refine Kd.C_alloc ?_ _) | (with_reducible refine Kd.C_drewN ?_ _) | (with_reducible refine Kd.C_drew ?_))); (case side2 => exact (Kd.R_reads' HO139.out).2.1); rintro e w68 ⟨v142, v145, rfl, ho0, ho1, hb⟩; refine ⟨_, rfl, ?_⟩; have n0_ := Aside0.mk (Kd.R_mono (Kd.R_told (Kd.R_told (Kd.R_old (by (with_reducible repeat (first | apply Kd.R_alloc | apply Kd.R_drewN | apply Kd.R_drew)); exact HO_113001.out) hb) (Kd.R_base ho0)) (Kd.R_base ho1)) (fun _ h_ => h_.1)); have n1_ := Aside0.mk (Kd.R_mono (Kd.R_told (Kd.R_told (Kd.R_old (by (with_reducible repeat (first | apply Kd.R_alloc | apply Kd.R_drewN | apply Kd.R_drew)); exact HO_113002.out) hb) (Kd.R_base ho0)) (Kd.R_base ho1)) (fun _ h_ => h_.1)); have n2_ := Aside0.mk (Kd.R_mono (Kd.R_told (Kd.R_told (Kd.R_old (by (with_reducible repeat (first | apply Kd.R_alloc | apply Kd.R_drewN | apply Kd.R_drew)); exact HO_125001.out) hb) (Kd.R_base ho0)) (Kd.R_base ho1)) (fun _ h_ => h_.1)); have n3_ := Aside0.mk (Kd.R_mono (Kd.R_told (Kd.R_told (Kd.R_old (by (with_reducible repeat (first | apply Kd.R_alloc | apply Kd.R_drewN | apply Kd.R_drew)); exact HO_125002.out) hb) (Kd.R_base ho0)) (Kd.R_base ho1)) (fun _ h_ => h_.1)); have n4_ := Aside0.mk (Kd.R_mono (Kd.R_told (Kd.R_told (Kd.R_old (by (with_reducible repeat (first | apply Kd.R_alloc | apply Kd.R_drewN | apply Kd.R_drew)); exact HO139.out) hb) (Kd.R_base ho0)) (Kd.R_base ho1)) (fun _ h_ => h_.1)); have n5_ := Aside0.mk (Kd.R_lower (Kd.R_new' (Kd.R_new' (Kd.R_new' (Kd.R_new' (Kd.R_new' ho0 (Kd.R_lt (by (with_reducible repeat (first | apply Kd.R_alloc | apply Kd.R_drewN | apply Kd.R_drew)); exact HO_113001.out))) (Kd.R_lt (by (with_reducible repeat (first | apply Kd.R_alloc | apply Kd.R_drewN | apply Kd.R_drew)); exact HO_113002.out))) (Kd.R_lt (by (with_reducible repeat (first | apply Kd.R_alloc | apply Kd.R_drewN | apply Kd.R_drew)); exact HO_125001.out))) (Kd.R_lt (by (with_reducible repeat (first | apply Kd.R_alloc | apply Kd.R_drewN | apply Kd.R_drew)); exact HO_125002.out))) (Kd.R_lt (by (with_reducible repeat (first | apply Kd.R_alloc | apply Kd.R_drewN | apply Kd.R_drew)); exact HO139.out))) (below_size (by repeat (first | (with_reducible first | exact HB.out | apply below_alloc | apply pw_below_drewN | apply below_drew1 | refine below_set ?_ GE112.out | refine below_set ?_ GE124.out) | exact HB.out)))); have n6_ := Aside0.mk (Kd.R_lower (Kd.R_new' (Kd.R_new' (Kd.R_new' (Kd.R_new' (Kd.R_new' ho1 (Kd.R_lt (by (with_reducible repeat (first | apply Kd.R_alloc | apply Kd.R_drewN | apply Kd.R_drew)); exact HO_113001.out))) (Kd.R_lt (by (with_reducible repeat (first | apply Kd.R_alloc | apply Kd.R_drewN | apply Kd.R_drew)); exact HO_113002.out))) (Kd.R_lt (by (with_reducible repeat (first | apply Kd.R_alloc | apply Kd.R_drewN | apply Kd.R_drew)); exact HO_125001.out))) (Kd.R_lt (by (with_reducible repeat (first | apply Kd.R_alloc | apply Kd.R_drewN | apply Kd.R_drew)); exact HO_125002.out))) (Kd.R_lt (by (with_reducible repeat (first | apply Kd.R_alloc | apply Kd.R_drewN | apply Kd.R_drew)); exact HO139.out))) (below_size (by repeat (first | (with_reducible first | exact HB.out | apply below_alloc | apply pw_below_drewN | apply below_drew1 | refine below_set ?_ GE112.out | refine below_set ?_ GE124.out) | exact HB.out)))); have n7_ := Aside0.mk (blk_below (g := gb112) (o := .cells #[.int .i64 t104, .slice Ao13 t105.length co13, .slice Ao14 t108.length co14] 33 (0, 0)) (by (with_reducible repeat (first | refine blk_drewN ?_ _ | refine blk_drew ?_ | refine blk_alloc ?_ _)); exact BK112.out) hb); have n8_ := Aside0.mk (blk_below (g := gb124) (o := .cells #[.int .i64 t116, .slice Ao21 t117.length co21, .slice Ao22 t120.length co22] 33 (0, 0)) (by (with_reducible repeat (first | refine blk_drewN ?_ _ | refine blk_drew ?_ | refine blk_alloc ?_ _)); exact BK124.out) hb); have n9_ := Aside0.mk (below_step (by repeat (first | (with_reducible first | exact HB.out | apply below_alloc | apply pw_below_drewN | apply below_drew1 | refine below_set ?_ GE112.out | refine below_set ?_ GE124.out) | exact HB.out)) hb); clear HO_113001; clear HO_113002; clear HO_125001; clear HO_125002; clear HO139; clear BK112; clear BK124; clear HB; have HO_113001 := n0_; have HO_113002 := n1_; have HO_125001 := n2_; have HO_125002 := n3_; have HO139 := n4_; have HO143 := n5_; have HO146 := n6_; have BK112 := n7_; have BK124 := n8_; have HB := n9_; clear n0_ n1_ n2_ n3_ n4_ n5_ n6_ n7_ n8_ n9_; (try clear hb); (try clear hb2); (try clear hk); (try clear hi); (try clear ho0); (try clear ho1)) | ((with_reducible refine gate_dst (N := 11) rfl ?_); refine box_event ?hg (N := 11) ?hd (cs := #[.int .i64 0, .slice none 0 0, .slice none 0 0]) (t := 33) ?hr ?_; (case hd => rfl); (case hg => rfl); (case hr => first | (go_simp; done) | (go_simp; rfl)); intro gb148 hg w69 hbox hb; have n0_ := Aside0.mk (Kd.R_below (by (with_reducible repeat (first | apply Kd.R_alloc | apply Kd.R_drewN | apply Kd.R_drew)); exact HO_113001.out) hb); have n1_ := Aside0.mk (Kd.R_below (by (with_reducible repeat (first | apply Kd.R_alloc | apply Kd.R_drewN | apply Kd.R_drew)); exact HO_113002.out) hb); have n2_ := Aside0.mk (Kd.R_below (by (with_reducible repeat (first | apply Kd.R_alloc | apply Kd.R_drewN | apply Kd.R_drew)); exact HO_125001.out) hb); have n3_ := Aside0.mk (Kd.R_below (by (with_reducible repeat (first | apply Kd.R_alloc | apply Kd.R_drewN | apply Kd.R_drew)); exact HO_125002.out) hb); have n4_ := Aside0.mk (Kd.R_below (by (with_reducible repeat (first | apply Kd.R_alloc | apply Kd.R_drewN | apply Kd.R_drew)); exact HO139.out) hb); have n5_ := Aside0.mk (Kd.R_below (by (with_reducible repeat (first | apply Kd.R_alloc | apply Kd.R_drewN | apply Kd.R_drew)); exact HO143.out) hb); have n6_ := Aside0.mk (Kd.R_below (by (with_reducible repeat (first | apply Kd.R_alloc | apply Kd.R_drewN | apply Kd.R_drew)); exact HO146.out) hb); have n7_ := Aside0.mk (blk_below (g := gb112) (o := .cells #[.int .i64 t104, .slice Ao13 t105.length co13, .slice Ao14 t108.length co14] 33 (0, 0)) (by (with_reducible repeat (first | refine blk_drewN ?_ _ | refine blk_drew ?_ | refine blk_alloc ?_ _)); exact BK112.out) hb); have n8_ := Aside0.mk (blk_below (g := gb124) (o := .cells #[.int .i64 t116, .slice Ao21 t117.length co21, .slice Ao22 t120.length co22] 33 (0, 0)) (by (with_reducible repeat (first | refine blk_drewN ?_ _ | refine blk_drew ?_ | refine blk_alloc ?_ _)); exact BK124.out) hb); have n9_ := Aside0.mk (below_step (by repeat (first | (with_reducible first | exact HB.out | apply below_alloc | apply pw_below_drewN | apply below_drew1 | refine below_set ?_ GE112.out | refine below_set ?_ GE124.out) | exact HB.out)) hb); have n10_ := Aside0.mk (hbox); have n11_ := Aside0.mk ((by rw [hg]; exact (below_size (by repeat (first | (with_reducible first | exact HB.out | apply below_alloc | apply pw_below_drewN | apply below_drew1 | refine below_set ?_ GE112.out | refine below_set ?_ GE124.out) | exact HB.out))) : w.heap.size ≤ gb148)); have n12_ := Aside0.mk ((by rw [hg]; exact (below_size (by repeat (first | (with_reducible first | exact HB.out | apply below_alloc | apply pw_below_drewN | apply below_drew1 | refine below_set ?_ GE112.out | refine below_set ?_ GE124.out) | exact HB.out))) : w.heap.size ≤ gb148)); have n13_ := Aside0.mk ((by rw [hg]; exact Nat.ne_of_lt (blk_lt (g := gb112) (o := .cells #[.int .i64 t104, .slice Ao13 t105.length co13, .slice Ao14 t108.length co14] 33 (0, 0)) (by (with_reducible repeat (first | refine blk_drewN ?_ _ | refine blk_drew ?_ | refine blk_alloc ?_ _)); exact BK112.out)) : gb112 ≠ gb148)); have n14_ := Aside0.mk ((by rw [hg]; exact Nat.ne_of_gt (blk_lt (g := gb112) (o := .cells #[.int .i64 t104, .slice Ao13 t105.length co13, .slice Ao14 t108.length co14] 33 (0, 0)) (by (with_reducible repeat (first | refine blk_drewN ?_ _ | refine blk_drew ?_ | refine blk_alloc ?_ _)); exact BK112.out)) : gb148 ≠ gb112)); have n15_ := Aside0.mk ((by rw [hg]; exact Nat.ne_of_lt (blk_lt (g := gb124) (o := .cells #[.int .i64 t116, .slice Ao21 t117.length co21, .slice Ao22 t120.length co22] 33 (0, 0)) (by (with_reducible repeat (first | refine blk_drewN ?_ _ | refine blk_drew ?_ | refine blk_alloc ?_ _)); exact BK124.out)) : gb124 ≠ gb148)); have n16_ := Aside0.mk ((by rw [hg]; exact Nat.ne_of_gt (blk_lt (g := gb124) (o := .cells #[.int .i64 t116, .slice Ao21 t117.length co21, .slice Ao22 t120.length co22] 33 (0, 0)) (by (with_reducible repeat (first | refine blk_drewN ?_ _ | refine blk_drew ?_ | refine blk_alloc ?_ _)); exact BK124.out)) : gb148 ≠ gb124)); clear HO_113001; clear HO_113002; clear HO_125001; clear HO_125002; clear HO139; clear HO143; clear HO146; clear BK112; clear BK124; clear HB; have HO_113001 := n0_; have HO_113002 := n1_; have HO_125001 := n2_; have HO_125002 := n3_; have HO139 := n4_; have HO143 := n5_; have HO146 := n6_; have BK112 := n7_; have BK124 := n8_; have HB := n9_; have BK148 := n10_; have GW148 := n11_; have GE148 := n12_; have NB112_148 := n13_; have NB148_112 := n14_; have NB124_148 := n15_; have NB148_124 := n16_; clear n0_ n1_ n2_ n3_ n4_ n5_ n6_ n7_ n8_ n9_ n10_ n11_ n12_ n13_ n14_ n15_ n16_; clear hb hbox hg; have hnb70 := NB148_112.out; have hnc70 := NB112_148.out; have hnb71 := NB148_124.out; have hnc71 := NB124_148.out; have hcz72_0 : w69.cell? ⟨gb148, 0, none⟩ = some (.int .i64 0) := (blk_cell BK148.out 0).trans rfl; have hcz72_1 : w69.cell? ⟨gb148, 1, none⟩ = some (.slice none 0 0) := (blk_cell BK148.out 1).trans rfl; have hcz72_2 : w69.cell? ⟨gb148, 2, none⟩ = some (.slice none 0 0) := (blk_cell BK148.out 2).trans rfl; have hfz72_0 := blk_frozen BK148.out 0; have hfz72_1 := blk_frozen BK148.out 1; have hfz72_2 := blk_frozen BK148.out 2; obtain ⟨Ao73, co73, eo73⟩ := Kd.R_slice HO143.out; subst eo73; obtain ⟨Ao74, co74, eo74⟩ := Kd.R_slice HO146.out; subst eo74))
                      (try simp only [Act.put, List.setIfInBounds_toArray, List.set_cons_zero, List.set_cons_succ])
                      go_cut [84] (fun v84 wc => ∃ (kq : Nat) (x84_59 : Bool), v84 = .bool x84_59 ∧ Aside0 (laws_FnExactWholeView.j2 kq t133 x84_59 t116 t134 t135 = some r) ∧ Aside0 (kq ≤ kj37) ∧ Aside0 (Kd.R (Kd.int .i64) 3 wc w.heap.size (fun k_ => some k_ ≠ ((.slice Ao14 t108.length co14) : Value).ownBlock ∧ some k_ ≠ ((.slice Ao21 t117.length co21) : Value).ownBlock ∧ some k_ ≠ ((.slice Ao22 t120.length co22) : Value).ownBlock ∧ some k_ ≠ ((.slice Ao73 t141.length co73) : Value).ownBlock ∧ some k_ ≠ ((.slice Ao74 t144.length co74) : Value).ownBlock) (.slice Ao13 t105.length co13) t105) ∧ Aside0 (Kd.R (Kd.int .i64) 3 wc w.heap.size (fun k_ => some k_ ≠ ((.slice Ao13 t105.length co13) : Value).ownBlock ∧ some k_ ≠ ((.slice Ao21 t117.length co21) : Value).ownBlock ∧ some k_ ≠ ((.slice Ao22 t120.length co22) : Value).ownBlock ∧ some k_ ≠ ((.slice Ao73 t141.length co73) : Value).ownBlock ∧ some k_ ≠ ((.slice Ao74 t144.length co74) : Value).ownBlock) (.slice Ao14 t108.length co14) t108) ∧ Aside0 (Kd.R (Kd.int .i64) 3 wc w.heap.size (fun k_ => some k_ ≠ ((.slice Ao13 t105.length co13) : Value).ownBlock ∧ some k_ ≠ ((.slice Ao14 t108.length co14) : Value).ownBlock ∧ some k_ ≠ ((.slice Ao22 t120.length co22) : Value).ownBlock ∧ some k_ ≠ ((.slice Ao73 t141.length co73) : Value).ownBlock ∧ some k_ ≠ ((.slice Ao74 t144.length co74) : Value).ownBlock) (.slice Ao21 t117.length co21) t134) ∧ Aside0 (Kd.R (Kd.int .i64) 3 wc w.heap.size (fun k_ => some k_ ≠ ((.slice Ao13 t105.length co13) : Value).ownBlock ∧ some k_ ≠ ((.slice Ao14 t108.length co14) : Value).ownBlock ∧ some k_ ≠ ((.slice Ao21 t117.length co21) : Value).ownBlock ∧ some k_ ≠ ((.slice Ao73 t141.length co73) : Value).ownBlock ∧ some k_ ≠ ((.slice Ao74 t144.length co74) : Value).ownBlock) (.slice Ao22 t120.length co22) t135) ∧ Aside0 (Kd.R (Kd.int .i64) 3 wc w.heap.size (fun k_ => some k_ ≠ ((.slice Ao13 t105.length co13) : Value).ownBlock ∧ some k_ ≠ ((.slice Ao14 t108.length co14) : Value).ownBlock ∧ some k_ ≠ ((.slice Ao21 t117.length co21) : Value).ownBlock ∧ some k_ ≠ ((.slice Ao22 t120.length co22) : Value).ownBlock ∧ some k_ ≠ ((.slice Ao74 t144.length co74) : Value).ownBlock) (.slice Ao73 t141.length co73) t141) ∧ Aside0 (Kd.R (Kd.int .i64) 3 wc w.heap.size (fun k_ => some k_ ≠ ((.slice Ao13 t105.length co13) : Value).ownBlock ∧ some k_ ≠ ((.slice Ao14 t108.length co14) : Value).ownBlock ∧ some k_ ≠ ((.slice Ao21 t117.length co21) : Value).ownBlock ∧ some k_ ≠ ((.slice Ao22 t120.length co22) : Value).ownBlock ∧ some k_ ≠ ((.slice Ao73 t141.length co73) : Value).ownBlock) (.slice Ao74 t144.length co74) t144) ∧ Aside0 (wc.heap[gb112]? = some (.cells #[.int .i64 t104, (.slice Ao13 t105.length co13), (.slice Ao14 t108.length co14)] 33 (0, 0))) ∧ Aside0 (wc.heap[gb124]? = some (.cells #[.int .i64 t116, (.slice Ao21 t117.length co21), (.slice Ao22 t120.length co22)] 33 (0, 0))) ∧ Aside0 (wc.heap[gb148]? = some (.cells #[.int .i64 t140, (.slice Ao73 t141.length co73), (.slice Ao74 t144.length co74)] 33 (0, 0))) ∧ Aside0 (Below w.heap.size w wc))
                      case first =>
                        have H := HC60.out
                        clear HC60
                        replace H := Option.bind_eq_some_iff.mp H
                        obtain ⟨t149, A750, H⟩ := H
                        replace H : (if t149 = true then (laws_FnExactWholeView.j2 kj37 t133 (t147 != t111) t116 t134 t135) else (laws_FnExactWholeView.j2 kj37 t133 true t116 t134 t135)) = some r := H
                        have A75 := Aside0.mk A750
                        clear A750
                        by_cases c76 : t149 = true
                        · subst c76
                          have H1 : (laws_FnExactWholeView.j2 kj37 t133 (t147 != t111) t116 t134 t135) = some r := by rw [if_pos rfl] at H; exact H
                          clear H
                          have H := H1
                          clear H1
                          have H' := Aside0.mk H
                          clear H
                          have hnb77 := NB148_112.out
                          have hnc77 := NB112_148.out
                          have hnb78 := NB148_124.out
                          have hnc78 := NB124_148.out
                          have hcz79_0 : w69.cell? ⟨gb148, 0, none⟩ = some (.int .i64 0) := (blk_cell BK148.out 0).trans rfl
                          have hcz79_1 : w69.cell? ⟨gb148, 1, none⟩ = some (.slice none 0 0) := (blk_cell BK148.out 1).trans rfl
                          have hcz79_2 : w69.cell? ⟨gb148, 2, none⟩ = some (.slice none 0 0) := (blk_cell BK148.out 2).trans rfl
                          have hfz79_0 := blk_frozen BK148.out 0
                          have hfz79_1 := blk_frozen BK148.out 1
                          have hfz79_2 := blk_frozen BK148.out 2
                          have hnb80 := NB112_124.out
                          have hnc80 := NB124_112.out
                          have hcz81_0 : w69.cell? ⟨gb112, 0, none⟩ = some (.int .i64 t104) := (blk_cell BK112.out 0).trans rfl
                          have hcz81_1 : w69.cell? ⟨gb112, 1, none⟩ = some (.slice Ao13 t105.length co13) := (blk_cell BK112.out 1).trans rfl
                          have hcz81_2 : w69.cell? ⟨gb112, 2, none⟩ = some (.slice Ao14 t108.length co14) := (blk_cell BK112.out 2).trans rfl
                          have hfz81_0 := blk_frozen BK112.out 0
                          have hfz81_1 := blk_frozen BK112.out 1
                          have hfz81_2 := blk_frozen BK112.out 2
                          go_wp2_with (first | ((with_reducible refine gate_callee (f := 23) rfl ?_); refine goesL_ (some 78) rfl rfl Try.func23 (by kernel_rfl) rfl #[.agg #[.int .i64 t140, .slice Ao73 t141.length co73, .slice Ao74 t144.length co74], .agg #[.int .i64 t104, .slice Ao13 t105.length co13, .slice Ao14 t108.length co14]] rfl (by (try simp only [List.map_toArray, List.map_cons, List.map_nil]); first | done | rfl | (simp only [List.length_drop, List.length_take]; rfl)) ?_; (with_reducible refine (laws_eqView.calls kj37 t140 _ _ t141 _ _ t144 t104 _ _ t105 _ _ t108 true _ ?side1 ?side2 ?side3 ?side4 ?side5 ?side6 ?side7 ?side8 A75.out).mono ?_); (case side1 => refine (Kd.R_reads' (e := 3) (base := w.heap.size) (ok := fun k_ => (((((some k_ ≠ (.slice Ao74 t144.length co74 : Value).ownBlock ∧ some k_ ≠ (.slice Ao13 t105.length co13 : Value).ownBlock) ∧ some k_ ≠ (.slice Ao14 t108.length co14 : Value).ownBlock) ∧ some k_ ≠ (.slice Ao21 t117.length co21 : Value).ownBlock) ∧ some k_ ≠ (.slice Ao22 t120.length co22 : Value).ownBlock) ∧ some k_ ≠ (.slice Ao67 t137.length co67 : Value).ownBlock)) (n := t141.length) (c := co73) ?_).2.2; exact (by (with_reducible repeat (first | apply Kd.R_alloc | apply Kd.R_drewN | apply Kd.R_drew)); exact (Kd.R_mono (Kd.R_far (p := ⟨gb148, 2, none⟩) (Kd.R_far (p := ⟨gb148, 1, none⟩) (Kd.R_far (p := ⟨gb148, 0, none⟩) (Kd.R_types HO143.out BK148.out (by decide)) (fun _ hk => hk.2) (.int .i64 t140)) (fun _ hk => hk.2) (.slice Ao73 t141.length co73)) (fun _ hk => hk.2) (.slice Ao74 t144.length co74)) (fun _ h_ => h_.1)))); (case side2 => exact (Kd.R_reads' HO143.out).2.1); (case side3 => refine (Kd.R_reads' (e := 3) (base := w.heap.size) (ok := fun k_ => (((((some k_ ≠ (.slice Ao73 t141.length co73 : Value).ownBlock ∧ some k_ ≠ (.slice Ao13 t105.length co13 : Value).ownBlock) ∧ some k_ ≠ (.slice Ao14 t108.length co14 : Value).ownBlock) ∧ some k_ ≠ (.slice Ao21 t117.length co21 : Value).ownBlock) ∧ some k_ ≠ (.slice Ao22 t120.length co22 : Value).ownBlock) ∧ some k_ ≠ (.slice Ao67 t137.length co67 : Value).ownBlock)) (n := t144.length) (c := co74) ?_).2.2; exact (by (with_reducible repeat (first | apply Kd.R_alloc | apply Kd.R_drewN | apply Kd.R_drew)); exact (Kd.R_mono (Kd.R_far (p := ⟨gb148, 2, none⟩) (Kd.R_far (p := ⟨gb148, 1, none⟩) (Kd.R_far (p := ⟨gb148, 0, none⟩) (Kd.R_types HO146.out BK148.out (by decide)) (fun _ hk => hk.2) (.int .i64 t140)) (fun _ hk => hk.2) (.slice Ao73 t141.length co73)) (fun _ hk => hk.2) (.slice Ao74 t144.length co74)) (fun _ h_ => h_.1)))); (case side4 => exact (Kd.R_reads' HO146.out).2.1); (case side5 => refine (Kd.R_reads' (e := 3) (base := w.heap.size) (ok := fun k_ => ((((some k_ ≠ (.slice Ao14 t108.length co14 : Value).ownBlock ∧ (some k_ ≠ (.slice Ao21 t117.length co21 : Value).ownBlock ∧ some k_ ≠ (.slice Ao22 t120.length co22 : Value).ownBlock)) ∧ some k_ ≠ (.slice Ao67 t137.length co67 : Value).ownBlock) ∧ some k_ ≠ (.slice Ao73 t141.length co73 : Value).ownBlock) ∧ some k_ ≠ (.slice Ao74 t144.length co74 : Value).ownBlock)) (n := t105.length) (c := co13) ?_).2.2; exact (by (with_reducible repeat (first | apply Kd.R_alloc | apply Kd.R_drewN | apply Kd.R_drew)); exact (Kd.R_mono (Kd.R_far (p := ⟨gb148, 2, none⟩) (Kd.R_far (p := ⟨gb148, 1, none⟩) (Kd.R_far (p := ⟨gb148, 0, none⟩) (Kd.R_types HO_113001.out BK148.out (by decide)) (fun _ hk => hk.2) (.int .i64 t140)) (fun _ hk => hk.2) (.slice Ao73 t141.length co73)) (fun _ hk => hk.2) (.slice Ao74 t144.length co74)) (fun _ h_ => h_.1)))); (case side6 => exact (Kd.R_reads' HO_113001.out).2.1); (case side7 => refine (Kd.R_reads' (e := 3) (base := w.heap.size) (ok := fun k_ => ((((some k_ ≠ (.slice Ao13 t105.length co13 : Value).ownBlock ∧ (some k_ ≠ (.slice Ao21 t117.length co21 : Value).ownBlock ∧ some k_ ≠ (.slice Ao22 t120.length co22 : Value).ownBlock)) ∧ some k_ ≠ (.slice Ao67 t137.length co67 : Value).ownBlock) ∧ some k_ ≠ (.slice Ao73 t141.length co73 : Value).ownBlock) ∧ some k_ ≠ (.slice Ao74 t144.length co74 : Value).ownBlock)) (n := t108.length) (c := co14) ?_).2.2; exact (by (with_reducible repeat (first | apply Kd.R_alloc | apply Kd.R_drewN | apply Kd.R_drew)); exact (Kd.R_mono (Kd.R_far (p := ⟨gb148, 2, none⟩) (Kd.R_far (p := ⟨gb148, 1, none⟩) (Kd.R_far (p := ⟨gb148, 0, none⟩) (Kd.R_types HO_113002.out BK148.out (by decide)) (fun _ hk => hk.2) (.int .i64 t140)) (fun _ hk => hk.2) (.slice Ao73 t141.length co73)) (fun _ hk => hk.2) (.slice Ao74 t144.length co74)) (fun _ h_ => h_.1)))); (case side8 => exact (Kd.R_reads' HO_113002.out).2.1); rintro e w82 ⟨rfl, hb⟩; refine ⟨_, rfl, ?_⟩; have n0_ := Aside0.mk (Kd.R_below (by (with_reducible repeat (first | apply Kd.R_alloc | apply Kd.R_drewN | apply Kd.R_drew)); exact (Kd.R_mono (Kd.R_far (p := ⟨gb148, 2, none⟩) (Kd.R_far (p := ⟨gb148, 1, none⟩) (Kd.R_far (p := ⟨gb148, 0, none⟩) (Kd.R_types HO_113001.out BK148.out (by decide)) (fun _ hk => hk.2) (.int .i64 t140)) (fun _ hk => hk.2) (.slice Ao73 t141.length co73)) (fun _ hk => hk.2) (.slice Ao74 t144.length co74)) (fun _ h_ => h_.1))) hb); have n1_ := Aside0.mk (Kd.R_below (by (with_reducible repeat (first | apply Kd.R_alloc | apply Kd.R_drewN | apply Kd.R_drew)); exact (Kd.R_mono (Kd.R_far (p := ⟨gb148, 2, none⟩) (Kd.R_far (p := ⟨gb148, 1, none⟩) (Kd.R_far (p := ⟨gb148, 0, none⟩) (Kd.R_types HO_113002.out BK148.out (by decide)) (fun _ hk => hk.2) (.int .i64 t140)) (fun _ hk => hk.2) (.slice Ao73 t141.length co73)) (fun _ hk => hk.2) (.slice Ao74 t144.length co74)) (fun _ h_ => h_.1))) hb); have n2_ := Aside0.mk (Kd.R_below (by (with_reducible repeat (first | apply Kd.R_alloc | apply Kd.R_drewN | apply Kd.R_drew)); exact (Kd.R_mono (Kd.R_far (p := ⟨gb148, 2, none⟩) (Kd.R_far (p := ⟨gb148, 1, none⟩) (Kd.R_far (p := ⟨gb148, 0, none⟩) (Kd.R_types HO_125001.out BK148.out (by decide)) (fun _ hk => hk.2) (.int .i64 t140)) (fun _ hk => hk.2) (.slice Ao73 t141.length co73)) (fun _ hk => hk.2) (.slice Ao74 t144.length co74)) (fun _ h_ => h_.1))) hb); have n3_ := Aside0.mk (Kd.R_below (by (with_reducible repeat (first | apply Kd.R_alloc | apply Kd.R_drewN | apply Kd.R_drew)); exact (Kd.R_mono (Kd.R_far (p := ⟨gb148, 2, none⟩) (Kd.R_far (p := ⟨gb148, 1, none⟩) (Kd.R_far (p := ⟨gb148, 0, none⟩) (Kd.R_types HO_125002.out BK148.out (by decide)) (fun _ hk => hk.2) (.int .i64 t140)) (fun _ hk => hk.2) (.slice Ao73 t141.length co73)) (fun _ hk => hk.2) (.slice Ao74 t144.length co74)) (fun _ h_ => h_.1))) hb); have n4_ := Aside0.mk (Kd.R_below (by (with_reducible repeat (first | apply Kd.R_alloc | apply Kd.R_drewN | apply Kd.R_drew)); exact (Kd.R_mono (Kd.R_far (p := ⟨gb148, 2, none⟩) (Kd.R_far (p := ⟨gb148, 1, none⟩) (Kd.R_far (p := ⟨gb148, 0, none⟩) (Kd.R_types HO139.out BK148.out (by decide)) (fun _ hk => hk.2) (.int .i64 t140)) (fun _ hk => hk.2) (.slice Ao73 t141.length co73)) (fun _ hk => hk.2) (.slice Ao74 t144.length co74)) (fun _ h_ => h_.1))) hb); have n5_ := Aside0.mk (Kd.R_below (by (with_reducible repeat (first | apply Kd.R_alloc | apply Kd.R_drewN | apply Kd.R_drew)); exact (Kd.R_mono (Kd.R_far (p := ⟨gb148, 2, none⟩) (Kd.R_far (p := ⟨gb148, 1, none⟩) (Kd.R_far (p := ⟨gb148, 0, none⟩) (Kd.R_types HO143.out BK148.out (by decide)) (fun _ hk => hk.2) (.int .i64 t140)) (fun _ hk => hk.2) (.slice Ao73 t141.length co73)) (fun _ hk => hk.2) (.slice Ao74 t144.length co74)) (fun _ h_ => h_.1))) hb); have n6_ := Aside0.mk (Kd.R_below (by (with_reducible repeat (first | apply Kd.R_alloc | apply Kd.R_drewN | apply Kd.R_drew)); exact (Kd.R_mono (Kd.R_far (p := ⟨gb148, 2, none⟩) (Kd.R_far (p := ⟨gb148, 1, none⟩) (Kd.R_far (p := ⟨gb148, 0, none⟩) (Kd.R_types HO146.out BK148.out (by decide)) (fun _ hk => hk.2) (.int .i64 t140)) (fun _ hk => hk.2) (.slice Ao73 t141.length co73)) (fun _ hk => hk.2) (.slice Ao74 t144.length co74)) (fun _ h_ => h_.1))) hb); have n7_ := Aside0.mk (blk_below (g := gb112) (o := .cells #[.int .i64 t104, .slice Ao13 t105.length co13, .slice Ao14 t108.length co14] 33 (0, 0)) (by (with_reducible repeat (first | refine blk_drewN ?_ _ | refine blk_drew ?_ | refine blk_alloc ?_ _)); refine blk_far ?_ NB112_148.out _; (with_reducible repeat (first | refine blk_drewN ?_ _ | refine blk_drew ?_ | refine blk_alloc ?_ _)); refine blk_far ?_ NB112_148.out _; (with_reducible repeat (first | refine blk_drewN ?_ _ | refine blk_drew ?_ | refine blk_alloc ?_ _)); refine blk_far ?_ NB112_148.out _; (with_reducible repeat (first | refine blk_drewN ?_ _ | refine blk_drew ?_ | refine blk_alloc ?_ _)); exact BK112.out) hb); have n8_ := Aside0.mk (blk_below (g := gb124) (o := .cells #[.int .i64 t116, .slice Ao21 t117.length co21, .slice Ao22 t120.length co22] 33 (0, 0)) (by (with_reducible repeat (first | refine blk_drewN ?_ _ | refine blk_drew ?_ | refine blk_alloc ?_ _)); refine blk_far ?_ NB124_148.out _; (with_reducible repeat (first | refine blk_drewN ?_ _ | refine blk_drew ?_ | refine blk_alloc ?_ _)); refine blk_far ?_ NB124_148.out _; (with_reducible repeat (first | refine blk_drewN ?_ _ | refine blk_drew ?_ | refine blk_alloc ?_ _)); refine blk_far ?_ NB124_148.out _; (with_reducible repeat (first | refine blk_drewN ?_ _ | refine blk_drew ?_ | refine blk_alloc ?_ _)); exact BK124.out) hb); have n9_ := Aside0.mk (blk_below (g := gb148) (o := .cells #[.int .i64 t140, .slice Ao73 t141.length co73, .slice Ao74 t144.length co74] 33 (0, 0)) (by (with_reducible repeat (first | refine blk_drewN ?_ _ | refine blk_drew ?_ | refine blk_alloc ?_ _)); refine blk_put (cs := #[.int .i64 t140, .slice Ao73 t141.length co73, .slice none 0 0]) ?_ 2 _ rfl; (with_reducible repeat (first | refine blk_drewN ?_ _ | refine blk_drew ?_ | refine blk_alloc ?_ _)); refine blk_put (cs := #[.int .i64 t140, .slice none 0 0, .slice none 0 0]) ?_ 1 _ rfl; (with_reducible repeat (first | refine blk_drewN ?_ _ | refine blk_drew ?_ | refine blk_alloc ?_ _)); refine blk_put (cs := #[.int .i64 0, .slice none 0 0, .slice none 0 0]) ?_ 0 _ rfl; (with_reducible repeat (first | refine blk_drewN ?_ _ | refine blk_drew ?_ | refine blk_alloc ?_ _)); exact BK148.out) hb); have n10_ := Aside0.mk (below_step (by repeat (first | (with_reducible first | exact HB.out | apply below_alloc | apply pw_below_drewN | apply below_drew1 | refine below_set ?_ GE112.out | refine below_set ?_ GE124.out | refine below_set ?_ GE148.out) | exact HB.out)) hb); clear HO_113001; clear HO_113002; clear HO_125001; clear HO_125002; clear HO139; clear HO143; clear HO146; clear BK112; clear BK124; clear BK148; clear HB; have HO_113001 := n0_; have HO_113002 := n1_; have HO_125001 := n2_; have HO_125002 := n3_; have HO139 := n4_; have HO143 := n5_; have HO146 := n6_; have BK112 := n7_; have BK124 := n8_; have BK148 := n9_; have HB := n10_; clear n0_ n1_ n2_ n3_ n4_ n5_ n6_ n7_ n8_ n9_ n10_; (try clear hb); (try clear hb2); (try clear hk); (try clear hi)))
                          go_meet
                          case rel => exact ⟨_, ((t147 != t111)), (by first | rfl | (simp; done) | (simp [*]; done)), H', ⟨by have := HJ6.out; have := HJ37.out; first | omega | exact Nat.le_refl _⟩, ⟨by (with_reducible repeat (first | apply Kd.R_alloc | apply Kd.R_drewN | apply Kd.R_drew)); exact Kd.R_mono HO_113001.out (fun _ hk => ⟨hk.1.1.1.1, ⟨hk.1.1.1.2.1, ⟨hk.1.1.1.2.2, ⟨hk.1.2, hk.2⟩⟩⟩⟩)⟩, ⟨by (with_reducible repeat (first | apply Kd.R_alloc | apply Kd.R_drewN | apply Kd.R_drew)); exact Kd.R_mono HO_113002.out (fun _ hk => ⟨hk.1.1.1.1, ⟨hk.1.1.1.2.1, ⟨hk.1.1.1.2.2, ⟨hk.1.2, hk.2⟩⟩⟩⟩)⟩, ⟨by (with_reducible repeat (first | apply Kd.R_alloc | apply Kd.R_drewN | apply Kd.R_drew)); exact Kd.R_mono HO_125001.out (fun _ hk => ⟨hk.1.1.1.1, ⟨hk.1.1.1.2.1, ⟨hk.1.1.1.2.2, ⟨hk.1.2, hk.2⟩⟩⟩⟩)⟩, ⟨by (with_reducible repeat (first | apply Kd.R_alloc | apply Kd.R_drewN | apply Kd.R_drew)); exact Kd.R_mono HO_125002.out (fun _ hk => ⟨hk.1.1.1.1, ⟨hk.1.1.1.2.1, ⟨hk.1.1.1.2.2, ⟨hk.1.2, hk.2⟩⟩⟩⟩)⟩, ⟨by (with_reducible repeat (first | apply Kd.R_alloc | apply Kd.R_drewN | apply Kd.R_drew)); exact Kd.R_mono HO143.out (fun _ hk => ⟨hk.1.1.1.1.2, ⟨hk.1.1.1.2, ⟨hk.1.1.2, ⟨hk.1.2, hk.1.1.1.1.1⟩⟩⟩⟩)⟩, ⟨by (with_reducible repeat (first | apply Kd.R_alloc | apply Kd.R_drewN | apply Kd.R_drew)); exact Kd.R_mono HO146.out (fun _ hk => ⟨hk.1.1.1.1.2, ⟨hk.1.1.1.2, ⟨hk.1.1.2, ⟨hk.1.2, hk.1.1.1.1.1⟩⟩⟩⟩)⟩, ⟨by (with_reducible repeat (first | refine blk_drewN ?_ _ | refine blk_drew ?_ | refine blk_alloc ?_ _)); exact BK112.out⟩, ⟨by (with_reducible repeat (first | refine blk_drewN ?_ _ | refine blk_drew ?_ | refine blk_alloc ?_ _)); exact BK124.out⟩, ⟨by (with_reducible repeat (first | refine blk_drewN ?_ _ | refine blk_drew ?_ | refine blk_alloc ?_ _)); exact BK148.out⟩, ⟨by repeat (first | (with_reducible first | exact HB.out | apply below_alloc | apply pw_below_drewN | apply below_drew1 | refine below_set ?_ GE112.out | refine below_set ?_ GE124.out | refine below_set ?_ GE148.out) | exact HB.out)⟩⟩
                        · replace c76 := Bool.eq_false_iff.mpr c76
                          subst c76
                          have H1 : (laws_FnExactWholeView.j2 kj37 t133 true t116 t134 t135) = some r := by rw [if_neg (show ¬ (false = true) by decide)] at H; exact H
                          clear H
                          have H := H1
                          clear H1
                          have H' := Aside0.mk H
                          clear H
                          have hnb83 := NB148_112.out
                          have hnc83 := NB112_148.out
                          have hnb84 := NB148_124.out
                          have hnc84 := NB124_148.out
                          have hcz85_0 : w69.cell? ⟨gb148, 0, none⟩ = some (.int .i64 0) := (blk_cell BK148.out 0).trans rfl
                          have hcz85_1 : w69.cell? ⟨gb148, 1, none⟩ = some (.slice none 0 0) := (blk_cell BK148.out 1).trans rfl
                          have hcz85_2 : w69.cell? ⟨gb148, 2, none⟩ = some (.slice none 0 0) := (blk_cell BK148.out 2).trans rfl
                          have hfz85_0 := blk_frozen BK148.out 0
                          have hfz85_1 := blk_frozen BK148.out 1
                          have hfz85_2 := blk_frozen BK148.out 2
                          have hnb86 := NB112_124.out
                          have hnc86 := NB124_112.out
                          have hcz87_0 : w69.cell? ⟨gb112, 0, none⟩ = some (.int .i64 t104) := (blk_cell BK112.out 0).trans rfl
                          have hcz87_1 : w69.cell? ⟨gb112, 1, none⟩ = some (.slice Ao13 t105.length co13) := (blk_cell BK112.out 1).trans rfl
                          have hcz87_2 : w69.cell? ⟨gb112, 2, none⟩ = some (.slice Ao14 t108.length co14) := (blk_cell BK112.out 2).trans rfl
                          have hfz87_0 := blk_frozen BK112.out 0
                          have hfz87_1 := blk_frozen BK112.out 1
                          have hfz87_2 := blk_frozen BK112.out 2
                          go_wp2_with (first | ((with_reducible refine gate_callee (f := 23) rfl ?_); refine goesL_ (some 78) rfl rfl Try.func23 (by kernel_rfl) rfl #[.agg #[.int .i64 t140, .slice Ao73 t141.length co73, .slice Ao74 t144.length co74], .agg #[.int .i64 t104, .slice Ao13 t105.length co13, .slice Ao14 t108.length co14]] rfl (by (try simp only [List.map_toArray, List.map_cons, List.map_nil]); first | done | rfl | (simp only [List.length_drop, List.length_take]; rfl)) ?_; (with_reducible refine (laws_eqView.calls kj37 t140 _ _ t141 _ _ t144 t104 _ _ t105 _ _ t108 false _ ?side1 ?side2 ?side3 ?side4 ?side5 ?side6 ?side7 ?side8 A75.out).mono ?_); (case side1 => refine (Kd.R_reads' (e := 3) (base := w.heap.size) (ok := fun k_ => (((((some k_ ≠ (.slice Ao74 t144.length co74 : Value).ownBlock ∧ some k_ ≠ (.slice Ao13 t105.length co13 : Value).ownBlock) ∧ some k_ ≠ (.slice Ao14 t108.length co14 : Value).ownBlock) ∧ some k_ ≠ (.slice Ao21 t117.length co21 : Value).ownBlock) ∧ some k_ ≠ (.slice Ao22 t120.length co22 : Value).ownBlock) ∧ some k_ ≠ (.slice Ao67 t137.length co67 : Value).ownBlock)) (n := t141.length) (c := co73) ?_).2.2; exact (by (with_reducible repeat (first | apply Kd.R_alloc | apply Kd.R_drewN | apply Kd.R_drew)); exact (Kd.R_mono (Kd.R_far (p := ⟨gb148, 2, none⟩) (Kd.R_far (p := ⟨gb148, 1, none⟩) (Kd.R_far (p := ⟨gb148, 0, none⟩) (Kd.R_types HO143.out BK148.out (by decide)) (fun _ hk => hk.2) (.int .i64 t140)) (fun _ hk => hk.2) (.slice Ao73 t141.length co73)) (fun _ hk => hk.2) (.slice Ao74 t144.length co74)) (fun _ h_ => h_.1)))); (case side2 => exact (Kd.R_reads' HO143.out).2.1); (case side3 => refine (Kd.R_reads' (e := 3) (base := w.heap.size) (ok := fun k_ => (((((some k_ ≠ (.slice Ao73 t141.length co73 : Value).ownBlock ∧ some k_ ≠ (.slice Ao13 t105.length co13 : Value).ownBlock) ∧ some k_ ≠ (.slice Ao14 t108.length co14 : Value).ownBlock) ∧ some k_ ≠ (.slice Ao21 t117.length co21 : Value).ownBlock) ∧ some k_ ≠ (.slice Ao22 t120.length co22 : Value).ownBlock) ∧ some k_ ≠ (.slice Ao67 t137.length co67 : Value).ownBlock)) (n := t144.length) (c := co74) ?_).2.2; exact (by (with_reducible repeat (first | apply Kd.R_alloc | apply Kd.R_drewN | apply Kd.R_drew)); exact (Kd.R_mono (Kd.R_far (p := ⟨gb148, 2, none⟩) (Kd.R_far (p := ⟨gb148, 1, none⟩) (Kd.R_far (p := ⟨gb148, 0, none⟩) (Kd.R_types HO146.out BK148.out (by decide)) (fun _ hk => hk.2) (.int .i64 t140)) (fun _ hk => hk.2) (.slice Ao73 t141.length co73)) (fun _ hk => hk.2) (.slice Ao74 t144.length co74)) (fun _ h_ => h_.1)))); (case side4 => exact (Kd.R_reads' HO146.out).2.1); (case side5 => refine (Kd.R_reads' (e := 3) (base := w.heap.size) (ok := fun k_ => ((((some k_ ≠ (.slice Ao14 t108.length co14 : Value).ownBlock ∧ (some k_ ≠ (.slice Ao21 t117.length co21 : Value).ownBlock ∧ some k_ ≠ (.slice Ao22 t120.length co22 : Value).ownBlock)) ∧ some k_ ≠ (.slice Ao67 t137.length co67 : Value).ownBlock) ∧ some k_ ≠ (.slice Ao73 t141.length co73 : Value).ownBlock) ∧ some k_ ≠ (.slice Ao74 t144.length co74 : Value).ownBlock)) (n := t105.length) (c := co13) ?_).2.2; exact (by (with_reducible repeat (first | apply Kd.R_alloc | apply Kd.R_drewN | apply Kd.R_drew)); exact (Kd.R_mono (Kd.R_far (p := ⟨gb148, 2, none⟩) (Kd.R_far (p := ⟨gb148, 1, none⟩) (Kd.R_far (p := ⟨gb148, 0, none⟩) (Kd.R_types HO_113001.out BK148.out (by decide)) (fun _ hk => hk.2) (.int .i64 t140)) (fun _ hk => hk.2) (.slice Ao73 t141.length co73)) (fun _ hk => hk.2) (.slice Ao74 t144.length co74)) (fun _ h_ => h_.1)))); (case side6 => exact (Kd.R_reads' HO_113001.out).2.1); (case side7 => refine (Kd.R_reads' (e := 3) (base := w.heap.size) (ok := fun k_ => ((((some k_ ≠ (.slice Ao13 t105.length co13 : Value).ownBlock ∧ (some k_ ≠ (.slice Ao21 t117.length co21 : Value).ownBlock ∧ some k_ ≠ (.slice Ao22 t120.length co22 : Value).ownBlock)) ∧ some k_ ≠ (.slice Ao67 t137.length co67 : Value).ownBlock) ∧ some k_ ≠ (.slice Ao73 t141.length co73 : Value).ownBlock) ∧ some k_ ≠ (.slice Ao74 t144.length co74 : Value).ownBlock)) (n := t108.length) (c := co14) ?_).2.2; exact (by (with_reducible repeat (first | apply Kd.R_alloc | apply Kd.R_drewN | apply Kd.R_drew)); exact (Kd.R_mono (Kd.R_far (p := ⟨gb148, 2, none⟩) (Kd.R_far (p := ⟨gb148, 1, none⟩) (Kd.R_far (p := ⟨gb148, 0, none⟩) (Kd.R_types HO_113002.out BK148.out (by decide)) (fun _ hk => hk.2) (.int .i64 t140)) (fun _ hk => hk.2) (.slice Ao73 t141.length co73)) (fun _ hk => hk.2) (.slice Ao74 t144.length co74)) (fun _ h_ => h_.1)))); (case side8 => exact (Kd.R_reads' HO_113002.out).2.1); rintro e w88 ⟨rfl, hb⟩; refine ⟨_, rfl, ?_⟩; have n0_ := Aside0.mk (Kd.R_below (by (with_reducible repeat (first | apply Kd.R_alloc | apply Kd.R_drewN | apply Kd.R_drew)); exact (Kd.R_mono (Kd.R_far (p := ⟨gb148, 2, none⟩) (Kd.R_far (p := ⟨gb148, 1, none⟩) (Kd.R_far (p := ⟨gb148, 0, none⟩) (Kd.R_types HO_113001.out BK148.out (by decide)) (fun _ hk => hk.2) (.int .i64 t140)) (fun _ hk => hk.2) (.slice Ao73 t141.length co73)) (fun _ hk => hk.2) (.slice Ao74 t144.length co74)) (fun _ h_ => h_.1))) hb); have n1_ := Aside0.mk (Kd.R_below (by (with_reducible repeat (first | apply Kd.R_alloc | apply Kd.R_drewN | apply Kd.R_drew)); exact (Kd.R_mono (Kd.R_far (p := ⟨gb148, 2, none⟩) (Kd.R_far (p := ⟨gb148, 1, none⟩) (Kd.R_far (p := ⟨gb148, 0, none⟩) (Kd.R_types HO_113002.out BK148.out (by decide)) (fun _ hk => hk.2) (.int .i64 t140)) (fun _ hk => hk.2) (.slice Ao73 t141.length co73)) (fun _ hk => hk.2) (.slice Ao74 t144.length co74)) (fun _ h_ => h_.1))) hb); have n2_ := Aside0.mk (Kd.R_below (by (with_reducible repeat (first | apply Kd.R_alloc | apply Kd.R_drewN | apply Kd.R_drew)); exact (Kd.R_mono (Kd.R_far (p := ⟨gb148, 2, none⟩) (Kd.R_far (p := ⟨gb148, 1, none⟩) (Kd.R_far (p := ⟨gb148, 0, none⟩) (Kd.R_types HO_125001.out BK148.out (by decide)) (fun _ hk => hk.2) (.int .i64 t140)) (fun _ hk => hk.2) (.slice Ao73 t141.length co73)) (fun _ hk => hk.2) (.slice Ao74 t144.length co74)) (fun _ h_ => h_.1))) hb); have n3_ := Aside0.mk (Kd.R_below (by (with_reducible repeat (first | apply Kd.R_alloc | apply Kd.R_drewN | apply Kd.R_drew)); exact (Kd.R_mono (Kd.R_far (p := ⟨gb148, 2, none⟩) (Kd.R_far (p := ⟨gb148, 1, none⟩) (Kd.R_far (p := ⟨gb148, 0, none⟩) (Kd.R_types HO_125002.out BK148.out (by decide)) (fun _ hk => hk.2) (.int .i64 t140)) (fun _ hk => hk.2) (.slice Ao73 t141.length co73)) (fun _ hk => hk.2) (.slice Ao74 t144.length co74)) (fun _ h_ => h_.1))) hb); have n4_ := Aside0.mk (Kd.R_below (by (with_reducible repeat (first | apply Kd.R_alloc | apply Kd.R_drewN | apply Kd.R_drew)); exact (Kd.R_mono (Kd.R_far (p := ⟨gb148, 2, none⟩) (Kd.R_far (p := ⟨gb148, 1, none⟩) (Kd.R_far (p := ⟨gb148, 0, none⟩) (Kd.R_types HO139.out BK148.out (by decide)) (fun _ hk => hk.2) (.int .i64 t140)) (fun _ hk => hk.2) (.slice Ao73 t141.length co73)) (fun _ hk => hk.2) (.slice Ao74 t144.length co74)) (fun _ h_ => h_.1))) hb); have n5_ := Aside0.mk (Kd.R_below (by (with_reducible repeat (first | apply Kd.R_alloc | apply Kd.R_drewN | apply Kd.R_drew)); exact (Kd.R_mono (Kd.R_far (p := ⟨gb148, 2, none⟩) (Kd.R_far (p := ⟨gb148, 1, none⟩) (Kd.R_far (p := ⟨gb148, 0, none⟩) (Kd.R_types HO143.out BK148.out (by decide)) (fun _ hk => hk.2) (.int .i64 t140)) (fun _ hk => hk.2) (.slice Ao73 t141.length co73)) (fun _ hk => hk.2) (.slice Ao74 t144.length co74)) (fun _ h_ => h_.1))) hb); have n6_ := Aside0.mk (Kd.R_below (by (with_reducible repeat (first | apply Kd.R_alloc | apply Kd.R_drewN | apply Kd.R_drew)); exact (Kd.R_mono (Kd.R_far (p := ⟨gb148, 2, none⟩) (Kd.R_far (p := ⟨gb148, 1, none⟩) (Kd.R_far (p := ⟨gb148, 0, none⟩) (Kd.R_types HO146.out BK148.out (by decide)) (fun _ hk => hk.2) (.int .i64 t140)) (fun _ hk => hk.2) (.slice Ao73 t141.length co73)) (fun _ hk => hk.2) (.slice Ao74 t144.length co74)) (fun _ h_ => h_.1))) hb); have n7_ := Aside0.mk (blk_below (g := gb112) (o := .cells #[.int .i64 t104, .slice Ao13 t105.length co13, .slice Ao14 t108.length co14] 33 (0, 0)) (by (with_reducible repeat (first | refine blk_drewN ?_ _ | refine blk_drew ?_ | refine blk_alloc ?_ _)); refine blk_far ?_ NB112_148.out _; (with_reducible repeat (first | refine blk_drewN ?_ _ | refine blk_drew ?_ | refine blk_alloc ?_ _)); refine blk_far ?_ NB112_148.out _; (with_reducible repeat (first | refine blk_drewN ?_ _ | refine blk_drew ?_ | refine blk_alloc ?_ _)); refine blk_far ?_ NB112_148.out _; (with_reducible repeat (first | refine blk_drewN ?_ _ | refine blk_drew ?_ | refine blk_alloc ?_ _)); exact BK112.out) hb); have n8_ := Aside0.mk (blk_below (g := gb124) (o := .cells #[.int .i64 t116, .slice Ao21 t117.length co21, .slice Ao22 t120.length co22] 33 (0, 0)) (by (with_reducible repeat (first | refine blk_drewN ?_ _ | refine blk_drew ?_ | refine blk_alloc ?_ _)); refine blk_far ?_ NB124_148.out _; (with_reducible repeat (first | refine blk_drewN ?_ _ | refine blk_drew ?_ | refine blk_alloc ?_ _)); refine blk_far ?_ NB124_148.out _; (with_reducible repeat (first | refine blk_drewN ?_ _ | refine blk_drew ?_ | refine blk_alloc ?_ _)); refine blk_far ?_ NB124_148.out _; (with_reducible repeat (first | refine blk_drewN ?_ _ | refine blk_drew ?_ | refine blk_alloc ?_ _)); exact BK124.out) hb); have n9_ := Aside0.mk (blk_below (g := gb148) (o := .cells #[.int .i64 t140, .slice Ao73 t141.length co73, .slice Ao74 t144.length co74] 33 (0, 0)) (by (with_reducible repeat (first | refine blk_drewN ?_ _ | refine blk_drew ?_ | refine blk_alloc ?_ _)); refine blk_put (cs := #[.int .i64 t140, .slice Ao73 t141.length co73, .slice none 0 0]) ?_ 2 _ rfl; (with_reducible repeat (first | refine blk_drewN ?_ _ | refine blk_drew ?_ | refine blk_alloc ?_ _)); refine blk_put (cs := #[.int .i64 t140, .slice none 0 0, .slice none 0 0]) ?_ 1 _ rfl; (with_reducible repeat (first | refine blk_drewN ?_ _ | refine blk_drew ?_ | refine blk_alloc ?_ _)); refine blk_put (cs := #[.int .i64 0, .slice none 0 0, .slice none 0 0]) ?_ 0 _ rfl; (with_reducible repeat (first | refine blk_drewN ?_ _ | refine blk_drew ?_ | refine blk_alloc ?_ _)); exact BK148.out) hb); have n10_ := Aside0.mk (below_step (by repeat (first | (with_reducible first | exact HB.out | apply below_alloc | apply pw_below_drewN | apply below_drew1 | refine below_set ?_ GE112.out | refine below_set ?_ GE124.out | refine below_set ?_ GE148.out) | exact HB.out)) hb); clear HO_113001; clear HO_113002; clear HO_125001; clear HO_125002; clear HO139; clear HO143; clear HO146; clear BK112; clear BK124; clear BK148; clear HB; have HO_113001 := n0_; have HO_113002 := n1_; have HO_125001 := n2_; have HO_125002 := n3_; have HO139 := n4_; have HO143 := n5_; have HO146 := n6_; have BK112 := n7_; have BK124 := n8_; have BK148 := n9_; have HB := n10_; clear n0_ n1_ n2_ n3_ n4_ n5_ n6_ n7_ n8_ n9_ n10_; (try clear hb); (try clear hb2); (try clear hk); (try clear hi)))
                          go_meet
                          case rel => exact ⟨_, (true), (by first | rfl | (simp; done) | (simp [*]; done)), H', ⟨by have := HJ6.out; have := HJ37.out; first | omega | exact Nat.le_refl _⟩, ⟨by (with_reducible repeat (first | apply Kd.R_alloc | apply Kd.R_drewN | apply Kd.R_drew)); exact Kd.R_mono HO_113001.out (fun _ hk => ⟨hk.1.1.1.1, ⟨hk.1.1.1.2.1, ⟨hk.1.1.1.2.2, ⟨hk.1.2, hk.2⟩⟩⟩⟩)⟩, ⟨by (with_reducible repeat (first | apply Kd.R_alloc | apply Kd.R_drewN | apply Kd.R_drew)); exact Kd.R_mono HO_113002.out (fun _ hk => ⟨hk.1.1.1.1, ⟨hk.1.1.1.2.1, ⟨hk.1.1.1.2.2, ⟨hk.1.2, hk.2⟩⟩⟩⟩)⟩, ⟨by (with_reducible repeat (first | apply Kd.R_alloc | apply Kd.R_drewN | apply Kd.R_drew)); exact Kd.R_mono HO_125001.out (fun _ hk => ⟨hk.1.1.1.1, ⟨hk.1.1.1.2.1, ⟨hk.1.1.1.2.2, ⟨hk.1.2, hk.2⟩⟩⟩⟩)⟩, ⟨by (with_reducible repeat (first | apply Kd.R_alloc | apply Kd.R_drewN | apply Kd.R_drew)); exact Kd.R_mono HO_125002.out (fun _ hk => ⟨hk.1.1.1.1, ⟨hk.1.1.1.2.1, ⟨hk.1.1.1.2.2, ⟨hk.1.2, hk.2⟩⟩⟩⟩)⟩, ⟨by (with_reducible repeat (first | apply Kd.R_alloc | apply Kd.R_drewN | apply Kd.R_drew)); exact Kd.R_mono HO143.out (fun _ hk => ⟨hk.1.1.1.1.2, ⟨hk.1.1.1.2, ⟨hk.1.1.2, ⟨hk.1.2, hk.1.1.1.1.1⟩⟩⟩⟩)⟩, ⟨by (with_reducible repeat (first | apply Kd.R_alloc | apply Kd.R_drewN | apply Kd.R_drew)); exact Kd.R_mono HO146.out (fun _ hk => ⟨hk.1.1.1.1.2, ⟨hk.1.1.1.2, ⟨hk.1.1.2, ⟨hk.1.2, hk.1.1.1.1.1⟩⟩⟩⟩)⟩, ⟨by (with_reducible repeat (first | refine blk_drewN ?_ _ | refine blk_drew ?_ | refine blk_alloc ?_ _)); exact BK112.out⟩, ⟨by (with_reducible repeat (first | refine blk_drewN ?_ _ | refine blk_drew ?_ | refine blk_alloc ?_ _)); exact BK124.out⟩, ⟨by (with_reducible repeat (first | refine blk_drewN ?_ _ | refine blk_drew ?_ | refine blk_alloc ?_ _)); exact BK148.out⟩, ⟨by repeat (first | (with_reducible first | exact HB.out | apply below_alloc | apply pw_below_drewN | apply below_drew1 | refine below_set ?_ GE112.out | refine below_set ?_ GE124.out | refine below_set ?_ GE148.out) | exact HB.out)⟩⟩
                      case rest =>
                        clear HC60
                        try clear c1
                        try clear c2
                        try clear c2b0
                        try clear c2b1
                        try clear p2
                        try clear c3
                        try clear c4
                        try clear c5
                        try clear c6
                        try clear c7
                        try clear c8
                        try clear c19
                        try clear c20
                        try clear c21
                        try clear c22
                        try clear c23
                        try clear c24
                        try clear c25
                        try clear c26
                        try clear c27
                        try clear c29
                        try clear c33
                        try clear c36
                        try clear c42
                        try clear c42b0
                        try clear c44
                        try clear c45
                        try clear c49
                        try clear c53
                        try clear c56
                        try clear c56b0
                        try clear c57
                        try clear c57b0
                        try clear c57b1
                        try clear c61
                        try clear c70
                        try clear c71
                        try clear c76
                        try clear c77
                        try clear c78
                        try clear c80
                        try clear c83
                        try clear c84
                        try clear c86
                        try clear hcz12_0
                        try clear hcz12_1
                        try clear hcz12_2
                        try clear hcz20_0
                        try clear hcz20_1
                        try clear hcz20_2
                        try clear hcz26_0
                        try clear hcz26_1
                        try clear hcz26_2
                        try clear hcz27_0
                        try clear hcz27_1
                        try clear hcz27_2
                        try clear hcz30_0
                        try clear hcz30_1
                        try clear hcz30_2
                        try clear hcz31_0
                        try clear hcz31_1
                        try clear hcz31_2
                        try clear hcz46_0
                        try clear hcz46_1
                        try clear hcz46_2
                        try clear hcz47_0
                        try clear hcz47_1
                        try clear hcz47_2
                        try clear hcz50_0
                        try clear hcz50_1
                        try clear hcz50_2
                        try clear hcz51_0
                        try clear hcz51_1
                        try clear hcz51_2
                        try clear hcz62_0
                        try clear hcz62_1
                        try clear hcz62_2
                        try clear hcz64_0
                        try clear hcz64_1
                        try clear hcz64_2
                        try clear hcz72_0
                        try clear hcz72_1
                        try clear hcz72_2
                        try clear hcz79_0
                        try clear hcz79_1
                        try clear hcz79_2
                        try clear hcz81_0
                        try clear hcz81_1
                        try clear hcz81_2
                        try clear hcz85_0
                        try clear hcz85_1
                        try clear hcz85_2
                        try clear hcz87_0
                        try clear hcz87_1
                        try clear hcz87_2
                        try clear hfz12_0
                        try clear hfz12_1
                        try clear hfz12_2
                        try clear hfz20_0
                        try clear hfz20_1
                        try clear hfz20_2
                        try clear hfz26_0
                        try clear hfz26_1
                        try clear hfz26_2
                        try clear hfz27_0
                        try clear hfz27_1
                        try clear hfz27_2
                        try clear hfz30_0
                        try clear hfz30_1
                        try clear hfz30_2
                        try clear hfz31_0
                        try clear hfz31_1
                        try clear hfz31_2
                        try clear hfz46_0
                        try clear hfz46_1
                        try clear hfz46_2
                        try clear hfz47_0
                        try clear hfz47_1
                        try clear hfz47_2
                        try clear hfz50_0
                        try clear hfz50_1
                        try clear hfz50_2
                        try clear hfz51_0
                        try clear hfz51_1
                        try clear hfz51_2
                        try clear hfz62_0
                        try clear hfz62_1
                        try clear hfz62_2
                        try clear hfz64_0
                        try clear hfz64_1
                        try clear hfz64_2
                        try clear hfz72_0
                        try clear hfz72_1
                        try clear hfz72_2
                        try clear hfz79_0
                        try clear hfz79_1
                        try clear hfz79_2
                        try clear hfz81_0
                        try clear hfz81_1
                        try clear hfz81_2
                        try clear hfz85_0
                        try clear hfz85_1
                        try clear hfz85_2
                        try clear hfz87_0
                        try clear hfz87_1
                        try clear hfz87_2
                        try clear p2
                        obtain ⟨kq, x84_59, rfl, HA, HJ59, HO_113001, HO_113002, HO_125001, HO_125002, HO_149001, HO_149002, BK112, BK124, BK148, HB⟩ := hcut
                        have hl125001_59 := (Kd.R_reads' HO_125001.out).1
                        rw [hl125001_59] at HO_125001
                        (try simp only [hl125001_59])
                        (try simp only [hl125001_59] at BK112)
                        (try simp only [hl125001_59] at BK124)
                        (try simp only [hl125001_59] at BK148)
                        (try simp only [hl125001_59] at HO_113001)
                        (try simp only [hl125001_59] at HO_113002)
                        (try simp only [hl125001_59] at HO_125002)
                        (try simp only [hl125001_59] at HO_149001)
                        (try simp only [hl125001_59] at HO_149002)
                        have hl125002_59 := (Kd.R_reads' HO_125002.out).1
                        rw [hl125002_59] at HO_125002
                        (try simp only [hl125002_59])
                        (try simp only [hl125002_59] at BK112)
                        (try simp only [hl125002_59] at BK124)
                        (try simp only [hl125002_59] at BK148)
                        (try simp only [hl125002_59] at HO_113001)
                        (try simp only [hl125002_59] at HO_113002)
                        (try simp only [hl125002_59] at HO_125001)
                        (try simp only [hl125002_59] at HO_149001)
                        (try simp only [hl125002_59] at HO_149002)
                        cases kq with
                        | zero => exact absurd HA.out (by simp [laws_FnExactWholeView.j2])
                        | succ kj59 =>
                          have H := HA.out
                          clear HA
                          simp only [laws_FnExactWholeView.j2] at H
                          by_cases c89 : x84_59 = true
                          · subst c89
                            have H1 : (some false) = some r := by rw [if_pos rfl] at H; exact H
                            clear H
                            have H := H1
                            clear H1
                            exact absurd ((Option.some.inj H).trans hr_.out) (by decide)
                          · replace c89 := Bool.eq_false_iff.mpr c89
                            subst c89
                            have H1 : ((laws_heldView.f kj59 t116 t134 t135 1).bind fun t150 => (if t150 < 0 then (some false) else (if t150 = t133 then (some true) else (some false)))) = some r := by rw [if_neg (show ¬ (false = true) by decide)] at H; exact H
                            clear H
                            have H := H1
                            clear H1
                            replace H := Option.bind_eq_some_iff.mp H
                            obtain ⟨t150, A900, H⟩ := H
                            replace H : (if t150 < 0 then (some false) else (if t150 = t133 then (some true) else (some false))) = some r := H
                            have A90 := Aside0.mk A900
                            clear A900
                            by_cases c91 : t150 < 0
                            · rw [if_pos c91] at H
                              have c91b0 : decide (t150 < 0) = true := decide_eq_true c91
                              clear c91
                              exact absurd ((Option.some.inj H).trans hr_.out) (by decide)
                            · rw [if_neg c91] at H
                              have c91b0 : decide (t150 < 0) = false := decide_eq_false c91
                              clear c91
                              by_cases c92 : t150 = t133
                              · rw [if_pos c92] at H
                                have c92b0 : (t150 == t133) = true := beq_iff_eq.mpr c92
                                have c92b1 : (t150 != t133) = false := bne_eq_false_iff_eq.mpr c92
                                clear c92
                                obtain rfl := Option.some.inj H
                                have hnb93 := NB124_112.out
                                have hnc93 := NB112_124.out
                                have hnb94 := NB124_148.out
                                have hnc94 := NB148_124.out
                                have hcz95_0 : wc.cell? ⟨gb124, 0, none⟩ = some (.int .i64 t116) := (blk_cell BK124.out 0).trans rfl
                                have hcz95_1 : wc.cell? ⟨gb124, 1, none⟩ = some (.slice Ao21 t134.length co21) := (blk_cell BK124.out 1).trans rfl
                                have hcz95_2 : wc.cell? ⟨gb124, 2, none⟩ = some (.slice Ao22 t135.length co22) := (blk_cell BK124.out 2).trans rfl
                                have hfz95_0 := blk_frozen BK124.out 0
                                have hfz95_1 := blk_frozen BK124.out 1
                                have hfz95_2 := blk_frozen BK124.out 2
                                go_wp2_with (first | ((with_reducible refine gate_callee (f := 27) rfl ?_); refine goesL_ (some 87) rfl rfl Try.func27 (by kernel_rfl) rfl #[.agg #[.int .i64 t116, .slice Ao21 t134.length co21, .slice Ao22 t135.length co22], .int .i64 1] rfl (by (try simp only [List.map_toArray, List.map_cons, List.map_nil]); first | done | rfl | (simp only [List.length_drop, List.length_take]; rfl)) ?_; (with_reducible refine (laws_heldView.calls kj59 t116 _ _ t134 _ _ t135 1 t150 _ ?side1 ?side2 ?side3 ?side4 A90.out).mono ?_); (case side1 => repeat (first | exact (Kd.R_reads' HO_125001.out).2.2 | (with_reducible refine Kd.C_alloc ?_ _) | (with_reducible refine Kd.C_drewN ?_ _) | (with_reducible refine Kd.C_drew ?_))); (case side2 => exact (Kd.R_reads' HO_125001.out).2.1); (case side3 => repeat (first | exact (Kd.R_reads' HO_125002.out).2.2 | (with_reducible refine Kd.C_alloc ?_ _) | (with_reducible refine Kd.C_drewN ?_ _) | (with_reducible refine Kd.C_drew ?_))); (case side4 => exact (Kd.R_reads' HO_125002.out).2.1); rintro e w96 ⟨rfl, hb⟩; refine ⟨_, rfl, ?_⟩; have n0_ := Aside0.mk (Kd.R_below (by (with_reducible repeat (first | apply Kd.R_alloc | apply Kd.R_drewN | apply Kd.R_drew)); exact HO_113001.out) hb); have n1_ := Aside0.mk (Kd.R_below (by (with_reducible repeat (first | apply Kd.R_alloc | apply Kd.R_drewN | apply Kd.R_drew)); exact HO_113002.out) hb); have n2_ := Aside0.mk (Kd.R_below (by (with_reducible repeat (first | apply Kd.R_alloc | apply Kd.R_drewN | apply Kd.R_drew)); exact HO_125001.out) hb); have n3_ := Aside0.mk (Kd.R_below (by (with_reducible repeat (first | apply Kd.R_alloc | apply Kd.R_drewN | apply Kd.R_drew)); exact HO_125002.out) hb); have n4_ := Aside0.mk (Kd.R_below (by (with_reducible repeat (first | apply Kd.R_alloc | apply Kd.R_drewN | apply Kd.R_drew)); exact HO_149001.out) hb); have n5_ := Aside0.mk (Kd.R_below (by (with_reducible repeat (first | apply Kd.R_alloc | apply Kd.R_drewN | apply Kd.R_drew)); exact HO_149002.out) hb); have n6_ := Aside0.mk (blk_below (g := gb112) (o := .cells #[.int .i64 t104, .slice Ao13 t105.length co13, .slice Ao14 t108.length co14] 33 (0, 0)) (by (with_reducible repeat (first | refine blk_drewN ?_ _ | refine blk_drew ?_ | refine blk_alloc ?_ _)); exact BK112.out) hb); have n7_ := Aside0.mk (blk_below (g := gb124) (o := .cells #[.int .i64 t116, .slice Ao21 t134.length co21, .slice Ao22 t135.length co22] 33 (0, 0)) (by (with_reducible repeat (first | refine blk_drewN ?_ _ | refine blk_drew ?_ | refine blk_alloc ?_ _)); exact BK124.out) hb); have n8_ := Aside0.mk (blk_below (g := gb148) (o := .cells #[.int .i64 t140, .slice Ao73 t141.length co73, .slice Ao74 t144.length co74] 33 (0, 0)) (by (with_reducible repeat (first | refine blk_drewN ?_ _ | refine blk_drew ?_ | refine blk_alloc ?_ _)); exact BK148.out) hb); have n9_ := Aside0.mk (below_step (by repeat (first | (with_reducible first | exact HB.out | apply below_alloc | apply pw_below_drewN | apply below_drew1 | refine below_set ?_ GE112.out | refine below_set ?_ GE124.out | refine below_set ?_ GE148.out) | exact HB.out)) hb); clear HO_113001; clear HO_113002; clear HO_125001; clear HO_125002; clear HO_149001; clear HO_149002; clear BK112; clear BK124; clear BK148; clear HB; have HO_113001 := n0_; have HO_113002 := n1_; have HO_125001 := n2_; have HO_125002 := n3_; have HO_149001 := n4_; have HO_149002 := n5_; have BK112 := n6_; have BK124 := n7_; have BK148 := n8_; have HB := n9_; clear n0_ n1_ n2_ n3_ n4_ n5_ n6_ n7_ n8_ n9_; (try clear hb); (try clear hb2); (try clear hk); (try clear hi)))
                                go_ret
                                exact ⟨by first | rfl | (simp [errW_none, errW_some] <;> rfl) | (simp [*, errW_none, errW_some] <;> rfl), by repeat (first | (with_reducible first | exact HB.out | apply below_alloc | apply pw_below_drewN | apply below_drew1 | refine below_set ?_ GE112.out | refine below_set ?_ GE124.out | refine below_set ?_ GE148.out) | exact HB.out)⟩
                              · rw [if_neg c92] at H
                                have c92b0 : (t150 == t133) = false := beq_eq_false_iff_ne.mpr c92
                                have c92b1 : (t150 != t133) = true := bne_iff_ne.mpr c92
                                exact absurd ((Option.some.inj H).trans hr_.out) (by decide)
                    · rw [if_neg c57] at H
                      have c57b0 : (t136 == t133) = false := beq_eq_false_iff_ne.mpr c57
                      have c57b1 : (t136 != t133) = true := bne_iff_ne.mpr c57
                      exact absurd ((Option.some.inj H).trans hr_.out) (by decide)
          · replace c36 := Bool.eq_false_iff.mpr c36
            subst c36
            have H1 : (some false) = some r := by rw [if_neg (show ¬ (false = true) by decide)] at H; exact H
            clear H
            have H := H1
            clear H1
            exact absurd ((Option.some.inj H).trans hr_.out) (by decide)

/-- THE ONE PURE STATEMENT of laws_FnExactWholeView: yours. -/
def laws_FnExactWholeView.Pure : Prop := ∀ (l0 : List Int), l0.length ≤ maxLen → l0.length * 8 ≤ 140737488351232 → (∀ x ∈ l0, (Lit.int .i64 x).wf = true) → ∃ k, laws_FnExactWholeView.f k l0 = some true
theorem laws_FnExactWholeView.walk (P : laws_FnExactWholeView.Pure) (a0 : Option Addr) (len0 cap0 : Nat) (z0 : List Int) (w : World) (w0 : (a0 = none ∧ len0 = 0 ∧ cap0 = 0 ∧ z0 = []) ∨ ∃ x, a0 = some x ∧ len0 ≤ cap0 ∧ cap0 ≤ maxLen ∧ z0.length = cap0 ∧ (∀ i, i < z0.length → w.cell? (x.add i) = some (.int .i64 (z0.getD i 0))) ∧ ∀ n ∈ z0, (Lit.int .i64 n).wf = true) (y0 : len0 * 8 ≤ 140737488351232) :
    Calls Try.prog 5 #[.slice a0 len0 cap0] w fun e w' => e = .returned (.bool true) ∧ Below w.heap.size w w' := by
  obtain ⟨l0, rfl, hr0, hm0, hw0, hc0⟩ := ReadsInt.ofRowC w0
  obtain ⟨k, h⟩ := P l0 hm0 y0 hw0
  refine (laws_FnExactWholeView.calls k _ _ l0 true ⟨rfl⟩ w (Kd.C_of_reads (d := (0 : Int)) (h1 := fun _ => rfl) hr0) hc0 h).mono ?_
  rintro e w' ⟨rfl, hd⟩
  exact ⟨rfl, hd⟩

end Go.Proofs.Ytipjhbngbaifeaa.PA
