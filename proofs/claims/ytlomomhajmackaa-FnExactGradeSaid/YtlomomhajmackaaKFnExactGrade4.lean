import Derived.Test.YtlomomhajmackaaKFnExactGrade3

-- By a program (prt.py, over the print of the kit), for this claim. Not trusted: Lean checks it.
namespace Go.Proofs.Ytlomomhajmackaa.PA
open Go.RowKit Go.Proofs.YtlomomhajmackaaW.PrintWords Go.Proofs.YtlomomhajmackaaW.PrintLast Go.Proofs.YtlomomhajmackaaW.PrintMore
attribute [local go_sem] max2_int min2_int max_two min_two max_three min_three max_four min_four   -- for this text's walks alone
set_option linter.unusedVariables false
set_option linter.unusedSimpArgs false

/-! ### spec_l6Merge: function 37 -/
mutual
def spec_l6Merge.l0 : Nat → Int → List Int → Int → Option (List Int)
  | 0, _, _, _ => none
  | k + 1, x2, x9, x10 => if x10 < x2 then (if x9.length < 17592186044416 then (spec_l6Merge.l0 k x2 (x9 ++ [wrap64 (x10 + 1)]) (wrap64 (x10 + 1))) else (none)) else (some x9)
def spec_l6Merge.l1 : Nat → List Int → Bool → List Int → List Int → List Int → Option (List Int)
  | 0, _, _, _, _, _ => none
  | k + 1, x0, x3, x12, x13, x14 => if (wrap64 ((x12.length : Int) + (x13.length : Int))) > 0 then (if (x12.length : Int) > 0 then (spec_l6Merge.j2 k x0 x3 x12 x13 x14 ((x12.length : Int) == 0) (decide ((x13.length : Int) > 0))) else (spec_l6Merge.j2 k x0 x3 x12 x13 x14 ((x12.length : Int) == 0) false)) else (some x14)
def spec_l6Merge.j2 : Nat → List Int → Bool → List Int → List Int → List Int → Bool → Bool → Option (List Int)
  | 0, _, _, _, _, _, _, _ => none
  | k + 1, x0, x3, x12, x13, x14, x15, x66 => if x66 = true then (if 0 < (x12.length : Int) then (if 0 ≤ (wrap64 ((rd x12 0) - 1)) then (if (wrap64 ((rd x12 0) - 1)) < (x0.length : Int) then (if 0 < (x13.length : Int) then (if 0 ≤ (wrap64 ((rd x13 0) - 1)) then (if (wrap64 ((rd x13 0) - 1)) < (x0.length : Int) then (if (rd x0 (wrap64 ((rd x13 0) - 1))) < (rd x0 (wrap64 ((rd x12 0) - 1))) then (if x3 = true then (if (rd x0 (wrap64 ((rd x13 0) - 1))) > (rd x0 (wrap64 ((rd x12 0) - 1))) then (if x14.length < 17592186044416 then (if 1 ≤ (x13.length : Int) then (spec_l6Merge.l1 k x0 x3 x12 (x13.drop (1 : Int).toNat) (x14 ++ [rd x13 0])) else (none)) else (none)) else (if x14.length < 17592186044416 then (if 1 ≤ (x12.length : Int) then (spec_l6Merge.l1 k x0 x3 (x12.drop (1 : Int).toNat) x13 (x14 ++ [rd x12 0])) else (none)) else (none))) else (if x14.length < 17592186044416 then (if 1 ≤ (x13.length : Int) then (spec_l6Merge.l1 k x0 x3 x12 (x13.drop (1 : Int).toNat) (x14 ++ [rd x13 0])) else (none)) else (none))) else (if (rd x0 (wrap64 ((rd x13 0) - 1))) > (rd x0 (wrap64 ((rd x12 0) - 1))) then (if x3 = true then (if x14.length < 17592186044416 then (if 1 ≤ (x13.length : Int) then (spec_l6Merge.l1 k x0 x3 x12 (x13.drop (1 : Int).toNat) (x14 ++ [rd x13 0])) else (none)) else (none)) else (if x14.length < 17592186044416 then (if 1 ≤ (x12.length : Int) then (spec_l6Merge.l1 k x0 x3 (x12.drop (1 : Int).toNat) x13 (x14 ++ [rd x12 0])) else (none)) else (none))) else (if x14.length < 17592186044416 then (if 1 ≤ (x12.length : Int) then (spec_l6Merge.l1 k x0 x3 (x12.drop (1 : Int).toNat) x13 (x14 ++ [rd x12 0])) else (none)) else (none)))) else (none)) else (none)) else (none)) else (none)) else (none)) else (none)) else (if x15 = true then (if 0 < (x13.length : Int) then (if x14.length < 17592186044416 then (if 1 ≤ (x13.length : Int) then (spec_l6Merge.l1 k x0 x3 x12 (x13.drop (1 : Int).toNat) (x14 ++ [rd x13 0])) else (none)) else (none)) else (none)) else (if 0 < (x12.length : Int) then (if x14.length < 17592186044416 then (if 1 ≤ (x12.length : Int) then (spec_l6Merge.l1 k x0 x3 (x12.drop (1 : Int).toNat) x13 (x14 ++ [rd x12 0])) else (none)) else (none)) else (none)))
def spec_l6Merge.f : Nat → List Int → Int → Int → Bool → Option (List Int)
  | 0, _, _, _, _ => none
  | k + 1, l0, a1, a2, a3 => if (wrap64 (a2 - a1)) < 2 then (spec_l6Merge.l0 k a2 (([] : List Int)) a1) else ((spec_l6Merge.f k l0 a1 (wrap64 (Int.tdiv (wrap64 (a1 + a2)) 2)) a3).bind fun t107 => ((spec_l6Merge.f k l0 (wrap64 (Int.tdiv (wrap64 (a1 + a2)) 2)) a2 a3).bind fun t110 => (spec_l6Merge.l1 k l0 a3 t107 t110 (([] : List Int)))))
end
theorem spec_l6Merge.mono_l : ∀ k, (∀ y0 y1 y2 y3, LeO (spec_l6Merge.f k y0 y1 y2 y3) (spec_l6Merge.f (k + 1) y0 y1 y2 y3)) ∧ (∀ y0 y1 y2, LeO (spec_l6Merge.l0 k y0 y1 y2) (spec_l6Merge.l0 (k + 1) y0 y1 y2)) ∧ (∀ y0 y1 y2 y3 y4, LeO (spec_l6Merge.l1 k y0 y1 y2 y3 y4) (spec_l6Merge.l1 (k + 1) y0 y1 y2 y3 y4)) ∧ (∀ y0 y1 y2 y3 y4 y5 y6, LeO (spec_l6Merge.j2 k y0 y1 y2 y3 y4 y5 y6) (spec_l6Merge.j2 (k + 1) y0 y1 y2 y3 y4 y5 y6))
  | 0 => ⟨fun _ _ _ _ r h => by simp [spec_l6Merge.f] at h, fun _ _ _ r h => by simp [spec_l6Merge.l0] at h, fun _ _ _ _ _ r h => by simp [spec_l6Merge.l1] at h, fun _ _ _ _ _ _ _ r h => by simp [spec_l6Merge.j2] at h⟩
  | k + 1 => by
    obtain ⟨ih0, ih1, ih2, ih3⟩ := spec_l6Merge.mono_l k
    refine ⟨?_, ?_, ?_, ?_⟩
    · intro y0 y1 y2 y3
      unfold spec_l6Merge.f
      repeat' first
      | (with_reducible exact ih0 _ _ _ _)
      | (with_reducible exact ih1 _ _ _)
      | (with_reducible exact ih2 _ _ _ _ _)
      | (with_reducible exact ih3 _ _ _ _ _ _ _)
      | (with_reducible exact LeO.refl _)
      | (with_reducible exact LeO.none _)
      | (with_reducible refine LeO.ite ?_ ?_)
      | (with_reducible refine LeO.bind ?_ (fun _ => ?_))
      | exact ih0 _ _ _ _
      | exact ih1 _ _ _
      | exact ih2 _ _ _ _ _
      | exact ih3 _ _ _ _ _ _ _
      | exact LeO.none _
      | refine LeO.ite ?_ ?_
      | refine LeO.bind ?_ (fun _ => ?_)
    · intro y0 y1 y2
      unfold spec_l6Merge.l0
      repeat' first
      | (with_reducible exact ih0 _ _ _ _)
      | (with_reducible exact ih1 _ _ _)
      | (with_reducible exact ih2 _ _ _ _ _)
      | (with_reducible exact ih3 _ _ _ _ _ _ _)
      | (with_reducible exact LeO.refl _)
      | (with_reducible exact LeO.none _)
      | (with_reducible refine LeO.ite ?_ ?_)
      | (with_reducible refine LeO.bind ?_ (fun _ => ?_))
      | exact ih0 _ _ _ _
      | exact ih1 _ _ _
      | exact ih2 _ _ _ _ _
      | exact ih3 _ _ _ _ _ _ _
      | exact LeO.none _
      | refine LeO.ite ?_ ?_
      | refine LeO.bind ?_ (fun _ => ?_)
    · intro y0 y1 y2 y3 y4
      unfold spec_l6Merge.l1
      repeat' first
      | (with_reducible exact ih0 _ _ _ _)
      | (with_reducible exact ih1 _ _ _)
      | (with_reducible exact ih2 _ _ _ _ _)
      | (with_reducible exact ih3 _ _ _ _ _ _ _)
      | (with_reducible exact LeO.refl _)
      | (with_reducible exact LeO.none _)
      | (with_reducible refine LeO.ite ?_ ?_)
      | (with_reducible refine LeO.bind ?_ (fun _ => ?_))
      | exact ih0 _ _ _ _
      | exact ih1 _ _ _
      | exact ih2 _ _ _ _ _
      | exact ih3 _ _ _ _ _ _ _
      | exact LeO.none _
      | refine LeO.ite ?_ ?_
      | refine LeO.bind ?_ (fun _ => ?_)
    · intro y0 y1 y2 y3 y4 y5 y6
      unfold spec_l6Merge.j2
      repeat' first
      | (with_reducible exact ih0 _ _ _ _)
      | (with_reducible exact ih1 _ _ _)
      | (with_reducible exact ih2 _ _ _ _ _)
      | (with_reducible exact ih3 _ _ _ _ _ _ _)
      | (with_reducible exact LeO.refl _)
      | (with_reducible exact LeO.none _)
      | (with_reducible refine LeO.ite ?_ ?_)
      | (with_reducible refine LeO.bind ?_ (fun _ => ?_))
      | exact ih0 _ _ _ _
      | exact ih1 _ _ _
      | exact ih2 _ _ _ _ _
      | exact ih3 _ _ _ _ _ _ _
      | exact LeO.none _
      | refine LeO.ite ?_ ?_
      | refine LeO.bind ?_ (fun _ => ?_)
theorem spec_l6Merge.mono : ∀ a0 a1 a2 a3 k, LeO (spec_l6Merge.f k a0 a1 a2 a3) (spec_l6Merge.f (k + 1) a0 a1 a2 a3) := by
  intro a0 a1 a2 a3 k
  obtain ⟨ih0, ih1, ih2, ih3⟩ := spec_l6Merge.mono_l k
  exact ih0 a0 a1 a2 a3
set_option maxHeartbeats 8000000 in
set_option maxRecDepth 100000 in
theorem spec_l6Merge.calls (k : Nat) : ∀ (A0 : Option Addr) (c0 : Nat) (l0 : List Int) (a1 : Int) (a2 : Int) (a3 : Bool) (r : List Int) (w : World) (hr0 : Kd.C (Kd.int .i64) w A0 l0.length l0) (hc0 : l0.length ≤ c0) (h : spec_l6Merge.f k l0 a1 a2 a3 = some r),
    Calls Try.prog 37 #[.slice A0 l0.length c0, .int .i64 a1, .int .i64 a2, .bool a3] w fun e w' => ∃ v0_ : Value, e = .returned (v0_) ∧ Kd.R (Kd.int .i64) 3 w' w.heap.size (fun _ => True) v0_ r ∧ Below w.heap.size w w' := by
  induction k using Nat.strongRecOn with
  | _ k ih =>
  intro A0 c0 l0 a1 a2 a3 r w hr0 hc0 h
  cases k with
  | zero => exact absurd h (by simp [spec_l6Merge.f])
  | succ k =>
  simp only [spec_l6Merge.f] at h
  have HR0 := Aside0.mk hr0
  have HC0 := Aside0.mk hc0
  clear hr0 hc0
  have HB := Aside0.mk (Below.refl w.heap.size w)
  have H : (if (wrap64 (a2 - a1)) < 2 then (spec_l6Merge.l0 k a2 (([] : List Int)) a1) else ((spec_l6Merge.f k l0 a1 (wrap64 (Int.tdiv (wrap64 (a1 + a2)) 2)) a3).bind fun t107 => ((spec_l6Merge.f k l0 (wrap64 (Int.tdiv (wrap64 (a1 + a2)) 2)) a2 a3).bind fun t110 => (spec_l6Merge.l1 k l0 a3 t107 t110 (([] : List Int)))))) = some r := h
  clear h
  by_cases c5 : (wrap64 (a2 - a1)) < 2
  · rw [if_pos c5] at H
    have c5b0 : decide ((wrap64 (a2 - a1)) < 2) = true := decide_eq_true c5
    clear c5
    obtain ⟨y101, hy101⟩ : ∃ y_ : List Int, y_ = (([] : List Int)) := ⟨_, rfl⟩
    replace H : (spec_l6Merge.l0 k a2 y101 a1) = some r := by first | (rw [hy101]; with_reducible exact H) | (have H2_ := (Option.bind_some _ _).symm.trans H; rw [hy101]; with_reducible exact H2_) | (have H2_ := (Option.bind_some _ _).symm.trans H; with_reducible exact H2_) | with_reducible exact H | (rw [hy101]; exact H) | exact H
    have Ny101 := Aside0.mk hy101
    clear hy101
    have H' := Aside0.mk H
    clear H
    go_enter Try.func37, Try.ntmps37
    go_wp2_with (first | ((with_reducible refine gate_dst (N := 22) rfl ?_); (try (refine gate_guard (by rfl) ?_; dsimp only)); refine Kd.R_lit (Kd.int .i64) _ 3 ?hg (N := 22) ?hd (xs := ([] : List Int)) (inner := []) (ok := fun _ => True) (okp := fun _ => True) ?hr ?hp (fun _ hk => hk) trivial (Below.refl _ _) (Nat.le_refl _) (by simp) ?_; (case hd => rfl); (case hg => rfl); (case hr => first | (go_simp; done) | (go_simp; rfl)); (case hp => exact (Reps.none _ _)); intro v102 w6 ho7 hb hg_ hnew_; clear hg_ hnew_; (first | rw [← Ny101.out] at ho7 | (simp only [Int.reduceToNat] at ho7; rw [← Ny101.out] at ho7)); have n0_ := Aside0.mk (Kd.R_lower ho7 (below_size (by repeat (first | (with_reducible first | exact HB.out | apply below_alloc | apply pw_below_drewN | apply below_drew1) | exact HB.out)))); have n1_ := Aside0.mk (below_step (by repeat (first | (with_reducible first | exact HB.out | apply below_alloc | apply pw_below_drewN | apply below_drew1) | exact HB.out)) hb); clear HB; have HO103 := n0_; have HB := n1_; clear n0_ n1_; clear hb ho7))
    go_loopg [9, 10] k (fun kq v9 v10 w' => ∃ (x9_1 : List Int) (x10_1 : Int), v10 = .int .i64 x10_1 ∧ Aside0 (spec_l6Merge.l0 kq a2 x9_1 x10_1 = some r) ∧ Aside0 (kq ≤ k) ∧ Aside0 (Kd.R (Kd.int .i64) 3 w' w.heap.size (fun _ => True) v9 x9_1) ∧ Aside0 (Below w.heap.size w w'))
    case atStart => exact ⟨(y101), (a1), (by first | rfl | (simp; done) | (simp [*]; done)), H', ⟨Nat.le_refl _⟩, ⟨by (with_reducible repeat (first | apply Kd.R_alloc | apply Kd.R_drewN | apply Kd.R_drew)); exact HO103.out⟩, ⟨by repeat (first | (with_reducible first | exact HB.out | apply below_alloc | apply pw_below_drewN | apply below_drew1) | exact HB.out)⟩⟩
    case round =>
      clear H'
      try clear p2
      try clear c3
      try clear c5
      try clear c5b0
      try clear p6
      obtain ⟨x9_1, x10_1, rfl, HA, HK1, HO_9, HB⟩ := hrel
      cases gk with
      | zero => exact absurd HA.out (by simp [spec_l6Merge.l0])
      | succ k1 =>
        have H := HA.out
        clear HA
        simp only [spec_l6Merge.l0] at H
        by_cases c8 : x10_1 < a2
        · rw [if_pos c8] at H
          have c8b0 : decide (x10_1 < a2) = true := decide_eq_true c8
          clear c8
          by_cases c9 : x9_1.length < 17592186044416
          · rw [if_pos c9] at H
            have LMc9 := Aside0.mk c9
            clear c9
            obtain ⟨y104, hy104⟩ : ∃ y_ : List Int, y_ = (x9_1 ++ [wrap64 (x10_1 + 1)]) := ⟨_, rfl⟩
            replace H : (spec_l6Merge.l0 k1 a2 y104 (wrap64 (x10_1 + 1))) = some r := by first | (rw [hy104]; with_reducible exact H) | (have H2_ := (Option.bind_some _ _).symm.trans H; rw [hy104]; with_reducible exact H2_) | (have H2_ := (Option.bind_some _ _).symm.trans H; with_reducible exact H2_) | with_reducible exact H | (rw [hy104]; exact H) | exact H
            have Ny104 := Aside0.mk hy104
            clear hy104
            have H' := Aside0.mk H
            clear H
            go_wp2_with (first | ((with_reducible refine gate_builtin (b := .append) (xs := #[.tmp 29, .tmp 32]) rfl ?_); (try (refine gate_guard (by rfl) ?_; dsimp only)); at_builtin; refine Kd.R_append (Kd.int .i64) (w0 := w) w.heap.size rfl (.tmp 29) (.tmp 32) 22 3 (.int .i64 0) 8 rfl Try.underlying22 info3 rfl (by decide) (by omega) u9 x9_1 (wrap64 (x10_1 + 1)) [.int .i64 (wrap64 (x10_1 + 1))] (fun _ => True) (fun _ => False) rfl rfl ?aP (fun _ hk => hk.elim) ?aF ?aO ?aB ?aS ?aL ?_; (case aP => exact rfl); (case aB => exact (by repeat (first | (with_reducible first | exact HB.out | apply below_alloc | apply pw_below_drewN | apply below_drew1) | exact HB.out))); (case aF => exact (fun _ _ => trivial)); (case aO => exact (by (with_reducible repeat (first | apply Kd.R_alloc | apply Kd.R_drewN | apply Kd.R_drew)); exact HO_9.out)); (case aS => exact (below_size (by repeat (first | (with_reducible first | exact HB.out | apply below_alloc | apply pw_below_drewN | apply below_drew1) | exact HB.out)))); (case aL => have := LMc9.out; omega); intro v105 w10 ho hb hg hat; rw [← Ny104.out] at ho; have n0_ := Aside0.mk (hb); have n1_ := Aside0.mk (ho); clear HB; clear HO_9; have HB := n0_; have HO106 := n1_; clear n0_ n1_; clear ho hb hg hat))
            go_roundg k1
            case measure => have := HK1.out; omega
            case rel => exact ⟨(y104), (wrap64 (x10_1 + 1)), (by first | rfl | (simp; done) | (simp [*]; done)), H', ⟨by have := HK1.out; omega⟩, ⟨by (with_reducible repeat (first | apply Kd.R_alloc | apply Kd.R_drewN | apply Kd.R_drew)); exact HO106.out⟩, ⟨by repeat (first | (with_reducible first | exact HB.out | apply below_alloc | apply pw_below_drewN | apply below_drew1) | exact HB.out)⟩⟩
          · rw [if_neg c9] at H
            exact absurd H (by simp)
        · rw [if_neg c8] at H
          have c8b0 : decide (x10_1 < a2) = false := decide_eq_false c8
          clear c8
          obtain rfl := Option.some.inj H
          go_wp2
          go_ret
          exact ⟨_, by first | rfl | (simp [errW_none, errW_some] <;> rfl) | (simp [*, errW_none, errW_some] <;> rfl), by (with_reducible repeat (first | apply Kd.R_alloc | apply Kd.R_drewN | apply Kd.R_drew)); exact HO_9.out, by repeat (first | (with_reducible first | exact HB.out | apply below_alloc | apply pw_below_drewN | apply below_drew1) | exact HB.out)⟩
  · rw [if_neg c5] at H
    have c5b0 : decide ((wrap64 (a2 - a1)) < 2) = false := decide_eq_false c5
    clear c5
    replace H := Option.bind_eq_some_iff.mp H
    obtain ⟨t107, A110, H⟩ := H
    replace H : ((spec_l6Merge.f k l0 (wrap64 (Int.tdiv (wrap64 (a1 + a2)) 2)) a2 a3).bind fun t110 => (spec_l6Merge.l1 k l0 a3 t107 t110 (([] : List Int)))) = some r := H
    have A11 := Aside0.mk A110
    clear A110
    replace H := Option.bind_eq_some_iff.mp H
    obtain ⟨t110, A120, H⟩ := H
    replace H : (spec_l6Merge.l1 k l0 a3 t107 t110 (([] : List Int))) = some r := H
    have A12 := Aside0.mk A120
    clear A120
    obtain ⟨y113, hy113⟩ : ∃ y_ : List Int, y_ = (([] : List Int)) := ⟨_, rfl⟩
    replace H : (spec_l6Merge.l1 k l0 a3 t107 t110 y113) = some r := by first | (rw [hy113]; with_reducible exact H) | (have H2_ := (Option.bind_some _ _).symm.trans H; rw [hy113]; with_reducible exact H2_) | (have H2_ := (Option.bind_some _ _).symm.trans H; with_reducible exact H2_) | with_reducible exact H | (rw [hy113]; exact H) | exact H
    have Ny113 := Aside0.mk hy113
    clear hy113
    have H' := Aside0.mk H
    clear H
    go_enter Try.func37, Try.ntmps37
    go_wp2_with (first | ((with_reducible refine gate_callee (f := 37) rfl ?_); refine goesL_ (some 43) rfl rfl Try.func37 (by kernel_rfl) rfl #[.slice A0 l0.length c0, .int .i64 a1, .int .i64 (wrap64 (Int.tdiv (wrap64 (a1 + a2)) 2)), .bool a3] rfl (by (try simp only [List.map_toArray, List.map_cons, List.map_nil]); first | done | rfl | (simp only [List.length_drop, List.length_take]; rfl)) ?_; (with_reducible refine (ih k (by omega) _ _ l0 a1 (wrap64 (Int.tdiv (wrap64 (a1 + a2)) 2)) a3 t107 _ ?side1 ?side2 A11.out).mono ?_); (case side1 => repeat (first | exact HR0.out | (with_reducible refine Kd.C_alloc ?_ _) | (with_reducible refine Kd.C_drewN ?_ _) | (with_reducible refine Kd.C_drew ?_))); (case side2 => exact HC0.out); rintro e w13 ⟨v108, rfl, ho0, hb⟩; refine ⟨_, rfl, ?_⟩; have n0_ := Aside0.mk (Kd.R_lower ho0 (below_size (by repeat (first | (with_reducible first | exact HB.out | apply below_alloc | apply pw_below_drewN | apply below_drew1) | exact HB.out)))); have n1_ := Aside0.mk (below_step (by repeat (first | (with_reducible first | exact HB.out | apply below_alloc | apply pw_below_drewN | apply below_drew1) | exact HB.out)) hb); clear HB; have HO109 := n0_; have HB := n1_; clear n0_ n1_; (try clear hb); (try clear hb2); (try clear hk); (try clear hi); (try clear ho0)) | ((with_reducible refine gate_callee (f := 37) rfl ?_); refine goesL_ (some 48) rfl rfl Try.func37 (by kernel_rfl) rfl #[.slice A0 l0.length c0, .int .i64 (wrap64 (Int.tdiv (wrap64 (a1 + a2)) 2)), .int .i64 a2, .bool a3] rfl (by (try simp only [List.map_toArray, List.map_cons, List.map_nil]); first | done | rfl | (simp only [List.length_drop, List.length_take]; rfl)) ?_; (with_reducible refine (ih k (by omega) _ _ l0 (wrap64 (Int.tdiv (wrap64 (a1 + a2)) 2)) a2 a3 t110 _ ?side1 ?side2 A12.out).mono ?_); (case side1 => repeat (first | exact (Kd.C_below HR0.out HB.out) | (with_reducible refine Kd.C_alloc ?_ _) | (with_reducible refine Kd.C_drewN ?_ _) | (with_reducible refine Kd.C_drew ?_))); (case side2 => exact HC0.out); rintro e w14 ⟨v111, rfl, ho0, hb⟩; refine ⟨_, rfl, ?_⟩; have n0_ := Aside0.mk (Kd.R_elder' (by (with_reducible repeat (first | apply Kd.R_alloc | apply Kd.R_drewN | apply Kd.R_drew)); exact HO109.out) (Kd.R_base ho0) hb); have n1_ := Aside0.mk (Kd.R_lower (Kd.R_new' ho0 (Kd.R_lt (by (with_reducible repeat (first | apply Kd.R_alloc | apply Kd.R_drewN | apply Kd.R_drew)); exact HO109.out))) (below_size (by repeat (first | (with_reducible first | exact HB.out | apply below_alloc | apply pw_below_drewN | apply below_drew1) | exact HB.out)))); have n2_ := Aside0.mk (below_step (by repeat (first | (with_reducible first | exact HB.out | apply below_alloc | apply pw_below_drewN | apply below_drew1) | exact HB.out)) hb); clear HO109; clear HB; have HO109 := n0_; have HO112 := n1_; have HB := n2_; clear n0_ n1_ n2_; (try clear hb); (try clear hb2); (try clear hk); (try clear hi); (try clear ho0)) | ((with_reducible refine gate_dst (N := 49) rfl ?_); (try (refine gate_guard (by rfl) ?_; dsimp only)); refine Kd.R_lit (Kd.int .i64) _ 3 ?hg (N := 49) ?hd (xs := ([] : List Int)) (inner := []) (ok := fun _ => True) (okp := fun _ => True) ?hr ?hp (fun _ hk => hk) trivial (Below.refl _ _) (Nat.le_refl _) (by simp) ?_; (case hd => rfl); (case hg => rfl); (case hr => first | (go_simp; done) | (go_simp; rfl)); (case hp => exact (Reps.none _ _)); intro v114 w15 ho16 hb hg_ hnew_; clear hg_ hnew_; (first | rw [← Ny113.out] at ho16 | (simp only [Int.reduceToNat] at ho16; rw [← Ny113.out] at ho16)); have n0_ := Aside0.mk (Kd.R_elder' (by (with_reducible repeat (first | apply Kd.R_alloc | apply Kd.R_drewN | apply Kd.R_drew)); exact HO109.out) (Kd.R_base ho16) hb); have n1_ := Aside0.mk (Kd.R_elder' (by (with_reducible repeat (first | apply Kd.R_alloc | apply Kd.R_drewN | apply Kd.R_drew)); exact HO112.out) (Kd.R_base ho16) hb); have n2_ := Aside0.mk (Kd.R_lower (Kd.R_new' (Kd.R_new' ho16 (Kd.R_lt (by (with_reducible repeat (first | apply Kd.R_alloc | apply Kd.R_drewN | apply Kd.R_drew)); exact HO109.out))) (Kd.R_lt (by (with_reducible repeat (first | apply Kd.R_alloc | apply Kd.R_drewN | apply Kd.R_drew)); exact HO112.out))) (below_size (by repeat (first | (with_reducible first | exact HB.out | apply below_alloc | apply pw_below_drewN | apply below_drew1) | exact HB.out)))); have n3_ := Aside0.mk (below_step (by repeat (first | (with_reducible first | exact HB.out | apply below_alloc | apply pw_below_drewN | apply below_drew1) | exact HB.out)) hb); clear HO109; clear HO112; clear HB; have HO109 := n0_; have HO112 := n1_; have HO115 := n2_; have HB := n3_; clear n0_ n1_ n2_ n3_; clear hb ho16))
    go_loopg [12, 13, 14] k (fun kq v12 v13 v14 w' => ∃ (x12_1 : List Int) (x13_1 : List Int) (x14_1 : List Int), Aside0 (spec_l6Merge.l1 kq l0 a3 x12_1 x13_1 x14_1 = some r) ∧ Aside0 (kq ≤ k) ∧ Aside0 (Kd.Q (Kd.int .i64) 3 w' w.heap.size (fun k_ => some k_ ≠ (v13 : Value).ownBlock ∧ some k_ ≠ (v14 : Value).ownBlock) v12 x12_1) ∧ Aside0 (Kd.Q (Kd.int .i64) 3 w' w.heap.size (fun k_ => some k_ ≠ (v12 : Value).ownBlock ∧ some k_ ≠ (v14 : Value).ownBlock) v13 x13_1) ∧ Aside0 (Kd.R (Kd.int .i64) 3 w' w.heap.size (fun k_ => some k_ ≠ (v12 : Value).ownBlock ∧ some k_ ≠ (v13 : Value).ownBlock) v14 x14_1) ∧ Aside0 (Below w.heap.size w w'))
    case atStart => exact ⟨(t107), (t110), (y113), H', ⟨Nat.le_refl _⟩, ⟨Kd.Q_of_R (by (with_reducible repeat (first | apply Kd.R_alloc | apply Kd.R_drewN | apply Kd.R_drew)); exact Kd.R_mono HO109.out (fun _ hk => ⟨hk.1.2, hk.2⟩))⟩, ⟨Kd.Q_of_R (by (with_reducible repeat (first | apply Kd.R_alloc | apply Kd.R_drewN | apply Kd.R_drew)); exact Kd.R_mono HO112.out (fun _ hk => ⟨hk.1.2, hk.2⟩))⟩, ⟨by (with_reducible repeat (first | apply Kd.R_alloc | apply Kd.R_drewN | apply Kd.R_drew)); exact Kd.R_mono HO115.out (fun _ hk => ⟨hk.1.2, hk.2⟩)⟩, ⟨by repeat (first | (with_reducible first | exact HB.out | apply below_alloc | apply pw_below_drewN | apply below_drew1) | exact HB.out)⟩⟩
    case round =>
      clear H'
      try clear p2
      try clear c3
      try clear c5
      try clear c5b0
      try clear p6
      try clear c8
      try clear c8b0
      try clear c9
      try clear p2
      try clear p6
      obtain ⟨x12_1, x13_1, x14_1, HA, HK1, HO_12, HO_13, HO_14, HB⟩ := hrel
      cases gk with
      | zero => exact absurd HA.out (by simp [spec_l6Merge.l1])
      | succ k1 =>
        have H := HA.out
        clear HA
        simp only [spec_l6Merge.l1] at H
        by_cases c17 : (wrap64 ((x12_1.length : Int) + (x13_1.length : Int))) > 0
        · rw [if_pos c17] at H
          have c17b0 : decide (0 < (wrap64 ((x12_1.length : Int) + (x13_1.length : Int)))) = true := decide_eq_true c17
          clear c17
          have HC18 := Aside0.mk H
          clear H
          obtain ⟨Ao19, co19, eo19, _⟩ := Kd.Q_slice HO_12.out
          subst eo19
          obtain ⟨Ao20, co20, eo20, _⟩ := Kd.Q_slice HO_13.out
          subst eo20
          go_upto_region 14 with (fail)
          go_cut [66] (fun v66 wc => ∃ (kq : Nat) (x66_17 : Bool), v66 = .bool x66_17 ∧ Aside0 (spec_l6Merge.j2 kq l0 a3 x12_1 x13_1 x14_1 ((x12_1.length : Int) == 0) x66_17 = some r) ∧ Aside0 (kq ≤ k1) ∧ Aside0 (Kd.Q (Kd.int .i64) 3 wc w.heap.size (fun k_ => some k_ ≠ ((.slice Ao20 x13_1.length co20) : Value).ownBlock ∧ some k_ ≠ (u14 : Value).ownBlock) (.slice Ao19 x12_1.length co19) x12_1) ∧ Aside0 (Kd.Q (Kd.int .i64) 3 wc w.heap.size (fun k_ => some k_ ≠ ((.slice Ao19 x12_1.length co19) : Value).ownBlock ∧ some k_ ≠ (u14 : Value).ownBlock) (.slice Ao20 x13_1.length co20) x13_1) ∧ Aside0 (Kd.R (Kd.int .i64) 3 wc w.heap.size (fun k_ => some k_ ≠ ((.slice Ao19 x12_1.length co19) : Value).ownBlock ∧ some k_ ≠ ((.slice Ao20 x13_1.length co20) : Value).ownBlock) u14 x14_1) ∧ Aside0 (Below w.heap.size w wc))
          case first =>
            have H := HC18.out
            clear HC18
            by_cases c21 : (x12_1.length : Int) > 0
            · rw [if_pos c21] at H
              have c21b0 : decide (0 < (x12_1.length : Int)) = true := decide_eq_true c21
              have c21b1 : decide (0 < x12_1.length) = true := decide_eq_true (by omega)
              clear c21
              (first | rw [c21b0] | (simp only [i64_w, i32_w]; rw [c21b0]) | skip)
              have H' := Aside0.mk H
              clear H
              go_wp2
              go_meet
              case rel => exact ⟨_, (decide ((x13_1.length : Int) > 0)), (by first | rfl | (simp; done) | (simp [*]; done)), H', ⟨by have := HK1.out; first | omega | exact Nat.le_refl _⟩, ⟨by (with_reducible repeat (first | apply Kd.Q_alloc | apply Kd.Q_drewN | apply Kd.Q_drew)); exact HO_12.out⟩, ⟨by (with_reducible repeat (first | apply Kd.Q_alloc | apply Kd.Q_drewN | apply Kd.Q_drew)); exact HO_13.out⟩, ⟨by (with_reducible repeat (first | apply Kd.R_alloc | apply Kd.R_drewN | apply Kd.R_drew)); exact HO_14.out⟩, ⟨by repeat (first | (with_reducible first | exact HB.out | apply below_alloc | apply pw_below_drewN | apply below_drew1) | exact HB.out)⟩⟩
            · rw [if_neg c21] at H
              have c21b0 : decide (0 < (x12_1.length : Int)) = false := decide_eq_false c21
              have c21b1 : decide (0 < x12_1.length) = false := decide_eq_false (by omega)
              clear c21
              (first | rw [c21b0] | (simp only [i64_w, i32_w]; rw [c21b0]) | skip)
              have H' := Aside0.mk H
              clear H
              go_wp2
              go_meet
              case rel => exact ⟨_, (false), (by first | rfl | (simp; done) | (simp [*]; done)), H', ⟨by have := HK1.out; first | omega | exact Nat.le_refl _⟩, ⟨by (with_reducible repeat (first | apply Kd.Q_alloc | apply Kd.Q_drewN | apply Kd.Q_drew)); exact HO_12.out⟩, ⟨by (with_reducible repeat (first | apply Kd.Q_alloc | apply Kd.Q_drewN | apply Kd.Q_drew)); exact HO_13.out⟩, ⟨by (with_reducible repeat (first | apply Kd.R_alloc | apply Kd.R_drewN | apply Kd.R_drew)); exact HO_14.out⟩, ⟨by repeat (first | (with_reducible first | exact HB.out | apply below_alloc | apply pw_below_drewN | apply below_drew1) | exact HB.out)⟩⟩
          case rest =>
            clear HC18
            try clear c1
            try clear c2
            try clear p2
            try clear c3
            try clear c5
            try clear c5b0
            try clear p6
            try clear c8
            try clear c8b0
            try clear c9
            try clear c17
            try clear c17b0
            try clear c21
            try clear c21b0
            try clear c21b1
            try clear p2
            try clear p6
            obtain ⟨kq, x66_17, rfl, HA, HJ17, HO_12, HO_13, HO_14, HB⟩ := hcut
            cases kq with
            | zero => exact absurd HA.out (by simp [spec_l6Merge.j2])
            | succ kj17 =>
              have H := HA.out
              clear HA
              simp only [spec_l6Merge.j2] at H
              by_cases c22 : x66_17 = true
              · subst c22
                have H1 : (if 0 < (x12_1.length : Int) then (if 0 ≤ (wrap64 ((rd x12_1 0) - 1)) then (if (wrap64 ((rd x12_1 0) - 1)) < (l0.length : Int) then (if 0 < (x13_1.length : Int) then (if 0 ≤ (wrap64 ((rd x13_1 0) - 1)) then (if (wrap64 ((rd x13_1 0) - 1)) < (l0.length : Int) then (if (rd l0 (wrap64 ((rd x13_1 0) - 1))) < (rd l0 (wrap64 ((rd x12_1 0) - 1))) then (if a3 = true then (if (rd l0 (wrap64 ((rd x13_1 0) - 1))) > (rd l0 (wrap64 ((rd x12_1 0) - 1))) then (if x14_1.length < 17592186044416 then (if 1 ≤ (x13_1.length : Int) then (spec_l6Merge.l1 kj17 l0 a3 x12_1 (x13_1.drop (1 : Int).toNat) (x14_1 ++ [rd x13_1 0])) else (none)) else (none)) else (if x14_1.length < 17592186044416 then (if 1 ≤ (x12_1.length : Int) then (spec_l6Merge.l1 kj17 l0 a3 (x12_1.drop (1 : Int).toNat) x13_1 (x14_1 ++ [rd x12_1 0])) else (none)) else (none))) else (if x14_1.length < 17592186044416 then (if 1 ≤ (x13_1.length : Int) then (spec_l6Merge.l1 kj17 l0 a3 x12_1 (x13_1.drop (1 : Int).toNat) (x14_1 ++ [rd x13_1 0])) else (none)) else (none))) else (if (rd l0 (wrap64 ((rd x13_1 0) - 1))) > (rd l0 (wrap64 ((rd x12_1 0) - 1))) then (if a3 = true then (if x14_1.length < 17592186044416 then (if 1 ≤ (x13_1.length : Int) then (spec_l6Merge.l1 kj17 l0 a3 x12_1 (x13_1.drop (1 : Int).toNat) (x14_1 ++ [rd x13_1 0])) else (none)) else (none)) else (if x14_1.length < 17592186044416 then (if 1 ≤ (x12_1.length : Int) then (spec_l6Merge.l1 kj17 l0 a3 (x12_1.drop (1 : Int).toNat) x13_1 (x14_1 ++ [rd x12_1 0])) else (none)) else (none))) else (if x14_1.length < 17592186044416 then (if 1 ≤ (x12_1.length : Int) then (spec_l6Merge.l1 kj17 l0 a3 (x12_1.drop (1 : Int).toNat) x13_1 (x14_1 ++ [rd x12_1 0])) else (none)) else (none)))) else (none)) else (none)) else (none)) else (none)) else (none)) else (none)) = some r := by rw [if_pos rfl] at H; exact H
                clear H
                have H := H1
                clear H1
                by_cases c23 : 0 < (x12_1.length : Int)
                · rw [if_pos c23] at H
                  have c23b0 : decide (0 < (x12_1.length : Int)) = true := decide_eq_true c23
                  have c23b1 : decide (0 < x12_1.length) = true := decide_eq_true (by omega)
                  clear c23
                  obtain ⟨ji24, hji24⟩ : ∃ j_ : Int, (wrap64 ((rd x12_1 0) - 1)) = j_ := ⟨_, rfl⟩
                  replace H : (if 0 ≤ (ji24) then (if (ji24) < (l0.length : Int) then (if 0 < (x13_1.length : Int) then (if 0 ≤ (wrap64 ((rd x13_1 0) - 1)) then (if (wrap64 ((rd x13_1 0) - 1)) < (l0.length : Int) then (if (rd l0 (wrap64 ((rd x13_1 0) - 1))) < (rd l0 (ji24)) then (if a3 = true then (if (rd l0 (wrap64 ((rd x13_1 0) - 1))) > (rd l0 (ji24)) then (if x14_1.length < 17592186044416 then (if 1 ≤ (x13_1.length : Int) then (spec_l6Merge.l1 kj17 l0 a3 x12_1 (x13_1.drop (1 : Int).toNat) (x14_1 ++ [rd x13_1 0])) else (none)) else (none)) else (if x14_1.length < 17592186044416 then (if 1 ≤ (x12_1.length : Int) then (spec_l6Merge.l1 kj17 l0 a3 (x12_1.drop (1 : Int).toNat) x13_1 (x14_1 ++ [rd x12_1 0])) else (none)) else (none))) else (if x14_1.length < 17592186044416 then (if 1 ≤ (x13_1.length : Int) then (spec_l6Merge.l1 kj17 l0 a3 x12_1 (x13_1.drop (1 : Int).toNat) (x14_1 ++ [rd x13_1 0])) else (none)) else (none))) else (if (rd l0 (wrap64 ((rd x13_1 0) - 1))) > (rd l0 (ji24)) then (if a3 = true then (if x14_1.length < 17592186044416 then (if 1 ≤ (x13_1.length : Int) then (spec_l6Merge.l1 kj17 l0 a3 x12_1 (x13_1.drop (1 : Int).toNat) (x14_1 ++ [rd x13_1 0])) else (none)) else (none)) else (if x14_1.length < 17592186044416 then (if 1 ≤ (x12_1.length : Int) then (spec_l6Merge.l1 kj17 l0 a3 (x12_1.drop (1 : Int).toNat) x13_1 (x14_1 ++ [rd x12_1 0])) else (none)) else (none))) else (if x14_1.length < 17592186044416 then (if 1 ≤ (x12_1.length : Int) then (spec_l6Merge.l1 kj17 l0 a3 (x12_1.drop (1 : Int).toNat) x13_1 (x14_1 ++ [rd x12_1 0])) else (none)) else (none)))) else (none)) else (none)) else (none)) else (none)) else (none)) = some r := by first | (rw [hji24] at H; exact H) | (simp only [hji24] at H ⊢; exact H)
                  have hji24w : (IntKind.i64.wrap ((rd x12_1 0) - 1)) = ji24 := (i64_w _).trans hji24
                  by_cases c25 : 0 ≤ (ji24)
                  · rw [if_pos c25] at H
                    have c25b0 : decide (0 ≤ (ji24)) = true := decide_eq_true c25
                    clear c25
                    by_cases c26 : (ji24) < (l0.length : Int)
                    · rw [if_pos c26] at H
                      have c26b0 : decide ((ji24) < (l0.length : Int)) = true := decide_eq_true c26
                      clear c26
                      by_cases c27 : 0 < (x13_1.length : Int)
                      · rw [if_pos c27] at H
                        have c27b0 : decide (0 < (x13_1.length : Int)) = true := decide_eq_true c27
                        have c27b1 : decide (0 < x13_1.length) = true := decide_eq_true (by omega)
                        clear c27
                        obtain ⟨ji28, hji28⟩ : ∃ j_ : Int, (wrap64 ((rd x13_1 0) - 1)) = j_ := ⟨_, rfl⟩
                        replace H : (if 0 ≤ (ji28) then (if (ji28) < (l0.length : Int) then (if (rd l0 (ji28)) < (rd l0 (ji24)) then (if a3 = true then (if (rd l0 (ji28)) > (rd l0 (ji24)) then (if x14_1.length < 17592186044416 then (if 1 ≤ (x13_1.length : Int) then (spec_l6Merge.l1 kj17 l0 a3 x12_1 (x13_1.drop (1 : Int).toNat) (x14_1 ++ [rd x13_1 0])) else (none)) else (none)) else (if x14_1.length < 17592186044416 then (if 1 ≤ (x12_1.length : Int) then (spec_l6Merge.l1 kj17 l0 a3 (x12_1.drop (1 : Int).toNat) x13_1 (x14_1 ++ [rd x12_1 0])) else (none)) else (none))) else (if x14_1.length < 17592186044416 then (if 1 ≤ (x13_1.length : Int) then (spec_l6Merge.l1 kj17 l0 a3 x12_1 (x13_1.drop (1 : Int).toNat) (x14_1 ++ [rd x13_1 0])) else (none)) else (none))) else (if (rd l0 (ji28)) > (rd l0 (ji24)) then (if a3 = true then (if x14_1.length < 17592186044416 then (if 1 ≤ (x13_1.length : Int) then (spec_l6Merge.l1 kj17 l0 a3 x12_1 (x13_1.drop (1 : Int).toNat) (x14_1 ++ [rd x13_1 0])) else (none)) else (none)) else (if x14_1.length < 17592186044416 then (if 1 ≤ (x12_1.length : Int) then (spec_l6Merge.l1 kj17 l0 a3 (x12_1.drop (1 : Int).toNat) x13_1 (x14_1 ++ [rd x12_1 0])) else (none)) else (none))) else (if x14_1.length < 17592186044416 then (if 1 ≤ (x12_1.length : Int) then (spec_l6Merge.l1 kj17 l0 a3 (x12_1.drop (1 : Int).toNat) x13_1 (x14_1 ++ [rd x12_1 0])) else (none)) else (none)))) else (none)) else (none)) = some r := by first | (rw [hji28] at H; exact H) | (simp only [hji28] at H ⊢; exact H)
                        have hji28w : (IntKind.i64.wrap ((rd x13_1 0) - 1)) = ji28 := (i64_w _).trans hji28
                        by_cases c29 : 0 ≤ (ji28)
                        · rw [if_pos c29] at H
                          have c29b0 : decide (0 ≤ (ji28)) = true := decide_eq_true c29
                          clear c29
                          by_cases c30 : (ji28) < (l0.length : Int)
                          · rw [if_pos c30] at H
                            have c30b0 : decide ((ji28) < (l0.length : Int)) = true := decide_eq_true c30
                            clear c30
                            by_cases c31 : (rd l0 (ji28)) < (rd l0 (ji24))
                            · rw [if_pos c31] at H
                              have c31b0 : decide ((rd l0 (ji28)) < (rd l0 (ji24))) = true := decide_eq_true c31
                              clear c31
                              by_cases c32 : a3 = true
                              · subst c32
                                have H1 : (if (rd l0 (ji28)) > (rd l0 (ji24)) then (if x14_1.length < 17592186044416 then (if 1 ≤ (x13_1.length : Int) then (spec_l6Merge.l1 kj17 l0 true x12_1 (x13_1.drop (1 : Int).toNat) (x14_1 ++ [rd x13_1 0])) else (none)) else (none)) else (if x14_1.length < 17592186044416 then (if 1 ≤ (x12_1.length : Int) then (spec_l6Merge.l1 kj17 l0 true (x12_1.drop (1 : Int).toNat) x13_1 (x14_1 ++ [rd x12_1 0])) else (none)) else (none))) = some r := by rw [if_pos rfl] at H; exact H
                                clear H
                                have H := H1
                                clear H1
                                by_cases c33 : (rd l0 (ji28)) > (rd l0 (ji24))
                                · rw [if_pos c33] at H
                                  have c33b0 : decide ((rd l0 (ji24)) < (rd l0 (ji28))) = true := decide_eq_true c33
                                  clear c33
                                  by_cases c34 : x14_1.length < 17592186044416
                                  · rw [if_pos c34] at H
                                    have LMc34 := Aside0.mk c34
                                    clear c34
                                    obtain ⟨y121, hy121⟩ : ∃ y_ : List Int, y_ = (x14_1 ++ [rd x13_1 0]) := ⟨_, rfl⟩
                                    replace H : (if 1 ≤ (x13_1.length : Int) then (spec_l6Merge.l1 kj17 l0 true x12_1 (x13_1.drop (1 : Int).toNat) y121) else (none)) = some r := by first | (rw [hy121]; with_reducible exact H) | (have H2_ := (Option.bind_some _ _).symm.trans H; rw [hy121]; with_reducible exact H2_) | (have H2_ := (Option.bind_some _ _).symm.trans H; with_reducible exact H2_) | with_reducible exact H | (rw [hy121]; exact H) | exact H
                                    have Ny121 := Aside0.mk hy121
                                    clear hy121
                                    by_cases c35 : 1 ≤ (x13_1.length : Int)
                                    · rw [if_pos c35] at H
                                      have c35b0 := eq_true c35
                                      have c35b1 : decide (1 ≤ (x13_1.length : Int)) = true := decide_eq_true c35
                                      clear c35
                                      obtain ⟨y124, hy124⟩ : ∃ y_ : List Int, y_ = (x13_1.drop (1 : Int).toNat) := ⟨_, rfl⟩
                                      replace H : (spec_l6Merge.l1 kj17 l0 true x12_1 y124 y121) = some r := by first | (rw [hy124]; with_reducible exact H) | (have H2_ := (Option.bind_some _ _).symm.trans H; rw [hy124]; with_reducible exact H2_) | (have H2_ := (Option.bind_some _ _).symm.trans H; with_reducible exact H2_) | with_reducible exact H | (rw [hy124]; exact H) | exact H
                                      have Ny124 := Aside0.mk hy124
                                      clear hy124
                                      have H' := Aside0.mk H
                                      clear H
                                      have p116 : 0 ≤ (0 : Int) := (by omega)
                                      have q116 : 0 < (x12_1.length : Int) := of_decide_eq_true (by first | (with_reducible assumption) | assumption)
                                      obtain ⟨ad116, e116, hx116_0⟩ := Kd.at_int (Kd.Q_reads' HO_12.out).2.2 0 p116 q116
                                      cases e116
                                      have qi116 : (0 < x12_1.length) = True := eq_true (by omega)
                                      (try rw [show ((0 : Int)).toNat = 0 from rfl] at hx116_0)
                                      (try rw [Addr.add_zero'] at hx116_0)
                                      replace p116 := eq_true p116
                                      replace q116 := eq_true q116
                                      have p117 : 0 ≤ ((ji24) : Int) := of_decide_eq_true (by first | (with_reducible assumption) | assumption)
                                      have q117 : (ji24) < (l0.length : Int) := of_decide_eq_true (by first | (with_reducible assumption) | assumption)
                                      obtain ⟨ad117, e117, hx117_0⟩ := Kd.at_int HR0.out (ji24) p117 q117
                                      cases e117
                                      replace hx117_0 := (HB.out.cell (World.block_lt_of_cell? w _ hx117_0)).trans hx117_0
                                      replace p117 := eq_true p117
                                      replace q117 := eq_true q117
                                      have p118 : 0 ≤ (0 : Int) := (by omega)
                                      have q118 : 0 < (x13_1.length : Int) := of_decide_eq_true (by first | (with_reducible assumption) | assumption)
                                      obtain ⟨ad118, e118, hx118_0⟩ := Kd.at_int (Kd.Q_reads' HO_13.out).2.2 0 p118 q118
                                      cases e118
                                      have qi118 : (0 < x13_1.length) = True := eq_true (by omega)
                                      (try rw [show ((0 : Int)).toNat = 0 from rfl] at hx118_0)
                                      (try rw [Addr.add_zero'] at hx118_0)
                                      replace p118 := eq_true p118
                                      replace q118 := eq_true q118
                                      have p119 : 0 ≤ ((ji28) : Int) := of_decide_eq_true (by first | (with_reducible assumption) | assumption)
                                      have q119 : (ji28) < (l0.length : Int) := of_decide_eq_true (by first | (with_reducible assumption) | assumption)
                                      obtain ⟨ad119, e119, hx119_0⟩ := Kd.at_int HR0.out (ji28) p119 q119
                                      obtain rfl : ad117 = ad119 := (by injection e119)
                                      replace hx119_0 := (HB.out.cell (World.block_lt_of_cell? w _ hx119_0)).trans hx119_0
                                      replace p119 := eq_true p119
                                      replace q119 := eq_true q119
                                      have p120 : 0 ≤ (0 : Int) := (by omega)
                                      have q120 : 0 < (x13_1.length : Int) := of_decide_eq_true (by first | (with_reducible assumption) | assumption)
                                      obtain ⟨ad120, e120, hx120_0⟩ := Kd.at_int (Kd.Q_reads' HO_13.out).2.2 0 p120 q120
                                      obtain rfl : ad118 = ad120 := (by injection e120)
                                      have qi120 : (0 < x13_1.length) = True := eq_true (by omega)
                                      (try rw [show ((0 : Int)).toNat = 0 from rfl] at hx120_0)
                                      (try rw [Addr.add_zero'] at hx120_0)
                                      replace p120 := eq_true p120
                                      replace q120 := eq_true q120
                                      go_wp2_with (first | ((with_reducible refine gate_builtin (b := .append) (xs := #[.tmp 97, .tmp 101]) rfl ?_); (try (refine gate_guard (by rfl) ?_; dsimp only)); at_builtin; refine Kd.R_append (Kd.int .i64) (w0 := w) w.heap.size rfl (.tmp 97) (.tmp 101) 22 3 (.int .i64 0) 8 rfl Try.underlying22 info3 rfl (by decide) (by omega) u14 x14_1 (rd x13_1 0) [.int .i64 (rd x13_1 0)] (fun k_ => some k_ ≠ (.slice (some ad116) x12_1.length co19 : Value).ownBlock ∧ some k_ ≠ (.slice (some ad118) x13_1.length co20 : Value).ownBlock) (fun _ => False) rfl rfl ?aP (fun _ hk => hk.elim) ?aF ?aO ?aB ?aS ?aL ?_; (case aP => exact rfl); (case aB => exact (by repeat (first | (with_reducible first | exact HB.out | apply below_alloc | apply pw_below_drewN | apply below_drew1) | exact HB.out))); (case aF => exact (fun k_ hk => ⟨Kd.fresh' (Kd.Q_lt (by (with_reducible repeat (first | apply Kd.Q_alloc | apply Kd.Q_drewN | apply Kd.Q_drew)); exact HO_12.out)) k_ hk, Kd.fresh' (Kd.Q_lt (by (with_reducible repeat (first | apply Kd.Q_alloc | apply Kd.Q_drewN | apply Kd.Q_drew)); exact HO_13.out)) k_ hk⟩)); (case aO => exact (by (with_reducible repeat (first | apply Kd.R_alloc | apply Kd.R_drewN | apply Kd.R_drew)); exact HO_14.out)); (case aS => exact (below_size (by repeat (first | (with_reducible first | exact HB.out | apply below_alloc | apply pw_below_drewN | apply below_drew1) | exact HB.out)))); (case aL => have := LMc34.out; omega); intro v122 w36 ho hb hg hat; rw [← Ny121.out] at ho; have n0_ := Aside0.mk (Kd.Q_after (ok := (fun k_ => some k_ ≠ (.slice (some ad118) x13_1.length co20 : Value).ownBlock)) (by (with_reducible repeat (first | apply Kd.Q_alloc | apply Kd.Q_drewN | apply Kd.Q_drew)); exact HO_12.out) hg hat); have n1_ := Aside0.mk (Kd.Q_after (ok := (fun k_ => some k_ ≠ (.slice (some ad116) x12_1.length co19 : Value).ownBlock)) (by (with_reducible repeat (first | apply Kd.Q_alloc | apply Kd.Q_drewN | apply Kd.Q_drew)); exact HO_13.out) hg hat); have n2_ := Aside0.mk (hb); have n3_ := Aside0.mk (ho); clear HO_12; clear HO_13; clear HB; clear HO_14; have HO_12 := n0_; have HO_13 := n1_; have HB := n2_; have HO123 := n3_; clear n0_ n1_ n2_ n3_; clear ho hb hg hat; have q37 : (1 : Int) ≤ ((x13_1.length : Int) : Int) := of_decide_eq_true (by first | (with_reducible assumption) | assumption); obtain ⟨i037, hi037, _, hsz37, _⟩ := info_parts info3; have hcut37 := cut_from (P := Try.prog) 22 3 .i64 Try.underlying22 hi037 1 hsz37 (some ad118) x13_1.length co20 1 (by omega) q37; have hr37 := Kd.Q_drop (k := (1 : Int).toNat) HO_13.out (by omega); obtain ⟨A37, hA37⟩ : ∃ A1, A1 = (if co20 = (1 : Int).toNat then (some ad118) else ((some ad118) : Option Addr).map (·.add ((1 : Int).toNat * 1))) := ⟨_, rfl⟩; obtain ⟨c37, hc37⟩ : ∃ c1, c1 = co20 - (1 : Int).toNat := ⟨_, rfl⟩; have hy37 : y124.length = x13_1.length - (1 : Int).toNat := (by rw [Ny124.out, List.length_drop]); rw [← Ny124.out] at hr37; rw [← hy37, ← hA37, ← hc37] at hcut37; replace hr37 : Kd.Q (Kd.int .i64) 3 w36 w.heap.size (fun k_ => some k_ ≠ (.slice (some ad116) x12_1.length co19 : Value).ownBlock ∧ some k_ ≠ (v122 : Value).ownBlock) (.slice A37 y124.length c37) y124 := (by rw [hA37, hc37, hy37]; exact hr37); have HE37 : Aside0 ((Value.slice A37 y124.length c37).ownBlock = (.slice (some ad118) x13_1.length co20 : Value).ownBlock) := ⟨by rw [hA37]; split <;> (cases ((some ad118) : Option Addr) <;> rfl)⟩; clear hy37 hi037 hsz37 HO_13 hA37 hc37; have HO126 := Aside0.mk hr37; clear hr37; replace q37 := eq_true q37; have n_ := Aside0.mk (Kd.Q_mono (ok' := fun k_ => (some k_ ≠ (.slice A37 y124.length c37 : Value).ownBlock ∧ some k_ ≠ (v122 : Value).ownBlock)) HO_12.out (fun k_ hk => ⟨(by rw [HE37.out]; exact hk.1), hk.2⟩)); clear HO_12; have HO_12 := n_; clear n_; have n_ := Aside0.mk (Kd.R_mono (ok' := fun k_ => (some k_ ≠ (.slice (some ad116) x12_1.length co19 : Value).ownBlock ∧ some k_ ≠ (.slice A37 y124.length c37 : Value).ownBlock)) HO123.out (fun k_ hk => ⟨hk.1, (by rw [HE37.out]; exact hk.2)⟩)); clear HO123; have HO123 := n_; clear n_))
                                      go_roundg kj17
                                      case measure => have := HK1.out; have := HJ17.out; omega
                                      case rel => exact ⟨(x12_1), (y124), (y121), H', ⟨by have := HK1.out; have := HJ17.out; omega⟩, ⟨by (with_reducible repeat (first | apply Kd.Q_alloc | apply Kd.Q_drewN | apply Kd.Q_drew)); exact HO_12.out⟩, ⟨by (with_reducible repeat (first | apply Kd.Q_alloc | apply Kd.Q_drewN | apply Kd.Q_drew)); exact HO126.out⟩, ⟨by (with_reducible repeat (first | apply Kd.R_alloc | apply Kd.R_drewN | apply Kd.R_drew)); exact HO123.out⟩, ⟨by repeat (first | (with_reducible first | exact HB.out | apply below_alloc | apply pw_below_drewN | apply below_drew1) | exact HB.out)⟩⟩
                                    · rw [if_neg c35] at H
                                      exact absurd H (by simp)
                                  · rw [if_neg c34] at H
                                    exact absurd H (by simp)
                                · rw [if_neg c33] at H
                                  have c33b0 : decide ((rd l0 (ji24)) < (rd l0 (ji28))) = false := decide_eq_false c33
                                  clear c33
                                  by_cases c38 : x14_1.length < 17592186044416
                                  · rw [if_pos c38] at H
                                    have LMc38 := Aside0.mk c38
                                    clear c38
                                    obtain ⟨y128, hy128⟩ : ∃ y_ : List Int, y_ = (x14_1 ++ [rd x12_1 0]) := ⟨_, rfl⟩
                                    replace H : (if 1 ≤ (x12_1.length : Int) then (spec_l6Merge.l1 kj17 l0 true (x12_1.drop (1 : Int).toNat) x13_1 y128) else (none)) = some r := by first | (rw [hy128]; with_reducible exact H) | (have H2_ := (Option.bind_some _ _).symm.trans H; rw [hy128]; with_reducible exact H2_) | (have H2_ := (Option.bind_some _ _).symm.trans H; with_reducible exact H2_) | with_reducible exact H | (rw [hy128]; exact H) | exact H
                                    have Ny128 := Aside0.mk hy128
                                    clear hy128
                                    by_cases c39 : 1 ≤ (x12_1.length : Int)
                                    · rw [if_pos c39] at H
                                      have c39b0 := eq_true c39
                                      have c39b1 : decide (1 ≤ (x12_1.length : Int)) = true := decide_eq_true c39
                                      clear c39
                                      obtain ⟨y131, hy131⟩ : ∃ y_ : List Int, y_ = (x12_1.drop (1 : Int).toNat) := ⟨_, rfl⟩
                                      replace H : (spec_l6Merge.l1 kj17 l0 true y131 x13_1 y128) = some r := by first | (rw [hy131]; with_reducible exact H) | (have H2_ := (Option.bind_some _ _).symm.trans H; rw [hy131]; with_reducible exact H2_) | (have H2_ := (Option.bind_some _ _).symm.trans H; with_reducible exact H2_) | with_reducible exact H | (rw [hy131]; exact H) | exact H
                                      have Ny131 := Aside0.mk hy131
                                      clear hy131
                                      have H' := Aside0.mk H
                                      clear H
                                      have p116 : 0 ≤ (0 : Int) := (by omega)
                                      have q116 : 0 < (x12_1.length : Int) := of_decide_eq_true (by first | (with_reducible assumption) | assumption)
                                      obtain ⟨ad116, e116, hx116_0⟩ := Kd.at_int (Kd.Q_reads' HO_12.out).2.2 0 p116 q116
                                      cases e116
                                      have qi116 : (0 < x12_1.length) = True := eq_true (by omega)
                                      (try rw [show ((0 : Int)).toNat = 0 from rfl] at hx116_0)
                                      (try rw [Addr.add_zero'] at hx116_0)
                                      replace p116 := eq_true p116
                                      replace q116 := eq_true q116
                                      have p117 : 0 ≤ ((ji24) : Int) := of_decide_eq_true (by first | (with_reducible assumption) | assumption)
                                      have q117 : (ji24) < (l0.length : Int) := of_decide_eq_true (by first | (with_reducible assumption) | assumption)
                                      obtain ⟨ad117, e117, hx117_0⟩ := Kd.at_int HR0.out (ji24) p117 q117
                                      cases e117
                                      replace hx117_0 := (HB.out.cell (World.block_lt_of_cell? w _ hx117_0)).trans hx117_0
                                      replace p117 := eq_true p117
                                      replace q117 := eq_true q117
                                      have p118 : 0 ≤ (0 : Int) := (by omega)
                                      have q118 : 0 < (x13_1.length : Int) := of_decide_eq_true (by first | (with_reducible assumption) | assumption)
                                      obtain ⟨ad118, e118, hx118_0⟩ := Kd.at_int (Kd.Q_reads' HO_13.out).2.2 0 p118 q118
                                      cases e118
                                      have qi118 : (0 < x13_1.length) = True := eq_true (by omega)
                                      (try rw [show ((0 : Int)).toNat = 0 from rfl] at hx118_0)
                                      (try rw [Addr.add_zero'] at hx118_0)
                                      replace p118 := eq_true p118
                                      replace q118 := eq_true q118
                                      have p119 : 0 ≤ ((ji28) : Int) := of_decide_eq_true (by first | (with_reducible assumption) | assumption)
                                      have q119 : (ji28) < (l0.length : Int) := of_decide_eq_true (by first | (with_reducible assumption) | assumption)
                                      obtain ⟨ad119, e119, hx119_0⟩ := Kd.at_int HR0.out (ji28) p119 q119
                                      obtain rfl : ad117 = ad119 := (by injection e119)
                                      replace hx119_0 := (HB.out.cell (World.block_lt_of_cell? w _ hx119_0)).trans hx119_0
                                      replace p119 := eq_true p119
                                      replace q119 := eq_true q119
                                      have p127 : 0 ≤ (0 : Int) := (by omega)
                                      have q127 : 0 < (x12_1.length : Int) := of_decide_eq_true (by first | (with_reducible assumption) | assumption)
                                      obtain ⟨ad127, e127, hx127_0⟩ := Kd.at_int (Kd.Q_reads' HO_12.out).2.2 0 p127 q127
                                      obtain rfl : ad116 = ad127 := (by injection e127)
                                      have qi127 : (0 < x12_1.length) = True := eq_true (by omega)
                                      (try rw [show ((0 : Int)).toNat = 0 from rfl] at hx127_0)
                                      (try rw [Addr.add_zero'] at hx127_0)
                                      replace p127 := eq_true p127
                                      replace q127 := eq_true q127
                                      go_wp2_with (first | ((with_reducible refine gate_builtin (b := .append) (xs := #[.tmp 105, .tmp 109]) rfl ?_); (try (refine gate_guard (by rfl) ?_; dsimp only)); at_builtin; refine Kd.R_append (Kd.int .i64) (w0 := w) w.heap.size rfl (.tmp 105) (.tmp 109) 22 3 (.int .i64 0) 8 rfl Try.underlying22 info3 rfl (by decide) (by omega) u14 x14_1 (rd x12_1 0) [.int .i64 (rd x12_1 0)] (fun k_ => some k_ ≠ (.slice (some ad116) x12_1.length co19 : Value).ownBlock ∧ some k_ ≠ (.slice (some ad118) x13_1.length co20 : Value).ownBlock) (fun _ => False) rfl rfl ?aP (fun _ hk => hk.elim) ?aF ?aO ?aB ?aS ?aL ?_; (case aP => exact rfl); (case aB => exact (by repeat (first | (with_reducible first | exact HB.out | apply below_alloc | apply pw_below_drewN | apply below_drew1) | exact HB.out))); (case aF => exact (fun k_ hk => ⟨Kd.fresh' (Kd.Q_lt (by (with_reducible repeat (first | apply Kd.Q_alloc | apply Kd.Q_drewN | apply Kd.Q_drew)); exact HO_12.out)) k_ hk, Kd.fresh' (Kd.Q_lt (by (with_reducible repeat (first | apply Kd.Q_alloc | apply Kd.Q_drewN | apply Kd.Q_drew)); exact HO_13.out)) k_ hk⟩)); (case aO => exact (by (with_reducible repeat (first | apply Kd.R_alloc | apply Kd.R_drewN | apply Kd.R_drew)); exact HO_14.out)); (case aS => exact (below_size (by repeat (first | (with_reducible first | exact HB.out | apply below_alloc | apply pw_below_drewN | apply below_drew1) | exact HB.out)))); (case aL => have := LMc38.out; omega); intro v129 w40 ho hb hg hat; rw [← Ny128.out] at ho; have n0_ := Aside0.mk (Kd.Q_after (ok := (fun k_ => some k_ ≠ (.slice (some ad118) x13_1.length co20 : Value).ownBlock)) (by (with_reducible repeat (first | apply Kd.Q_alloc | apply Kd.Q_drewN | apply Kd.Q_drew)); exact HO_12.out) hg hat); have n1_ := Aside0.mk (Kd.Q_after (ok := (fun k_ => some k_ ≠ (.slice (some ad116) x12_1.length co19 : Value).ownBlock)) (by (with_reducible repeat (first | apply Kd.Q_alloc | apply Kd.Q_drewN | apply Kd.Q_drew)); exact HO_13.out) hg hat); have n2_ := Aside0.mk (hb); have n3_ := Aside0.mk (ho); clear HO_12; clear HO_13; clear HB; clear HO_14; have HO_12 := n0_; have HO_13 := n1_; have HB := n2_; have HO130 := n3_; clear n0_ n1_ n2_ n3_; clear ho hb hg hat; have q41 : (1 : Int) ≤ ((x12_1.length : Int) : Int) := of_decide_eq_true (by first | (with_reducible assumption) | assumption); obtain ⟨i041, hi041, _, hsz41, _⟩ := info_parts info3; have hcut41 := cut_from (P := Try.prog) 22 3 .i64 Try.underlying22 hi041 1 hsz41 (some ad116) x12_1.length co19 1 (by omega) q41; have hr41 := Kd.Q_drop (k := (1 : Int).toNat) HO_12.out (by omega); obtain ⟨A41, hA41⟩ : ∃ A1, A1 = (if co19 = (1 : Int).toNat then (some ad116) else ((some ad116) : Option Addr).map (·.add ((1 : Int).toNat * 1))) := ⟨_, rfl⟩; obtain ⟨c41, hc41⟩ : ∃ c1, c1 = co19 - (1 : Int).toNat := ⟨_, rfl⟩; have hy41 : y131.length = x12_1.length - (1 : Int).toNat := (by rw [Ny131.out, List.length_drop]); rw [← Ny131.out] at hr41; rw [← hy41, ← hA41, ← hc41] at hcut41; replace hr41 : Kd.Q (Kd.int .i64) 3 w40 w.heap.size (fun k_ => some k_ ≠ (.slice (some ad118) x13_1.length co20 : Value).ownBlock ∧ some k_ ≠ (v129 : Value).ownBlock) (.slice A41 y131.length c41) y131 := (by rw [hA41, hc41, hy41]; exact hr41); have HE41 : Aside0 ((Value.slice A41 y131.length c41).ownBlock = (.slice (some ad116) x12_1.length co19 : Value).ownBlock) := ⟨by rw [hA41]; split <;> (cases ((some ad116) : Option Addr) <;> rfl)⟩; clear hy41 hi041 hsz41 HO_12 hA41 hc41; have HO133 := Aside0.mk hr41; clear hr41; replace q41 := eq_true q41; have n_ := Aside0.mk (Kd.Q_mono (ok' := fun k_ => (some k_ ≠ (.slice A41 y131.length c41 : Value).ownBlock ∧ some k_ ≠ (v129 : Value).ownBlock)) HO_13.out (fun k_ hk => ⟨(by rw [HE41.out]; exact hk.1), hk.2⟩)); clear HO_13; have HO_13 := n_; clear n_; have n_ := Aside0.mk (Kd.R_mono (ok' := fun k_ => (some k_ ≠ (.slice A41 y131.length c41 : Value).ownBlock ∧ some k_ ≠ (.slice (some ad118) x13_1.length co20 : Value).ownBlock)) HO130.out (fun k_ hk => ⟨(by rw [HE41.out]; exact hk.1), hk.2⟩)); clear HO130; have HO130 := n_; clear n_))
                                      go_roundg kj17
                                      case measure => have := HK1.out; have := HJ17.out; omega
                                      case rel => exact ⟨(y131), (x13_1), (y128), H', ⟨by have := HK1.out; have := HJ17.out; omega⟩, ⟨by (with_reducible repeat (first | apply Kd.Q_alloc | apply Kd.Q_drewN | apply Kd.Q_drew)); exact HO133.out⟩, ⟨by (with_reducible repeat (first | apply Kd.Q_alloc | apply Kd.Q_drewN | apply Kd.Q_drew)); exact HO_13.out⟩, ⟨by (with_reducible repeat (first | apply Kd.R_alloc | apply Kd.R_drewN | apply Kd.R_drew)); exact HO130.out⟩, ⟨by repeat (first | (with_reducible first | exact HB.out | apply below_alloc | apply pw_below_drewN | apply below_drew1) | exact HB.out)⟩⟩
                                    · rw [if_neg c39] at H
                                      exact absurd H (by simp)
                                  · rw [if_neg c38] at H
                                    exact absurd H (by simp)
                              · replace c32 := Bool.eq_false_iff.mpr c32
                                subst c32
                                have H1 : (if x14_1.length < 17592186044416 then (if 1 ≤ (x13_1.length : Int) then (spec_l6Merge.l1 kj17 l0 false x12_1 (x13_1.drop (1 : Int).toNat) (x14_1 ++ [rd x13_1 0])) else (none)) else (none)) = some r := by rw [if_neg (show ¬ (false = true) by decide)] at H; exact H
                                clear H
                                have H := H1
                                clear H1
                                by_cases c42 : x14_1.length < 17592186044416
                                · rw [if_pos c42] at H
                                  have LMc42 := Aside0.mk c42
                                  clear c42
                                  obtain ⟨y135, hy135⟩ : ∃ y_ : List Int, y_ = (x14_1 ++ [rd x13_1 0]) := ⟨_, rfl⟩
                                  replace H : (if 1 ≤ (x13_1.length : Int) then (spec_l6Merge.l1 kj17 l0 false x12_1 (x13_1.drop (1 : Int).toNat) y135) else (none)) = some r := by first | (rw [hy135]; with_reducible exact H) | (have H2_ := (Option.bind_some _ _).symm.trans H; rw [hy135]; with_reducible exact H2_) | (have H2_ := (Option.bind_some _ _).symm.trans H; with_reducible exact H2_) | with_reducible exact H | (rw [hy135]; exact H) | exact H
                                  have Ny135 := Aside0.mk hy135
                                  clear hy135
                                  by_cases c43 : 1 ≤ (x13_1.length : Int)
                                  · rw [if_pos c43] at H
                                    have c43b0 := eq_true c43
                                    have c43b1 : decide (1 ≤ (x13_1.length : Int)) = true := decide_eq_true c43
                                    clear c43
                                    obtain ⟨y138, hy138⟩ : ∃ y_ : List Int, y_ = (x13_1.drop (1 : Int).toNat) := ⟨_, rfl⟩
                                    replace H : (spec_l6Merge.l1 kj17 l0 false x12_1 y138 y135) = some r := by first | (rw [hy138]; with_reducible exact H) | (have H2_ := (Option.bind_some _ _).symm.trans H; rw [hy138]; with_reducible exact H2_) | (have H2_ := (Option.bind_some _ _).symm.trans H; with_reducible exact H2_) | with_reducible exact H | (rw [hy138]; exact H) | exact H
                                    have Ny138 := Aside0.mk hy138
                                    clear hy138
                                    have H' := Aside0.mk H
                                    clear H
                                    have p116 : 0 ≤ (0 : Int) := (by omega)
                                    have q116 : 0 < (x12_1.length : Int) := of_decide_eq_true (by first | (with_reducible assumption) | assumption)
                                    obtain ⟨ad116, e116, hx116_0⟩ := Kd.at_int (Kd.Q_reads' HO_12.out).2.2 0 p116 q116
                                    cases e116
                                    have qi116 : (0 < x12_1.length) = True := eq_true (by omega)
                                    (try rw [show ((0 : Int)).toNat = 0 from rfl] at hx116_0)
                                    (try rw [Addr.add_zero'] at hx116_0)
                                    replace p116 := eq_true p116
                                    replace q116 := eq_true q116
                                    have p117 : 0 ≤ ((ji24) : Int) := of_decide_eq_true (by first | (with_reducible assumption) | assumption)
                                    have q117 : (ji24) < (l0.length : Int) := of_decide_eq_true (by first | (with_reducible assumption) | assumption)
                                    obtain ⟨ad117, e117, hx117_0⟩ := Kd.at_int HR0.out (ji24) p117 q117
                                    cases e117
                                    replace hx117_0 := (HB.out.cell (World.block_lt_of_cell? w _ hx117_0)).trans hx117_0
                                    replace p117 := eq_true p117
                                    replace q117 := eq_true q117
                                    have p118 : 0 ≤ (0 : Int) := (by omega)
                                    have q118 : 0 < (x13_1.length : Int) := of_decide_eq_true (by first | (with_reducible assumption) | assumption)
                                    obtain ⟨ad118, e118, hx118_0⟩ := Kd.at_int (Kd.Q_reads' HO_13.out).2.2 0 p118 q118
                                    cases e118
                                    have qi118 : (0 < x13_1.length) = True := eq_true (by omega)
                                    (try rw [show ((0 : Int)).toNat = 0 from rfl] at hx118_0)
                                    (try rw [Addr.add_zero'] at hx118_0)
                                    replace p118 := eq_true p118
                                    replace q118 := eq_true q118
                                    have p119 : 0 ≤ ((ji28) : Int) := of_decide_eq_true (by first | (with_reducible assumption) | assumption)
                                    have q119 : (ji28) < (l0.length : Int) := of_decide_eq_true (by first | (with_reducible assumption) | assumption)
                                    obtain ⟨ad119, e119, hx119_0⟩ := Kd.at_int HR0.out (ji28) p119 q119
                                    obtain rfl : ad117 = ad119 := (by injection e119)
                                    replace hx119_0 := (HB.out.cell (World.block_lt_of_cell? w _ hx119_0)).trans hx119_0
                                    replace p119 := eq_true p119
                                    replace q119 := eq_true q119
                                    have p134 : 0 ≤ (0 : Int) := (by omega)
                                    have q134 : 0 < (x13_1.length : Int) := of_decide_eq_true (by first | (with_reducible assumption) | assumption)
                                    obtain ⟨ad134, e134, hx134_0⟩ := Kd.at_int (Kd.Q_reads' HO_13.out).2.2 0 p134 q134
                                    obtain rfl : ad118 = ad134 := (by injection e134)
                                    have qi134 : (0 < x13_1.length) = True := eq_true (by omega)
                                    (try rw [show ((0 : Int)).toNat = 0 from rfl] at hx134_0)
                                    (try rw [Addr.add_zero'] at hx134_0)
                                    replace p134 := eq_true p134
                                    replace q134 := eq_true q134
                                    go_wp2_with (first | ((with_reducible refine gate_builtin (b := .append) (xs := #[.tmp 97, .tmp 101]) rfl ?_); (try (refine gate_guard (by rfl) ?_; dsimp only)); at_builtin; refine Kd.R_append (Kd.int .i64) (w0 := w) w.heap.size rfl (.tmp 97) (.tmp 101) 22 3 (.int .i64 0) 8 rfl Try.underlying22 info3 rfl (by decide) (by omega) u14 x14_1 (rd x13_1 0) [.int .i64 (rd x13_1 0)] (fun k_ => some k_ ≠ (.slice (some ad116) x12_1.length co19 : Value).ownBlock ∧ some k_ ≠ (.slice (some ad118) x13_1.length co20 : Value).ownBlock) (fun _ => False) rfl rfl ?aP (fun _ hk => hk.elim) ?aF ?aO ?aB ?aS ?aL ?_; (case aP => exact rfl); (case aB => exact (by repeat (first | (with_reducible first | exact HB.out | apply below_alloc | apply pw_below_drewN | apply below_drew1) | exact HB.out))); (case aF => exact (fun k_ hk => ⟨Kd.fresh' (Kd.Q_lt (by (with_reducible repeat (first | apply Kd.Q_alloc | apply Kd.Q_drewN | apply Kd.Q_drew)); exact HO_12.out)) k_ hk, Kd.fresh' (Kd.Q_lt (by (with_reducible repeat (first | apply Kd.Q_alloc | apply Kd.Q_drewN | apply Kd.Q_drew)); exact HO_13.out)) k_ hk⟩)); (case aO => exact (by (with_reducible repeat (first | apply Kd.R_alloc | apply Kd.R_drewN | apply Kd.R_drew)); exact HO_14.out)); (case aS => exact (below_size (by repeat (first | (with_reducible first | exact HB.out | apply below_alloc | apply pw_below_drewN | apply below_drew1) | exact HB.out)))); (case aL => have := LMc42.out; omega); intro v136 w44 ho hb hg hat; rw [← Ny135.out] at ho; have n0_ := Aside0.mk (Kd.Q_after (ok := (fun k_ => some k_ ≠ (.slice (some ad118) x13_1.length co20 : Value).ownBlock)) (by (with_reducible repeat (first | apply Kd.Q_alloc | apply Kd.Q_drewN | apply Kd.Q_drew)); exact HO_12.out) hg hat); have n1_ := Aside0.mk (Kd.Q_after (ok := (fun k_ => some k_ ≠ (.slice (some ad116) x12_1.length co19 : Value).ownBlock)) (by (with_reducible repeat (first | apply Kd.Q_alloc | apply Kd.Q_drewN | apply Kd.Q_drew)); exact HO_13.out) hg hat); have n2_ := Aside0.mk (hb); have n3_ := Aside0.mk (ho); clear HO_12; clear HO_13; clear HB; clear HO_14; have HO_12 := n0_; have HO_13 := n1_; have HB := n2_; have HO137 := n3_; clear n0_ n1_ n2_ n3_; clear ho hb hg hat; have q45 : (1 : Int) ≤ ((x13_1.length : Int) : Int) := of_decide_eq_true (by first | (with_reducible assumption) | assumption); obtain ⟨i045, hi045, _, hsz45, _⟩ := info_parts info3; have hcut45 := cut_from (P := Try.prog) 22 3 .i64 Try.underlying22 hi045 1 hsz45 (some ad118) x13_1.length co20 1 (by omega) q45; have hr45 := Kd.Q_drop (k := (1 : Int).toNat) HO_13.out (by omega); obtain ⟨A45, hA45⟩ : ∃ A1, A1 = (if co20 = (1 : Int).toNat then (some ad118) else ((some ad118) : Option Addr).map (·.add ((1 : Int).toNat * 1))) := ⟨_, rfl⟩; obtain ⟨c45, hc45⟩ : ∃ c1, c1 = co20 - (1 : Int).toNat := ⟨_, rfl⟩; have hy45 : y138.length = x13_1.length - (1 : Int).toNat := (by rw [Ny138.out, List.length_drop]); rw [← Ny138.out] at hr45; rw [← hy45, ← hA45, ← hc45] at hcut45; replace hr45 : Kd.Q (Kd.int .i64) 3 w44 w.heap.size (fun k_ => some k_ ≠ (.slice (some ad116) x12_1.length co19 : Value).ownBlock ∧ some k_ ≠ (v136 : Value).ownBlock) (.slice A45 y138.length c45) y138 := (by rw [hA45, hc45, hy45]; exact hr45); have HE45 : Aside0 ((Value.slice A45 y138.length c45).ownBlock = (.slice (some ad118) x13_1.length co20 : Value).ownBlock) := ⟨by rw [hA45]; split <;> (cases ((some ad118) : Option Addr) <;> rfl)⟩; clear hy45 hi045 hsz45 HO_13 hA45 hc45; have HO140 := Aside0.mk hr45; clear hr45; replace q45 := eq_true q45; have n_ := Aside0.mk (Kd.Q_mono (ok' := fun k_ => (some k_ ≠ (.slice A45 y138.length c45 : Value).ownBlock ∧ some k_ ≠ (v136 : Value).ownBlock)) HO_12.out (fun k_ hk => ⟨(by rw [HE45.out]; exact hk.1), hk.2⟩)); clear HO_12; have HO_12 := n_; clear n_; have n_ := Aside0.mk (Kd.R_mono (ok' := fun k_ => (some k_ ≠ (.slice (some ad116) x12_1.length co19 : Value).ownBlock ∧ some k_ ≠ (.slice A45 y138.length c45 : Value).ownBlock)) HO137.out (fun k_ hk => ⟨hk.1, (by rw [HE45.out]; exact hk.2)⟩)); clear HO137; have HO137 := n_; clear n_))
                                    go_roundg kj17
                                    case measure => have := HK1.out; have := HJ17.out; omega
                                    case rel => exact ⟨(x12_1), (y138), (y135), H', ⟨by have := HK1.out; have := HJ17.out; omega⟩, ⟨by (with_reducible repeat (first | apply Kd.Q_alloc | apply Kd.Q_drewN | apply Kd.Q_drew)); exact HO_12.out⟩, ⟨by (with_reducible repeat (first | apply Kd.Q_alloc | apply Kd.Q_drewN | apply Kd.Q_drew)); exact HO140.out⟩, ⟨by (with_reducible repeat (first | apply Kd.R_alloc | apply Kd.R_drewN | apply Kd.R_drew)); exact HO137.out⟩, ⟨by repeat (first | (with_reducible first | exact HB.out | apply below_alloc | apply pw_below_drewN | apply below_drew1) | exact HB.out)⟩⟩
                                  · rw [if_neg c43] at H
                                    exact absurd H (by simp)
                                · rw [if_neg c42] at H
                                  exact absurd H (by simp)
                            · rw [if_neg c31] at H
                              have c31b0 : decide ((rd l0 (ji28)) < (rd l0 (ji24))) = false := decide_eq_false c31
                              clear c31
                              by_cases c46 : (rd l0 (ji28)) > (rd l0 (ji24))
                              · rw [if_pos c46] at H
                                have c46b0 : decide ((rd l0 (ji24)) < (rd l0 (ji28))) = true := decide_eq_true c46
                                clear c46
                                by_cases c47 : a3 = true
                                · subst c47
                                  have H1 : (if x14_1.length < 17592186044416 then (if 1 ≤ (x13_1.length : Int) then (spec_l6Merge.l1 kj17 l0 true x12_1 (x13_1.drop (1 : Int).toNat) (x14_1 ++ [rd x13_1 0])) else (none)) else (none)) = some r := by rw [if_pos rfl] at H; exact H
                                  clear H
                                  have H := H1
                                  clear H1
                                  by_cases c48 : x14_1.length < 17592186044416
                                  · rw [if_pos c48] at H
                                    have LMc48 := Aside0.mk c48
                                    clear c48
                                    obtain ⟨y142, hy142⟩ : ∃ y_ : List Int, y_ = (x14_1 ++ [rd x13_1 0]) := ⟨_, rfl⟩
                                    replace H : (if 1 ≤ (x13_1.length : Int) then (spec_l6Merge.l1 kj17 l0 true x12_1 (x13_1.drop (1 : Int).toNat) y142) else (none)) = some r := by first | (rw [hy142]; with_reducible exact H) | (have H2_ := (Option.bind_some _ _).symm.trans H; rw [hy142]; with_reducible exact H2_) | (have H2_ := (Option.bind_some _ _).symm.trans H; with_reducible exact H2_) | with_reducible exact H | (rw [hy142]; exact H) | exact H
                                    have Ny142 := Aside0.mk hy142
                                    clear hy142
                                    by_cases c49 : 1 ≤ (x13_1.length : Int)
                                    · rw [if_pos c49] at H
                                      have c49b0 := eq_true c49
                                      have c49b1 : decide (1 ≤ (x13_1.length : Int)) = true := decide_eq_true c49
                                      clear c49
                                      obtain ⟨y145, hy145⟩ : ∃ y_ : List Int, y_ = (x13_1.drop (1 : Int).toNat) := ⟨_, rfl⟩
                                      replace H : (spec_l6Merge.l1 kj17 l0 true x12_1 y145 y142) = some r := by first | (rw [hy145]; with_reducible exact H) | (have H2_ := (Option.bind_some _ _).symm.trans H; rw [hy145]; with_reducible exact H2_) | (have H2_ := (Option.bind_some _ _).symm.trans H; with_reducible exact H2_) | with_reducible exact H | (rw [hy145]; exact H) | exact H
                                      have Ny145 := Aside0.mk hy145
                                      clear hy145
                                      have H' := Aside0.mk H
                                      clear H
                                      have p116 : 0 ≤ (0 : Int) := (by omega)
                                      have q116 : 0 < (x12_1.length : Int) := of_decide_eq_true (by first | (with_reducible assumption) | assumption)
                                      obtain ⟨ad116, e116, hx116_0⟩ := Kd.at_int (Kd.Q_reads' HO_12.out).2.2 0 p116 q116
                                      cases e116
                                      have qi116 : (0 < x12_1.length) = True := eq_true (by omega)
                                      (try rw [show ((0 : Int)).toNat = 0 from rfl] at hx116_0)
                                      (try rw [Addr.add_zero'] at hx116_0)
                                      replace p116 := eq_true p116
                                      replace q116 := eq_true q116
                                      have p117 : 0 ≤ ((ji24) : Int) := of_decide_eq_true (by first | (with_reducible assumption) | assumption)
                                      have q117 : (ji24) < (l0.length : Int) := of_decide_eq_true (by first | (with_reducible assumption) | assumption)
                                      obtain ⟨ad117, e117, hx117_0⟩ := Kd.at_int HR0.out (ji24) p117 q117
                                      cases e117
                                      replace hx117_0 := (HB.out.cell (World.block_lt_of_cell? w _ hx117_0)).trans hx117_0
                                      replace p117 := eq_true p117
                                      replace q117 := eq_true q117
                                      have p118 : 0 ≤ (0 : Int) := (by omega)
                                      have q118 : 0 < (x13_1.length : Int) := of_decide_eq_true (by first | (with_reducible assumption) | assumption)
                                      obtain ⟨ad118, e118, hx118_0⟩ := Kd.at_int (Kd.Q_reads' HO_13.out).2.2 0 p118 q118
                                      cases e118
                                      have qi118 : (0 < x13_1.length) = True := eq_true (by omega)
                                      (try rw [show ((0 : Int)).toNat = 0 from rfl] at hx118_0)
                                      (try rw [Addr.add_zero'] at hx118_0)
                                      replace p118 := eq_true p118
                                      replace q118 := eq_true q118
                                      have p119 : 0 ≤ ((ji28) : Int) := of_decide_eq_true (by first | (with_reducible assumption) | assumption)
                                      have q119 : (ji28) < (l0.length : Int) := of_decide_eq_true (by first | (with_reducible assumption) | assumption)
                                      obtain ⟨ad119, e119, hx119_0⟩ := Kd.at_int HR0.out (ji28) p119 q119
                                      obtain rfl : ad117 = ad119 := (by injection e119)
                                      replace hx119_0 := (HB.out.cell (World.block_lt_of_cell? w _ hx119_0)).trans hx119_0
                                      replace p119 := eq_true p119
                                      replace q119 := eq_true q119
                                      have p141 : 0 ≤ (0 : Int) := (by omega)
                                      have q141 : 0 < (x13_1.length : Int) := of_decide_eq_true (by first | (with_reducible assumption) | assumption)
                                      obtain ⟨ad141, e141, hx141_0⟩ := Kd.at_int (Kd.Q_reads' HO_13.out).2.2 0 p141 q141
                                      obtain rfl : ad118 = ad141 := (by injection e141)
                                      have qi141 : (0 < x13_1.length) = True := eq_true (by omega)
                                      (try rw [show ((0 : Int)).toNat = 0 from rfl] at hx141_0)
                                      (try rw [Addr.add_zero'] at hx141_0)
                                      replace p141 := eq_true p141
                                      replace q141 := eq_true q141
                                      go_wp2_with (first | ((with_reducible refine gate_builtin (b := .append) (xs := #[.tmp 97, .tmp 101]) rfl ?_); (try (refine gate_guard (by rfl) ?_; dsimp only)); at_builtin; refine Kd.R_append (Kd.int .i64) (w0 := w) w.heap.size rfl (.tmp 97) (.tmp 101) 22 3 (.int .i64 0) 8 rfl Try.underlying22 info3 rfl (by decide) (by omega) u14 x14_1 (rd x13_1 0) [.int .i64 (rd x13_1 0)] (fun k_ => some k_ ≠ (.slice (some ad116) x12_1.length co19 : Value).ownBlock ∧ some k_ ≠ (.slice (some ad118) x13_1.length co20 : Value).ownBlock) (fun _ => False) rfl rfl ?aP (fun _ hk => hk.elim) ?aF ?aO ?aB ?aS ?aL ?_; (case aP => exact rfl); (case aB => exact (by repeat (first | (with_reducible first | exact HB.out | apply below_alloc | apply pw_below_drewN | apply below_drew1) | exact HB.out))); (case aF => exact (fun k_ hk => ⟨Kd.fresh' (Kd.Q_lt (by (with_reducible repeat (first | apply Kd.Q_alloc | apply Kd.Q_drewN | apply Kd.Q_drew)); exact HO_12.out)) k_ hk, Kd.fresh' (Kd.Q_lt (by (with_reducible repeat (first | apply Kd.Q_alloc | apply Kd.Q_drewN | apply Kd.Q_drew)); exact HO_13.out)) k_ hk⟩)); (case aO => exact (by (with_reducible repeat (first | apply Kd.R_alloc | apply Kd.R_drewN | apply Kd.R_drew)); exact HO_14.out)); (case aS => exact (below_size (by repeat (first | (with_reducible first | exact HB.out | apply below_alloc | apply pw_below_drewN | apply below_drew1) | exact HB.out)))); (case aL => have := LMc48.out; omega); intro v143 w50 ho hb hg hat; rw [← Ny142.out] at ho; have n0_ := Aside0.mk (Kd.Q_after (ok := (fun k_ => some k_ ≠ (.slice (some ad118) x13_1.length co20 : Value).ownBlock)) (by (with_reducible repeat (first | apply Kd.Q_alloc | apply Kd.Q_drewN | apply Kd.Q_drew)); exact HO_12.out) hg hat); have n1_ := Aside0.mk (Kd.Q_after (ok := (fun k_ => some k_ ≠ (.slice (some ad116) x12_1.length co19 : Value).ownBlock)) (by (with_reducible repeat (first | apply Kd.Q_alloc | apply Kd.Q_drewN | apply Kd.Q_drew)); exact HO_13.out) hg hat); have n2_ := Aside0.mk (hb); have n3_ := Aside0.mk (ho); clear HO_12; clear HO_13; clear HB; clear HO_14; have HO_12 := n0_; have HO_13 := n1_; have HB := n2_; have HO144 := n3_; clear n0_ n1_ n2_ n3_; clear ho hb hg hat; have q51 : (1 : Int) ≤ ((x13_1.length : Int) : Int) := of_decide_eq_true (by first | (with_reducible assumption) | assumption); obtain ⟨i051, hi051, _, hsz51, _⟩ := info_parts info3; have hcut51 := cut_from (P := Try.prog) 22 3 .i64 Try.underlying22 hi051 1 hsz51 (some ad118) x13_1.length co20 1 (by omega) q51; have hr51 := Kd.Q_drop (k := (1 : Int).toNat) HO_13.out (by omega); obtain ⟨A51, hA51⟩ : ∃ A1, A1 = (if co20 = (1 : Int).toNat then (some ad118) else ((some ad118) : Option Addr).map (·.add ((1 : Int).toNat * 1))) := ⟨_, rfl⟩; obtain ⟨c51, hc51⟩ : ∃ c1, c1 = co20 - (1 : Int).toNat := ⟨_, rfl⟩; have hy51 : y145.length = x13_1.length - (1 : Int).toNat := (by rw [Ny145.out, List.length_drop]); rw [← Ny145.out] at hr51; rw [← hy51, ← hA51, ← hc51] at hcut51; replace hr51 : Kd.Q (Kd.int .i64) 3 w50 w.heap.size (fun k_ => some k_ ≠ (.slice (some ad116) x12_1.length co19 : Value).ownBlock ∧ some k_ ≠ (v143 : Value).ownBlock) (.slice A51 y145.length c51) y145 := (by rw [hA51, hc51, hy51]; exact hr51); have HE51 : Aside0 ((Value.slice A51 y145.length c51).ownBlock = (.slice (some ad118) x13_1.length co20 : Value).ownBlock) := ⟨by rw [hA51]; split <;> (cases ((some ad118) : Option Addr) <;> rfl)⟩; clear hy51 hi051 hsz51 HO_13 hA51 hc51; have HO147 := Aside0.mk hr51; clear hr51; replace q51 := eq_true q51; have n_ := Aside0.mk (Kd.Q_mono (ok' := fun k_ => (some k_ ≠ (.slice A51 y145.length c51 : Value).ownBlock ∧ some k_ ≠ (v143 : Value).ownBlock)) HO_12.out (fun k_ hk => ⟨(by rw [HE51.out]; exact hk.1), hk.2⟩)); clear HO_12; have HO_12 := n_; clear n_; have n_ := Aside0.mk (Kd.R_mono (ok' := fun k_ => (some k_ ≠ (.slice (some ad116) x12_1.length co19 : Value).ownBlock ∧ some k_ ≠ (.slice A51 y145.length c51 : Value).ownBlock)) HO144.out (fun k_ hk => ⟨hk.1, (by rw [HE51.out]; exact hk.2)⟩)); clear HO144; have HO144 := n_; clear n_))
                                      go_roundg kj17
                                      case measure => have := HK1.out; have := HJ17.out; omega
                                      case rel => exact ⟨(x12_1), (y145), (y142), H', ⟨by have := HK1.out; have := HJ17.out; omega⟩, ⟨by (with_reducible repeat (first | apply Kd.Q_alloc | apply Kd.Q_drewN | apply Kd.Q_drew)); exact HO_12.out⟩, ⟨by (with_reducible repeat (first | apply Kd.Q_alloc | apply Kd.Q_drewN | apply Kd.Q_drew)); exact HO147.out⟩, ⟨by (with_reducible repeat (first | apply Kd.R_alloc | apply Kd.R_drewN | apply Kd.R_drew)); exact HO144.out⟩, ⟨by repeat (first | (with_reducible first | exact HB.out | apply below_alloc | apply pw_below_drewN | apply below_drew1) | exact HB.out)⟩⟩
                                    · rw [if_neg c49] at H
                                      exact absurd H (by simp)
                                  · rw [if_neg c48] at H
                                    exact absurd H (by simp)
                                · replace c47 := Bool.eq_false_iff.mpr c47
                                  subst c47
                                  have H1 : (if x14_1.length < 17592186044416 then (if 1 ≤ (x12_1.length : Int) then (spec_l6Merge.l1 kj17 l0 false (x12_1.drop (1 : Int).toNat) x13_1 (x14_1 ++ [rd x12_1 0])) else (none)) else (none)) = some r := by rw [if_neg (show ¬ (false = true) by decide)] at H; exact H
                                  clear H
                                  have H := H1
                                  clear H1
                                  by_cases c52 : x14_1.length < 17592186044416
                                  · rw [if_pos c52] at H
                                    have LMc52 := Aside0.mk c52
                                    clear c52
                                    obtain ⟨y149, hy149⟩ : ∃ y_ : List Int, y_ = (x14_1 ++ [rd x12_1 0]) := ⟨_, rfl⟩
                                    replace H : (if 1 ≤ (x12_1.length : Int) then (spec_l6Merge.l1 kj17 l0 false (x12_1.drop (1 : Int).toNat) x13_1 y149) else (none)) = some r := by first | (rw [hy149]; with_reducible exact H) | (have H2_ := (Option.bind_some _ _).symm.trans H; rw [hy149]; with_reducible exact H2_) | (have H2_ := (Option.bind_some _ _).symm.trans H; with_reducible exact H2_) | with_reducible exact H | (rw [hy149]; exact H) | exact H
                                    have Ny149 := Aside0.mk hy149
                                    clear hy149
                                    by_cases c53 : 1 ≤ (x12_1.length : Int)
                                    · rw [if_pos c53] at H
                                      have c53b0 := eq_true c53
                                      have c53b1 : decide (1 ≤ (x12_1.length : Int)) = true := decide_eq_true c53
                                      clear c53
                                      obtain ⟨y152, hy152⟩ : ∃ y_ : List Int, y_ = (x12_1.drop (1 : Int).toNat) := ⟨_, rfl⟩
                                      replace H : (spec_l6Merge.l1 kj17 l0 false y152 x13_1 y149) = some r := by first | (rw [hy152]; with_reducible exact H) | (have H2_ := (Option.bind_some _ _).symm.trans H; rw [hy152]; with_reducible exact H2_) | (have H2_ := (Option.bind_some _ _).symm.trans H; with_reducible exact H2_) | with_reducible exact H | (rw [hy152]; exact H) | exact H
                                      have Ny152 := Aside0.mk hy152
                                      clear hy152
                                      have H' := Aside0.mk H
                                      clear H
                                      have p116 : 0 ≤ (0 : Int) := (by omega)
                                      have q116 : 0 < (x12_1.length : Int) := of_decide_eq_true (by first | (with_reducible assumption) | assumption)
                                      obtain ⟨ad116, e116, hx116_0⟩ := Kd.at_int (Kd.Q_reads' HO_12.out).2.2 0 p116 q116
                                      cases e116
                                      have qi116 : (0 < x12_1.length) = True := eq_true (by omega)
                                      (try rw [show ((0 : Int)).toNat = 0 from rfl] at hx116_0)
                                      (try rw [Addr.add_zero'] at hx116_0)
                                      replace p116 := eq_true p116
                                      replace q116 := eq_true q116
                                      have p117 : 0 ≤ ((ji24) : Int) := of_decide_eq_true (by first | (with_reducible assumption) | assumption)
                                      have q117 : (ji24) < (l0.length : Int) := of_decide_eq_true (by first | (with_reducible assumption) | assumption)
                                      obtain ⟨ad117, e117, hx117_0⟩ := Kd.at_int HR0.out (ji24) p117 q117
                                      cases e117
                                      replace hx117_0 := (HB.out.cell (World.block_lt_of_cell? w _ hx117_0)).trans hx117_0
                                      replace p117 := eq_true p117
                                      replace q117 := eq_true q117
                                      have p118 : 0 ≤ (0 : Int) := (by omega)
                                      have q118 : 0 < (x13_1.length : Int) := of_decide_eq_true (by first | (with_reducible assumption) | assumption)
                                      obtain ⟨ad118, e118, hx118_0⟩ := Kd.at_int (Kd.Q_reads' HO_13.out).2.2 0 p118 q118
                                      cases e118
                                      have qi118 : (0 < x13_1.length) = True := eq_true (by omega)
                                      (try rw [show ((0 : Int)).toNat = 0 from rfl] at hx118_0)
                                      (try rw [Addr.add_zero'] at hx118_0)
                                      replace p118 := eq_true p118
                                      replace q118 := eq_true q118
                                      have p119 : 0 ≤ ((ji28) : Int) := of_decide_eq_true (by first | (with_reducible assumption) | assumption)
                                      have q119 : (ji28) < (l0.length : Int) := of_decide_eq_true (by first | (with_reducible assumption) | assumption)
                                      obtain ⟨ad119, e119, hx119_0⟩ := Kd.at_int HR0.out (ji28) p119 q119
                                      obtain rfl : ad117 = ad119 := (by injection e119)
                                      replace hx119_0 := (HB.out.cell (World.block_lt_of_cell? w _ hx119_0)).trans hx119_0
                                      replace p119 := eq_true p119
                                      replace q119 := eq_true q119
                                      have p148 : 0 ≤ (0 : Int) := (by omega)
                                      have q148 : 0 < (x12_1.length : Int) := of_decide_eq_true (by first | (with_reducible assumption) | assumption)
                                      obtain ⟨ad148, e148, hx148_0⟩ := Kd.at_int (Kd.Q_reads' HO_12.out).2.2 0 p148 q148
                                      obtain rfl : ad116 = ad148 := (by injection e148)
                                      have qi148 : (0 < x12_1.length) = True := eq_true (by omega)
                                      (try rw [show ((0 : Int)).toNat = 0 from rfl] at hx148_0)
                                      (try rw [Addr.add_zero'] at hx148_0)
                                      replace p148 := eq_true p148
                                      replace q148 := eq_true q148
                                      go_wp2_with (first | ((with_reducible refine gate_builtin (b := .append) (xs := #[.tmp 105, .tmp 109]) rfl ?_); (try (refine gate_guard (by rfl) ?_; dsimp only)); at_builtin; refine Kd.R_append (Kd.int .i64) (w0 := w) w.heap.size rfl (.tmp 105) (.tmp 109) 22 3 (.int .i64 0) 8 rfl Try.underlying22 info3 rfl (by decide) (by omega) u14 x14_1 (rd x12_1 0) [.int .i64 (rd x12_1 0)] (fun k_ => some k_ ≠ (.slice (some ad116) x12_1.length co19 : Value).ownBlock ∧ some k_ ≠ (.slice (some ad118) x13_1.length co20 : Value).ownBlock) (fun _ => False) rfl rfl ?aP (fun _ hk => hk.elim) ?aF ?aO ?aB ?aS ?aL ?_; (case aP => exact rfl); (case aB => exact (by repeat (first | (with_reducible first | exact HB.out | apply below_alloc | apply pw_below_drewN | apply below_drew1) | exact HB.out))); (case aF => exact (fun k_ hk => ⟨Kd.fresh' (Kd.Q_lt (by (with_reducible repeat (first | apply Kd.Q_alloc | apply Kd.Q_drewN | apply Kd.Q_drew)); exact HO_12.out)) k_ hk, Kd.fresh' (Kd.Q_lt (by (with_reducible repeat (first | apply Kd.Q_alloc | apply Kd.Q_drewN | apply Kd.Q_drew)); exact HO_13.out)) k_ hk⟩)); (case aO => exact (by (with_reducible repeat (first | apply Kd.R_alloc | apply Kd.R_drewN | apply Kd.R_drew)); exact HO_14.out)); (case aS => exact (below_size (by repeat (first | (with_reducible first | exact HB.out | apply below_alloc | apply pw_below_drewN | apply below_drew1) | exact HB.out)))); (case aL => have := LMc52.out; omega); intro v150 w54 ho hb hg hat; rw [← Ny149.out] at ho; have n0_ := Aside0.mk (Kd.Q_after (ok := (fun k_ => some k_ ≠ (.slice (some ad118) x13_1.length co20 : Value).ownBlock)) (by (with_reducible repeat (first | apply Kd.Q_alloc | apply Kd.Q_drewN | apply Kd.Q_drew)); exact HO_12.out) hg hat); have n1_ := Aside0.mk (Kd.Q_after (ok := (fun k_ => some k_ ≠ (.slice (some ad116) x12_1.length co19 : Value).ownBlock)) (by (with_reducible repeat (first | apply Kd.Q_alloc | apply Kd.Q_drewN | apply Kd.Q_drew)); exact HO_13.out) hg hat); have n2_ := Aside0.mk (hb); have n3_ := Aside0.mk (ho); clear HO_12; clear HO_13; clear HB; clear HO_14; have HO_12 := n0_; have HO_13 := n1_; have HB := n2_; have HO151 := n3_; clear n0_ n1_ n2_ n3_; clear ho hb hg hat; have q55 : (1 : Int) ≤ ((x12_1.length : Int) : Int) := of_decide_eq_true (by first | (with_reducible assumption) | assumption); obtain ⟨i055, hi055, _, hsz55, _⟩ := info_parts info3; have hcut55 := cut_from (P := Try.prog) 22 3 .i64 Try.underlying22 hi055 1 hsz55 (some ad116) x12_1.length co19 1 (by omega) q55; have hr55 := Kd.Q_drop (k := (1 : Int).toNat) HO_12.out (by omega); obtain ⟨A55, hA55⟩ : ∃ A1, A1 = (if co19 = (1 : Int).toNat then (some ad116) else ((some ad116) : Option Addr).map (·.add ((1 : Int).toNat * 1))) := ⟨_, rfl⟩; obtain ⟨c55, hc55⟩ : ∃ c1, c1 = co19 - (1 : Int).toNat := ⟨_, rfl⟩; have hy55 : y152.length = x12_1.length - (1 : Int).toNat := (by rw [Ny152.out, List.length_drop]); rw [← Ny152.out] at hr55; rw [← hy55, ← hA55, ← hc55] at hcut55; replace hr55 : Kd.Q (Kd.int .i64) 3 w54 w.heap.size (fun k_ => some k_ ≠ (.slice (some ad118) x13_1.length co20 : Value).ownBlock ∧ some k_ ≠ (v150 : Value).ownBlock) (.slice A55 y152.length c55) y152 := (by rw [hA55, hc55, hy55]; exact hr55); have HE55 : Aside0 ((Value.slice A55 y152.length c55).ownBlock = (.slice (some ad116) x12_1.length co19 : Value).ownBlock) := ⟨by rw [hA55]; split <;> (cases ((some ad116) : Option Addr) <;> rfl)⟩; clear hy55 hi055 hsz55 HO_12 hA55 hc55; have HO154 := Aside0.mk hr55; clear hr55; replace q55 := eq_true q55; have n_ := Aside0.mk (Kd.Q_mono (ok' := fun k_ => (some k_ ≠ (.slice A55 y152.length c55 : Value).ownBlock ∧ some k_ ≠ (v150 : Value).ownBlock)) HO_13.out (fun k_ hk => ⟨(by rw [HE55.out]; exact hk.1), hk.2⟩)); clear HO_13; have HO_13 := n_; clear n_; have n_ := Aside0.mk (Kd.R_mono (ok' := fun k_ => (some k_ ≠ (.slice A55 y152.length c55 : Value).ownBlock ∧ some k_ ≠ (.slice (some ad118) x13_1.length co20 : Value).ownBlock)) HO151.out (fun k_ hk => ⟨(by rw [HE55.out]; exact hk.1), hk.2⟩)); clear HO151; have HO151 := n_; clear n_))
                                      go_roundg kj17
                                      case measure => have := HK1.out; have := HJ17.out; omega
                                      case rel => exact ⟨(y152), (x13_1), (y149), H', ⟨by have := HK1.out; have := HJ17.out; omega⟩, ⟨by (with_reducible repeat (first | apply Kd.Q_alloc | apply Kd.Q_drewN | apply Kd.Q_drew)); exact HO154.out⟩, ⟨by (with_reducible repeat (first | apply Kd.Q_alloc | apply Kd.Q_drewN | apply Kd.Q_drew)); exact HO_13.out⟩, ⟨by (with_reducible repeat (first | apply Kd.R_alloc | apply Kd.R_drewN | apply Kd.R_drew)); exact HO151.out⟩, ⟨by repeat (first | (with_reducible first | exact HB.out | apply below_alloc | apply pw_below_drewN | apply below_drew1) | exact HB.out)⟩⟩
                                    · rw [if_neg c53] at H
                                      exact absurd H (by simp)
                                  · rw [if_neg c52] at H
                                    exact absurd H (by simp)
                              · rw [if_neg c46] at H
                                have c46b0 : decide ((rd l0 (ji24)) < (rd l0 (ji28))) = false := decide_eq_false c46
                                clear c46
                                by_cases c56 : x14_1.length < 17592186044416
                                · rw [if_pos c56] at H
                                  have LMc56 := Aside0.mk c56
                                  clear c56
                                  obtain ⟨y156, hy156⟩ : ∃ y_ : List Int, y_ = (x14_1 ++ [rd x12_1 0]) := ⟨_, rfl⟩
                                  replace H : (if 1 ≤ (x12_1.length : Int) then (spec_l6Merge.l1 kj17 l0 a3 (x12_1.drop (1 : Int).toNat) x13_1 y156) else (none)) = some r := by first | (rw [hy156]; with_reducible exact H) | (have H2_ := (Option.bind_some _ _).symm.trans H; rw [hy156]; with_reducible exact H2_) | (have H2_ := (Option.bind_some _ _).symm.trans H; with_reducible exact H2_) | with_reducible exact H | (rw [hy156]; exact H) | exact H
                                  have Ny156 := Aside0.mk hy156
                                  clear hy156
                                  by_cases c57 : 1 ≤ (x12_1.length : Int)
                                  · rw [if_pos c57] at H
                                    have c57b0 := eq_true c57
                                    have c57b1 : decide (1 ≤ (x12_1.length : Int)) = true := decide_eq_true c57
                                    clear c57
                                    obtain ⟨y159, hy159⟩ : ∃ y_ : List Int, y_ = (x12_1.drop (1 : Int).toNat) := ⟨_, rfl⟩
                                    replace H : (spec_l6Merge.l1 kj17 l0 a3 y159 x13_1 y156) = some r := by first | (rw [hy159]; with_reducible exact H) | (have H2_ := (Option.bind_some _ _).symm.trans H; rw [hy159]; with_reducible exact H2_) | (have H2_ := (Option.bind_some _ _).symm.trans H; with_reducible exact H2_) | with_reducible exact H | (rw [hy159]; exact H) | exact H
                                    have Ny159 := Aside0.mk hy159
                                    clear hy159
                                    have H' := Aside0.mk H
                                    clear H
                                    have p116 : 0 ≤ (0 : Int) := (by omega)
                                    have q116 : 0 < (x12_1.length : Int) := of_decide_eq_true (by first | (with_reducible assumption) | assumption)
                                    obtain ⟨ad116, e116, hx116_0⟩ := Kd.at_int (Kd.Q_reads' HO_12.out).2.2 0 p116 q116
                                    cases e116
                                    have qi116 : (0 < x12_1.length) = True := eq_true (by omega)
                                    (try rw [show ((0 : Int)).toNat = 0 from rfl] at hx116_0)
                                    (try rw [Addr.add_zero'] at hx116_0)
                                    replace p116 := eq_true p116
                                    replace q116 := eq_true q116
                                    have p117 : 0 ≤ ((ji24) : Int) := of_decide_eq_true (by first | (with_reducible assumption) | assumption)
                                    have q117 : (ji24) < (l0.length : Int) := of_decide_eq_true (by first | (with_reducible assumption) | assumption)
                                    obtain ⟨ad117, e117, hx117_0⟩ := Kd.at_int HR0.out (ji24) p117 q117
                                    cases e117
                                    replace hx117_0 := (HB.out.cell (World.block_lt_of_cell? w _ hx117_0)).trans hx117_0
                                    replace p117 := eq_true p117
                                    replace q117 := eq_true q117
                                    have p118 : 0 ≤ (0 : Int) := (by omega)
                                    have q118 : 0 < (x13_1.length : Int) := of_decide_eq_true (by first | (with_reducible assumption) | assumption)
                                    obtain ⟨ad118, e118, hx118_0⟩ := Kd.at_int (Kd.Q_reads' HO_13.out).2.2 0 p118 q118
                                    cases e118
                                    have qi118 : (0 < x13_1.length) = True := eq_true (by omega)
                                    (try rw [show ((0 : Int)).toNat = 0 from rfl] at hx118_0)
                                    (try rw [Addr.add_zero'] at hx118_0)
                                    replace p118 := eq_true p118
                                    replace q118 := eq_true q118
                                    have p119 : 0 ≤ ((ji28) : Int) := of_decide_eq_true (by first | (with_reducible assumption) | assumption)
                                    have q119 : (ji28) < (l0.length : Int) := of_decide_eq_true (by first | (with_reducible assumption) | assumption)
                                    obtain ⟨ad119, e119, hx119_0⟩ := Kd.at_int HR0.out (ji28) p119 q119
                                    obtain rfl : ad117 = ad119 := (by injection e119)
                                    replace hx119_0 := (HB.out.cell (World.block_lt_of_cell? w _ hx119_0)).trans hx119_0
                                    replace p119 := eq_true p119
                                    replace q119 := eq_true q119
                                    have p155 : 0 ≤ (0 : Int) := (by omega)
                                    have q155 : 0 < (x12_1.length : Int) := of_decide_eq_true (by first | (with_reducible assumption) | assumption)
                                    obtain ⟨ad155, e155, hx155_0⟩ := Kd.at_int (Kd.Q_reads' HO_12.out).2.2 0 p155 q155
                                    obtain rfl : ad116 = ad155 := (by injection e155)
                                    have qi155 : (0 < x12_1.length) = True := eq_true (by omega)
                                    (try rw [show ((0 : Int)).toNat = 0 from rfl] at hx155_0)
                                    (try rw [Addr.add_zero'] at hx155_0)
                                    replace p155 := eq_true p155
                                    replace q155 := eq_true q155
                                    go_wp2_with (first | ((with_reducible refine gate_builtin (b := .append) (xs := #[.tmp 105, .tmp 109]) rfl ?_); (try (refine gate_guard (by rfl) ?_; dsimp only)); at_builtin; refine Kd.R_append (Kd.int .i64) (w0 := w) w.heap.size rfl (.tmp 105) (.tmp 109) 22 3 (.int .i64 0) 8 rfl Try.underlying22 info3 rfl (by decide) (by omega) u14 x14_1 (rd x12_1 0) [.int .i64 (rd x12_1 0)] (fun k_ => some k_ ≠ (.slice (some ad116) x12_1.length co19 : Value).ownBlock ∧ some k_ ≠ (.slice (some ad118) x13_1.length co20 : Value).ownBlock) (fun _ => False) rfl rfl ?aP (fun _ hk => hk.elim) ?aF ?aO ?aB ?aS ?aL ?_; (case aP => exact rfl); (case aB => exact (by repeat (first | (with_reducible first | exact HB.out | apply below_alloc | apply pw_below_drewN | apply below_drew1) | exact HB.out))); (case aF => exact (fun k_ hk => ⟨Kd.fresh' (Kd.Q_lt (by (with_reducible repeat (first | apply Kd.Q_alloc | apply Kd.Q_drewN | apply Kd.Q_drew)); exact HO_12.out)) k_ hk, Kd.fresh' (Kd.Q_lt (by (with_reducible repeat (first | apply Kd.Q_alloc | apply Kd.Q_drewN | apply Kd.Q_drew)); exact HO_13.out)) k_ hk⟩)); (case aO => exact (by (with_reducible repeat (first | apply Kd.R_alloc | apply Kd.R_drewN | apply Kd.R_drew)); exact HO_14.out)); (case aS => exact (below_size (by repeat (first | (with_reducible first | exact HB.out | apply below_alloc | apply pw_below_drewN | apply below_drew1) | exact HB.out)))); (case aL => have := LMc56.out; omega); intro v157 w58 ho hb hg hat; rw [← Ny156.out] at ho; have n0_ := Aside0.mk (Kd.Q_after (ok := (fun k_ => some k_ ≠ (.slice (some ad118) x13_1.length co20 : Value).ownBlock)) (by (with_reducible repeat (first | apply Kd.Q_alloc | apply Kd.Q_drewN | apply Kd.Q_drew)); exact HO_12.out) hg hat); have n1_ := Aside0.mk (Kd.Q_after (ok := (fun k_ => some k_ ≠ (.slice (some ad116) x12_1.length co19 : Value).ownBlock)) (by (with_reducible repeat (first | apply Kd.Q_alloc | apply Kd.Q_drewN | apply Kd.Q_drew)); exact HO_13.out) hg hat); have n2_ := Aside0.mk (hb); have n3_ := Aside0.mk (ho); clear HO_12; clear HO_13; clear HB; clear HO_14; have HO_12 := n0_; have HO_13 := n1_; have HB := n2_; have HO158 := n3_; clear n0_ n1_ n2_ n3_; clear ho hb hg hat; have q59 : (1 : Int) ≤ ((x12_1.length : Int) : Int) := of_decide_eq_true (by first | (with_reducible assumption) | assumption); obtain ⟨i059, hi059, _, hsz59, _⟩ := info_parts info3; have hcut59 := cut_from (P := Try.prog) 22 3 .i64 Try.underlying22 hi059 1 hsz59 (some ad116) x12_1.length co19 1 (by omega) q59; have hr59 := Kd.Q_drop (k := (1 : Int).toNat) HO_12.out (by omega); obtain ⟨A59, hA59⟩ : ∃ A1, A1 = (if co19 = (1 : Int).toNat then (some ad116) else ((some ad116) : Option Addr).map (·.add ((1 : Int).toNat * 1))) := ⟨_, rfl⟩; obtain ⟨c59, hc59⟩ : ∃ c1, c1 = co19 - (1 : Int).toNat := ⟨_, rfl⟩; have hy59 : y159.length = x12_1.length - (1 : Int).toNat := (by rw [Ny159.out, List.length_drop]); rw [← Ny159.out] at hr59; rw [← hy59, ← hA59, ← hc59] at hcut59; replace hr59 : Kd.Q (Kd.int .i64) 3 w58 w.heap.size (fun k_ => some k_ ≠ (.slice (some ad118) x13_1.length co20 : Value).ownBlock ∧ some k_ ≠ (v157 : Value).ownBlock) (.slice A59 y159.length c59) y159 := (by rw [hA59, hc59, hy59]; exact hr59); have HE59 : Aside0 ((Value.slice A59 y159.length c59).ownBlock = (.slice (some ad116) x12_1.length co19 : Value).ownBlock) := ⟨by rw [hA59]; split <;> (cases ((some ad116) : Option Addr) <;> rfl)⟩; clear hy59 hi059 hsz59 HO_12 hA59 hc59; have HO161 := Aside0.mk hr59; clear hr59; replace q59 := eq_true q59; have n_ := Aside0.mk (Kd.Q_mono (ok' := fun k_ => (some k_ ≠ (.slice A59 y159.length c59 : Value).ownBlock ∧ some k_ ≠ (v157 : Value).ownBlock)) HO_13.out (fun k_ hk => ⟨(by rw [HE59.out]; exact hk.1), hk.2⟩)); clear HO_13; have HO_13 := n_; clear n_; have n_ := Aside0.mk (Kd.R_mono (ok' := fun k_ => (some k_ ≠ (.slice A59 y159.length c59 : Value).ownBlock ∧ some k_ ≠ (.slice (some ad118) x13_1.length co20 : Value).ownBlock)) HO158.out (fun k_ hk => ⟨(by rw [HE59.out]; exact hk.1), hk.2⟩)); clear HO158; have HO158 := n_; clear n_))
                                    go_roundg kj17
                                    case measure => have := HK1.out; have := HJ17.out; omega
                                    case rel => exact ⟨(y159), (x13_1), (y156), H', ⟨by have := HK1.out; have := HJ17.out; omega⟩, ⟨by (with_reducible repeat (first | apply Kd.Q_alloc | apply Kd.Q_drewN | apply Kd.Q_drew)); exact HO161.out⟩, ⟨by (with_reducible repeat (first | apply Kd.Q_alloc | apply Kd.Q_drewN | apply Kd.Q_drew)); exact HO_13.out⟩, ⟨by (with_reducible repeat (first | apply Kd.R_alloc | apply Kd.R_drewN | apply Kd.R_drew)); exact HO158.out⟩, ⟨by repeat (first | (with_reducible first | exact HB.out | apply below_alloc | apply pw_below_drewN | apply below_drew1) | exact HB.out)⟩⟩
                                  · rw [if_neg c57] at H
                                    exact absurd H (by simp)
                                · rw [if_neg c56] at H
                                  exact absurd H (by simp)
                          · rw [if_neg c30] at H
                            exact absurd H (by simp)
                        · rw [if_neg c29] at H
                          exact absurd H (by simp)
                      · rw [if_neg c27] at H
                        exact absurd H (by simp)
                    · rw [if_neg c26] at H
                      exact absurd H (by simp)
                  · rw [if_neg c25] at H
                    exact absurd H (by simp)
                · rw [if_neg c23] at H
                  exact absurd H (by simp)
              · replace c22 := Bool.eq_false_iff.mpr c22
                subst c22
                have H1 : (if ((x12_1.length : Int) == 0) = true then (if 0 < (x13_1.length : Int) then (if x14_1.length < 17592186044416 then (if 1 ≤ (x13_1.length : Int) then (spec_l6Merge.l1 kj17 l0 a3 x12_1 (x13_1.drop (1 : Int).toNat) (x14_1 ++ [rd x13_1 0])) else (none)) else (none)) else (none)) else (if 0 < (x12_1.length : Int) then (if x14_1.length < 17592186044416 then (if 1 ≤ (x12_1.length : Int) then (spec_l6Merge.l1 kj17 l0 a3 (x12_1.drop (1 : Int).toNat) x13_1 (x14_1 ++ [rd x12_1 0])) else (none)) else (none)) else (none))) = some r := by rw [if_neg (show ¬ (false = true) by decide)] at H; exact H
                clear H
                have H := H1
                clear H1
                by_cases c60 : ((x12_1.length : Int) == 0) = true
                · rw [if_pos c60] at H
                  have c60b0 : ((x12_1.length : Int) == 0) = true := c60
                  (try (have c60b1 : decide ((x12_1.length : Int) = 0) = true := by simpa using c60))
                  (try (have c60b2 : ((x12_1.length : Int) == 0) = true := by simpa using c60))
                  clear c60
                  by_cases c61 : 0 < (x13_1.length : Int)
                  · rw [if_pos c61] at H
                    have c61b0 : decide (0 < (x13_1.length : Int)) = true := decide_eq_true c61
                    have c61b1 : decide (0 < x13_1.length) = true := decide_eq_true (by omega)
                    clear c61
                    by_cases c62 : x14_1.length < 17592186044416
                    · rw [if_pos c62] at H
                      have LMc62 := Aside0.mk c62
                      clear c62
                      obtain ⟨y163, hy163⟩ : ∃ y_ : List Int, y_ = (x14_1 ++ [rd x13_1 0]) := ⟨_, rfl⟩
                      replace H : (if 1 ≤ (x13_1.length : Int) then (spec_l6Merge.l1 kj17 l0 a3 x12_1 (x13_1.drop (1 : Int).toNat) y163) else (none)) = some r := by first | (rw [hy163]; with_reducible exact H) | (have H2_ := (Option.bind_some _ _).symm.trans H; rw [hy163]; with_reducible exact H2_) | (have H2_ := (Option.bind_some _ _).symm.trans H; with_reducible exact H2_) | with_reducible exact H | (rw [hy163]; exact H) | exact H
                      have Ny163 := Aside0.mk hy163
                      clear hy163
                      by_cases c63 : 1 ≤ (x13_1.length : Int)
                      · rw [if_pos c63] at H
                        have c63b0 := eq_true c63
                        have c63b1 : decide (1 ≤ (x13_1.length : Int)) = true := decide_eq_true c63
                        clear c63
                        obtain ⟨y166, hy166⟩ : ∃ y_ : List Int, y_ = (x13_1.drop (1 : Int).toNat) := ⟨_, rfl⟩
                        replace H : (spec_l6Merge.l1 kj17 l0 a3 x12_1 y166 y163) = some r := by first | (rw [hy166]; with_reducible exact H) | (have H2_ := (Option.bind_some _ _).symm.trans H; rw [hy166]; with_reducible exact H2_) | (have H2_ := (Option.bind_some _ _).symm.trans H; with_reducible exact H2_) | with_reducible exact H | (rw [hy166]; exact H) | exact H
                        have Ny166 := Aside0.mk hy166
                        clear hy166
                        have H' := Aside0.mk H
                        clear H
                        have p162 : 0 ≤ (0 : Int) := (by omega)
                        have q162 : 0 < (x13_1.length : Int) := of_decide_eq_true (by first | (with_reducible assumption) | assumption)
                        obtain ⟨ad162, e162, hx162_0⟩ := Kd.at_int (Kd.Q_reads' HO_13.out).2.2 0 p162 q162
                        cases e162
                        have qi162 : (0 < x13_1.length) = True := eq_true (by omega)
                        (try rw [show ((0 : Int)).toNat = 0 from rfl] at hx162_0)
                        (try rw [Addr.add_zero'] at hx162_0)
                        replace p162 := eq_true p162
                        replace q162 := eq_true q162
                        go_wp2_with (first | ((with_reducible refine gate_builtin (b := .append) (xs := #[.tmp 97, .tmp 101]) rfl ?_); (try (refine gate_guard (by rfl) ?_; dsimp only)); at_builtin; refine Kd.R_append (Kd.int .i64) (w0 := w) w.heap.size rfl (.tmp 97) (.tmp 101) 22 3 (.int .i64 0) 8 rfl Try.underlying22 info3 rfl (by decide) (by omega) u14 x14_1 (rd x13_1 0) [.int .i64 (rd x13_1 0)] (fun k_ => some k_ ≠ (.slice Ao19 x12_1.length co19 : Value).ownBlock ∧ some k_ ≠ (.slice (some ad162) x13_1.length co20 : Value).ownBlock) (fun _ => False) rfl rfl ?aP (fun _ hk => hk.elim) ?aF ?aO ?aB ?aS ?aL ?_; (case aP => exact rfl); (case aB => exact (by repeat (first | (with_reducible first | exact HB.out | apply below_alloc | apply pw_below_drewN | apply below_drew1) | exact HB.out))); (case aF => exact (fun k_ hk => ⟨Kd.fresh' (Kd.Q_lt (by (with_reducible repeat (first | apply Kd.Q_alloc | apply Kd.Q_drewN | apply Kd.Q_drew)); exact HO_12.out)) k_ hk, Kd.fresh' (Kd.Q_lt (by (with_reducible repeat (first | apply Kd.Q_alloc | apply Kd.Q_drewN | apply Kd.Q_drew)); exact HO_13.out)) k_ hk⟩)); (case aO => exact (by (with_reducible repeat (first | apply Kd.R_alloc | apply Kd.R_drewN | apply Kd.R_drew)); exact HO_14.out)); (case aS => exact (below_size (by repeat (first | (with_reducible first | exact HB.out | apply below_alloc | apply pw_below_drewN | apply below_drew1) | exact HB.out)))); (case aL => have := LMc62.out; omega); intro v164 w64 ho hb hg hat; rw [← Ny163.out] at ho; have n0_ := Aside0.mk (Kd.Q_after (ok := (fun k_ => some k_ ≠ (.slice (some ad162) x13_1.length co20 : Value).ownBlock)) (by (with_reducible repeat (first | apply Kd.Q_alloc | apply Kd.Q_drewN | apply Kd.Q_drew)); exact HO_12.out) hg hat); have n1_ := Aside0.mk (Kd.Q_after (ok := (fun k_ => some k_ ≠ (.slice Ao19 x12_1.length co19 : Value).ownBlock)) (by (with_reducible repeat (first | apply Kd.Q_alloc | apply Kd.Q_drewN | apply Kd.Q_drew)); exact HO_13.out) hg hat); have n2_ := Aside0.mk (hb); have n3_ := Aside0.mk (ho); clear HO_12; clear HO_13; clear HB; clear HO_14; have HO_12 := n0_; have HO_13 := n1_; have HB := n2_; have HO165 := n3_; clear n0_ n1_ n2_ n3_; clear ho hb hg hat; have q65 : (1 : Int) ≤ ((x13_1.length : Int) : Int) := of_decide_eq_true (by first | (with_reducible assumption) | assumption); obtain ⟨i065, hi065, _, hsz65, _⟩ := info_parts info3; have hcut65 := cut_from (P := Try.prog) 22 3 .i64 Try.underlying22 hi065 1 hsz65 (some ad162) x13_1.length co20 1 (by omega) q65; have hr65 := Kd.Q_drop (k := (1 : Int).toNat) HO_13.out (by omega); obtain ⟨A65, hA65⟩ : ∃ A1, A1 = (if co20 = (1 : Int).toNat then (some ad162) else ((some ad162) : Option Addr).map (·.add ((1 : Int).toNat * 1))) := ⟨_, rfl⟩; obtain ⟨c65, hc65⟩ : ∃ c1, c1 = co20 - (1 : Int).toNat := ⟨_, rfl⟩; have hy65 : y166.length = x13_1.length - (1 : Int).toNat := (by rw [Ny166.out, List.length_drop]); rw [← Ny166.out] at hr65; rw [← hy65, ← hA65, ← hc65] at hcut65; replace hr65 : Kd.Q (Kd.int .i64) 3 w64 w.heap.size (fun k_ => some k_ ≠ (.slice Ao19 x12_1.length co19 : Value).ownBlock ∧ some k_ ≠ (v164 : Value).ownBlock) (.slice A65 y166.length c65) y166 := (by rw [hA65, hc65, hy65]; exact hr65); have HE65 : Aside0 ((Value.slice A65 y166.length c65).ownBlock = (.slice (some ad162) x13_1.length co20 : Value).ownBlock) := ⟨by rw [hA65]; split <;> (cases ((some ad162) : Option Addr) <;> rfl)⟩; clear hy65 hi065 hsz65 HO_13 hA65 hc65; have HO168 := Aside0.mk hr65; clear hr65; replace q65 := eq_true q65; have n_ := Aside0.mk (Kd.Q_mono (ok' := fun k_ => (some k_ ≠ (.slice A65 y166.length c65 : Value).ownBlock ∧ some k_ ≠ (v164 : Value).ownBlock)) HO_12.out (fun k_ hk => ⟨(by rw [HE65.out]; exact hk.1), hk.2⟩)); clear HO_12; have HO_12 := n_; clear n_; have n_ := Aside0.mk (Kd.R_mono (ok' := fun k_ => (some k_ ≠ (.slice Ao19 x12_1.length co19 : Value).ownBlock ∧ some k_ ≠ (.slice A65 y166.length c65 : Value).ownBlock)) HO165.out (fun k_ hk => ⟨hk.1, (by rw [HE65.out]; exact hk.2)⟩)); clear HO165; have HO165 := n_; clear n_))
                        go_roundg kj17
                        case measure => have := HK1.out; have := HJ17.out; omega
                        case rel => exact ⟨(x12_1), (y166), (y163), H', ⟨by have := HK1.out; have := HJ17.out; omega⟩, ⟨by (with_reducible repeat (first | apply Kd.Q_alloc | apply Kd.Q_drewN | apply Kd.Q_drew)); exact HO_12.out⟩, ⟨by (with_reducible repeat (first | apply Kd.Q_alloc | apply Kd.Q_drewN | apply Kd.Q_drew)); exact HO168.out⟩, ⟨by (with_reducible repeat (first | apply Kd.R_alloc | apply Kd.R_drewN | apply Kd.R_drew)); exact HO165.out⟩, ⟨by repeat (first | (with_reducible first | exact HB.out | apply below_alloc | apply pw_below_drewN | apply below_drew1) | exact HB.out)⟩⟩
                      · rw [if_neg c63] at H
                        exact absurd H (by simp)
                    · rw [if_neg c62] at H
                      exact absurd H (by simp)
                  · rw [if_neg c61] at H
                    exact absurd H (by simp)
                · rw [if_neg c60] at H
                  have c60b0 : ((x12_1.length : Int) == 0) = false := by simpa using c60
                  (try (have c60b1 : decide ((x12_1.length : Int) = 0) = false := by simpa using c60))
                  (try (have c60b2 : ((x12_1.length : Int) == 0) = false := by simpa using c60))
                  (try (have c60b3 : ¬ ((x12_1.length : Int) = 0) := by simpa using c60))
                  clear c60
                  by_cases c66 : 0 < (x12_1.length : Int)
                  · rw [if_pos c66] at H
                    have c66b0 : decide (0 < (x12_1.length : Int)) = true := decide_eq_true c66
                    have c66b1 : decide (0 < x12_1.length) = true := decide_eq_true (by omega)
                    clear c66
                    by_cases c67 : x14_1.length < 17592186044416
                    · rw [if_pos c67] at H
                      have LMc67 := Aside0.mk c67
                      clear c67
                      obtain ⟨y170, hy170⟩ : ∃ y_ : List Int, y_ = (x14_1 ++ [rd x12_1 0]) := ⟨_, rfl⟩
                      replace H : (if 1 ≤ (x12_1.length : Int) then (spec_l6Merge.l1 kj17 l0 a3 (x12_1.drop (1 : Int).toNat) x13_1 y170) else (none)) = some r := by first | (rw [hy170]; with_reducible exact H) | (have H2_ := (Option.bind_some _ _).symm.trans H; rw [hy170]; with_reducible exact H2_) | (have H2_ := (Option.bind_some _ _).symm.trans H; with_reducible exact H2_) | with_reducible exact H | (rw [hy170]; exact H) | exact H
                      have Ny170 := Aside0.mk hy170
                      clear hy170
                      by_cases c68 : 1 ≤ (x12_1.length : Int)
                      · rw [if_pos c68] at H
                        have c68b0 := eq_true c68
                        have c68b1 : decide (1 ≤ (x12_1.length : Int)) = true := decide_eq_true c68
                        clear c68
                        obtain ⟨y173, hy173⟩ : ∃ y_ : List Int, y_ = (x12_1.drop (1 : Int).toNat) := ⟨_, rfl⟩
                        replace H : (spec_l6Merge.l1 kj17 l0 a3 y173 x13_1 y170) = some r := by first | (rw [hy173]; with_reducible exact H) | (have H2_ := (Option.bind_some _ _).symm.trans H; rw [hy173]; with_reducible exact H2_) | (have H2_ := (Option.bind_some _ _).symm.trans H; with_reducible exact H2_) | with_reducible exact H | (rw [hy173]; exact H) | exact H
                        have Ny173 := Aside0.mk hy173
                        clear hy173
                        have H' := Aside0.mk H
                        clear H
                        have p169 : 0 ≤ (0 : Int) := (by omega)
                        have q169 : 0 < (x12_1.length : Int) := of_decide_eq_true (by first | (with_reducible assumption) | assumption)
                        obtain ⟨ad169, e169, hx169_0⟩ := Kd.at_int (Kd.Q_reads' HO_12.out).2.2 0 p169 q169
                        cases e169
                        have qi169 : (0 < x12_1.length) = True := eq_true (by omega)
                        (try rw [show ((0 : Int)).toNat = 0 from rfl] at hx169_0)
                        (try rw [Addr.add_zero'] at hx169_0)
                        replace p169 := eq_true p169
                        replace q169 := eq_true q169
                        go_wp2_with (first | ((with_reducible refine gate_builtin (b := .append) (xs := #[.tmp 105, .tmp 109]) rfl ?_); (try (refine gate_guard (by rfl) ?_; dsimp only)); at_builtin; refine Kd.R_append (Kd.int .i64) (w0 := w) w.heap.size rfl (.tmp 105) (.tmp 109) 22 3 (.int .i64 0) 8 rfl Try.underlying22 info3 rfl (by decide) (by omega) u14 x14_1 (rd x12_1 0) [.int .i64 (rd x12_1 0)] (fun k_ => some k_ ≠ (.slice (some ad169) x12_1.length co19 : Value).ownBlock ∧ some k_ ≠ (.slice Ao20 x13_1.length co20 : Value).ownBlock) (fun _ => False) rfl rfl ?aP (fun _ hk => hk.elim) ?aF ?aO ?aB ?aS ?aL ?_; (case aP => exact rfl); (case aB => exact (by repeat (first | (with_reducible first | exact HB.out | apply below_alloc | apply pw_below_drewN | apply below_drew1) | exact HB.out))); (case aF => exact (fun k_ hk => ⟨Kd.fresh' (Kd.Q_lt (by (with_reducible repeat (first | apply Kd.Q_alloc | apply Kd.Q_drewN | apply Kd.Q_drew)); exact HO_12.out)) k_ hk, Kd.fresh' (Kd.Q_lt (by (with_reducible repeat (first | apply Kd.Q_alloc | apply Kd.Q_drewN | apply Kd.Q_drew)); exact HO_13.out)) k_ hk⟩)); (case aO => exact (by (with_reducible repeat (first | apply Kd.R_alloc | apply Kd.R_drewN | apply Kd.R_drew)); exact HO_14.out)); (case aS => exact (below_size (by repeat (first | (with_reducible first | exact HB.out | apply below_alloc | apply pw_below_drewN | apply below_drew1) | exact HB.out)))); (case aL => have := LMc67.out; omega); intro v171 w69 ho hb hg hat; rw [← Ny170.out] at ho; have n0_ := Aside0.mk (Kd.Q_after (ok := (fun k_ => some k_ ≠ (.slice Ao20 x13_1.length co20 : Value).ownBlock)) (by (with_reducible repeat (first | apply Kd.Q_alloc | apply Kd.Q_drewN | apply Kd.Q_drew)); exact HO_12.out) hg hat); have n1_ := Aside0.mk (Kd.Q_after (ok := (fun k_ => some k_ ≠ (.slice (some ad169) x12_1.length co19 : Value).ownBlock)) (by (with_reducible repeat (first | apply Kd.Q_alloc | apply Kd.Q_drewN | apply Kd.Q_drew)); exact HO_13.out) hg hat); have n2_ := Aside0.mk (hb); have n3_ := Aside0.mk (ho); clear HO_12; clear HO_13; clear HB; clear HO_14; have HO_12 := n0_; have HO_13 := n1_; have HB := n2_; have HO172 := n3_; clear n0_ n1_ n2_ n3_; clear ho hb hg hat; have q70 : (1 : Int) ≤ ((x12_1.length : Int) : Int) := of_decide_eq_true (by first | (with_reducible assumption) | assumption); obtain ⟨i070, hi070, _, hsz70, _⟩ := info_parts info3; have hcut70 := cut_from (P := Try.prog) 22 3 .i64 Try.underlying22 hi070 1 hsz70 (some ad169) x12_1.length co19 1 (by omega) q70; have hr70 := Kd.Q_drop (k := (1 : Int).toNat) HO_12.out (by omega); obtain ⟨A70, hA70⟩ : ∃ A1, A1 = (if co19 = (1 : Int).toNat then (some ad169) else ((some ad169) : Option Addr).map (·.add ((1 : Int).toNat * 1))) := ⟨_, rfl⟩; obtain ⟨c70, hc70⟩ : ∃ c1, c1 = co19 - (1 : Int).toNat := ⟨_, rfl⟩; have hy70 : y173.length = x12_1.length - (1 : Int).toNat := (by rw [Ny173.out, List.length_drop]); rw [← Ny173.out] at hr70; rw [← hy70, ← hA70, ← hc70] at hcut70; replace hr70 : Kd.Q (Kd.int .i64) 3 w69 w.heap.size (fun k_ => some k_ ≠ (.slice Ao20 x13_1.length co20 : Value).ownBlock ∧ some k_ ≠ (v171 : Value).ownBlock) (.slice A70 y173.length c70) y173 := (by rw [hA70, hc70, hy70]; exact hr70); have HE70 : Aside0 ((Value.slice A70 y173.length c70).ownBlock = (.slice (some ad169) x12_1.length co19 : Value).ownBlock) := ⟨by rw [hA70]; split <;> (cases ((some ad169) : Option Addr) <;> rfl)⟩; clear hy70 hi070 hsz70 HO_12 hA70 hc70; have HO175 := Aside0.mk hr70; clear hr70; replace q70 := eq_true q70; have n_ := Aside0.mk (Kd.Q_mono (ok' := fun k_ => (some k_ ≠ (.slice A70 y173.length c70 : Value).ownBlock ∧ some k_ ≠ (v171 : Value).ownBlock)) HO_13.out (fun k_ hk => ⟨(by rw [HE70.out]; exact hk.1), hk.2⟩)); clear HO_13; have HO_13 := n_; clear n_; have n_ := Aside0.mk (Kd.R_mono (ok' := fun k_ => (some k_ ≠ (.slice A70 y173.length c70 : Value).ownBlock ∧ some k_ ≠ (.slice Ao20 x13_1.length co20 : Value).ownBlock)) HO172.out (fun k_ hk => ⟨(by rw [HE70.out]; exact hk.1), hk.2⟩)); clear HO172; have HO172 := n_; clear n_))
                        go_roundg kj17
                        case measure => have := HK1.out; have := HJ17.out; omega
                        case rel => exact ⟨(y173), (x13_1), (y170), H', ⟨by have := HK1.out; have := HJ17.out; omega⟩, ⟨by (with_reducible repeat (first | apply Kd.Q_alloc | apply Kd.Q_drewN | apply Kd.Q_drew)); exact HO175.out⟩, ⟨by (with_reducible repeat (first | apply Kd.Q_alloc | apply Kd.Q_drewN | apply Kd.Q_drew)); exact HO_13.out⟩, ⟨by (with_reducible repeat (first | apply Kd.R_alloc | apply Kd.R_drewN | apply Kd.R_drew)); exact HO172.out⟩, ⟨by repeat (first | (with_reducible first | exact HB.out | apply below_alloc | apply pw_below_drewN | apply below_drew1) | exact HB.out)⟩⟩
                      · rw [if_neg c68] at H
                        exact absurd H (by simp)
                    · rw [if_neg c67] at H
                      exact absurd H (by simp)
                  · rw [if_neg c66] at H
                    exact absurd H (by simp)
        · rw [if_neg c17] at H
          have c17b0 : decide (0 < (wrap64 ((x12_1.length : Int) + (x13_1.length : Int)))) = false := decide_eq_false c17
          clear c17
          obtain rfl := Option.some.inj H
          obtain ⟨Ao71, co71, eo71, _⟩ := Kd.Q_slice HO_12.out
          subst eo71
          obtain ⟨Ao72, co72, eo72, _⟩ := Kd.Q_slice HO_13.out
          subst eo72
          go_wp2
          go_ret
          exact ⟨_, by first | rfl | (simp [errW_none, errW_some] <;> rfl) | (simp [*, errW_none, errW_some] <;> rfl), by (with_reducible repeat (first | apply Kd.R_alloc | apply Kd.R_drewN | apply Kd.R_drew)); exact Kd.R_mono HO_14.out (fun _ hk => trivial), by repeat (first | (with_reducible first | exact HB.out | apply below_alloc | apply pw_below_drewN | apply below_drew1) | exact HB.out)⟩

end Go.Proofs.Ytlomomhajmackaa.PA

namespace Go.Proofs.Ytlomomhajmackaa.PA
open Go.RowKit Go.Proofs.YtlomomhajmackaaW.PrintWords Go.Proofs.YtlomomhajmackaaW.PrintLast Go.Proofs.YtlomomhajmackaaW.PrintMore
theorem Rz {α : Type} {d : Kd α} {e base : Nat} {w w1 : World} {ok : Nat → Prop} {v : Value} {xs : List α} (h : d.R e w base ok v xs) (hb : Below w.heap.size w w1 := by (with_reducible repeat (first | apply below_alloc | apply pw_below_drewN | apply below_drew1)); exact Below.refl _ _) : d.R e w1 base ok v xs := Kd.R_below h hb
theorem Bz {w w1 : World} {g : Nat} {o : Obj} (h : w.heap[g]? = some o) (hb : Below w.heap.size w w1 := by (with_reducible repeat (first | apply below_alloc | apply pw_below_drewN | apply below_drew1)); exact Below.refl _ _) : w1.heap[g]? = some o := blk_below h hb
theorem Wz {w0 w w1 : World} (h : Below w0.heap.size w0 w) (hb : Below w.heap.size w w1 := by (with_reducible repeat (first | apply below_alloc | apply pw_below_drewN | apply below_drew1)); exact Below.refl _ _) : Below w0.heap.size w0 w1 := below_step h hb
end Go.Proofs.Ytlomomhajmackaa.PA
