import Derived.Test.YtehfcnndjhjkoaaKFnCut4
import Derived.Deep.RegionHeld3
import Derived.Deep.DeepCutAuto
import Derived.ProofKit
import Derived.OpenShut
import Derived.ChangeOld
import Derived.Below
import Derived.SizedLaws
import Derived.Lib.SmallJoins
import Derived.Deep.Fields

namespace Go.Proofs.Ytehfcnndjhjkoaa.PA
open Go.RowKit Go.Proofs.YtehfcnndjhjkoaaW.PrintWords Go.Proofs.YtehfcnndjhjkoaaW.PrintLast Go.Proofs.YtehfcnndjhjkoaaW.PrintMore
set_option linter.unusedVariables false
set_option linter.unusedSimpArgs false

theorem St.lit1 {w W W' : World} {bl : List Bk} {ps : List PrD} (h : St w W bl ps) {g : Nat} {x : Int} (hg : g = W.heap.size) (hB : W'.heap[g]? = some (.cells #[.int .i64 x] 3 (0, 0))) (hb : Below W.heap.size W W') :
    St w W' bl (⟨W.heap.size, W'.heap.size, .slice (some ⟨g, 0, none⟩) 1 1, .slice none 0 0, [x], []⟩ :: ps) := by
  refine h.add hb (Nat.le_refl _) (ok2 := fun _ => True) ?_ (Kd.R_nil _ _ _ _ _)
  have h1 := R_of_blk (W := W') (g := g) (l := [x]) (B := W.heap.size) hB (by omega) (by simp)
  exact Kd.R_reok rfl h1 (fun k _ => by simp [Value.ownBlock])

theorem laws_eqArray_self (b : Bool) (l1 l2 : List Int) (h1 : l1.length ≤ 100000) (h2 : l2.length ≤ 100000) : ∃ k, laws_eqArray.f k b l1 l2 b l1 l2 = some true := (eqArray_self b l1 l2 (by omega) (by omega)).rounds
theorem arrOk_cellsB {b : Bool} {S D : List Int} (h : arrOk b S D = true) : ∀ x ∈ D, cellOk b x = true := by
  unfold arrOk at h
  rw [Bool.and_eq_true, List.all_eq_true] at h
  exact h.2
theorem arrOk_vec (b : Bool) (A : List Int) (hA : A.length ≤ 10000) (hc : ∀ x ∈ A, cellOk b x = true) : arrOk b [(A.length : Int)] A = true := by
  unfold arrOk
  rw [Bool.and_eq_true, Bool.and_eq_true, List.all_eq_true]
  refine ⟨⟨?_, by simp [prod]⟩, hc⟩
  simp [shOk, shGo]
  omega
theorem cut_facts (b : Bool) (S D : List Int) (m : Nat) (hok : arrOk b S D = true) (hm : m ≤ 1048576) : ∃ (k n1 : Nat), Aside0 (k ≤ D.length) ∧ IntKind.i64.wrap ((D.length : Int) + 1) = (n1 : Int) ∧ RowKit.wrap64 ((D.length : Int) + 1) = (n1 : Int) ∧ Int.tmod (m : Int) (n1 : Int) = (k : Int) ∧ (m : Int) % (n1 : Int) = (k : Int) ∧ ((n1 : Int) == 0) = false ∧ ¬ (n1 : Int) = 0 ∧ ¬ n1 = 0 ∧
    IntKind.i64.wrap (-(k : Int)) = -(k : Int) ∧ RowKit.wrap64 (-(k : Int)) = -(k : Int) ∧
    ∃ (E0 K1 M1 N1 X1 X2 Y1 Y2 Z1 Z2 U1 U2 V1 V2 W1 W2 : List Int) (ke1 ke2 : Nat), laws_lwScalar.f (k : Int) = some (false, E0, K1) ∧ laws_lwScalar.f (-(k : Int)) = some (false, E0, M1) ∧ laws_lwArray.f b [(D.length : Int)] D = some (b, N1, D) ∧
      takeV false E0 K1 b N1 D = (b, X1, X2, 0) ∧ dropV false E0 K1 b N1 D = (b, Y1, Y2, 0) ∧ catV b X1 X2 b Y1 Y2 = (b, Z1, Z2, 0) ∧
      dropV false E0 M1 b N1 D = (b, U1, U2, 0) ∧ takeV false E0 M1 b N1 D = (b, V1, V2, 0) ∧ catV b U1 U2 b V1 V2 = (b, W1, W2, 0) ∧
      laws_eqArray.f ke1 b Z1 Z2 b [(D.length : Int)] D = some true ∧ laws_eqArray.f ke2 b W1 W2 b [(D.length : Int)] D = some true ∧ N1.length ≠ 0 ∧ X1.length = 1 ∧ Y1.length = 1 ∧ U1.length = 1 ∧ V1.length = 1 := by
  have hc := arrOk_cellsB hok
  have hD := (arrOk_len hok).2
  have hv := arrOk_vec b D hD hc
  obtain ⟨k, hk⟩ : ∃ k : Nat, m % (D.length + 1) = k := ⟨_, rfl⟩
  have hkD : k ≤ D.length := by have := Nat.mod_lt m (show D.length + 1 > 0 by omega); omega
  have hcd : ∀ j, arrOk b [((D.take j).length : Int)] (D.take j) = true ∧ arrOk b [((D.drop j).length : Int)] (D.drop j) = true := fun j =>
    ⟨arrOk_vec b _ (by simp; omega) (fun x hx => hc x (List.mem_of_mem_take hx)), arrOk_vec b _ (by simp; omega) (fun x hx => hc x (List.mem_of_mem_drop hx))⟩
  have e1 : ((D.take k).length : Int) = (k : Int) := by simp; omega
  have e2 : ((D.drop k).length : Int) = ((D.length - k : Nat) : Int) := by simp
  have e3 : ((D.take (D.length - k)).length : Int) = ((D.length - k : Nat) : Int) := by simp
  have e4 : ((D.drop (D.length - k)).length : Int) = (k : Int) := by simp; omega
  have cat1 := cat_vec b (D.take k) (D.drop k) (hcd k).1 (hcd k).2 (by simp; omega)
  have cat2 := cat_vec b (D.take (D.length - k)) (D.drop (D.length - k)) (hcd _).1 (hcd _).2 (by simp; omega)
  rw [List.take_append_drop, e1, e2] at cat1
  rw [List.take_append_drop, e3, e4] at cat2
  obtain ⟨ke, hke⟩ := laws_eqArray_self b [(D.length : Int)] D (by simp) (by omega)
  have hms : Int.tmod (m : Int) ((D.length + 1 : Nat) : Int) = (k : Int) := by rw [Int.tmod_eq_emod_of_nonneg (by omega)]; omega
  refine ⟨k, D.length + 1, ⟨hkD⟩, ?_, ?_, hms, by omega, ?_, by omega, by omega, ?_, ?_, [], [(k : Int)], [-(k : Int)], [(D.length : Int)], [(k : Int)], D.take k, [((D.length - k : Nat) : Int)], D.drop k, [(D.length : Int)], D, [((D.length - k : Nat) : Int)], D.take (D.length - k), [(k : Int)], D.drop (D.length - k), [(D.length : Int)], D, ke, ke, ?_, ?_, ?_, ?_, ?_, ?_, ?_, ?_, ?_, hke, hke, by simp, rfl, rfl, rfl, rfl⟩
  · rw [IntWalk.i64_in _ (by omega)]; omega
  · rw [IntWalk.wrap64_in _ (by omega)]; omega
  · exact beq_eq_false_iff_ne.mpr (by omega)
  · rw [IntWalk.i64_in _ (by omega)]
  · rw [IntWalk.wrap64_in _ (by omega)]
  · rfl
  · rfl
  · unfold laws_lwArray.f
    rw [Option.bind_some, if_pos (by simp), Option.bind_some, if_pos (by simp; omega)]; rfl
  · exact take_vec hv hkD
  · exact drop_vec hv hkD
  · exact cat1
  · exact drop_neg hv hkD
  · exact take_neg hv hkD
  · exact cat2
set_option maxHeartbeats 8000000 in
set_option maxRecDepth 100000 in
theorem lawFnCut (A0 : Option Addr) (c0 : Nat) (l0 : List Int) (w : World) (hC : Kd.C (Kd.int .u8) w A0 l0.length l0) (hk : l0.length ≤ c0) (hy : ∀ x ∈ l0, 0 ≤ x ∧ x ≤ 255) :
    Calls Try.prog 13 #[.slice A0 l0.length c0] w fun e w' => e = .returned (.bool true) ∧ Below w.heap.size w w' := by
  have HC := Aside0.mk hC
  have HK := Aside0.mk hk
  have HY := Aside0.mk hy
  clear hC hk hy
  have HS := Aside0.mk (St.start w)
  by_cases hl : l0.length ≤ 1048576
  · have HL := Aside0.mk hl
    have c1 : decide ((l0.length : Int) > 1048576) = false := decide_eq_false (by omega)
    have c2 : ¬ 1048576 < (l0.length : Int) := by omega
    have c3 : decide (1048576 < l0.length) = false := decide_eq_false (by omega)
    have c4 : ¬ 1048576 < l0.length := by omega
    clear hl
    go_enter Try.func13, Try.ntmps13
    go_upto_region 3 with fail
    go_upto_region 4 with (first | (go_at_call 46; refine (DrawShow_any A0 c0 l0 _ (Kd.C_below HC.out HS.out.below) HK.out HY.out).mono ?_; rintro e w1 h_; unfold DrawPost at h_; obtain ⟨b, S, D, x1, y1, rfl, h6_, h7_, hx1, hy1, hb1⟩ := h_; obtain ⟨Ax1, cx1, rfl⟩ := Kd.R_slice hx1; obtain ⟨Ay1, cy1, rfl⟩ := Kd.R_slice hy1; have nS := Aside0.mk (St.add (by repeat (first | (with_reducible exact HS.out) | (with_reducible apply St.drew) | (with_reducible apply St.drewN) | (with_reducible apply St.alloc) | decide)) hb1 (Nat.le_refl _) hx1 hy1); clear HS; have HS := nS; clear nS hb1 hx1 hy1; have HB6 := Aside0.mk h6_; have HB7 := Aside0.mk h7_; clear h6_ h7_) | ((with_reducible refine gate_dst (N := 3) rfl ?_); refine box_event ?hg (N := 3) ?hd (cs := #[.bool false, .slice none 0 0, .slice none 0 0]) (t := 28) ?hr ?_; (case hd => rfl); (case hg => rfl); (case hr => first | (go_simp; done) | (go_simp; rfl)); intro gA hg2 w2 hx2 hb2; have nS := Aside0.mk (HS.out.box hg2 hx2 hb2 (by decide)); clear HS; have HS := nS; clear nS hg2 hx2 hb2) | ((with_reducible refine gate_store rfl ?_); refine store_named rfl 28 (.tmp 3) (.tmp 21) rfl gA #[.bool b, .slice Ax1 S.length cx1, .slice Ay1 D.length cy1] rfl rfl 28 #[.bool false, .slice none 0 0, .slice none 0 0] (HS.out.idx 0 rfl) (by kernel_rfl) rfl (by simp [Value.oneCell']) ?_; intro w3 hx3 hb3; have nS := Aside0.mk (HS.out.put 0 rfl hx3 hb3); simp only [List.set_cons_zero, List.set_cons_succ] at nS; clear HS; have HS := nS; clear nS hx3 hb3))
    obtain ⟨kA, hA⟩ := (specArrayOk_ev b S D (by have := HB6.out; omega) (by have := HB7.out; omega)).rounds
    rcases hok : arrOk b S D with _ | _
    all_goals rw [hok] at hA
    all_goals have HA := Aside0.mk hA
    all_goals clear hA
    · go_wp2_with (first | ((with_reducible refine gate_dst (N := 22) rfl ?_); refine wpList_load_row rfl 28 (.tmp 3) rfl gA rfl 28 #[.bool b, .slice Ax1 S.length cx1, .slice Ay1 D.length cy1] (0, 0) _ (HS.out.idx 0 rfl) Try.underlying28 rfl (by kernel_rfl) ?_) | (go_at_call 47; refine (spec_ArrayOk.calls kA b Ax1 cx1 S Ay1 cy1 D false _ (by (with_reducible repeat (first | refine Kd.C_drew ?_ | refine Kd.C_drewN ?_ _ | refine Kd.C_alloc ?_ _)); exact (HS.out.nth 0 rfl).c1.2.1) (HS.out.nth 0 rfl).c1.2.2 (by (with_reducible repeat (first | refine Kd.C_drew ?_ | refine Kd.C_drewN ?_ _ | refine Kd.C_alloc ?_ _)); exact (HS.out.nth 0 rfl).c2.2.1) (HS.out.nth 0 rfl).c2.2.2 HA.out).mono ?_; rintro e w4 ⟨rfl, hb4⟩; have nS := Aside0.mk (St.step (by repeat (first | (with_reducible exact HS.out) | (with_reducible apply St.drew) | (with_reducible apply St.drewN) | (with_reducible apply St.alloc) | decide)) hb4); clear HS; have HS := nS; clear nS hb4))
      go_ret
      exact ⟨rfl, HS.out.below⟩
    · go_upto_region 6 with (first | ((with_reducible refine gate_dst (N := 22) rfl ?_); refine wpList_load_row rfl 28 (.tmp 3) rfl gA rfl 28 #[.bool b, .slice Ax1 S.length cx1, .slice Ay1 D.length cy1] (0, 0) _ (HS.out.idx 0 rfl) Try.underlying28 rfl (by kernel_rfl) ?_) | (go_at_call 47; refine (spec_ArrayOk.calls kA b Ax1 cx1 S Ay1 cy1 D true _ (by (with_reducible repeat (first | refine Kd.C_drew ?_ | refine Kd.C_drewN ?_ _ | refine Kd.C_alloc ?_ _)); exact (HS.out.nth 0 rfl).c1.2.1) (HS.out.nth 0 rfl).c1.2.2 (by (with_reducible repeat (first | refine Kd.C_drew ?_ | refine Kd.C_drewN ?_ _ | refine Kd.C_alloc ?_ _)); exact (HS.out.nth 0 rfl).c2.2.1) (HS.out.nth 0 rfl).c2.2.2 HA.out).mono ?_; rintro e w4 ⟨rfl, hb4⟩; have nS := Aside0.mk (St.step (by repeat (first | (with_reducible exact HS.out) | (with_reducible apply St.drew) | (with_reducible apply St.drewN) | (with_reducible apply St.alloc) | decide)) hb4); clear HS; have HS := nS; clear nS hb4))
      have HN2 := Aside0.mk (arrOk_len hok).2
      obtain ⟨k, n1, HKD, hw1, hw2, hr1, hr2, hz1, hz2, hz3, hng1, hng2, E0, K1, M1, N1, X1, X2, Y1, Y2, Z1, Z2, U1, U2, V1, V2, W1, W2, ke1, ke2, f1, f2, f3, f4, f5, f6, f7, f8, f9, f10, f11, g0, g1, g2, g3, g4⟩ := cut_facts b S D l0.length hok HL.out
      clear hok
      have F1 := Aside0.mk f1
      have F2 := Aside0.mk f2
      have F3 := Aside0.mk f3
      have F4 := Aside0.mk f4
      have F5 := Aside0.mk f5
      have F6 := Aside0.mk f6
      have F7 := Aside0.mk f7
      have F8 := Aside0.mk f8
      have F9 := Aside0.mk f9
      have F10 := Aside0.mk f10
      have F11 := Aside0.mk f11
      clear f1 f2 f3 f4 f5 f6 f7 f8 f9 f10 f11
      have HNZ := Aside0.mk g0
      have G1 := Aside0.mk g1
      have G2 := Aside0.mk g2
      have G3 := Aside0.mk g3
      have G4 := Aside0.mk g4
      clear g0 g1 g2 g3 g4
      go_upto_region 7 with (first | ((with_reducible refine gate_dst (N := 26) rfl ?_); refine ev_load rfl 4 (.tmp 25) rfl ⟨gA, 0, none⟩ rfl (.bool b) ((blk_cell (HS.out.idx 0 rfl) 0).trans rfl) (by kernel_rfl) ?_) | ((with_reducible refine gate_dst (N := 28) rfl ?_); refine ev_load rfl 22 (.tmp 27) rfl ⟨gA, 2, none⟩ rfl (.slice Ay1 D.length cy1) ((blk_cell (HS.out.idx 0 rfl) 2).trans rfl) (by kernel_rfl) ?_) | ((with_reducible refine gate_dst (N := 30) rfl ?_); refine lit_event ?hg (N := 30) ?hd (cs := #[.int .i64 (D.length : Int)]) (t := 3) (n := 1) ?hr ?_; (case hd => rfl); (case hg => rfl); (case hr => first | (go_simp; done) | (go_simp; rfl)); intro gN hg5 w5 hx5 hb5; have nS := Aside0.mk (HS.out.lit1 hg5 hx5 hb5); clear HS; have HS := nS; clear nS hg5 hx5 hb5) | ((with_reducible refine gate_dst (N := 32) rfl ?_); refine ev_load rfl 22 (.tmp 31) rfl ⟨gA, 2, none⟩ rfl (.slice Ay1 D.length cy1) ((blk_cell (HS.out.idx 0 rfl) 2).trans rfl) (by kernel_rfl) ?_) | ((with_reducible refine gate_store rfl ?_); refine store_named rfl 28 (.tmp 3) (.tmp 33) rfl gA #[.bool b, .slice (some ⟨gN, 0, none⟩) 1 1, .slice Ay1 D.length cy1] rfl rfl 28 #[.bool b, .slice Ax1 S.length cx1, .slice Ay1 D.length cy1] (HS.out.idx 0 rfl) (by kernel_rfl) rfl (by simp [Value.oneCell']) ?_; intro w6 hx6 hb6; have nS := Aside0.mk (HS.out.put 0 rfl hx6 hb6); simp only [List.set_cons_zero, List.set_cons_succ] at nS; clear HS; have HS := nS; clear nS hx6 hb6))
      go_upto_region 8 with (first | ((with_reducible refine gate_dst (N := 37) rfl ?_); refine ev_load rfl 22 (.tmp 36) rfl ⟨gA, 2, none⟩ rfl (.slice Ay1 D.length cy1) ((blk_cell (HS.out.idx 0 rfl) 2).trans rfl) (by kernel_rfl) ?_))
      clear hw1 hw2 hr1 hr2 hz1 hz2 hz3
      go_cut [5, 6] (fun v6 v7 wc10 => Got w [(gA, #[.bool b, .slice (some ⟨gN, 0, none⟩) 1 1, .slice Ay1 D.length cy1], 28)] ([⟨w4.heap.size, w5.heap.size, .slice (some ⟨gN, 0, none⟩) 1 1, .slice none 0 0, [((D.length : Int) : Int)], ([] : List Int)⟩, ⟨w.heap.size, w1.heap.size, .slice Ax1 S.length cx1, .slice Ay1 D.length cy1, S, D⟩] : List PrD) 28 b X1 X2 0 v6 v7 wc10)
      case first =>
        go_region_held3 (fun w' => w'.cell? ⟨gA, 0, none⟩ = some (.bool b) ∧ w'.cell? ⟨gA, 1, none⟩ = some (.slice (some ⟨gN, 0, none⟩) 1 1) ∧ w'.cell? ⟨gA, 2, none⟩ = some (.slice Ay1 D.length cy1)) ((apply St.cells1 (w := w) (t1 := 28); (repeat (first | (with_reducible exact HS.out) | (with_reducible apply St.drew) | (with_reducible apply St.drewN) | (with_reducible apply St.alloc) | (with_reducible apply St.set3) | decide)); all_goals simp)) (first | (go_at_call 48; refine (laws_lwScalar.calls ((k : Int)) false E0 K1 _ F1.out).mono ?_; rintro e w7 ⟨x7, y7, rfl, hx7, hy7, hb7⟩; obtain ⟨Ax7, cx7, rfl⟩ := Kd.R_slice hx7; obtain ⟨Ay7, cy7, rfl⟩ := Kd.R_slice hy7; have nS := Aside0.mk (St.add (by repeat (first | (with_reducible exact HS.out) | (with_reducible apply St.drew) | (with_reducible apply St.drewN) | (with_reducible apply St.alloc) | decide)) hb7 (Nat.le_refl _) hx7 hy7); clear HS; have HS := nS; clear nS hb7 hx7 hy7) | (go_at_call 28; refine (laws_lwArray.calls b (some ⟨gN, 0, none⟩) 1 [((D.length : Int) : Int)] Ay1 cy1 D b N1 D _ (by (with_reducible repeat (first | refine Kd.C_drew ?_ | refine Kd.C_drewN ?_ _ | refine Kd.C_alloc ?_ _)); exact (HS.out.nth 1 rfl).c1.2.1) (HS.out.nth 1 rfl).c1.2.2 (by (with_reducible repeat (first | refine Kd.C_drew ?_ | refine Kd.C_drewN ?_ _ | refine Kd.C_alloc ?_ _)); exact (HS.out.nth 2 rfl).c2.2.1) (HS.out.nth 2 rfl).c2.2.2 F3.out).mono ?_; rintro e w8 ⟨x8, y8, rfl, hx8, hy8, hb8⟩; obtain ⟨Ax8, cx8, rfl⟩ := Kd.R_slice hx8; obtain ⟨Ay8, cy8, rfl⟩ := Kd.R_slice hy8; have nS := Aside0.mk (St.add (by repeat (first | (with_reducible exact HS.out) | (with_reducible apply St.drew) | (with_reducible apply St.drewN) | (with_reducible apply St.alloc) | decide)) hb8 (Nat.le_refl _) hx8 hy8); clear HS; have HS := nS; clear nS hb8 hx8 hy8) | (go_at_call 45; refine (take_on false Ax7 cx7 E0 Ay7 cy7 K1 b Ax8 cx8 N1 Ay8 cy8 D b X1 X2 _ (by (with_reducible repeat (first | refine Kd.C_drew ?_ | refine Kd.C_drewN ?_ _ | refine Kd.C_alloc ?_ _)); exact (HS.out.nth 1 rfl).c1.2.1) (HS.out.nth 1 rfl).c1.2.2 (by (with_reducible repeat (first | refine Kd.C_drew ?_ | refine Kd.C_drewN ?_ _ | refine Kd.C_alloc ?_ _)); exact (HS.out.nth 1 rfl).c2.2.1) (HS.out.nth 1 rfl).c2.2.2 (by (with_reducible repeat (first | refine Kd.C_drew ?_ | refine Kd.C_drewN ?_ _ | refine Kd.C_alloc ?_ _)); exact (HS.out.nth 0 rfl).c1.2.1) (HS.out.nth 0 rfl).c1.2.2 (by (with_reducible repeat (first | refine Kd.C_drew ?_ | refine Kd.C_drewN ?_ _ | refine Kd.C_alloc ?_ _)); exact (HS.out.nth 0 rfl).c2.2.1) (HS.out.nth 0 rfl).c2.2.2 F4.out HNZ.out).mono ?_; rintro e w9 ⟨x9, y9, rfl, hx9, hy9, hb9⟩; obtain ⟨Ax9, cx9, rfl⟩ := Kd.R_slice hx9; obtain ⟨Ay9, cy9, rfl⟩ := Kd.R_slice hy9; have nS := Aside0.mk (St.add (by repeat (first | (with_reducible exact HS.out) | (with_reducible apply St.drew) | (with_reducible apply St.drewN) | (with_reducible apply St.alloc) | decide)) hb9 (Nat.le_refl _) hx9 hy9); clear HS; have HS := nS; clear nS hb9 hx9 hy9; have hz_ := Aside0.mk (HS.out.idx 0 rfl); have hx0_ := (cells3 hz_.out).1; have hx1_ := (cells3 hz_.out).2.1; have hx2_ := (cells3 hz_.out).2.2; have hy0_ := blk_frozen hz_.out 0; have hy1_ := blk_frozen hz_.out 1; have hy2_ := blk_frozen hz_.out 2))
        all_goals
          go_wp2_with fail
          go_meet
          case rel =>
            (try (with_reducible refine Got.drew ?_))
            first | (with_reducible refine gotB HS.out ?_) | (with_reducible refine gotA HS.out ?_ (show 28 ≠ 3 by decide))
            repeat (first | (with_reducible exact List.Sublist.refl _) | (with_reducible exact List.nil_sublist _) | (with_reducible apply List.Sublist.cons_cons) | (with_reducible apply List.Sublist.cons))
      case rest =>
      clear HS
      obtain ⟨wc10, hwc_⟩ : ∃ x : World, x = wc := ⟨_, rfl⟩
      subst hwc_
      obtain ⟨gX, Az10, cz10, Bz10, dz10, lo10, hi10, rfl, rfl, hs10⟩ := hcut
      have HS := Aside0.mk hs10
      clear hs10
      go_upto_region 9 with fail
      go_cut [7, 8] (fun v6 v7 wc14 => Got w [(gX, #[.bool b, .slice Az10 X1.length cz10, .slice Bz10 X2.length dz10], 28), (gA, #[.bool b, .slice (some ⟨gN, 0, none⟩) 1 1, .slice Ay1 D.length cy1], 28)] ([⟨lo10, hi10, .slice Az10 X1.length cz10, .slice Bz10 X2.length dz10, X1, X2⟩, ⟨w4.heap.size, w5.heap.size, .slice (some ⟨gN, 0, none⟩) 1 1, .slice none 0 0, [((D.length : Int) : Int)], ([] : List Int)⟩, ⟨w.heap.size, w1.heap.size, .slice Ax1 S.length cx1, .slice Ay1 D.length cy1, S, D⟩] : List PrD) 28 b Y1 Y2 0 v6 v7 wc14)
      case first =>
        go_region_held3 (fun w' => w'.cell? ⟨gA, 0, none⟩ = some (.bool b) ∧ w'.cell? ⟨gA, 1, none⟩ = some (.slice (some ⟨gN, 0, none⟩) 1 1) ∧ w'.cell? ⟨gA, 2, none⟩ = some (.slice Ay1 D.length cy1)) ((apply St.cells1 (w := w) (t1 := 28); (repeat (first | (with_reducible exact HS.out) | (with_reducible apply St.drew) | (with_reducible apply St.drewN) | (with_reducible apply St.alloc) | (with_reducible apply St.set3) | decide)); all_goals simp)) (first | (go_at_call 48; refine (laws_lwScalar.calls ((k : Int)) false E0 K1 _ F1.out).mono ?_; rintro e w11 ⟨x11, y11, rfl, hx11, hy11, hb11⟩; obtain ⟨Ax11, cx11, rfl⟩ := Kd.R_slice hx11; obtain ⟨Ay11, cy11, rfl⟩ := Kd.R_slice hy11; have nS := Aside0.mk (St.add (by repeat (first | (with_reducible exact HS.out) | (with_reducible apply St.drew) | (with_reducible apply St.drewN) | (with_reducible apply St.alloc) | decide)) hb11 (Nat.le_refl _) hx11 hy11); clear HS; have HS := nS; clear nS hb11 hx11 hy11) | (go_at_call 28; refine (laws_lwArray.calls b (some ⟨gN, 0, none⟩) 1 [((D.length : Int) : Int)] Ay1 cy1 D b N1 D _ (by (with_reducible repeat (first | refine Kd.C_drew ?_ | refine Kd.C_drewN ?_ _ | refine Kd.C_alloc ?_ _)); exact (HS.out.nth 2 rfl).c1.2.1) (HS.out.nth 2 rfl).c1.2.2 (by (with_reducible repeat (first | refine Kd.C_drew ?_ | refine Kd.C_drewN ?_ _ | refine Kd.C_alloc ?_ _)); exact (HS.out.nth 3 rfl).c2.2.1) (HS.out.nth 3 rfl).c2.2.2 F3.out).mono ?_; rintro e w12 ⟨x12, y12, rfl, hx12, hy12, hb12⟩; obtain ⟨Ax12, cx12, rfl⟩ := Kd.R_slice hx12; obtain ⟨Ay12, cy12, rfl⟩ := Kd.R_slice hy12; have nS := Aside0.mk (St.add (by repeat (first | (with_reducible exact HS.out) | (with_reducible apply St.drew) | (with_reducible apply St.drewN) | (with_reducible apply St.alloc) | decide)) hb12 (Nat.le_refl _) hx12 hy12); clear HS; have HS := nS; clear nS hb12 hx12 hy12) | (go_at_call 41; refine (drop_on false Ax11 cx11 E0 Ay11 cy11 K1 b Ax12 cx12 N1 Ay12 cy12 D b Y1 Y2 _ (by (with_reducible repeat (first | refine Kd.C_drew ?_ | refine Kd.C_drewN ?_ _ | refine Kd.C_alloc ?_ _)); exact (HS.out.nth 1 rfl).c1.2.1) (HS.out.nth 1 rfl).c1.2.2 (by (with_reducible repeat (first | refine Kd.C_drew ?_ | refine Kd.C_drewN ?_ _ | refine Kd.C_alloc ?_ _)); exact (HS.out.nth 1 rfl).c2.2.1) (HS.out.nth 1 rfl).c2.2.2 (by (with_reducible repeat (first | refine Kd.C_drew ?_ | refine Kd.C_drewN ?_ _ | refine Kd.C_alloc ?_ _)); exact (HS.out.nth 0 rfl).c1.2.1) (HS.out.nth 0 rfl).c1.2.2 (by (with_reducible repeat (first | refine Kd.C_drew ?_ | refine Kd.C_drewN ?_ _ | refine Kd.C_alloc ?_ _)); exact (HS.out.nth 0 rfl).c2.2.1) (HS.out.nth 0 rfl).c2.2.2 F5.out HNZ.out).mono ?_; rintro e w13 ⟨x13, y13, rfl, hx13, hy13, hb13⟩; obtain ⟨Ax13, cx13, rfl⟩ := Kd.R_slice hx13; obtain ⟨Ay13, cy13, rfl⟩ := Kd.R_slice hy13; have nS := Aside0.mk (St.add (by repeat (first | (with_reducible exact HS.out) | (with_reducible apply St.drew) | (with_reducible apply St.drewN) | (with_reducible apply St.alloc) | decide)) hb13 (Nat.le_refl _) hx13 hy13); clear HS; have HS := nS; clear nS hb13 hx13 hy13; have hz_ := Aside0.mk (HS.out.idx 0 rfl); have hx0_ := (cells3 hz_.out).1; have hx1_ := (cells3 hz_.out).2.1; have hx2_ := (cells3 hz_.out).2.2; have hy0_ := blk_frozen hz_.out 0; have hy1_ := blk_frozen hz_.out 1; have hy2_ := blk_frozen hz_.out 2))
        all_goals
          go_wp2_with fail
          go_meet
          case rel =>
            (try (with_reducible refine Got.drew ?_))
            first | (with_reducible refine gotB HS.out ?_) | (with_reducible refine gotA HS.out ?_ (show 28 ≠ 3 by decide))
            repeat (first | (with_reducible exact List.Sublist.refl _) | (with_reducible exact List.nil_sublist _) | (with_reducible apply List.Sublist.cons_cons) | (with_reducible apply List.Sublist.cons))
      case rest =>
      clear HS
      obtain ⟨wc14, hwc_⟩ : ∃ x : World, x = wc := ⟨_, rfl⟩
      subst hwc_
      obtain ⟨gY, Az14, cz14, Bz14, dz14, lo14, hi14, rfl, rfl, hs14⟩ := hcut
      have HS := Aside0.mk hs14
      clear hs14
      go_upto_region 10 with fail
      go_upto_region 11 with (first | ((with_reducible refine gate_dst (N := 58) rfl ?_); refine wpList_load_row rfl 28 (.tmp 5) rfl gX rfl 28 #[.bool b, .slice Az10 X1.length cz10, .slice Bz10 X2.length dz10] (0, 0) _ (HS.out.idx 1 rfl) Try.underlying28 rfl (by kernel_rfl) ?_) | ((with_reducible refine gate_dst (N := 59) rfl ?_); refine wpList_load_row rfl 28 (.tmp 7) rfl gY rfl 28 #[.bool b, .slice Az14 Y1.length cz14, .slice Bz14 Y2.length dz14] (0, 0) _ (HS.out.idx 0 rfl) Try.underlying28 rfl (by kernel_rfl) ?_) | (go_at_call 38; refine (cat_vecs b Az10 cz10 X1 Bz10 dz10 X2 Az14 cz14 Y1 Bz14 dz14 Y2 b Z1 Z2 _ (by (with_reducible repeat (first | refine Kd.C_drew ?_ | refine Kd.C_drewN ?_ _ | refine Kd.C_alloc ?_ _)); exact (HS.out.nth 1 rfl).c1.2.1) (HS.out.nth 1 rfl).c1.2.2 (by (with_reducible repeat (first | refine Kd.C_drew ?_ | refine Kd.C_drewN ?_ _ | refine Kd.C_alloc ?_ _)); exact (HS.out.nth 1 rfl).c2.2.1) (HS.out.nth 1 rfl).c2.2.2 (by (with_reducible repeat (first | refine Kd.C_drew ?_ | refine Kd.C_drewN ?_ _ | refine Kd.C_alloc ?_ _)); exact (HS.out.nth 0 rfl).c1.2.1) (HS.out.nth 0 rfl).c1.2.2 (by (with_reducible repeat (first | refine Kd.C_drew ?_ | refine Kd.C_drewN ?_ _ | refine Kd.C_alloc ?_ _)); exact (HS.out.nth 0 rfl).c2.2.1) (HS.out.nth 0 rfl).c2.2.2 F6.out G1.out G2.out).mono ?_; rintro e w15 ⟨x15, y15, rfl, hx15, hy15, hb15⟩; obtain ⟨Ax15, cx15, rfl⟩ := Kd.R_slice hx15; obtain ⟨Ay15, cy15, rfl⟩ := Kd.R_slice hy15; have nS := Aside0.mk (St.add (by repeat (first | (with_reducible exact HS.out) | (with_reducible apply St.drew) | (with_reducible apply St.drewN) | (with_reducible apply St.alloc) | decide)) hb15 (Nat.le_refl _) hx15 hy15); clear HS; have HS := nS; clear nS hb15 hx15 hy15) | ((with_reducible refine gate_dst (N := 9) rfl ?_); refine box_event ?hg (N := 9) ?hd (cs := #[.bool false, .slice none 0 0, .slice none 0 0]) (t := 28) ?hr ?_; (case hd => rfl); (case hg => rfl); (case hr => first | (go_simp; done) | (go_simp; rfl)); intro gZ hg16 w16 hx16 hb16; have nS := Aside0.mk (HS.out.box hg16 hx16 hb16 (by decide)); clear HS; have HS := nS; clear nS hg16 hx16 hb16) | ((with_reducible refine gate_store rfl ?_); refine store_named rfl 28 (.tmp 9) (.tmp 61) rfl gZ #[.bool b, .slice Ax15 Z1.length cx15, .slice Ay15 Z2.length cy15] rfl rfl 28 #[.bool false, .slice none 0 0, .slice none 0 0] (HS.out.idx 0 rfl) (by kernel_rfl) rfl (by simp [Value.oneCell']) ?_; intro w17 hx17 hb17; have nS := Aside0.mk (HS.out.put 0 rfl hx17 hb17); simp only [List.set_cons_zero, List.set_cons_succ] at nS; clear HS; have HS := nS; clear nS hx17 hb17))
      go_cut [11, 12] (fun v6 v7 wc21 => Got w [(gZ, #[.bool b, .slice Ax15 Z1.length cx15, .slice Ay15 Z2.length cy15], 28), (gY, #[.bool b, .slice Az14 Y1.length cz14, .slice Bz14 Y2.length dz14], 28), (gX, #[.bool b, .slice Az10 X1.length cz10, .slice Bz10 X2.length dz10], 28), (gA, #[.bool b, .slice (some ⟨gN, 0, none⟩) 1 1, .slice Ay1 D.length cy1], 28)] ([⟨wc14.heap.size, w15.heap.size, .slice Ax15 Z1.length cx15, .slice Ay15 Z2.length cy15, Z1, Z2⟩, ⟨lo14, hi14, .slice Az14 Y1.length cz14, .slice Bz14 Y2.length dz14, Y1, Y2⟩, ⟨lo10, hi10, .slice Az10 X1.length cz10, .slice Bz10 X2.length dz10, X1, X2⟩, ⟨w4.heap.size, w5.heap.size, .slice (some ⟨gN, 0, none⟩) 1 1, .slice none 0 0, [((D.length : Int) : Int)], ([] : List Int)⟩, ⟨w.heap.size, w1.heap.size, .slice Ax1 S.length cx1, .slice Ay1 D.length cy1, S, D⟩] : List PrD) 28 b U1 U2 0 v6 v7 wc21)
      case first =>
        go_region_held3 (fun w' => w'.cell? ⟨gA, 0, none⟩ = some (.bool b) ∧ w'.cell? ⟨gA, 1, none⟩ = some (.slice (some ⟨gN, 0, none⟩) 1 1) ∧ w'.cell? ⟨gA, 2, none⟩ = some (.slice Ay1 D.length cy1)) ((apply St.cells1 (w := w) (t1 := 28); (repeat (first | (with_reducible exact HS.out) | (with_reducible apply St.drew) | (with_reducible apply St.drewN) | (with_reducible apply St.alloc) | (with_reducible apply St.set3) | decide)); all_goals simp)) (first | (go_at_call 48; refine (laws_lwScalar.calls (-(k : Int)) false E0 M1 _ F2.out).mono ?_; rintro e w18 ⟨x18, y18, rfl, hx18, hy18, hb18⟩; obtain ⟨Ax18, cx18, rfl⟩ := Kd.R_slice hx18; obtain ⟨Ay18, cy18, rfl⟩ := Kd.R_slice hy18; have nS := Aside0.mk (St.add (by repeat (first | (with_reducible exact HS.out) | (with_reducible apply St.drew) | (with_reducible apply St.drewN) | (with_reducible apply St.alloc) | decide)) hb18 (Nat.le_refl _) hx18 hy18); clear HS; have HS := nS; clear nS hb18 hx18 hy18) | (go_at_call 28; refine (laws_lwArray.calls b (some ⟨gN, 0, none⟩) 1 [((D.length : Int) : Int)] Ay1 cy1 D b N1 D _ (by (with_reducible repeat (first | refine Kd.C_drew ?_ | refine Kd.C_drewN ?_ _ | refine Kd.C_alloc ?_ _)); exact (HS.out.nth 4 rfl).c1.2.1) (HS.out.nth 4 rfl).c1.2.2 (by (with_reducible repeat (first | refine Kd.C_drew ?_ | refine Kd.C_drewN ?_ _ | refine Kd.C_alloc ?_ _)); exact (HS.out.nth 5 rfl).c2.2.1) (HS.out.nth 5 rfl).c2.2.2 F3.out).mono ?_; rintro e w19 ⟨x19, y19, rfl, hx19, hy19, hb19⟩; obtain ⟨Ax19, cx19, rfl⟩ := Kd.R_slice hx19; obtain ⟨Ay19, cy19, rfl⟩ := Kd.R_slice hy19; have nS := Aside0.mk (St.add (by repeat (first | (with_reducible exact HS.out) | (with_reducible apply St.drew) | (with_reducible apply St.drewN) | (with_reducible apply St.alloc) | decide)) hb19 (Nat.le_refl _) hx19 hy19); clear HS; have HS := nS; clear nS hb19 hx19 hy19) | (go_at_call 41; refine (drop_on false Ax18 cx18 E0 Ay18 cy18 M1 b Ax19 cx19 N1 Ay19 cy19 D b U1 U2 _ (by (with_reducible repeat (first | refine Kd.C_drew ?_ | refine Kd.C_drewN ?_ _ | refine Kd.C_alloc ?_ _)); exact (HS.out.nth 1 rfl).c1.2.1) (HS.out.nth 1 rfl).c1.2.2 (by (with_reducible repeat (first | refine Kd.C_drew ?_ | refine Kd.C_drewN ?_ _ | refine Kd.C_alloc ?_ _)); exact (HS.out.nth 1 rfl).c2.2.1) (HS.out.nth 1 rfl).c2.2.2 (by (with_reducible repeat (first | refine Kd.C_drew ?_ | refine Kd.C_drewN ?_ _ | refine Kd.C_alloc ?_ _)); exact (HS.out.nth 0 rfl).c1.2.1) (HS.out.nth 0 rfl).c1.2.2 (by (with_reducible repeat (first | refine Kd.C_drew ?_ | refine Kd.C_drewN ?_ _ | refine Kd.C_alloc ?_ _)); exact (HS.out.nth 0 rfl).c2.2.1) (HS.out.nth 0 rfl).c2.2.2 F7.out HNZ.out).mono ?_; rintro e w20 ⟨x20, y20, rfl, hx20, hy20, hb20⟩; obtain ⟨Ax20, cx20, rfl⟩ := Kd.R_slice hx20; obtain ⟨Ay20, cy20, rfl⟩ := Kd.R_slice hy20; have nS := Aside0.mk (St.add (by repeat (first | (with_reducible exact HS.out) | (with_reducible apply St.drew) | (with_reducible apply St.drewN) | (with_reducible apply St.alloc) | decide)) hb20 (Nat.le_refl _) hx20 hy20); clear HS; have HS := nS; clear nS hb20 hx20 hy20; have hz_ := Aside0.mk (HS.out.idx 0 rfl); have hx0_ := (cells3 hz_.out).1; have hx1_ := (cells3 hz_.out).2.1; have hx2_ := (cells3 hz_.out).2.2; have hy0_ := blk_frozen hz_.out 0; have hy1_ := blk_frozen hz_.out 1; have hy2_ := blk_frozen hz_.out 2))
        all_goals
          go_wp2_with fail
          go_meet
          case rel =>
            (try (with_reducible refine Got.drew ?_))
            first | (with_reducible refine gotB HS.out ?_) | (with_reducible refine gotA HS.out ?_ (show 28 ≠ 3 by decide))
            repeat (first | (with_reducible exact List.Sublist.refl _) | (with_reducible exact List.nil_sublist _) | (with_reducible apply List.Sublist.cons_cons) | (with_reducible apply List.Sublist.cons))
      case rest =>
      clear HS
      obtain ⟨wc21, hwc_⟩ : ∃ x : World, x = wc := ⟨_, rfl⟩
      subst hwc_
      obtain ⟨gU, Az21, cz21, Bz21, dz21, lo21, hi21, rfl, rfl, hs21⟩ := hcut
      have HS := Aside0.mk hs21
      clear hs21
      go_upto_region 12 with fail
      go_cut [13, 14] (fun v6 v7 wc25 => Got w [(gU, #[.bool b, .slice Az21 U1.length cz21, .slice Bz21 U2.length dz21], 28), (gZ, #[.bool b, .slice Ax15 Z1.length cx15, .slice Ay15 Z2.length cy15], 28), (gY, #[.bool b, .slice Az14 Y1.length cz14, .slice Bz14 Y2.length dz14], 28), (gX, #[.bool b, .slice Az10 X1.length cz10, .slice Bz10 X2.length dz10], 28), (gA, #[.bool b, .slice (some ⟨gN, 0, none⟩) 1 1, .slice Ay1 D.length cy1], 28)] ([⟨lo21, hi21, .slice Az21 U1.length cz21, .slice Bz21 U2.length dz21, U1, U2⟩, ⟨wc14.heap.size, w15.heap.size, .slice Ax15 Z1.length cx15, .slice Ay15 Z2.length cy15, Z1, Z2⟩, ⟨lo14, hi14, .slice Az14 Y1.length cz14, .slice Bz14 Y2.length dz14, Y1, Y2⟩, ⟨lo10, hi10, .slice Az10 X1.length cz10, .slice Bz10 X2.length dz10, X1, X2⟩, ⟨w4.heap.size, w5.heap.size, .slice (some ⟨gN, 0, none⟩) 1 1, .slice none 0 0, [((D.length : Int) : Int)], ([] : List Int)⟩, ⟨w.heap.size, w1.heap.size, .slice Ax1 S.length cx1, .slice Ay1 D.length cy1, S, D⟩] : List PrD) 28 b V1 V2 0 v6 v7 wc25)
      case first =>
        go_region_held3 (fun w' => w'.cell? ⟨gA, 0, none⟩ = some (.bool b) ∧ w'.cell? ⟨gA, 1, none⟩ = some (.slice (some ⟨gN, 0, none⟩) 1 1) ∧ w'.cell? ⟨gA, 2, none⟩ = some (.slice Ay1 D.length cy1)) ((apply St.cells1 (w := w) (t1 := 28); (repeat (first | (with_reducible exact HS.out) | (with_reducible apply St.drew) | (with_reducible apply St.drewN) | (with_reducible apply St.alloc) | (with_reducible apply St.set3) | decide)); all_goals simp)) (first | (go_at_call 48; refine (laws_lwScalar.calls (-(k : Int)) false E0 M1 _ F2.out).mono ?_; rintro e w22 ⟨x22, y22, rfl, hx22, hy22, hb22⟩; obtain ⟨Ax22, cx22, rfl⟩ := Kd.R_slice hx22; obtain ⟨Ay22, cy22, rfl⟩ := Kd.R_slice hy22; have nS := Aside0.mk (St.add (by repeat (first | (with_reducible exact HS.out) | (with_reducible apply St.drew) | (with_reducible apply St.drewN) | (with_reducible apply St.alloc) | decide)) hb22 (Nat.le_refl _) hx22 hy22); clear HS; have HS := nS; clear nS hb22 hx22 hy22) | (go_at_call 28; refine (laws_lwArray.calls b (some ⟨gN, 0, none⟩) 1 [((D.length : Int) : Int)] Ay1 cy1 D b N1 D _ (by (with_reducible repeat (first | refine Kd.C_drew ?_ | refine Kd.C_drewN ?_ _ | refine Kd.C_alloc ?_ _)); exact (HS.out.nth 5 rfl).c1.2.1) (HS.out.nth 5 rfl).c1.2.2 (by (with_reducible repeat (first | refine Kd.C_drew ?_ | refine Kd.C_drewN ?_ _ | refine Kd.C_alloc ?_ _)); exact (HS.out.nth 6 rfl).c2.2.1) (HS.out.nth 6 rfl).c2.2.2 F3.out).mono ?_; rintro e w23 ⟨x23, y23, rfl, hx23, hy23, hb23⟩; obtain ⟨Ax23, cx23, rfl⟩ := Kd.R_slice hx23; obtain ⟨Ay23, cy23, rfl⟩ := Kd.R_slice hy23; have nS := Aside0.mk (St.add (by repeat (first | (with_reducible exact HS.out) | (with_reducible apply St.drew) | (with_reducible apply St.drewN) | (with_reducible apply St.alloc) | decide)) hb23 (Nat.le_refl _) hx23 hy23); clear HS; have HS := nS; clear nS hb23 hx23 hy23) | (go_at_call 45; refine (take_on false Ax22 cx22 E0 Ay22 cy22 M1 b Ax23 cx23 N1 Ay23 cy23 D b V1 V2 _ (by (with_reducible repeat (first | refine Kd.C_drew ?_ | refine Kd.C_drewN ?_ _ | refine Kd.C_alloc ?_ _)); exact (HS.out.nth 1 rfl).c1.2.1) (HS.out.nth 1 rfl).c1.2.2 (by (with_reducible repeat (first | refine Kd.C_drew ?_ | refine Kd.C_drewN ?_ _ | refine Kd.C_alloc ?_ _)); exact (HS.out.nth 1 rfl).c2.2.1) (HS.out.nth 1 rfl).c2.2.2 (by (with_reducible repeat (first | refine Kd.C_drew ?_ | refine Kd.C_drewN ?_ _ | refine Kd.C_alloc ?_ _)); exact (HS.out.nth 0 rfl).c1.2.1) (HS.out.nth 0 rfl).c1.2.2 (by (with_reducible repeat (first | refine Kd.C_drew ?_ | refine Kd.C_drewN ?_ _ | refine Kd.C_alloc ?_ _)); exact (HS.out.nth 0 rfl).c2.2.1) (HS.out.nth 0 rfl).c2.2.2 F8.out HNZ.out).mono ?_; rintro e w24 ⟨x24, y24, rfl, hx24, hy24, hb24⟩; obtain ⟨Ax24, cx24, rfl⟩ := Kd.R_slice hx24; obtain ⟨Ay24, cy24, rfl⟩ := Kd.R_slice hy24; have nS := Aside0.mk (St.add (by repeat (first | (with_reducible exact HS.out) | (with_reducible apply St.drew) | (with_reducible apply St.drewN) | (with_reducible apply St.alloc) | decide)) hb24 (Nat.le_refl _) hx24 hy24); clear HS; have HS := nS; clear nS hb24 hx24 hy24; have hz_ := Aside0.mk (HS.out.idx 0 rfl); have hx0_ := (cells3 hz_.out).1; have hx1_ := (cells3 hz_.out).2.1; have hx2_ := (cells3 hz_.out).2.2; have hy0_ := blk_frozen hz_.out 0; have hy1_ := blk_frozen hz_.out 1; have hy2_ := blk_frozen hz_.out 2))
        all_goals
          go_wp2_with fail
          go_meet
          case rel =>
            (try (with_reducible refine Got.drew ?_))
            first | (with_reducible refine gotB HS.out ?_) | (with_reducible refine gotA HS.out ?_ (show 28 ≠ 3 by decide))
            repeat (first | (with_reducible exact List.Sublist.refl _) | (with_reducible exact List.nil_sublist _) | (with_reducible apply List.Sublist.cons_cons) | (with_reducible apply List.Sublist.cons))
      case rest =>
      clear HS
      obtain ⟨wc25, hwc_⟩ : ∃ x : World, x = wc := ⟨_, rfl⟩
      subst hwc_
      obtain ⟨gV, Az25, cz25, Bz25, dz25, lo25, hi25, rfl, rfl, hs25⟩ := hcut
      have HS := Aside0.mk hs25
      clear hs25
      go_upto_region 13 with fail
      go_upto_region 14 with (first | ((with_reducible refine gate_dst (N := 82) rfl ?_); refine wpList_load_row rfl 28 (.tmp 11) rfl gU rfl 28 #[.bool b, .slice Az21 U1.length cz21, .slice Bz21 U2.length dz21] (0, 0) _ (HS.out.idx 1 rfl) Try.underlying28 rfl (by kernel_rfl) ?_) | ((with_reducible refine gate_dst (N := 83) rfl ?_); refine wpList_load_row rfl 28 (.tmp 13) rfl gV rfl 28 #[.bool b, .slice Az25 V1.length cz25, .slice Bz25 V2.length dz25] (0, 0) _ (HS.out.idx 0 rfl) Try.underlying28 rfl (by kernel_rfl) ?_) | (go_at_call 38; refine (cat_vecs b Az21 cz21 U1 Bz21 dz21 U2 Az25 cz25 V1 Bz25 dz25 V2 b W1 W2 _ (by (with_reducible repeat (first | refine Kd.C_drew ?_ | refine Kd.C_drewN ?_ _ | refine Kd.C_alloc ?_ _)); exact (HS.out.nth 1 rfl).c1.2.1) (HS.out.nth 1 rfl).c1.2.2 (by (with_reducible repeat (first | refine Kd.C_drew ?_ | refine Kd.C_drewN ?_ _ | refine Kd.C_alloc ?_ _)); exact (HS.out.nth 1 rfl).c2.2.1) (HS.out.nth 1 rfl).c2.2.2 (by (with_reducible repeat (first | refine Kd.C_drew ?_ | refine Kd.C_drewN ?_ _ | refine Kd.C_alloc ?_ _)); exact (HS.out.nth 0 rfl).c1.2.1) (HS.out.nth 0 rfl).c1.2.2 (by (with_reducible repeat (first | refine Kd.C_drew ?_ | refine Kd.C_drewN ?_ _ | refine Kd.C_alloc ?_ _)); exact (HS.out.nth 0 rfl).c2.2.1) (HS.out.nth 0 rfl).c2.2.2 F9.out G3.out G4.out).mono ?_; rintro e w26 ⟨x26, y26, rfl, hx26, hy26, hb26⟩; obtain ⟨Ax26, cx26, rfl⟩ := Kd.R_slice hx26; obtain ⟨Ay26, cy26, rfl⟩ := Kd.R_slice hy26; have nS := Aside0.mk (St.add (by repeat (first | (with_reducible exact HS.out) | (with_reducible apply St.drew) | (with_reducible apply St.drewN) | (with_reducible apply St.alloc) | decide)) hb26 (Nat.le_refl _) hx26 hy26); clear HS; have HS := nS; clear nS hb26 hx26 hy26) | ((with_reducible refine gate_dst (N := 15) rfl ?_); refine box_event ?hg (N := 15) ?hd (cs := #[.bool false, .slice none 0 0, .slice none 0 0]) (t := 28) ?hr ?_; (case hd => rfl); (case hg => rfl); (case hr => first | (go_simp; done) | (go_simp; rfl)); intro gW hg27 w27 hx27 hb27; have nS := Aside0.mk (HS.out.box hg27 hx27 hb27 (by decide)); clear HS; have HS := nS; clear nS hg27 hx27 hb27) | ((with_reducible refine gate_store rfl ?_); refine store_named rfl 28 (.tmp 15) (.tmp 85) rfl gW #[.bool b, .slice Ax26 W1.length cx26, .slice Ay26 W2.length cy26] rfl rfl 28 #[.bool false, .slice none 0 0, .slice none 0 0] (HS.out.idx 0 rfl) (by kernel_rfl) rfl (by simp [Value.oneCell']) ?_; intro w28 hx28 hb28; have nS := Aside0.mk (HS.out.put 0 rfl hx28 hb28); simp only [List.set_cons_zero, List.set_cons_succ] at nS; clear HS; have HS := nS; clear nS hx28 hb28))
      go_wp2_with (first | ((with_reducible refine wpList_guardedB ?hw ?_); (case hw => first | rfl | (go_simp; done))) | ((with_reducible refine gate_dst (N := 110) rfl ?_); refine wpList_load_row rfl 28 (.tmp 9) rfl gZ rfl 28 #[.bool b, .slice Ax15 Z1.length cx15, .slice Ay15 Z2.length cy15] (0, 0) _ (HS.out.idx 3 rfl) Try.underlying28 rfl (by kernel_rfl) ?_) | ((with_reducible refine gate_dst (N := 111) rfl ?_); refine wpList_load_row rfl 28 (.tmp 3) rfl gA rfl 28 #[.bool b, .slice (some ⟨gN, 0, none⟩) 1 1, .slice Ay1 D.length cy1] (0, 0) _ (HS.out.idx 6 rfl) Try.underlying28 rfl (by kernel_rfl) ?_) | ((with_reducible refine gate_dst (N := 115) rfl ?_); refine wpList_load_row rfl 28 (.tmp 15) rfl gW rfl 28 #[.bool b, .slice Ax26 W1.length cx26, .slice Ay26 W2.length cy26] (0, 0) _ (HS.out.idx 0 rfl) Try.underlying28 rfl (by kernel_rfl) ?_) | ((with_reducible refine gate_dst (N := 116) rfl ?_); refine wpList_load_row rfl 28 (.tmp 3) rfl gA rfl 28 #[.bool b, .slice (some ⟨gN, 0, none⟩) 1 1, .slice Ay1 D.length cy1] (0, 0) _ (HS.out.idx 6 rfl) Try.underlying28 rfl (by kernel_rfl) ?_) | (go_at_call_of 21 (Value.agg #[Value.bool b, Value.slice Ax15 Z1.length cx15, Value.slice Ay15 Z2.length cy15]); refine (laws_eqArray.calls ke1 b Ax15 cx15 Z1 Ay15 cy15 Z2 b (some ⟨gN, 0, none⟩) 1 [((D.length : Int) : Int)] Ay1 cy1 D true _ (by (with_reducible repeat (first | refine Kd.C_drew ?_ | refine Kd.C_drewN ?_ _ | refine Kd.C_alloc ?_ _)); exact (HS.out.nth 3 rfl).c1.2.1) (HS.out.nth 3 rfl).c1.2.2 (by (with_reducible repeat (first | refine Kd.C_drew ?_ | refine Kd.C_drewN ?_ _ | refine Kd.C_alloc ?_ _)); exact (HS.out.nth 3 rfl).c2.2.1) (HS.out.nth 3 rfl).c2.2.2 (by (with_reducible repeat (first | refine Kd.C_drew ?_ | refine Kd.C_drewN ?_ _ | refine Kd.C_alloc ?_ _)); exact (HS.out.nth 6 rfl).c1.2.1) (HS.out.nth 6 rfl).c1.2.2 (by (with_reducible repeat (first | refine Kd.C_drew ?_ | refine Kd.C_drewN ?_ _ | refine Kd.C_alloc ?_ _)); exact (HS.out.nth 7 rfl).c2.2.1) (HS.out.nth 7 rfl).c2.2.2 F10.out).mono ?_; rintro e w29 ⟨rfl, hb29⟩; have nS := Aside0.mk (St.step (by repeat (first | (with_reducible exact HS.out) | (with_reducible apply St.drew) | (with_reducible apply St.drewN) | (with_reducible apply St.alloc) | decide)) hb29); clear HS; have HS := nS; clear nS hb29) | (go_at_call_of 21 (Value.agg #[Value.bool b, Value.slice Ax26 W1.length cx26, Value.slice Ay26 W2.length cy26]); refine (laws_eqArray.calls ke2 b Ax26 cx26 W1 Ay26 cy26 W2 b (some ⟨gN, 0, none⟩) 1 [((D.length : Int) : Int)] Ay1 cy1 D true _ (by (with_reducible repeat (first | refine Kd.C_drew ?_ | refine Kd.C_drewN ?_ _ | refine Kd.C_alloc ?_ _)); exact (HS.out.nth 0 rfl).c1.2.1) (HS.out.nth 0 rfl).c1.2.2 (by (with_reducible repeat (first | refine Kd.C_drew ?_ | refine Kd.C_drewN ?_ _ | refine Kd.C_alloc ?_ _)); exact (HS.out.nth 0 rfl).c2.2.1) (HS.out.nth 0 rfl).c2.2.2 (by (with_reducible repeat (first | refine Kd.C_drew ?_ | refine Kd.C_drewN ?_ _ | refine Kd.C_alloc ?_ _)); exact (HS.out.nth 6 rfl).c1.2.1) (HS.out.nth 6 rfl).c1.2.2 (by (with_reducible repeat (first | refine Kd.C_drew ?_ | refine Kd.C_drewN ?_ _ | refine Kd.C_alloc ?_ _)); exact (HS.out.nth 7 rfl).c2.2.1) (HS.out.nth 7 rfl).c2.2.2 F11.out).mono ?_; rintro e w30 ⟨rfl, hb30⟩; have nS := Aside0.mk (St.step (by repeat (first | (with_reducible exact HS.out) | (with_reducible apply St.drew) | (with_reducible apply St.drewN) | (with_reducible apply St.alloc) | decide)) hb30); clear HS; have HS := nS; clear nS hb30))
      go_ret
      exact ⟨rfl, HS.out.below⟩
  · have c1 : decide ((l0.length : Int) > 1048576) = true := decide_eq_true (by omega)
    have c2 : 1048576 < (l0.length : Int) := by omega
    have c3 : decide (1048576 < l0.length) = true := decide_eq_true (by omega)
    have c4 : 1048576 < l0.length := by omega
    clear hl
    go_enter Try.func13, Try.ntmps13
    go_wp2_with fail
    go_ret
    exact ⟨rfl, HS.out.below⟩
end Go.Proofs.Ytehfcnndjhjkoaa.PA

namespace Go.Proofs.Ytehfcnndjhjkoaa.PA
open Go.ChangeShapes Go.WideShapes Go.ChangeAt Go.RowKit Go.Deep Go.Proofs.YtehfcnndjhjkoaaW.PrintWords Go.Proofs.YtehfcnndjhjkoaaW.PrintLast Go.Proofs.YtehfcnndjhjkoaaW.PrintMore

/-- A slice of whole numbers that came in: what it reads as. -/
structure Sl (W : World) (A : Option Addr) (l : List Int) (c : Nat) : Prop where
  reads : ReadsInt W .i64 A l.length l
  max : l.length ≤ maxLen
  wf : ∀ x ∈ l, (Lit.int .i64 x).wf = true
  cap : l.length ≤ c




end Go.Proofs.Ytehfcnndjhjkoaa.PA

namespace Go.Proofs.Ytehfcnndjhjkoaa.PA
open Go.ChangeShapes Go.WideShapes Go.ChangeAt Go.RowKit Go.Deep Go.Proofs.YtehfcnndjhjkoaaW.PrintWords Go.Proofs.YtehfcnndjhjkoaaW.PrintLast Go.Proofs.YtehfcnndjhjkoaaW.PrintMore
/-- A slice of bytes that came in: what it reads as. -/
structure Sb (W : World) (A : Option Addr) (l : List Int) (c : Nat) : Prop where
  reads : ReadsInt W .u8 A l.length l
  max : l.length ≤ maxLen
  wf : ∀ x ∈ l, (Lit.int .u8 x).wf = true
  cap : l.length ≤ c
theorem slice_cellb {H : Type} {enc : TypeId × Value → H} {P : Program} {W : World} {fuel : Nat} {t e : TypeId} {cs : List Value} {x : DataW H × List MemPlace}
    (ht : P.underlying t = some (.slice e)) (he : P.underlying e = some (.int .u8)) (hc : P.cellsOf e = 1)
    (hf : DataW.trod enc P W 0 (fun _ => true) true fuel t cs = some x) : ∃ A l c, cs = [.slice A l.length c] ∧ Sb W A l c := by
  rcases open_ints ht he hc hf with ⟨hcs, _⟩ | ⟨a, n, c, zs, hcs, _, hl, hm, hz, _, hcell, hwz⟩
  · obtain ⟨l, e1, h1, h2, h3, h4⟩ := ReadsInt.ofRowC (k := .u8) (w := W) (a := none) (len := 0) (cap := 0) (zs := []) (.inl ⟨rfl, rfl, rfl, rfl⟩)
    refine ⟨none, l, 0, ?_, h1, h2, h3, h4⟩
    rw [← e1]; exact hcs
  · obtain ⟨l, e1, h1, h2, h3, h4⟩ := ReadsInt.ofRowC (k := .u8) (w := W) (a := some a) (len := n) (cap := c) (zs := zs) (.inr ⟨a, rfl, hl, hm, by simpa using hz, hcell, hwz⟩)
    refine ⟨some a, l, c, ?_, h1, h2, h3, h4⟩
    rw [← e1]; exact hcs
theorem open_slb {H : Type} {enc : TypeId × Value → H} {P : Program} {W : World} {t e : TypeId} {v : Value} {d : DataW H} {p : List MemPlace} {r : Reach} {b0 : Nat}
    (ht : P.underlying t = some (.slice e)) (he : P.underlying e = some (.int .u8)) (hc : P.cellsOf e = 1)
    (hv : Value.okWide P W r b0 t v) (h : DataW.Trod enc P W 0 (fun _ => true) true t v d p) : ∃ A l c, v = .slice A l.length c ∧ Sb W A l c := by
  obtain ⟨a, n, c, rfl⟩ := okWide_slice ht hv
  obtain ⟨fuel, hf⟩ := h
  obtain ⟨A, l, c', hcs, hs⟩ := slice_cellb ht he hc hf
  refine ⟨A, l, c', ?_, hs⟩
  simpa [Value.cells] using hcs
theorem byte_wf {l : List Int} (h : ∀ x ∈ l, (Lit.int .u8 x).wf = true) : ∀ x ∈ l, 0 ≤ x ∧ x ≤ 255 := fun x hx => by
  have := h x hx
  simp only [Lit.wf, Bool.and_eq_true, decide_eq_true_eq] at this
  have e1 : IntKind.u8.min = 0 := by rfl
  have e2 : IntKind.u8.max = 255 := by rfl
  omega
end Go.Proofs.Ytehfcnndjhjkoaa.PA
