import Derived.Test.YtlomomhajmackaaKFnExactGrade2
import Derived.LoopN
import Derived.IntWalk

namespace Go.Proofs.Ytlomomhajmackaa.PA
open Go.RowKit Go.Shelf Go.Proofs.YtlomomhajmackaaW.PrintWords Go.Proofs.YtlomomhajmackaaW.PrintLast Go.Proofs.YtlomomhajmackaaW.PrintMore
set_option linter.unusedVariables false
set_option linter.unusedSimpArgs false
/-- What is asked of the function value: of two places it says a number, below 0 just where what stands at the first is less; it only draws. -/
structure CmpOk (gf : Nat) (lb : Array Value) (cf : Int → Int → Int) (ky : Int → Int) (g n : Nat) (w : World) : Prop where
  calls : ∀ (W : World) (x y : Int), w.grownBy W (some g) → 1 ≤ x → x ≤ n → 1 ≤ y → y ≤ n → Calls Try.prog gf (#[.int .i64 x, .int .i64 y] ++ lb) W fun e w' => e = .returned (.int .i64 (cf x y)) ∧ ∃ q, w' = W.drewN q
  less : ∀ x y : Int, 1 ≤ x → x ≤ n → 1 ≤ y → y ≤ n → (cf x y < 0 ↔ ky x < ky y)
theorem CmpOk.of {gf : Nat} {lb : Array Value} {cf : Int → Int → Int} {ky : Int → Int} {g n : Nat} {w W : World} (h : CmpOk gf lb cf ky g n w) (hg : w.grownBy W (some g)) : CmpOk gf lb cf ky g n W :=
  ⟨fun W' x y h' => h.calls W' x y (hg.trans h'), h.less⟩
theorem grown_drewN (w : World) (n : Nat) (r : Option Nat) : w.grownBy (w.drewN n) r := ⟨rfl, rfl, rfl, Nat.le_refl _, fun _ _ _ => rfl⟩
set_option maxHeartbeats 4000000 in
theorem insertion_in (gf : Nat) (lb : Array Value) (eg : ∀ args w, (callFunc gf args).run Try.prog w = .ok (.enter gf args) w) (cf : Int → Int → Int) (ky : Int → Int) (g N a b : Nat) (P S : List Int) (r : Int) (R : List Int) (w : World) (hc : CmpOk gf lb cf ky g N w)
    (h0 : w.heap[g]? = some (.cells (rowI (P ++ (r :: R ++ S))) 3 (0, 0))) (hN : (P ++ (r :: R ++ S)).length = N) (hN2 : N ≤ 1000000) (ha : P.length = a) (hb : a + (r :: R).length = b) (hr : ∀ x ∈ r :: R, 1 ≤ x ∧ x ≤ N) (hs : (r :: R).Pairwise (· < ·)) :
    Calls Try.prog 60 #[.slice (some ⟨g, 0, none⟩) N N, .int .i64 (a : Int), .int .i64 (b : Int), .func (.func gf) #[] lb] w fun e w' => e = .returned (.tuple #[]) ∧ ∃ C : List Int, Rw g w w' (P ++ (C ++ S)) ∧ C.Perm (r :: R) ∧ C.Pairwise (Lt ky) := by
  have HC := Aside0.mk hc
  have HR : Aside0 (Rw g w w (P ++ ([r] ++ (R ++ S)))) := Aside0.mk (Rw.start (by simpa using h0))
  have HRG := Aside0.mk hr
  obtain ⟨L, hL⟩ : ∃ L, L = r :: R := ⟨_, rfl⟩
  have HL := Aside0.mk hL
  have HS := Aside0.mk (List.pairwise_cons.1 hs)
  simp only [List.length_append, List.length_cons] at hN hb
  rw [← hL] at HRG ⊢
  clear hc h0 hr hs hL
  have HA := Aside0.mk ha
  have HBL := Aside0.mk hb
  have HNL := Aside0.mk hN
  have hbN : b ≤ N := by omega
  have haN : a ≤ N := by omega
  clear ha hb hN
  go_enter Try.func60, Try.ntmps60
  go_wp2
  go_loopw [8, 9] (fun z _ wr => ∃ (i : Nat) (C T : List Int), z = .int .i64 (i : Int) ∧ Aside0 (i = a + C.length) ∧ Aside0 (C.length + T.length = R.length + 1 ∧ 0 < C.length) ∧ Aside0 (C.Pairwise (Lt ky)) ∧ Aside0 (T.Pairwise (· < ·)) ∧ Aside0 (∀ x ∈ C, ∀ y ∈ T, x < y) ∧ Aside0 ((C ++ T).Perm L) ∧ Aside0 (Rw g w wr (P ++ (C ++ (T ++ S))))) (fun z _ _ => b - (intOf z).toNat)
  case atStart => exact ⟨a + 1, [r], R, by push_cast; rfl, ⟨rfl⟩, ⟨by simp; omega⟩, ⟨by simp⟩, ⟨HS.out.2⟩, ⟨by simpa using HS.out.1⟩, ⟨by rw [HL.out]; simp⟩, HR⟩
  case round =>
    clear HR HS HL
    obtain ⟨i, C, T, rfl, hi, hct, HCP, HTP, HX, HP, HR⟩ := hrel
    by_cases hlt : i < b
    · obtain ⟨x, T', rfl⟩ : ∃ x T', T = x :: T' := by
        cases T with
        | nil => have e1 := hi.out; have e2 := hct.out; have e3 := HBL.out; simp at e2; omega
        | cons x T' => exact ⟨x, T', rfl⟩
      have HXR := Aside0.mk (HRG.out x (HP.out.mem_iff.1 (by simp)))
      have HTT := Aside0.mk (List.pairwise_cons.1 HTP.out)
      have HXT := Aside0.mk (show ∀ u ∈ C ++ [x], ∀ y ∈ T', u < y from fun u hu y hy => by
        rcases List.mem_append.1 hu with h | h
        · exact HX.out u h y (by simp [hy])
        · rw [List.mem_singleton.1 h]; exact (List.pairwise_cons.1 HTP.out).1 y hy)
      have HXX := Aside0.mk (show ∀ u ∈ C, u < x from fun u hu => HX.out u hu x (by simp))
      have HPP := Aside0.mk (show ((C ++ [x]) ++ T').Perm L by simpa using HP.out)
      have HCR := Aside0.mk (show ∀ u ∈ C, 1 ≤ u ∧ u ≤ N from fun u hu => HRG.out u (HP.out.mem_iff.1 (by simp [hu])))
      have HCT := Aside0.mk (show C.length + T'.length = R.length ∧ 0 < C.length by have := hct.out; simp only [List.length_cons] at this; omega)
      have hltz : (i : Int) < (b : Int) := by omega
      clear HTP HX HP hct
      go_wp2
      go_loopw [9] (fun z wr => ∃ (j : Nat) (C1 C2 : List Int), z = .int .i64 (j : Int) ∧ Aside0 (j = a + C1.length) ∧ Aside0 (C = C1 ++ C2) ∧ Aside0 (∀ u ∈ C2, Lt ky x u) ∧ Aside0 (Rw g w wr (P ++ (C1 ++ (x :: (C2 ++ (T' ++ S))))))) (fun z _ => (intOf z).toNat)
      case atStart => exact ⟨i, C, [], rfl, hi, ⟨by simp⟩, ⟨by simp⟩, ⟨by simpa using HR.out⟩⟩
      case round =>
        clear HR
        obtain ⟨j, C1, C2, rfl, hj, hC, HU, HR⟩ := hrel
        have HEND : Aside0 ((∀ u, C1.getLast? = some u → Lt ky u x) → (C1 ++ x :: C2).Pairwise (Lt ky)) := ⟨fun h => by
          have hp := HCP.out
          rw [hC.out] at hp
          obtain ⟨p1, p2, p3⟩ := List.pairwise_append.1 hp
          refine List.pairwise_append.2 ⟨p1, List.pairwise_cons.2 ⟨HU.out, p2⟩, fun u hu y hy => ?_⟩
          rcases List.mem_cons.1 hy with rfl | hy
          · obtain ⟨z, hz⟩ := last_of hu
            rcases last_le p1 hu hz with rfl | h1
            · exact h _ hz
            · exact h1.trans (h _ hz)
          · exact p3 u hu y hy⟩
        have HPM := Aside0.mk (show ((C1 ++ x :: C2) ++ T').Perm L from (List.Perm.append_right T' (by rw [hC.out]; simpa using (List.perm_append_comm (l₁ := C2) (l₂ := [x])).symm.append_left C1)).trans HPP.out)
        have HXM := Aside0.mk (show ∀ u ∈ C1 ++ x :: C2, ∀ y ∈ T', u < y from fun u hu y hy => HXT.out u (by rw [hC.out]; simp at hu ⊢; rcases hu with h | h | h <;> simp [h]) y hy)
        have HLC := Aside0.mk (show C.length = C1.length + C2.length by rw [hC.out, List.length_append])
        have hjN : j ≤ N := by have e1 := hi.out; have e2 := hj.out; have e3 := HLC.out; omega
        rcases List.eq_nil_or_concat C1 with hn | ⟨C1', y, hn⟩
        · subst hn
          obtain rfl : j = a := by have := hj.out; simpa using this
          have HF := Aside0.mk (HEND.out (by simp))
          clear HEND
          go_wp2_with fail
          go_big_region
          have HR2 := Aside0.mk (show Rw g w wr.drew (P ++ ((([] : List Int) ++ x :: C2) ++ (T' ++ S))) by simpa using HR.out.drew)
          clear HR
          all_goals go_wp2
          go_roundw
          case rel => exact ⟨i + 1, [] ++ x :: C2, T', by push_cast; rfl, ⟨by have e1 := hi.out; have e3 := HLC.out; simp at e3 ⊢; omega⟩, ⟨by have e1 := HCT.out; have e3 := HLC.out; simp at e3 ⊢; omega⟩, HF, ⟨HTT.out.2⟩, HXM, HPM, HR2⟩
          case measure => simp [intOf]; omega
        · have hn' : C1 = C1' ++ [y] := by simpa using hn
          have HC1 := Aside0.mk hn'
          clear hn hn'
          obtain ⟨jp, hjp⟩ : ∃ jp, jp = P.length + C1'.length := ⟨_, rfl⟩
          obtain rfl : j = jp + 1 := by have e1 := hj.out; rw [HC1.out, List.length_append, List.length_singleton, ← HA.out] at e1; omega
          have HJP := Aside0.mk (show (P ++ C1').length = jp by rw [List.length_append]; exact hjp.symm)
          have hja : a ≤ jp := by have := HA.out; omega
          clear hjp
          have HL2 : Aside0 (P ++ (C1 ++ (x :: (C2 ++ (T' ++ S)))) = (P ++ C1') ++ (y :: (x :: (C2 ++ (T' ++ S))))) := ⟨by rw [HC1.out]; simp⟩
          have HR1 := Aside0.mk (show Rw g w wr ((P ++ C1') ++ (y :: (x :: (C2 ++ (T' ++ S))))) from HL2.out ▸ HR.out)
          clear HR HL2
          have HLEN : Aside0 (((P ++ C1') ++ (y :: (x :: (C2 ++ (T' ++ S))))).length = N) := ⟨by
            have e1 := HNL.out; have e2 := HCT.out; have e3 := HLC.out; rw [HC1.out] at e3
            simp only [List.length_append, List.length_cons, List.length_nil] at e1 e3 ⊢; omega⟩
          have c1 := HR1.out.cell jp (by have e1 := HLEN.out; have e2 := HJP.out; simp only [List.length_append, List.length_cons] at e1 e2 ⊢; omega)
          have c2 := HR1.out.cell (jp + 1) (by have e1 := HLEN.out; have e2 := HJP.out; simp only [List.length_append, List.length_cons] at e1 e2 ⊢; omega)
          rw [rd_at _ _ _ _ HJP.out] at c1
          rw [show rd ((P ++ C1') ++ (y :: (x :: (C2 ++ (T' ++ S))))) ((jp + 1 : Nat) : Int) = x by
            rw [show (P ++ C1') ++ (y :: (x :: (C2 ++ (T' ++ S)))) = (P ++ C1' ++ [y]) ++ x :: (C2 ++ (T' ++ S)) by simp]; exact rd_at _ _ _ _ (by have := HJP.out; simp only [List.length_append, List.length_singleton] at this ⊢; omega)] at c2
          have f1 := HR1.out.frozen jp
          have f2 := HR1.out.frozen (jp + 1)
          have hyr := HCR.out y (by rw [hC.out, HC1.out]; simp)
          have hcc := fun n => HC.out.calls (wr.drewN n) x y (HR1.out.gr.trans (grown_drewN _ n _)) HXR.out.1 HXR.out.2 hyr.1 hyr.2
          have hcl := HC.out.less x y HXR.out.1 HXR.out.2 hyr.1 hyr.2
          have HYX := Aside0.mk (show y < x from HXX.out y (by rw [hC.out, HC1.out]; simp))
          obtain ⟨j1, hj1⟩ : ∃ j1 : Nat, jp + 1 = j1 := ⟨_, rfl⟩
          have HJ1 := Aside0.mk hj1
          have e0 : (j1 : Int) - 1 = (jp : Int) := by omega
          have hjN1 : (j1 : Int) < (N : Int) := by have e1 := HLEN.out; have e2 := HJP.out; simp only [List.length_append, List.length_cons] at e1 e2; omega
          have p0 : 0 ≤ (jp : Int) := by omega
          have p1 : (jp : Int) < (N : Int) := by omega
          have p2 : 0 ≤ (j1 : Int) := by omega
          have hjaz : (a : Int) < (j1 : Int) := by omega
          have hjan : a < j1 := by omega
          have hw : IntKind.i64.wrap ((j1 : Int) - 1) = (jp : Int) := by rw [e0]; exact IntWalk.i64_in _ (by omega)
          rw [hj1] at c2 f2 ⊢
          have HE0 := Aside0.mk e0
          clear hj1 e0
          by_cases hlv : cf x y < 0
          · have HLV := Aside0.mk (hcl.1 hlv)
            clear hcl
            go_wp2_with fail
            go_quiet ((go_at_fn gf; refine Calls.quiet_of (hcc _)))
            go_wp2_with fail
            have HR2 := Aside0.mk (HR1.out.drewN nq)
            have c3 : (wr.drewN nq).cell? ⟨g, jp, none⟩ = some (.int .i64 y) := c1
            have c4 : (wr.drewN nq).cell? ⟨g, j1, none⟩ = some (.int .i64 x) := c2
            have f3 : (wr.drewN nq).frozen? ⟨g, jp, none⟩ = false := f1
            have f4 : (wr.drewN nq).frozen? ⟨g, j1, none⟩ = false := f2
            have hne : jp ≠ j1 := by have := HJ1.out; omega
            clear c1 c2 f1 f2 hcc HR1
            generalize wr.drewN nq = wq at c3 c4 f3 f4 HR2 ⊢
            go_region
            have HR3 := Aside0.mk (show Rw g w (((wq.setCell ⟨g, j1, none⟩ (.int .i64 y)).setCell ⟨g, jp, none⟩ (.int .i64 x)).drew) (P ++ (C1' ++ (x :: ((y :: C2) ++ (T' ++ S))))) from by
              have h := ((HR2.out.set j1 y).set jp x).drew
              have e := HJP.out
              rw [← HJ1.out] at h ⊢
              rw [show (P ++ C1') ++ (y :: (x :: (C2 ++ (T' ++ S)))) = (P ++ C1' ++ [y]) ++ x :: (C2 ++ (T' ++ S)) by simp, set_at _ _ _ _ (jp + 1) (by simp only [List.length_append, List.length_singleton] at e ⊢; omega)] at h
              rw [show (P ++ C1' ++ [y]) ++ y :: (C2 ++ (T' ++ S)) = (P ++ C1') ++ y :: (y :: (C2 ++ (T' ++ S))) by simp, set_at _ _ _ _ jp e] at h
              simpa using h)
            clear HR2 c3 c4 f3 f4 hw
            go_wp2
            go_roundw
            case rel => exact ⟨jp, C1', y :: C2, by first | rfl | (rw [HE0.out]) | (congr 1; exact HE0.out), ⟨by rw [← HJP.out, List.length_append, HA.out]⟩, ⟨by rw [hC.out, HC1.out]; simp⟩, ⟨fun u hu => by
              rcases List.mem_cons.1 hu with rfl | h
              · exact .inl HLV.out
              · exact HU.out u h⟩, HR3⟩
            case measure => have := HJ1.out; simp [intOf]; omega
          · have hnl : ¬ ky x < ky y := fun h => hlv (hcl.2 h)
            have HLX : Aside0 (Lt ky y x) := ⟨by have := HYX.out; unfold Lt; omega⟩
            have HF := Aside0.mk (HEND.out (fun u hu => by rw [HC1.out] at hu; simp at hu; rw [← hu]; exact HLX.out))
            clear hcl HEND hnl
            go_wp2_with fail
            go_quiet ((go_at_fn gf; refine Calls.quiet_of (hcc _)))
            have HR2 := Aside0.mk (show Rw g w (wr.drewN nq) (P ++ ((C1 ++ x :: C2) ++ (T' ++ S))) from by
              have h := HR1.out.drewN nq
              rw [HC1.out]
              simpa using h)
            clear HR1 c1 c2 f1 f2 hcc
            go_wp2
            go_roundw
            case rel => exact ⟨i + 1, C1 ++ x :: C2, T', by push_cast; rfl, ⟨by have e1 := hi.out; have e3 := HLC.out; simp only [List.length_append, List.length_cons]; omega⟩, ⟨by have e1 := HCT.out; have e3 := HLC.out; simp only [List.length_append, List.length_cons]; omega⟩, HF, ⟨HTT.out.2⟩, HXM, HPM, HR2⟩
            case measure => simp [intOf]; omega
    · have hT : T = [] := by
        have e1 := hi.out; have e2 := hct.out; have e3 := HBL.out
        exact List.eq_nil_of_length_eq_zero (by omega)
      subst hT
      have HF := Aside0.mk (show Rw g w wr (P ++ (C ++ S)) by simpa using HR.out)
      have HQ := Aside0.mk (show C.Perm L by simpa using HP.out)
      clear HR HP hi hct HX HTP
      go_wp2
      go_end0
      exact ⟨rfl, C, HF.out, HQ.out, HCP.out⟩
end Go.Proofs.Ytlomomhajmackaa.PA

namespace Go.Proofs.Ytlomomhajmackaa.PA
open Go.RowKit Go.Shelf Go.Proofs.YtlomomhajmackaaW.PrintWords Go.Proofs.YtlomomhajmackaaW.PrintLast Go.Proofs.YtlomomhajmackaaW.PrintMore
set_option linter.unusedVariables false
set_option linter.unusedSimpArgs false
theorem rd_last_of (X Y : List Int) (z : Int) (n : Nat) (h : X.getLast? = some z) (hn : X.length = n + 1) : rd (X ++ Y) (n : Int) = z := by
  obtain ⟨X', rfl⟩ := List.getLast?_eq_some_iff.1 h
  rw [List.append_assoc]
  exact rd_at _ _ _ _ (by simpa using hn)
theorem rd_head_of (X Y : List Int) (z : Int) (n : Nat) (h : Y.head? = some z) (hn : X.length = n) : rd (X ++ Y) (n : Int) = z := by
  cases Y with
  | nil => simp at h
  | cons y Y => simp at h; subst h; exact rd_at _ _ _ _ hn
theorem rd_in (X Y Z : List Int) (n : Nat) (h0 : X.length ≤ n) (h1 : n < X.length + Y.length) : rd (X ++ (Y ++ Z)) (n : Int) ∈ Y := by
  simp only [rd, Int.toNat_natCast, List.getD_eq_getElem?_getD]
  rw [List.getElem?_append_right h0, List.getElem?_append_left (by omega), List.getElem?_eq_getElem (by omega)]
  exact List.getElem_mem _
set_option maxHeartbeats 8000000 in
set_option maxRecDepth 100000 in
theorem symOne (gf : Nat) (lb : Array Value) (eg : ∀ args w, (callFunc gf args).run Try.prog w = .ok (.enter gf args) w) (cf : Int → Int → Int) (ky : Int → Int) (g N a m b : Nat) (P S : List Int) (x : Int) (B : List Int) (w : World) (hc : CmpOk gf lb cf ky g N w)
    (h0 : w.heap[g]? = some (.cells (rowI (P ++ (x :: (B ++ S)))) 3 (0, 0))) (hN : (P ++ (x :: (B ++ S))).length = N) (hN2 : N ≤ 1000000) (ha : P.length = a) (hm : m = a + 1) (hb : b = m + B.length) (hr : ∀ u ∈ x :: B, 1 ≤ u ∧ u ≤ N) (hs : B.Pairwise (Lt ky)) (hx : ∀ u ∈ B, x < u) (hB : 0 < B.length) :
    Calls Try.prog 61 #[.slice (some ⟨g, 0, none⟩) N N, .int .i64 (a : Int), .int .i64 (m : Int), .int .i64 (b : Int), .func (.func gf) #[] lb] w fun e w' => e = .returned (.tuple #[]) ∧ ∃ C : List Int, Rw g w w' (P ++ (C ++ S)) ∧ C.Perm (x :: B) ∧ C.Pairwise (Lt ky) := by
  have HC := Aside0.mk hc
  have HR := Aside0.mk (Rw.start h0)
  have HRG := Aside0.mk hr
  have HSB := Aside0.mk hs
  have HXB := Aside0.mk hx
  obtain ⟨D, hD⟩ : ∃ D, P ++ (x :: (B ++ S)) = D := ⟨_, rfl⟩
  have HD := Aside0.mk hD
  rw [hD] at HR hN
  have HN := Aside0.mk hN
  have HA := Aside0.mk ha
  have HM := Aside0.mk hm
  have HBL := Aside0.mk hb
  have hbN : b ≤ N := by rw [← hN, ← hD]; simp only [List.length_append, List.length_cons]; omega
  have hmb : m < b := by omega
  have ham : a < m := by omega
  have c0 : ((m : Int) - (a : Int) == 1) = true := beq_iff_eq.mpr (by omega)
  have hw0 : IntKind.i64.wrap ((m : Int) - (a : Int)) = (m : Int) - (a : Int) := IntWalk.i64_in _ (by omega)
  have hxa : rd D (a : Int) = x := by rw [← hD]; exact rd_at _ _ _ _ ha
  have HXA := Aside0.mk hxa
  clear hc h0 hr hs hx hD hN ha hm hb hxa hB
  go_enter Try.func61, Try.ntmps61
  go_wp2
  go_loopw [10, 11, 12] (fun p q _ wr => ∃ i j : Nat, p = .int .i64 (i : Int) ∧ q = .int .i64 (j : Int) ∧ Aside0 (m ≤ i ∧ i ≤ j ∧ j ≤ b) ∧ Aside0 (m < i → ky (rd D ((i - 1 : Nat) : Int)) < ky x) ∧ Aside0 (j < b → ¬ ky (rd D (j : Int)) < ky x) ∧ Aside0 (Rw g w wr D)) (fun p q _ _ => (intOf q).toNat - (intOf p).toNat)
  case atStart => exact ⟨m, b, rfl, rfl, ⟨by omega⟩, ⟨fun h => by omega⟩, ⟨fun h => by omega⟩, HR⟩
  case round =>
    clear HR
    obtain ⟨i, j, rfl, rfl, hij, hl, hh, HR⟩ := hrel
    have hij' := hij.out
    by_cases hlt : i < j
    · obtain ⟨h, hh0⟩ : ∃ h : Nat, (i + j) / 2 = h := ⟨_, rfl⟩
      have HH0 := Aside0.mk hh0
      have hmid : ((i : Int) + (j : Int)) / 2 = (h : Int) := by omega
      have hih : i ≤ h := by omega
      have hhj : h < j := by omega
      have hltz : (i : Int) < (j : Int) := by omega
      have HY := Aside0.mk (show rd D (h : Int) ∈ B from by
        rw [← HD.out, show P ++ (x :: (B ++ S)) = (P ++ [x]) ++ (B ++ S) by simp]
        have e1 := HA.out; have e2 := HM.out; have e3 := HBL.out
        exact rd_in _ _ _ h (by simp; omega) (by simp; omega))
      have c1 := HR.out.cell h (by have := HN.out; omega)
      have c2 := HR.out.cell a (by have := HN.out; omega)
      rw [HXA.out] at c2
      obtain ⟨y, hy⟩ : ∃ y, rd D (h : Int) = y := ⟨_, rfl⟩
      rw [hy] at c1 HY
      have HYD := Aside0.mk hy
      have hyr := HRG.out y (by simp [HY.out])
      have hxr := HRG.out x (by simp)
      have hcc := fun n => HC.out.calls (wr.drewN n) y x (HR.out.gr.trans (grown_drewN _ n _)) hyr.1 hyr.2 hxr.1 hxr.2
      have hcl := HC.out.less y x hyr.1 hyr.2 hxr.1 hxr.2
      have p0 : 0 ≤ (h : Int) := by omega
      have p1 : (h : Int) < (N : Int) := by omega
      have p2 : 0 ≤ (a : Int) := by omega
      have p3 : (a : Int) < (N : Int) := by omega
      clear hh0 hy hyr hxr hij'
      by_cases hlv : cf y x < 0
      · have HLV := Aside0.mk (hcl.1 hlv)
        clear hcl
        go_upto_region 5 with fail
        go_quiet ((go_at_fn gf; refine Calls.quiet_of (hcc _)))
        have HR2 := Aside0.mk (HR.out.drewN nq)
        clear HR c1 c2 hcc hmid
        go_wp2
        go_roundw
        case rel => exact ⟨h + 1, j, by push_cast; rfl, rfl, ⟨by have := hij.out; omega⟩, ⟨fun _ => by rw [Nat.add_sub_cancel, HYD.out]; exact HLV.out⟩, hh, HR2⟩
        case measure => simp [intOf]; omega
      · have HLV := Aside0.mk (fun e => hlv (hcl.2 e))
        clear hcl
        go_upto_region 5 with fail
        go_quiet ((go_at_fn gf; refine Calls.quiet_of (hcc _)))
        have HR2 := Aside0.mk (HR.out.drewN nq)
        clear HR c1 c2 hcc hmid
        go_wp2
        go_roundw
        case rel => exact ⟨i, h, rfl, rfl, ⟨by have := hij.out; omega⟩, hl, ⟨fun _ => by rw [HYD.out]; exact HLV.out⟩, HR2⟩
        case measure => simp [intOf]; omega
    · obtain rfl : i = j := by omega
      clear hij'
      -- the place is found: the first number is moved there
      obtain ⟨k0, hk0⟩ : ∃ k : Nat, i = m + k := ⟨i - m, by have := hij.out; omega⟩
      have HK0 := Aside0.mk hk0
      have HB1 := Aside0.mk (show B = B.take k0 ++ B.drop k0 from (List.take_append_drop _ _).symm)
      have HL1 := Aside0.mk (show (B.take k0).length = k0 by have := hij.out; have := HBL.out; rw [List.length_take]; omega)
      obtain ⟨B1, hB1⟩ : ∃ l, B.take k0 = l := ⟨_, rfl⟩
      obtain ⟨B2, hB2⟩ : ∃ l, B.drop k0 = l := ⟨_, rfl⟩
      rw [hB1, hB2] at HB1
      rw [hB1] at HL1
      have HFIN : Aside0 ((B1 ++ x :: B2).Pairwise (Lt ky) ∧ (B1 ++ x :: B2).Perm (x :: B)) := ⟨by
        have hp := HSB.out
        have e0 := HB1.out
        rw [e0] at hp
        have hcut := cut_below (ky := ky) (A1 := []) (A2 := [x]) (B1 := B1) (B2 := B2) (by simp) hp (by intro u hu v hv; simp at hu; subst hu; exact HXB.out v (by rw [e0]; exact hv)) (by simp) (by
          intro u v hu hv
          simp at hv; subst hv
          have hpos : 0 < B1.length := by cases B1 with
            | nil => simp at hu
            | cons _ _ => simp
          have := hl.out (by have := HK0.out; have := HL1.out; omega)
          have e : rd D ((i - 1 : Nat) : Int) = u := by
            rw [← HD.out, e0, show P ++ (x :: ((B1 ++ B2) ++ S)) = (P ++ x :: B1) ++ (B2 ++ S) by simp]
            refine rd_last_of _ _ _ _ ?_ ?_
            · rw [show P ++ x :: B1 = (P ++ [x]) ++ B1 by simp, List.getLast?_append, hu]; rfl
            · have := HA.out; have := HM.out; have := HK0.out; have := HL1.out; simp only [List.length_append, List.length_cons]; omega
          rw [e] at this; exact this)
        have hcut2 := cut_below (ky := ky) (A1 := [x]) (A2 := []) (B1 := B1) (B2 := B2) (by simp) hp (by intro u hu v hv; simp at hu; subst hu; exact HXB.out v (by rw [e0]; exact hv)) (by
          intro u v hu hv
          simp at hu; subst hu
          have hlt' : i < b := by
            have hpos : 0 < B2.length := by cases B2 with
              | nil => simp at hv
              | cons _ _ => simp
            have e1 : B.length = B1.length + B2.length := by rw [e0, List.length_append]
            have := HK0.out; have := HL1.out; have := HBL.out; omega
          have := hh.out hlt'
          have e : rd D ((i : Nat) : Int) = v := by
            rw [← HD.out, e0, show P ++ (x :: ((B1 ++ B2) ++ S)) = (P ++ x :: B1) ++ (B2 ++ S) by simp]
            refine rd_head_of _ _ _ _ ?_ ?_
            · rw [List.head?_append, hv]; rfl
            · have := HA.out; have := HM.out; have := HK0.out; have := HL1.out; simp only [List.length_append, List.length_cons]; omega
          rw [e] at this; exact this) (by simp)
        obtain ⟨p1, p2, p3⟩ := List.pairwise_append.1 hp
        refine ⟨List.pairwise_append.2 ⟨p1, List.pairwise_cons.2 ⟨fun v hv => hcut2 x (by simp) v (by simp [hv]), p2⟩, fun u hu v hv => ?_⟩, ?_⟩
        · rcases List.mem_cons.1 hv with rfl | hv
          · exact hcut u (by simp [hu]) v (by simp)
          · exact p3 u hu v hv
        · rw [e0]; exact List.perm_middle⟩
      have hi1 : 1 ≤ i := by have := HM.out; have := hij.out; omega
      have hiN : i ≤ N := by have := hij.out; omega
      have HR0 := Aside0.mk (show Rw g w wr (P ++ ([] ++ (x :: (B1 ++ (B2 ++ S))))) by have := HR.out; rw [← HD.out, HB1.out] at this; simpa using this)
      clear hl hh hB1 hB2 hk0 HR
      go_wp2
      go_loopw [13] (fun z wr => ∃ (k : Nat) (Ba Bb : List Int), z = .int .i64 (k : Int) ∧ Aside0 (k = a + Ba.length) ∧ Aside0 (B1 = Ba ++ Bb) ∧ Aside0 (Rw g w wr (P ++ (Ba ++ (x :: (Bb ++ (B2 ++ S))))))) (fun z _ => i - (intOf z).toNat)
      case atStart => exact ⟨a, [], B1, rfl, ⟨rfl⟩, ⟨by simp⟩, HR0⟩
      case round =>
        clear HR0
        obtain ⟨k, Ba, Bb, rfl, hk, hB, HR⟩ := hrel
        have HLB := Aside0.mk (show k0 = Ba.length + Bb.length by rw [← HL1.out, hB.out, List.length_append])
        cases Bb with
        | nil =>
          have hge : ¬ ((k : Int) < (i : Int) - 1) := by have e1 := hk.out; have e2 := HLB.out; have e3 := HK0.out; have e4 := HM.out; simp at e2; omega
          have HF := Aside0.mk (show Rw g w wr (P ++ ((B1 ++ x :: B2) ++ S)) by have := HR.out; have e := hB.out; simp at e; rw [e]; simpa using this)
          clear HR
          go_wp2
          refine bodyPost_ret (results_none rfl _ _ _) rfl ?_
          exact ⟨rfl, _, HF.out, HFIN.out.2, HFIN.out.1⟩
        | cons y Bb' =>
          have hlt : (k : Int) < (i : Int) - 1 := by have e1 := hk.out; have e2 := HLB.out; have e3 := HK0.out; have e4 := HM.out; simp at e2; omega
          obtain ⟨kq, hkq⟩ : ∃ q : Nat, k + 1 = q := ⟨_, rfl⟩
          have HKQ := Aside0.mk hkq
          have HPB := Aside0.mk (show (P ++ Ba).length = k by rw [List.length_append, HA.out]; exact hk.out.symm)
          have hkN : k + 1 < N := by omega
          have hw1 : IntKind.i64.wrap ((k : Int) + 1) = (kq : Int) := by rw [← hkq, IntWalk.i64_in _ (by omega)]; push_cast; rfl
          have HR1 := Aside0.mk (show Rw g w wr ((P ++ Ba) ++ x :: (y :: (Bb' ++ (B2 ++ S)))) by have := HR.out; simpa using this)
          have HLEN := Aside0.mk (show ((P ++ Ba) ++ x :: (y :: (Bb' ++ (B2 ++ S)))).length = N by
            have e1 := HN.out; have e0 := hB.out; have e2 := HB1.out
            rw [← HD.out, e2, e0] at e1
            simp only [List.length_append, List.length_cons] at e1 ⊢; omega)
          have c1 := HR1.out.cell k (by have := HLEN.out; omega)
          have c2 := HR1.out.cell kq (by have := HLEN.out; omega)
          have f1 := HR1.out.frozen k
          have f2 := HR1.out.frozen kq
          rw [rd_at _ _ _ _ HPB.out] at c1
          rw [show (P ++ Ba) ++ x :: (y :: (Bb' ++ (B2 ++ S))) = (P ++ Ba ++ [x]) ++ y :: (Bb' ++ (B2 ++ S)) by simp, rd_at _ _ _ kq (by have e1 := HPB.out; simp only [List.length_append, List.length_singleton] at e1 ⊢; omega)] at c2
          have p0 : 0 ≤ (k : Int) := by omega
          have p1 : (k : Int) < (N : Int) := by omega
          have p2 : 0 ≤ (kq : Int) := by omega
          have p3 : (kq : Int) < (N : Int) := by omega
          have hne : k ≠ kq := by omega
          clear hkq HR
          go_wp2_with fail
          go_region
          have HR3 := Aside0.mk (show Rw g w (((wr.setCell ⟨g, k, none⟩ (.int .i64 y)).setCell ⟨g, kq, none⟩ (.int .i64 x)).drew) (P ++ ((Ba ++ [y]) ++ (x :: (Bb' ++ (B2 ++ S))))) from by
            have h := ((HR1.out.set k y).set kq x).drew
            have e := HPB.out
            rw [set_at _ _ _ _ k e, show (P ++ Ba) ++ y :: (y :: (Bb' ++ (B2 ++ S))) = (P ++ Ba ++ [y]) ++ y :: (Bb' ++ (B2 ++ S)) by simp, set_at _ _ _ _ kq (by have e2 := HKQ.out; simp only [List.length_append, List.length_singleton] at e ⊢; omega)] at h
            simpa using h)
          clear HR1 c1 c2 f1 f2 hw1
          go_wp2
          go_roundw
          case rel => exact ⟨k + 1, Ba ++ [y], Bb', by push_cast; rfl, ⟨by have := hk.out; rw [List.length_append, List.length_singleton]; omega⟩, ⟨by rw [hB.out]; simp⟩, HR3⟩
          case measure => simp [intOf]; omega
set_option maxHeartbeats 8000000 in
set_option maxRecDepth 100000 in
theorem symTail (gf : Nat) (lb : Array Value) (eg : ∀ args w, (callFunc gf args).run Try.prog w = .ok (.enter gf args) w) (cf : Int → Int → Int) (ky : Int → Int) (g N a m b : Nat) (P S : List Int) (y : Int) (A : List Int) (w : World) (hc : CmpOk gf lb cf ky g N w)
    (h0 : w.heap[g]? = some (.cells (rowI (P ++ (A ++ (y :: S)))) 3 (0, 0))) (hN : (P ++ (A ++ (y :: S))).length = N) (hN2 : N ≤ 1000000) (ha : P.length = a) (hm : m = a + A.length) (hb : b = m + 1) (hr : ∀ u ∈ A ++ [y], 1 ≤ u ∧ u ≤ N) (hs : A.Pairwise (Lt ky)) (hx : ∀ u ∈ A, u < y) (hA : 1 < A.length) :
    Calls Try.prog 61 #[.slice (some ⟨g, 0, none⟩) N N, .int .i64 (a : Int), .int .i64 (m : Int), .int .i64 (b : Int), .func (.func gf) #[] lb] w fun e w' => e = .returned (.tuple #[]) ∧ ∃ C : List Int, Rw g w w' (P ++ (C ++ S)) ∧ C.Perm (A ++ [y]) ∧ C.Pairwise (Lt ky) := by
  have HC := Aside0.mk hc
  have HR := Aside0.mk (Rw.start h0)
  have HRG := Aside0.mk hr
  have HSB := Aside0.mk hs
  have HXB := Aside0.mk hx
  obtain ⟨D, hD⟩ : ∃ D, P ++ (A ++ (y :: S)) = D := ⟨_, rfl⟩
  have HD := Aside0.mk hD
  rw [hD] at HR hN
  have HN := Aside0.mk hN
  have HA := Aside0.mk ha
  have HM := Aside0.mk hm
  have HBL := Aside0.mk hb
  have hbN : b ≤ N := by rw [← hN, ← hD]; simp only [List.length_append, List.length_cons]; omega
  have hmb : m < b := by omega
  have ham : a + 1 < m := by omega
  have c0 : ((m : Int) - (a : Int) == 1) = false := beq_eq_false_iff_ne.mpr (by omega)
  have c1 : ((b : Int) - (m : Int) == 1) = true := beq_iff_eq.mpr (by omega)
  have hxa : rd D (m : Int) = y := by rw [← hD, ← List.append_assoc]; exact rd_at _ _ _ _ (by simp; omega)
  have HXA := Aside0.mk hxa
  clear hc h0 hr hs hx hD hN ha hm hb hxa hA
  go_enter Try.func61, Try.ntmps61
  go_wp2
  go_loopw [14, 15, 16] (fun p q _ wr => ∃ i j : Nat, p = .int .i64 (i : Int) ∧ q = .int .i64 (j : Int) ∧ Aside0 (a ≤ i ∧ i ≤ j ∧ j ≤ m) ∧ Aside0 (a < i → ¬ ky y < ky (rd D ((i - 1 : Nat) : Int))) ∧ Aside0 (j < m → ky y < ky (rd D (j : Int))) ∧ Aside0 (Rw g w wr D)) (fun p q _ _ => (intOf q).toNat - (intOf p).toNat)
  case atStart => exact ⟨a, m, rfl, rfl, ⟨by omega⟩, ⟨fun h => by omega⟩, ⟨fun h => by omega⟩, HR⟩
  case round =>
    clear HR
    obtain ⟨i, j, rfl, rfl, hij, hl, hh, HR⟩ := hrel
    have hij' := hij.out
    by_cases hlt : i < j
    · obtain ⟨h, hh0⟩ : ∃ h : Nat, (i + j) / 2 = h := ⟨_, rfl⟩
      have HH0 := Aside0.mk hh0
      have hmid : ((i : Int) + (j : Int)) / 2 = (h : Int) := by omega
      have hih : i ≤ h := by omega
      have hhj : h < j := by omega
      have hltz : (i : Int) < (j : Int) := by omega
      have HY := Aside0.mk (show rd D (h : Int) ∈ A from by
        rw [← HD.out]
        have e1 := HA.out; have e2 := HM.out; have e3 := HBL.out
        exact rd_in _ _ _ h (by omega) (by omega))
      have c2 := HR.out.cell h (by have := HN.out; omega)
      have c3 := HR.out.cell m (by have := HN.out; omega)
      rw [HXA.out] at c3
      obtain ⟨u, hu⟩ : ∃ u, rd D (h : Int) = u := ⟨_, rfl⟩
      rw [hu] at c2 HY
      have HYD := Aside0.mk hu
      have hyr := HRG.out y (by simp)
      have hur := HRG.out u (by simp [HY.out])
      have hcc := fun n => HC.out.calls (wr.drewN n) y u (HR.out.gr.trans (grown_drewN _ n _)) hyr.1 hyr.2 hur.1 hur.2
      have hcl := HC.out.less y u hyr.1 hyr.2 hur.1 hur.2
      have p0 : 0 ≤ (h : Int) := by omega
      have p1 : (h : Int) < (N : Int) := by omega
      have p2 : 0 ≤ (m : Int) := by omega
      have p3 : (m : Int) < (N : Int) := by omega
      clear hh0 hu hyr hur hij'
      by_cases hlv : cf y u < 0
      · have HLV := Aside0.mk (hcl.1 hlv)
        clear hcl
        go_upto_region 17 with fail
        go_quiet ((go_at_fn gf; refine Calls.quiet_of (hcc _)))
        have HR2 := Aside0.mk (HR.out.drewN nq)
        clear HR c2 c3 hcc hmid
        go_wp2
        go_roundw
        case rel => exact ⟨i, h, rfl, rfl, ⟨by have := hij.out; omega⟩, hl, ⟨fun _ => by rw [HYD.out]; exact HLV.out⟩, HR2⟩
        case measure => simp [intOf]; omega
      · have HLV := Aside0.mk (fun e => hlv (hcl.2 e))
        clear hcl
        go_upto_region 17 with fail
        go_quiet ((go_at_fn gf; refine Calls.quiet_of (hcc _)))
        have HR2 := Aside0.mk (HR.out.drewN nq)
        clear HR c2 c3 hcc hmid
        go_wp2
        go_roundw
        case rel => exact ⟨h + 1, j, by push_cast; rfl, rfl, ⟨by have := hij.out; omega⟩, ⟨fun _ => by rw [Nat.add_sub_cancel, HYD.out]; exact HLV.out⟩, hh, HR2⟩
        case measure => simp [intOf]; omega
    · obtain rfl : i = j := by omega
      clear hij'
      obtain ⟨k0, hk0⟩ : ∃ k : Nat, i = a + k := ⟨i - a, by have := hij.out; omega⟩
      have HK0 := Aside0.mk hk0
      have HB1 := Aside0.mk (show A = A.take k0 ++ A.drop k0 from (List.take_append_drop _ _).symm)
      have HL1 := Aside0.mk (show (A.take k0).length = k0 by have := hij.out; have := HM.out; rw [List.length_take]; omega)
      obtain ⟨A1, hA1⟩ : ∃ l, A.take k0 = l := ⟨_, rfl⟩
      obtain ⟨A2, hA2⟩ : ∃ l, A.drop k0 = l := ⟨_, rfl⟩
      rw [hA1, hA2] at HB1
      rw [hA1] at HL1
      have HFIN : Aside0 ((A1 ++ y :: A2).Pairwise (Lt ky) ∧ (A1 ++ y :: A2).Perm (A ++ [y])) := ⟨by
        have hp := HSB.out
        have e0 := HB1.out
        rw [e0] at hp
        have hxx : ∀ u ∈ A1 ++ A2, ∀ v ∈ [y], u < v := fun u hu v hv => by
          rw [List.mem_singleton.1 hv]; exact HXB.out u (by rw [e0]; exact hu)
        have hcut := cut_below (ky := ky) (A1 := A1) (A2 := A2) (B1 := []) (B2 := [y]) hp (by simp) hxx (by
          intro u v hu hv
          simp at hv; subst hv
          have hpos : 0 < A1.length := by cases A1 with
            | nil => simp at hu
            | cons _ _ => simp
          have := hl.out (by have := HK0.out; have := HL1.out; omega)
          have e : rd D ((i - 1 : Nat) : Int) = u := by
            rw [← HD.out, e0, show P ++ ((A1 ++ A2) ++ (y :: S)) = (P ++ A1) ++ (A2 ++ (y :: S)) by simp]
            refine rd_last_of _ _ _ _ ?_ ?_
            · rw [List.getLast?_append, hu]; rfl
            · have := HA.out; have := HK0.out; have := HL1.out; simp only [List.length_append]; omega
          rw [e] at this; exact this) (by simp)
        have hcut2 := cut_below (ky := ky) (A1 := A1) (A2 := A2) (B1 := [y]) (B2 := []) hp (by simp) hxx (by simp) (by
          intro u v hu hv
          simp at hu; subst hu
          have hlt' : i < m := by
            have hpos : 0 < A2.length := by cases A2 with
              | nil => simp at hv
              | cons _ _ => simp
            have e1 : A.length = A1.length + A2.length := by rw [e0, List.length_append]
            have := HK0.out; have := HL1.out; have := HM.out; omega
          have := hh.out hlt'
          have e : rd D ((i : Nat) : Int) = v := by
            rw [← HD.out, e0, show P ++ ((A1 ++ A2) ++ (y :: S)) = (P ++ A1) ++ (A2 ++ (y :: S)) by simp]
            refine rd_head_of _ _ _ _ ?_ ?_
            · rw [List.head?_append, hv]; rfl
            · have := HA.out; have := HK0.out; have := HL1.out; simp only [List.length_append]; omega
          rw [e] at this; exact this)
        obtain ⟨p1, p2, p3⟩ := List.pairwise_append.1 hp
        refine ⟨List.pairwise_append.2 ⟨p1, List.pairwise_cons.2 ⟨fun v hv => hcut2 y (by simp) v (by simp [hv]), p2⟩, fun u hu v hv => ?_⟩, ?_⟩
        · rcases List.mem_cons.1 hv with rfl | hv
          · exact hcut u (by simp [hu]) v (by simp)
          · exact p3 u hu v hv
        · rw [e0]
          exact List.perm_middle.trans (List.perm_append_comm (l₁ := [y]) (l₂ := A1 ++ A2))⟩
      have hiN : i ≤ N := by have := hij.out; omega
      have HR0 := Aside0.mk (show Rw g w wr (P ++ (A1 ++ (A2 ++ (y :: ([] ++ S))))) by have := HR.out; rw [← HD.out, HB1.out] at this; simpa using this)
      clear hl hh hA1 hA2 hk0 HR
      go_wp2
      go_loopw [17] (fun z wr => ∃ (k : Nat) (Ba Bb : List Int), z = .int .i64 (k : Int) ∧ Aside0 (k = i + Ba.length) ∧ Aside0 (A2 = Ba ++ Bb) ∧ Aside0 (Rw g w wr (P ++ (A1 ++ (Ba ++ (y :: (Bb ++ S))))))) (fun z _ => (intOf z).toNat)
      case atStart => exact ⟨m, A2, [], rfl, ⟨by have e1 := HB1.out; have e2 := HL1.out; have e3 := HK0.out; have e4 := HM.out; rw [e1, List.length_append] at e4; omega⟩, ⟨by simp⟩, HR0⟩
      case round =>
        clear HR0
        obtain ⟨k, Ba, Bb, rfl, hk, hB, HR⟩ := hrel
        rcases List.eq_nil_or_concat Ba with hn | ⟨Bc, u, hn⟩
        · subst hn
          obtain rfl : k = i := by have := hk.out; simpa using this
          have HF := Aside0.mk (show Rw g w wr (P ++ ((A1 ++ y :: A2) ++ S)) by have := HR.out; have e := hB.out; simp at e; rw [e]; simpa using this)
          clear HR
          go_wp2
          refine bodyPost_ret (results_none rfl _ _ _) rfl ?_
          exact ⟨rfl, _, HF.out, HFIN.out.2, HFIN.out.1⟩
        · have hn' : Ba = Bc ++ [u] := by simpa using hn
          subst hn'
          clear hn
          obtain ⟨kp, hkp⟩ : ∃ q : Nat, k = q + 1 := ⟨k - 1, by have := hk.out; simp at this; omega⟩
          have HKP := Aside0.mk hkp
          have HPB := Aside0.mk (show (P ++ (A1 ++ Bc)).length = kp by have e1 := hk.out; have e2 := HA.out; have e3 := HK0.out; have e4 := HL1.out; simp only [List.length_append, List.length_singleton] at e1 ⊢; omega)
          have hlt : (i : Int) < (k : Int) := by have := hk.out; simp at this; omega
          have hltn : i < k := by omega
          have HR1 := Aside0.mk (show Rw g w wr ((P ++ (A1 ++ Bc)) ++ u :: (y :: (Bb ++ S))) by have := HR.out; simpa using this)
          have HLEN := Aside0.mk (show ((P ++ (A1 ++ Bc)) ++ u :: (y :: (Bb ++ S))).length = N by
            have e1 := HN.out; have e0 := hB.out; have e2 := HB1.out
            rw [← HD.out, e2, e0] at e1
            simp only [List.length_append, List.length_cons, List.length_nil] at e1 ⊢; omega)
          have hkN : k < N := by have e1 := HLEN.out; have e2 := HPB.out; simp only [List.length_append, List.length_cons] at e1 e2; omega
          have hw1 : IntKind.i64.wrap ((k : Int) - 1) = (kp : Int) := by rw [IntWalk.i64_in _ (by omega)]; omega
          have c2 := HR1.out.cell kp (by have := HLEN.out; omega)
          have c3 := HR1.out.cell k (by have := HLEN.out; omega)
          have f1 := HR1.out.frozen kp
          have f2 := HR1.out.frozen k
          rw [rd_at _ _ _ _ HPB.out] at c2
          rw [show (P ++ (A1 ++ Bc)) ++ u :: (y :: (Bb ++ S)) = (P ++ (A1 ++ Bc) ++ [u]) ++ y :: (Bb ++ S) by simp, rd_at _ _ _ k (by have e1 := HPB.out; rw [List.length_append, List.length_singleton]; omega)] at c3
          have p0 : 0 ≤ (k : Int) := by omega
          have p1 : (k : Int) < (N : Int) := by omega
          have p2 : 0 ≤ (kp : Int) := by omega
          have p3 : (kp : Int) < (N : Int) := by omega
          have hne : kp ≠ k := by omega
          have HE0 := Aside0.mk (show (k : Int) - 1 = (kp : Int) by omega)
          clear hkp HR
          go_wp2_with fail
          go_region
          have HR3 := Aside0.mk (show Rw g w (((wr.setCell ⟨g, k, none⟩ (.int .i64 u)).setCell ⟨g, kp, none⟩ (.int .i64 y)).drew) (P ++ (A1 ++ (Bc ++ (y :: ((u :: Bb) ++ S))))) from by
            have h := ((HR1.out.set k u).set kp y).drew
            have e := HPB.out
            have e2 := HKP.out
            rw [show (P ++ (A1 ++ Bc)) ++ u :: (y :: (Bb ++ S)) = (P ++ (A1 ++ Bc) ++ [u]) ++ y :: (Bb ++ S) by simp, set_at _ _ _ _ k (by rw [List.length_append, List.length_singleton]; omega)] at h
            rw [show (P ++ (A1 ++ Bc) ++ [u]) ++ u :: (Bb ++ S) = (P ++ (A1 ++ Bc)) ++ u :: (u :: (Bb ++ S)) by simp, set_at _ _ _ _ kp e] at h
            simpa using h)
          clear HR1 c2 c3 f1 f2 hw1
          go_wp2
          go_roundw
          case rel => exact ⟨kp, Bc, u :: Bb, by first | rfl | (rw [HE0.out]), ⟨by have e1 := hk.out; have e2 := HKP.out; simp only [List.length_append, List.length_singleton] at e1; omega⟩, ⟨by rw [hB.out]; simp⟩, HR3⟩
          case measure => have := HKP.out; simp [intOf]; omega
end Go.Proofs.Ytlomomhajmackaa.PA

namespace Go.Proofs.Ytlomomhajmackaa.PA
open Go.RowKit Go.Shelf Go.Proofs.YtlomomhajmackaaW.PrintWords Go.Proofs.YtlomomhajmackaaW.PrintLast Go.Proofs.YtlomomhajmackaaW.PrintMore
set_option linter.unusedVariables false
set_option linter.unusedSimpArgs false
theorem rotate_z (g N a m b : Nat) (P A B S : List Int) (cv : Value) (za zm zb : Int) (w : World) (ea : za = (a : Int)) (em : zm = (m : Int)) (eb : zb = (b : Int)) (D : List Int) (hD : P ++ (A ++ (B ++ S)) = D) (h0 : w.heap[g]? = some (.cells (rowI D) 3 (0, 0))) (hN : D.length = N) (hN2 : N ≤ 1000000) (ha : P.length = a) (hm : a + A.length = m) (hb : m + B.length = b) (hA : 0 < A.length) (hB : 0 < B.length) (E : List Int) (hE : P ++ (B ++ (A ++ S)) = E) :
    Calls Try.prog 67 #[.slice (some ⟨g, 0, none⟩) N N, .int .i64 za, .int .i64 zm, .int .i64 zb, cv] w fun e w' => e = .returned (.tuple #[]) ∧ Rw g w w' E := by
  subst ea em eb hD hE
  exact rotate_in g N a m b P A B S cv w h0 hN hN2 ha hm hb hA hB
/-- What a merge of two parts is asked to do. -/
def Merges (gf : Nat) (lb : Array Value) (cf : Int → Int → Int) (ky : Int → Int) (g N : Nat) (w : World) (sz : Nat) : Prop :=
  ∀ (a m b : Nat) (za zm zb : Int) (P A B S D : List Int) (W : World), za = (a : Int) → zm = (m : Int) → zb = (b : Int) → w.grownBy W (some g) → A.length + B.length ≤ sz → P ++ (A ++ (B ++ S)) = D → W.heap[g]? = some (.cells (rowI D) 3 (0, 0)) → D.length = N → P.length = a → m = a + A.length → b = m + B.length → (∀ u ∈ A ++ B, 1 ≤ u ∧ u ≤ (N : Int)) →
    A.Pairwise (Lt ky) → B.Pairwise (Lt ky) → (∀ u ∈ A, ∀ v ∈ B, u < v) → 0 < A.length → 0 < B.length →
    Calls Try.prog 61 #[.slice (some ⟨g, 0, none⟩) N N, .int .i64 za, .int .i64 zm, .int .i64 zb, .func (.func gf) #[] lb] W fun e w' => e = .returned (.tuple #[]) ∧ ∃ C : List Int, Rw g W w' (P ++ (C ++ S)) ∧ C.Perm (A ++ B) ∧ C.Pairwise (Lt ky)
set_option maxHeartbeats 16000000 in
set_option maxRecDepth 100000 in
theorem symGen (gf : Nat) (lb : Array Value) (eg : ∀ args w, (callFunc gf args).run Try.prog w = .ok (.enter gf args) w) (cf : Int → Int → Int) (ky : Int → Int) (g N a m b : Nat) (P A B S : List Int) (w : World) (hc : CmpOk gf lb cf ky g N w)
    (h0 : w.heap[g]? = some (.cells (rowI (P ++ (A ++ (B ++ S)))) 3 (0, 0))) (hN : (P ++ (A ++ (B ++ S))).length = N) (hN2 : N ≤ 1000000) (ha : P.length = a) (hm : m = a + A.length) (hb : b = m + B.length) (hr : ∀ u ∈ A ++ B, 1 ≤ u ∧ u ≤ (N : Int)) (hsA : A.Pairwise (Lt ky)) (hsB : B.Pairwise (Lt ky)) (hx : ∀ u ∈ A, ∀ v ∈ B, u < v) (hA : 1 < A.length) (hB : 1 < B.length)
    (ih : Merges gf lb cf ky g N w (A.length + B.length - 1)) :
    Calls Try.prog 61 #[.slice (some ⟨g, 0, none⟩) N N, .int .i64 (a : Int), .int .i64 (m : Int), .int .i64 (b : Int), .func (.func gf) #[] lb] w fun e w' => e = .returned (.tuple #[]) ∧ ∃ C : List Int, Rw g w w' (P ++ (C ++ S)) ∧ C.Perm (A ++ B) ∧ C.Pairwise (Lt ky) := by
  have HC := Aside0.mk hc
  have HIH := Aside0.mk ih
  have HR := Aside0.mk (Rw.start h0)
  have HRG := Aside0.mk hr
  have HSA := Aside0.mk hsA
  have HSB := Aside0.mk hsB
  have HXB := Aside0.mk hx
  obtain ⟨D, hD⟩ : ∃ D, P ++ (A ++ (B ++ S)) = D := ⟨_, rfl⟩
  have HD := Aside0.mk hD
  rw [hD] at HR hN
  have HN := Aside0.mk hN
  have HA := Aside0.mk ha
  have HM := Aside0.mk hm
  have HBL := Aside0.mk hb
  have hbN : b ≤ N := by rw [← hN, ← hD]; simp only [List.length_append]; omega
  have hmb : m + 1 < b := by omega
  have ham : a + 1 < m := by omega
  have c0 : ((m : Int) - (a : Int) == 1) = false := beq_eq_false_iff_ne.mpr (by omega)
  have c1 : ((b : Int) - (m : Int) == 1) = false := beq_eq_false_iff_ne.mpr (by omega)
  obtain ⟨mid, hmid0⟩ : ∃ h : Nat, (a + b) / 2 = h := ⟨_, rfl⟩
  have hmid : ((a : Int) + (b : Int)) / 2 = (mid : Int) := by omega
  obtain ⟨n, hn0⟩ : ∃ n : Nat, mid + m = n := ⟨_, rfl⟩
  have HNN := Aside0.mk hn0
  have hn : IntKind.i64.wrap ((mid : Int) + (m : Int)) = (n : Int) := by rw [IntWalk.i64_in _ (by omega)]; omega
  have hamid : a < mid := by omega
  have hmidb : mid < b := by omega
  have HMID := Aside0.mk hmid0
  clear hc ih h0 hr hsA hsB hx hD hN ha hm hb hA hB
  -- the first bounds of the search
  obtain ⟨lo, hi, hlh, hlo, hhi, hgo⟩ : ∃ lo hi : Nat, (a ≤ lo ∧ n ≤ lo + b ∧ lo ≤ hi ∧ hi ≤ mid ∧ hi ≤ m) ∧ (lo = a ∨ lo + b = n) ∧ (hi = mid ∨ hi = m) ∧ ((mid < m ∧ lo + b = n ∧ hi = mid) ∨ (¬ mid < m ∧ lo = a ∧ hi = m)) := by
    by_cases h : mid < m
    · exact ⟨n - b, mid, by omega, by omega, by omega, by omega⟩
    · exact ⟨a, m, by omega, by omega, by omega, by omega⟩
  have HLH := Aside0.mk hlh
  have HLO := Aside0.mk hlo
  have HHI := Aside0.mk hhi
  clear hlo hhi
  have hnN : n ≤ 2 * N := by omega
  have HL : Aside0 (lo = lo ∧ (lo = a ∨ lo + b = n)) := ⟨rfl, HLO.out⟩
  rcases hgo with ⟨hgt, hg1, hg2⟩ | ⟨hgt, hg1, hg2⟩
  · have hw2 : IntKind.i64.wrap ((n : Int) - (b : Int)) = (lo : Int) := by rw [IntWalk.i64_in _ (by omega)]; omega
    have HG1 := Aside0.mk (show (lo : Int) = (lo : Int) from rfl)
    have HG2 := Aside0.mk (show (hi : Int) = (mid : Int) by rw [hg2])
    clear hmid0 hn0 hg1 hg2 hlh
    go_enter Try.func61, Try.ntmps61
    go_wp2
    clear hw2 hmid hn
    go_loopw [20, 21, 23] (fun p q _ wr => ∃ s r : Nat, p = .int .i64 (s : Int) ∧ q = .int .i64 (r : Int) ∧ Aside0 (lo ≤ s ∧ s ≤ r ∧ r ≤ hi) ∧ Aside0 (lo < s → ¬ ky (rd D ((n - s : Nat) : Int)) < ky (rd D ((s - 1 : Nat) : Int))) ∧ Aside0 (r < hi → ky (rd D ((n - 1 - r : Nat) : Int)) < ky (rd D (r : Int))) ∧ Aside0 (Rw g w wr D)) (fun p q _ _ => (intOf q).toNat - (intOf p).toNat)
    case atStart => exact ⟨lo, hi, by first | rfl | rw [HG1.out], by rw [HG2.out], ⟨by have := HLH.out; omega⟩, ⟨fun h => by omega⟩, ⟨fun h => by omega⟩, HR⟩
    case round =>
      clear HR
      obtain ⟨s, r, rfl, rfl, hsr, hl, hh, HR⟩ := hrel
      have hsr' := hsr.out
      have hlh := HLH.out
      by_cases hlt : s < r
      · obtain ⟨c, hc0⟩ : ∃ h : Nat, (s + r) / 2 = h := ⟨_, rfl⟩
        have HC0 := Aside0.mk hc0
        have hcm : ((s : Int) + (r : Int)) / 2 = (c : Int) := by omega
        have hsc : s ≤ c := by omega
        have hcr : c < r := by omega
        obtain ⟨pc, hpc⟩ : ∃ h : Nat, n - 1 - c = h := ⟨_, rfl⟩
        have hnn := HNN.out
        have hw3 : IntKind.i64.wrap ((n : Int) - 1 - (c : Int)) = (pc : Int) := by rw [IntWalk.i64_in _ (by omega)]; omega
        have hltz : (s : Int) < (r : Int) := by omega
        have HU := Aside0.mk (show rd D (pc : Int) ∈ B from by
          rw [← HD.out, ← List.append_assoc]
          have e1 := HA.out; have e2 := HM.out; have e3 := HBL.out
          exact rd_in _ _ _ pc (by simp only [List.length_append]; omega) (by simp only [List.length_append]; omega))
        have HV := Aside0.mk (show rd D (c : Int) ∈ A from by
          rw [← HD.out]
          have e1 := HA.out; have e2 := HM.out; have e3 := HBL.out
          exact rd_in _ _ _ c (by omega) (by omega))
        have c2 := HR.out.cell pc (by have := HN.out; omega)
        have c3 := HR.out.cell c (by have := HN.out; omega)
        obtain ⟨u, hu⟩ : ∃ u, rd D (pc : Int) = u := ⟨_, rfl⟩
        obtain ⟨v, hv⟩ : ∃ v, rd D (c : Int) = v := ⟨_, rfl⟩
        rw [hu] at c2 HU
        rw [hv] at c3 HV
        have HUD := Aside0.mk hu
        have HVD := Aside0.mk hv
        have hur := HRG.out u (by simp [HU.out])
        have hvr := HRG.out v (by simp [HV.out])
        have hcc := fun n => HC.out.calls (wr.drewN n) u v (HR.out.gr.trans (grown_drewN _ n _)) hur.1 hur.2 hvr.1 hvr.2
        have hcl := HC.out.less u v hur.1 hur.2 hvr.1 hvr.2
        have p0 : 0 ≤ (c : Int) := by omega
        have p1 : (c : Int) < (N : Int) := by omega
        have p2 : 0 ≤ (pc : Int) := by omega
        have p3 : (pc : Int) < (N : Int) := by omega
        have HPC := Aside0.mk hpc
        clear hc0 hu hv hur hvr hsr' hlh hnn hpc
        by_cases hlv : cf u v < 0
        · have HLV := Aside0.mk (hcl.1 hlv)
          clear hcl
          go_upto_region 35 with fail
          go_quiet ((go_at_fn gf; refine Calls.quiet_of (hcc _)))
          have HR2 := Aside0.mk (HR.out.drewN nq)
          clear HR c2 c3 hcc hcm hw3
          go_wp2
          go_roundw
          case rel => exact ⟨s, c, rfl, rfl, ⟨by have := hsr.out; omega⟩, hl, ⟨fun _ => by rw [HPC.out, HUD.out, HVD.out]; exact HLV.out⟩, HR2⟩
          case measure => simp [intOf]; omega
        · have HLV := Aside0.mk (fun e => hlv (hcl.2 e))
          clear hcl
          go_upto_region 35 with fail
          go_quiet ((go_at_fn gf; refine Calls.quiet_of (hcc _)))
          have HR2 := Aside0.mk (HR.out.drewN nq)
          clear HR c2 c3 hcc hcm hw3
          go_wp2
          go_roundw
          case rel => exact ⟨c + 1, r, by push_cast; rfl, rfl, ⟨by have := hsr.out; omega⟩, ⟨fun _ => by rw [show n - (c + 1) = n - 1 - c by omega, HPC.out, Nat.add_sub_cancel, HUD.out, HVD.out]; exact HLV.out⟩, hh, HR2⟩
          case measure => simp [intOf]; omega
      · obtain rfl : s = r := by omega
        obtain ⟨en, hen⟩ : ∃ e : Nat, n - s = e := ⟨_, rfl⟩
        have HEN := Aside0.mk hen
        have hnn := HNN.out
        have hw4 : IntKind.i64.wrap ((n : Int) - (s : Int)) = (en : Int) := by rw [IntWalk.i64_in _ (by omega)]; omega
        have hen2 : m ≤ en ∧ en ≤ b ∧ a ≤ s ∧ s ≤ m ∧ s ≤ mid ∧ en = mid + (m - s) := by omega
        have HE2 := Aside0.mk hen2
        have HCUT : Aside0 (∃ A1 A2 B1 B2 : List Int, A = A1 ++ A2 ∧ B = B1 ++ B2 ∧ A1.length = s - a ∧ A2.length = m - s ∧ B1.length = en - m ∧ B2.length = b - en ∧ (∀ x ∈ A1 ++ B1, ∀ y ∈ A2 ++ B2, Lt ky x y)) := ⟨by
          have e1 := HA.out; have e2 := HM.out; have e3 := HBL.out
          have hA := List.take_append_drop (s - a) A
          have hB := List.take_append_drop (en - m) B
          have l1 : (A.take (s - a)).length = s - a := by rw [List.length_take]; omega
          have l2 : (A.drop (s - a)).length = m - s := by rw [List.length_drop]; omega
          have l3 : (B.take (en - m)).length = en - m := by rw [List.length_take]; omega
          have l4 : (B.drop (en - m)).length = b - en := by rw [List.length_drop]; omega
          obtain ⟨A1, hA1⟩ : ∃ l, A.take (s - a) = l := ⟨_, rfl⟩
          obtain ⟨A2, hA2⟩ : ∃ l, A.drop (s - a) = l := ⟨_, rfl⟩
          obtain ⟨B1, hB1⟩ : ∃ l, B.take (en - m) = l := ⟨_, rfl⟩
          obtain ⟨B2, hB2⟩ : ∃ l, B.drop (en - m) = l := ⟨_, rfl⟩
          rw [hA1] at hA l1
          rw [hA2] at hA l2
          rw [hB1] at hB l3
          rw [hB2] at hB l4
          refine ⟨A1, A2, B1, B2, hA.symm, hB.symm, l1, l2, l3, l4, ?_⟩
          have eD : D = ((P ++ A1) ++ (A2 ++ ((B1 ++ B2) ++ S))) := by rw [← HD.out, ← hA, ← hB]; simp
          have eD2 : D = ((P ++ (A1 ++ (A2 ++ B1))) ++ (B2 ++ S)) := by rw [eD]; simp
          refine cut_below (by rw [hA]; exact HSA.out) (by rw [hB]; exact HSB.out) (by rw [hA, hB]; exact HXB.out) ?_ ?_
          · intro x y hx hy
            have p1 : 0 < A1.length := by cases A1 with
              | nil => simp at hx
              | cons _ _ => simp
            have p2 : 0 < B2.length := by cases B2 with
              | nil => simp at hy
              | cons _ _ => simp
            have h3 := hl.out (by rcases HLO.out with h | h <;> omega)
            have ex : rd D ((s - 1 : Nat) : Int) = x := by
              rw [eD]
              exact rd_last_of _ _ _ _ (by rw [List.getLast?_append, hx]; rfl) (by simp only [List.length_append]; omega)
            have ey : rd D ((n - s : Nat) : Int) = y := by
              rw [hen, eD2]
              exact rd_head_of _ _ _ _ (by rw [List.head?_append, hy]; rfl) (by simp only [List.length_append]; omega)
            rw [ex, ey] at h3
            exact h3
          · intro x y hx hy
            have p1 : 0 < B1.length := by cases B1 with
              | nil => simp at hx
              | cons _ _ => simp
            have p2 : 0 < A2.length := by cases A2 with
              | nil => simp at hy
              | cons _ _ => simp
            have h3 := hh.out (by rcases HHI.out with h | h <;> omega)
            have ex : rd D ((n - 1 - s : Nat) : Int) = x := by
              rw [eD2]
              exact rd_last_of _ _ _ _ (by rw [List.getLast?_append, List.getLast?_append, List.getLast?_append, hx]; rfl) (by simp only [List.length_append]; omega)
            have ey : rd D (s : Int) = y := by
              rw [eD]
              exact rd_head_of _ _ _ _ (by rw [List.head?_append, hy]; rfl) (by simp only [List.length_append]; omega)
            rw [ex, ey] at h3
            exact h3⟩
        clear hl hh hen hnn hen2 hsr' hlh
        obtain ⟨A1, A2, B1, B2, eA, eB, l1, l2, l3, l4, hcut⟩ := HCUT.out
        have HCT := Aside0.mk hcut
        have HEA := Aside0.mk eA
        have HEB := Aside0.mk eB
        have HL1 := Aside0.mk l1
        have HL2 := Aside0.mk l2
        have HL3 := Aside0.mk l3
        have HL4 := Aside0.mk l4
        have HX0 := Aside0.mk (show Rw g w wr (P ++ (A1 ++ (A2 ++ (B1 ++ (B2 ++ S))))) by have := HR.out; rw [← HD.out, eA, eB] at this; simpa using this)
        have HSP := Aside0.mk (show (A1.Pairwise (Lt ky) ∧ A2.Pairwise (Lt ky)) ∧ (B1.Pairwise (Lt ky) ∧ B2.Pairwise (Lt ky)) by
          have h1 := HSA.out
          have h2 := HSB.out
          rw [eA] at h1
          rw [eB] at h2
          exact ⟨⟨(List.pairwise_append.1 h1).1, (List.pairwise_append.1 h1).2.1⟩, ⟨(List.pairwise_append.1 h2).1, (List.pairwise_append.1 h2).2.1⟩⟩)
        have HLN : Aside0 (P.length + A1.length + A2.length + B1.length + B2.length + S.length = N) := ⟨by have h := HN.out; rw [← HD.out, eA, eB] at h; simp only [List.length_append] at h; omega⟩
        have HLX := Aside0.mk (show (P ++ (A1 ++ (B1 ++ (A2 ++ (B2 ++ S))))).length = N by have := HLN.out; simp only [List.length_append]; omega)
        have HQ1 := Aside0.mk (show A1.length + B1.length ≤ A.length + B.length - 1 by have := HM.out; have := HBL.out; have := HE2.out; omega)
        have HQ2 := Aside0.mk (show s = a + A1.length by have := HE2.out; omega)
        have HQ3 := Aside0.mk (show mid = s + B1.length by have := HE2.out; omega)
        have HQ4 := Aside0.mk (show (∀ u ∈ A1 ++ B1, 1 ≤ u ∧ u ≤ (N : Int)) ∧ A1.Pairwise (Lt ky) ∧ B1.Pairwise (Lt ky) ∧ (∀ u ∈ A1, ∀ v ∈ B1, u < v) from
          ⟨fun u hu => HRG.out u (by rw [eA, eB]; simp at hu ⊢; rcases hu with h | h <;> simp [h]), HSP.out.1.1, HSP.out.2.1, fun u hu v hv => HXB.out u (by rw [eA]; simp [hu]) v (by rw [eB]; simp [hv])⟩)
        have HZ1 := Aside0.mk (show A2.length + B2.length ≤ A.length + B.length - 1 by have := HM.out; have := HBL.out; have := HE2.out; omega)
        have HZ2 := Aside0.mk (show en = mid + A2.length by have := HE2.out; omega)
        have HZ3 := Aside0.mk (show b = en + B2.length by have := HE2.out; omega)
        have HZ4 := Aside0.mk (show (∀ u ∈ A2 ++ B2, 1 ≤ u ∧ u ≤ (N : Int)) ∧ A2.Pairwise (Lt ky) ∧ B2.Pairwise (Lt ky) ∧ (∀ u ∈ A2, ∀ v ∈ B2, u < v) from
          ⟨fun u hu => HRG.out u (by rw [eA, eB]; simp at hu ⊢; rcases hu with h | h <;> simp [h]), HSP.out.1.2, HSP.out.2.2, fun u hu v hv => HXB.out u (by rw [eA]; simp [hu]) v (by rw [eB]; simp [hv])⟩)
        have hsm := HE2.out
        clear hcut eA eB l1 l2 l3 l4 HR HCUT HL
        rcases (show (s < m ∧ m < en) ∨ (s < m ∧ ¬ m < en) ∨ ¬ s < m by omega) with ⟨q1, q2⟩ | ⟨q1, q2⟩ | q1
        · clear hsm
          have HRL := Aside0.mk (show 0 < A2.length ∧ 0 < B1.length by have := HL2.out; have := HL3.out; omega)
          have HR1 := Aside0.mk (show (P ++ A1).length = s by have := HA.out; have := HQ2.out; rw [List.length_append]; omega)
          have HR2 := Aside0.mk (show s + A2.length = m ∧ m + B1.length = en by have := HL2.out; have := HL3.out; have := HE2.out; omega)
          go_upto_region 41 with (first | (go_at_call 67; refine (rotate_z g N s m en (P ++ A1) A2 B1 (B2 ++ S) _ _ _ _ _ (by omega) (by omega) (by omega) _ (by rw [List.append_assoc]) HX0.out.blk (by have := HLN.out; simp only [List.length_append]; omega) hN2 HR1.out HR2.out.1 HR2.out.2 HRL.out.1 HRL.out.2 (P ++ (A1 ++ (B1 ++ (A2 ++ (B2 ++ S))))) (by rw [List.append_assoc])).mono ?_; rintro e wx ⟨rfl, hr⟩; have HX := Aside0.mk (HX0.out.then_ hr); clear HX0 hr))
          have hsm := HE2.out
          have hq3 := HQ3.out
          have hq2 := HQ2.out
          rcases (show (a < s ∧ s < mid) ∨ (a < s ∧ ¬ s < mid) ∨ ¬ a < s by omega) with ⟨t1, t2⟩ | ⟨t1, t2⟩ | t1
          · have HP2 := Aside0.mk (show 0 < A1.length ∧ 0 < B1.length by omega)
            clear hsm hq2 hq3
            go_upto_region 43 with (first | (go_at_call 61; refine (HIH.out a s mid _ _ _ P A1 B1 (A2 ++ (B2 ++ S)) _ _ (by omega) (by omega) (by omega) HX.out.gr HQ1.out rfl HX.out.blk HLX.out HA.out HQ2.out HQ3.out HQ4.out.1 HQ4.out.2.1 HQ4.out.2.2.1 HQ4.out.2.2.2 HP2.out.1 HP2.out.2).mono ?_; rintro e wy ⟨rfl, C1, hr, hp, hs⟩; have HY : Aside0 (Rw g w wy ((P ++ C1) ++ (A2 ++ (B2 ++ S)))) := Aside0.mk (by have := HX.out.then_ hr; rw [List.append_assoc]; exact this); have HC1 := Aside0.mk (And.intro hp hs); clear HX hr hp hs))
            have HLC1 : Aside0 ((P ++ C1).length = mid) := ⟨by have e1 := HC1.out.1.length_eq; have e2 := HA.out; have e3 := HQ2.out; have e4 := HQ3.out; rw [List.length_append] at e1 ⊢; omega⟩
            have HLY : Aside0 (((P ++ C1) ++ (A2 ++ (B2 ++ S))).length = N) := ⟨by have e1 := HC1.out.1.length_eq; have e2 := HLN.out; simp only [List.length_append] at e1 ⊢; omega⟩
            have hz2 := HZ2.out
            have hz3 := HZ3.out
            rcases (show (mid < en ∧ en < b) ∨ (mid < en ∧ ¬ en < b) ∨ ¬ mid < en by omega) with ⟨v1, v2⟩ | ⟨v1, v2⟩ | v1
            · have HP3 := Aside0.mk (show 0 < A2.length ∧ 0 < B2.length by omega)
              clear hz2 hz3
              go_wp2_with (first | (go_at_call 61; refine (HIH.out mid en b _ _ _ (P ++ C1) A2 B2 S _ _ (by omega) (by omega) (by omega) HY.out.gr HZ1.out rfl HY.out.blk HLY.out HLC1.out HZ2.out HZ3.out HZ4.out.1 HZ4.out.2.1 HZ4.out.2.2.1 HZ4.out.2.2.2 HP3.out.1 HP3.out.2).mono ?_; rintro e wz ⟨rfl, C2, hr, hp, hs⟩; have HZ := Aside0.mk (HY.out.then_ hr); have HC2 := Aside0.mk (And.intro hp hs); clear HY hr hp hs))
              go_end0
              have hfin := cut_sorted HCT.out HC1.out.1 HC1.out.2 HC2.out.1 HC2.out.2
              exact ⟨rfl, C1 ++ C2, by have := HZ.out; simpa using this, by rw [HEA.out, HEB.out]; exact hfin.2, hfin.1⟩
            · have hz : B2 = [] := List.eq_nil_of_length_eq_zero (by omega)
              have HC2 := Aside0.mk (show (A2 ++ B2).Pairwise (Lt ky) by rw [hz, List.append_nil]; exact HSP.out.1.2)
              clear hz2 hz3 hz
              go_wp2
              go_end0
              have hfin := cut_sorted HCT.out HC1.out.1 HC1.out.2 (List.Perm.refl (A2 ++ B2)) HC2.out
              exact ⟨rfl, C1 ++ (A2 ++ B2), by have := HY.out; simpa using this, by rw [HEA.out, HEB.out]; exact hfin.2, hfin.1⟩
            · have hz : A2 = [] := List.eq_nil_of_length_eq_zero (by omega)
              have HC2 := Aside0.mk (show (A2 ++ B2).Pairwise (Lt ky) by rw [hz, List.nil_append]; exact HSP.out.2.2)
              clear hz2 hz3 hz
              go_wp2
              go_end0
              have hfin := cut_sorted HCT.out HC1.out.1 HC1.out.2 (List.Perm.refl (A2 ++ B2)) HC2.out
              exact ⟨rfl, C1 ++ (A2 ++ B2), by have := HY.out; simpa using this, by rw [HEA.out, HEB.out]; exact hfin.2, hfin.1⟩
          · have HC1 := Aside0.mk (show (A1 ++ B1).Perm (A1 ++ B1) ∧ (A1 ++ B1).Pairwise (Lt ky) from ⟨List.Perm.refl _, by
              have hz : B1 = [] := List.eq_nil_of_length_eq_zero (by omega)
              rw [hz, List.append_nil]; exact HSP.out.1.1⟩)
            obtain ⟨C1, hC1⟩ : ∃ C, A1 ++ B1 = C := ⟨_, rfl⟩
            have HY : Aside0 (Rw g w _ ((P ++ C1) ++ (A2 ++ (B2 ++ S)))) := Aside0.mk (by rw [← hC1]; have := HX.out; simpa using this)
            have HC1' : Aside0 (C1.Perm (A1 ++ B1) ∧ C1.Pairwise (Lt ky)) := Aside0.mk (by rw [← hC1]; exact HC1.out)
            clear HC1 hC1 HX hsm hq2 hq3
            have HC1 := HC1'
            clear HC1'
            go_upto_region 43 with fail
            have HLC1 : Aside0 ((P ++ C1).length = mid) := ⟨by have e1 := HC1.out.1.length_eq; have e2 := HA.out; have e3 := HQ2.out; have e4 := HQ3.out; rw [List.length_append] at e1 ⊢; omega⟩
            have HLY : Aside0 (((P ++ C1) ++ (A2 ++ (B2 ++ S))).length = N) := ⟨by have e1 := HC1.out.1.length_eq; have e2 := HLN.out; simp only [List.length_append] at e1 ⊢; omega⟩
            have hz2 := HZ2.out
            have hz3 := HZ3.out
            rcases (show (mid < en ∧ en < b) ∨ (mid < en ∧ ¬ en < b) ∨ ¬ mid < en by omega) with ⟨v1, v2⟩ | ⟨v1, v2⟩ | v1
            · have HP3 := Aside0.mk (show 0 < A2.length ∧ 0 < B2.length by omega)
              clear hz2 hz3
              go_wp2_with (first | (go_at_call 61; refine (HIH.out mid en b _ _ _ (P ++ C1) A2 B2 S _ _ (by omega) (by omega) (by omega) HY.out.gr HZ1.out rfl HY.out.blk HLY.out HLC1.out HZ2.out HZ3.out HZ4.out.1 HZ4.out.2.1 HZ4.out.2.2.1 HZ4.out.2.2.2 HP3.out.1 HP3.out.2).mono ?_; rintro e wz ⟨rfl, C2, hr, hp, hs⟩; have HZ := Aside0.mk (HY.out.then_ hr); have HC2 := Aside0.mk (And.intro hp hs); clear HY hr hp hs))
              go_end0
              have hfin := cut_sorted HCT.out HC1.out.1 HC1.out.2 HC2.out.1 HC2.out.2
              exact ⟨rfl, C1 ++ C2, by have := HZ.out; simpa using this, by rw [HEA.out, HEB.out]; exact hfin.2, hfin.1⟩
            · have hz : B2 = [] := List.eq_nil_of_length_eq_zero (by omega)
              have HC2 := Aside0.mk (show (A2 ++ B2).Pairwise (Lt ky) by rw [hz, List.append_nil]; exact HSP.out.1.2)
              clear hz2 hz3 hz
              go_wp2
              go_end0
              have hfin := cut_sorted HCT.out HC1.out.1 HC1.out.2 (List.Perm.refl (A2 ++ B2)) HC2.out
              exact ⟨rfl, C1 ++ (A2 ++ B2), by have := HY.out; simpa using this, by rw [HEA.out, HEB.out]; exact hfin.2, hfin.1⟩
            · have hz : A2 = [] := List.eq_nil_of_length_eq_zero (by omega)
              have HC2 := Aside0.mk (show (A2 ++ B2).Pairwise (Lt ky) by rw [hz, List.nil_append]; exact HSP.out.2.2)
              clear hz2 hz3 hz
              go_wp2
              go_end0
              have hfin := cut_sorted HCT.out HC1.out.1 HC1.out.2 (List.Perm.refl (A2 ++ B2)) HC2.out
              exact ⟨rfl, C1 ++ (A2 ++ B2), by have := HY.out; simpa using this, by rw [HEA.out, HEB.out]; exact hfin.2, hfin.1⟩
          · have HC1 := Aside0.mk (show (A1 ++ B1).Perm (A1 ++ B1) ∧ (A1 ++ B1).Pairwise (Lt ky) from ⟨List.Perm.refl _, by
              have hz : A1 = [] := List.eq_nil_of_length_eq_zero (by omega)
              rw [hz, List.nil_append]; exact HSP.out.2.1⟩)
            obtain ⟨C1, hC1⟩ : ∃ C, A1 ++ B1 = C := ⟨_, rfl⟩
            have HY : Aside0 (Rw g w _ ((P ++ C1) ++ (A2 ++ (B2 ++ S)))) := Aside0.mk (by rw [← hC1]; have := HX.out; simpa using this)
            have HC1' : Aside0 (C1.Perm (A1 ++ B1) ∧ C1.Pairwise (Lt ky)) := Aside0.mk (by rw [← hC1]; exact HC1.out)
            clear HC1 hC1 HX hsm hq2 hq3
            have HC1 := HC1'
            clear HC1'
            go_upto_region 43 with fail
            have HLC1 : Aside0 ((P ++ C1).length = mid) := ⟨by have e1 := HC1.out.1.length_eq; have e2 := HA.out; have e3 := HQ2.out; have e4 := HQ3.out; rw [List.length_append] at e1 ⊢; omega⟩
            have HLY : Aside0 (((P ++ C1) ++ (A2 ++ (B2 ++ S))).length = N) := ⟨by have e1 := HC1.out.1.length_eq; have e2 := HLN.out; simp only [List.length_append] at e1 ⊢; omega⟩
            have hz2 := HZ2.out
            have hz3 := HZ3.out
            rcases (show (mid < en ∧ en < b) ∨ (mid < en ∧ ¬ en < b) ∨ ¬ mid < en by omega) with ⟨v1, v2⟩ | ⟨v1, v2⟩ | v1
            · have HP3 := Aside0.mk (show 0 < A2.length ∧ 0 < B2.length by omega)
              clear hz2 hz3
              go_wp2_with (first | (go_at_call 61; refine (HIH.out mid en b _ _ _ (P ++ C1) A2 B2 S _ _ (by omega) (by omega) (by omega) HY.out.gr HZ1.out rfl HY.out.blk HLY.out HLC1.out HZ2.out HZ3.out HZ4.out.1 HZ4.out.2.1 HZ4.out.2.2.1 HZ4.out.2.2.2 HP3.out.1 HP3.out.2).mono ?_; rintro e wz ⟨rfl, C2, hr, hp, hs⟩; have HZ := Aside0.mk (HY.out.then_ hr); have HC2 := Aside0.mk (And.intro hp hs); clear HY hr hp hs))
              go_end0
              have hfin := cut_sorted HCT.out HC1.out.1 HC1.out.2 HC2.out.1 HC2.out.2
              exact ⟨rfl, C1 ++ C2, by have := HZ.out; simpa using this, by rw [HEA.out, HEB.out]; exact hfin.2, hfin.1⟩
            · have hz : B2 = [] := List.eq_nil_of_length_eq_zero (by omega)
              have HC2 := Aside0.mk (show (A2 ++ B2).Pairwise (Lt ky) by rw [hz, List.append_nil]; exact HSP.out.1.2)
              clear hz2 hz3 hz
              go_wp2
              go_end0
              have hfin := cut_sorted HCT.out HC1.out.1 HC1.out.2 (List.Perm.refl (A2 ++ B2)) HC2.out
              exact ⟨rfl, C1 ++ (A2 ++ B2), by have := HY.out; simpa using this, by rw [HEA.out, HEB.out]; exact hfin.2, hfin.1⟩
            · have hz : A2 = [] := List.eq_nil_of_length_eq_zero (by omega)
              have HC2 := Aside0.mk (show (A2 ++ B2).Pairwise (Lt ky) by rw [hz, List.nil_append]; exact HSP.out.2.2)
              clear hz2 hz3 hz
              go_wp2
              go_end0
              have hfin := cut_sorted HCT.out HC1.out.1 HC1.out.2 (List.Perm.refl (A2 ++ B2)) HC2.out
              exact ⟨rfl, C1 ++ (A2 ++ B2), by have := HY.out; simpa using this, by rw [HEA.out, HEB.out]; exact hfin.2, hfin.1⟩
        · have hz : B1 = [] := List.eq_nil_of_length_eq_zero (by have := HL3.out; omega)
          have HX := Aside0.mk (show Rw g w wr (P ++ (A1 ++ (B1 ++ (A2 ++ (B2 ++ S))))) by have := HX0.out; rw [hz] at this ⊢; simpa using this)
          clear hz HX0 hsm
          go_upto_region 41 with fail
          have hsm := HE2.out
          have hq3 := HQ3.out
          have hq2 := HQ2.out
          rcases (show (a < s ∧ s < mid) ∨ (a < s ∧ ¬ s < mid) ∨ ¬ a < s by omega) with ⟨t1, t2⟩ | ⟨t1, t2⟩ | t1
          · have HP2 := Aside0.mk (show 0 < A1.length ∧ 0 < B1.length by omega)
            clear hsm hq2 hq3
            go_upto_region 43 with (first | (go_at_call 61; refine (HIH.out a s mid _ _ _ P A1 B1 (A2 ++ (B2 ++ S)) _ _ (by omega) (by omega) (by omega) HX.out.gr HQ1.out rfl HX.out.blk HLX.out HA.out HQ2.out HQ3.out HQ4.out.1 HQ4.out.2.1 HQ4.out.2.2.1 HQ4.out.2.2.2 HP2.out.1 HP2.out.2).mono ?_; rintro e wy ⟨rfl, C1, hr, hp, hs⟩; have HY : Aside0 (Rw g w wy ((P ++ C1) ++ (A2 ++ (B2 ++ S)))) := Aside0.mk (by have := HX.out.then_ hr; rw [List.append_assoc]; exact this); have HC1 := Aside0.mk (And.intro hp hs); clear HX hr hp hs))
            have HLC1 : Aside0 ((P ++ C1).length = mid) := ⟨by have e1 := HC1.out.1.length_eq; have e2 := HA.out; have e3 := HQ2.out; have e4 := HQ3.out; rw [List.length_append] at e1 ⊢; omega⟩
            have HLY : Aside0 (((P ++ C1) ++ (A2 ++ (B2 ++ S))).length = N) := ⟨by have e1 := HC1.out.1.length_eq; have e2 := HLN.out; simp only [List.length_append] at e1 ⊢; omega⟩
            have hz2 := HZ2.out
            have hz3 := HZ3.out
            rcases (show (mid < en ∧ en < b) ∨ (mid < en ∧ ¬ en < b) ∨ ¬ mid < en by omega) with ⟨v1, v2⟩ | ⟨v1, v2⟩ | v1
            · have HP3 := Aside0.mk (show 0 < A2.length ∧ 0 < B2.length by omega)
              clear hz2 hz3
              go_wp2_with (first | (go_at_call 61; refine (HIH.out mid en b _ _ _ (P ++ C1) A2 B2 S _ _ (by omega) (by omega) (by omega) HY.out.gr HZ1.out rfl HY.out.blk HLY.out HLC1.out HZ2.out HZ3.out HZ4.out.1 HZ4.out.2.1 HZ4.out.2.2.1 HZ4.out.2.2.2 HP3.out.1 HP3.out.2).mono ?_; rintro e wz ⟨rfl, C2, hr, hp, hs⟩; have HZ := Aside0.mk (HY.out.then_ hr); have HC2 := Aside0.mk (And.intro hp hs); clear HY hr hp hs))
              go_end0
              have hfin := cut_sorted HCT.out HC1.out.1 HC1.out.2 HC2.out.1 HC2.out.2
              exact ⟨rfl, C1 ++ C2, by have := HZ.out; simpa using this, by rw [HEA.out, HEB.out]; exact hfin.2, hfin.1⟩
            · have hz : B2 = [] := List.eq_nil_of_length_eq_zero (by omega)
              have HC2 := Aside0.mk (show (A2 ++ B2).Pairwise (Lt ky) by rw [hz, List.append_nil]; exact HSP.out.1.2)
              clear hz2 hz3 hz
              go_wp2
              go_end0
              have hfin := cut_sorted HCT.out HC1.out.1 HC1.out.2 (List.Perm.refl (A2 ++ B2)) HC2.out
              exact ⟨rfl, C1 ++ (A2 ++ B2), by have := HY.out; simpa using this, by rw [HEA.out, HEB.out]; exact hfin.2, hfin.1⟩
            · have hz : A2 = [] := List.eq_nil_of_length_eq_zero (by omega)
              have HC2 := Aside0.mk (show (A2 ++ B2).Pairwise (Lt ky) by rw [hz, List.nil_append]; exact HSP.out.2.2)
              clear hz2 hz3 hz
              go_wp2
              go_end0
              have hfin := cut_sorted HCT.out HC1.out.1 HC1.out.2 (List.Perm.refl (A2 ++ B2)) HC2.out
              exact ⟨rfl, C1 ++ (A2 ++ B2), by have := HY.out; simpa using this, by rw [HEA.out, HEB.out]; exact hfin.2, hfin.1⟩
          · have HC1 := Aside0.mk (show (A1 ++ B1).Perm (A1 ++ B1) ∧ (A1 ++ B1).Pairwise (Lt ky) from ⟨List.Perm.refl _, by
              have hz : B1 = [] := List.eq_nil_of_length_eq_zero (by omega)
              rw [hz, List.append_nil]; exact HSP.out.1.1⟩)
            obtain ⟨C1, hC1⟩ : ∃ C, A1 ++ B1 = C := ⟨_, rfl⟩
            have HY : Aside0 (Rw g w _ ((P ++ C1) ++ (A2 ++ (B2 ++ S)))) := Aside0.mk (by rw [← hC1]; have := HX.out; simpa using this)
            have HC1' : Aside0 (C1.Perm (A1 ++ B1) ∧ C1.Pairwise (Lt ky)) := Aside0.mk (by rw [← hC1]; exact HC1.out)
            clear HC1 hC1 HX hsm hq2 hq3
            have HC1 := HC1'
            clear HC1'
            go_upto_region 43 with fail
            have HLC1 : Aside0 ((P ++ C1).length = mid) := ⟨by have e1 := HC1.out.1.length_eq; have e2 := HA.out; have e3 := HQ2.out; have e4 := HQ3.out; rw [List.length_append] at e1 ⊢; omega⟩
            have HLY : Aside0 (((P ++ C1) ++ (A2 ++ (B2 ++ S))).length = N) := ⟨by have e1 := HC1.out.1.length_eq; have e2 := HLN.out; simp only [List.length_append] at e1 ⊢; omega⟩
            have hz2 := HZ2.out
            have hz3 := HZ3.out
            rcases (show (mid < en ∧ en < b) ∨ (mid < en ∧ ¬ en < b) ∨ ¬ mid < en by omega) with ⟨v1, v2⟩ | ⟨v1, v2⟩ | v1
            · have HP3 := Aside0.mk (show 0 < A2.length ∧ 0 < B2.length by omega)
              clear hz2 hz3
              go_wp2_with (first | (go_at_call 61; refine (HIH.out mid en b _ _ _ (P ++ C1) A2 B2 S _ _ (by omega) (by omega) (by omega) HY.out.gr HZ1.out rfl HY.out.blk HLY.out HLC1.out HZ2.out HZ3.out HZ4.out.1 HZ4.out.2.1 HZ4.out.2.2.1 HZ4.out.2.2.2 HP3.out.1 HP3.out.2).mono ?_; rintro e wz ⟨rfl, C2, hr, hp, hs⟩; have HZ := Aside0.mk (HY.out.then_ hr); have HC2 := Aside0.mk (And.intro hp hs); clear HY hr hp hs))
              go_end0
              have hfin := cut_sorted HCT.out HC1.out.1 HC1.out.2 HC2.out.1 HC2.out.2
              exact ⟨rfl, C1 ++ C2, by have := HZ.out; simpa using this, by rw [HEA.out, HEB.out]; exact hfin.2, hfin.1⟩
            · have hz : B2 = [] := List.eq_nil_of_length_eq_zero (by omega)
              have HC2 := Aside0.mk (show (A2 ++ B2).Pairwise (Lt ky) by rw [hz, List.append_nil]; exact HSP.out.1.2)
              clear hz2 hz3 hz
              go_wp2
              go_end0
              have hfin := cut_sorted HCT.out HC1.out.1 HC1.out.2 (List.Perm.refl (A2 ++ B2)) HC2.out
              exact ⟨rfl, C1 ++ (A2 ++ B2), by have := HY.out; simpa using this, by rw [HEA.out, HEB.out]; exact hfin.2, hfin.1⟩
            · have hz : A2 = [] := List.eq_nil_of_length_eq_zero (by omega)
              have HC2 := Aside0.mk (show (A2 ++ B2).Pairwise (Lt ky) by rw [hz, List.nil_append]; exact HSP.out.2.2)
              clear hz2 hz3 hz
              go_wp2
              go_end0
              have hfin := cut_sorted HCT.out HC1.out.1 HC1.out.2 (List.Perm.refl (A2 ++ B2)) HC2.out
              exact ⟨rfl, C1 ++ (A2 ++ B2), by have := HY.out; simpa using this, by rw [HEA.out, HEB.out]; exact hfin.2, hfin.1⟩
          · have HC1 := Aside0.mk (show (A1 ++ B1).Perm (A1 ++ B1) ∧ (A1 ++ B1).Pairwise (Lt ky) from ⟨List.Perm.refl _, by
              have hz : A1 = [] := List.eq_nil_of_length_eq_zero (by omega)
              rw [hz, List.nil_append]; exact HSP.out.2.1⟩)
            obtain ⟨C1, hC1⟩ : ∃ C, A1 ++ B1 = C := ⟨_, rfl⟩
            have HY : Aside0 (Rw g w _ ((P ++ C1) ++ (A2 ++ (B2 ++ S)))) := Aside0.mk (by rw [← hC1]; have := HX.out; simpa using this)
            have HC1' : Aside0 (C1.Perm (A1 ++ B1) ∧ C1.Pairwise (Lt ky)) := Aside0.mk (by rw [← hC1]; exact HC1.out)
            clear HC1 hC1 HX hsm hq2 hq3
            have HC1 := HC1'
            clear HC1'
            go_upto_region 43 with fail
            have HLC1 : Aside0 ((P ++ C1).length = mid) := ⟨by have e1 := HC1.out.1.length_eq; have e2 := HA.out; have e3 := HQ2.out; have e4 := HQ3.out; rw [List.length_append] at e1 ⊢; omega⟩
            have HLY : Aside0 (((P ++ C1) ++ (A2 ++ (B2 ++ S))).length = N) := ⟨by have e1 := HC1.out.1.length_eq; have e2 := HLN.out; simp only [List.length_append] at e1 ⊢; omega⟩
            have hz2 := HZ2.out
            have hz3 := HZ3.out
            rcases (show (mid < en ∧ en < b) ∨ (mid < en ∧ ¬ en < b) ∨ ¬ mid < en by omega) with ⟨v1, v2⟩ | ⟨v1, v2⟩ | v1
            · have HP3 := Aside0.mk (show 0 < A2.length ∧ 0 < B2.length by omega)
              clear hz2 hz3
              go_wp2_with (first | (go_at_call 61; refine (HIH.out mid en b _ _ _ (P ++ C1) A2 B2 S _ _ (by omega) (by omega) (by omega) HY.out.gr HZ1.out rfl HY.out.blk HLY.out HLC1.out HZ2.out HZ3.out HZ4.out.1 HZ4.out.2.1 HZ4.out.2.2.1 HZ4.out.2.2.2 HP3.out.1 HP3.out.2).mono ?_; rintro e wz ⟨rfl, C2, hr, hp, hs⟩; have HZ := Aside0.mk (HY.out.then_ hr); have HC2 := Aside0.mk (And.intro hp hs); clear HY hr hp hs))
              go_end0
              have hfin := cut_sorted HCT.out HC1.out.1 HC1.out.2 HC2.out.1 HC2.out.2
              exact ⟨rfl, C1 ++ C2, by have := HZ.out; simpa using this, by rw [HEA.out, HEB.out]; exact hfin.2, hfin.1⟩
            · have hz : B2 = [] := List.eq_nil_of_length_eq_zero (by omega)
              have HC2 := Aside0.mk (show (A2 ++ B2).Pairwise (Lt ky) by rw [hz, List.append_nil]; exact HSP.out.1.2)
              clear hz2 hz3 hz
              go_wp2
              go_end0
              have hfin := cut_sorted HCT.out HC1.out.1 HC1.out.2 (List.Perm.refl (A2 ++ B2)) HC2.out
              exact ⟨rfl, C1 ++ (A2 ++ B2), by have := HY.out; simpa using this, by rw [HEA.out, HEB.out]; exact hfin.2, hfin.1⟩
            · have hz : A2 = [] := List.eq_nil_of_length_eq_zero (by omega)
              have HC2 := Aside0.mk (show (A2 ++ B2).Pairwise (Lt ky) by rw [hz, List.nil_append]; exact HSP.out.2.2)
              clear hz2 hz3 hz
              go_wp2
              go_end0
              have hfin := cut_sorted HCT.out HC1.out.1 HC1.out.2 (List.Perm.refl (A2 ++ B2)) HC2.out
              exact ⟨rfl, C1 ++ (A2 ++ B2), by have := HY.out; simpa using this, by rw [HEA.out, HEB.out]; exact hfin.2, hfin.1⟩
        · have hz : A2 = [] := List.eq_nil_of_length_eq_zero (by have := HL2.out; omega)
          have HX := Aside0.mk (show Rw g w wr (P ++ (A1 ++ (B1 ++ (A2 ++ (B2 ++ S))))) by have := HX0.out; rw [hz] at this ⊢; simpa using this)
          clear hz HX0 hsm
          go_upto_region 41 with fail
          have hsm := HE2.out
          have hq3 := HQ3.out
          have hq2 := HQ2.out
          rcases (show (a < s ∧ s < mid) ∨ (a < s ∧ ¬ s < mid) ∨ ¬ a < s by omega) with ⟨t1, t2⟩ | ⟨t1, t2⟩ | t1
          · have HP2 := Aside0.mk (show 0 < A1.length ∧ 0 < B1.length by omega)
            clear hsm hq2 hq3
            go_upto_region 43 with (first | (go_at_call 61; refine (HIH.out a s mid _ _ _ P A1 B1 (A2 ++ (B2 ++ S)) _ _ (by omega) (by omega) (by omega) HX.out.gr HQ1.out rfl HX.out.blk HLX.out HA.out HQ2.out HQ3.out HQ4.out.1 HQ4.out.2.1 HQ4.out.2.2.1 HQ4.out.2.2.2 HP2.out.1 HP2.out.2).mono ?_; rintro e wy ⟨rfl, C1, hr, hp, hs⟩; have HY : Aside0 (Rw g w wy ((P ++ C1) ++ (A2 ++ (B2 ++ S)))) := Aside0.mk (by have := HX.out.then_ hr; rw [List.append_assoc]; exact this); have HC1 := Aside0.mk (And.intro hp hs); clear HX hr hp hs))
            have HLC1 : Aside0 ((P ++ C1).length = mid) := ⟨by have e1 := HC1.out.1.length_eq; have e2 := HA.out; have e3 := HQ2.out; have e4 := HQ3.out; rw [List.length_append] at e1 ⊢; omega⟩
            have HLY : Aside0 (((P ++ C1) ++ (A2 ++ (B2 ++ S))).length = N) := ⟨by have e1 := HC1.out.1.length_eq; have e2 := HLN.out; simp only [List.length_append] at e1 ⊢; omega⟩
            have hz2 := HZ2.out
            have hz3 := HZ3.out
            rcases (show (mid < en ∧ en < b) ∨ (mid < en ∧ ¬ en < b) ∨ ¬ mid < en by omega) with ⟨v1, v2⟩ | ⟨v1, v2⟩ | v1
            · have HP3 := Aside0.mk (show 0 < A2.length ∧ 0 < B2.length by omega)
              clear hz2 hz3
              go_wp2_with (first | (go_at_call 61; refine (HIH.out mid en b _ _ _ (P ++ C1) A2 B2 S _ _ (by omega) (by omega) (by omega) HY.out.gr HZ1.out rfl HY.out.blk HLY.out HLC1.out HZ2.out HZ3.out HZ4.out.1 HZ4.out.2.1 HZ4.out.2.2.1 HZ4.out.2.2.2 HP3.out.1 HP3.out.2).mono ?_; rintro e wz ⟨rfl, C2, hr, hp, hs⟩; have HZ := Aside0.mk (HY.out.then_ hr); have HC2 := Aside0.mk (And.intro hp hs); clear HY hr hp hs))
              go_end0
              have hfin := cut_sorted HCT.out HC1.out.1 HC1.out.2 HC2.out.1 HC2.out.2
              exact ⟨rfl, C1 ++ C2, by have := HZ.out; simpa using this, by rw [HEA.out, HEB.out]; exact hfin.2, hfin.1⟩
            · have hz : B2 = [] := List.eq_nil_of_length_eq_zero (by omega)
              have HC2 := Aside0.mk (show (A2 ++ B2).Pairwise (Lt ky) by rw [hz, List.append_nil]; exact HSP.out.1.2)
              clear hz2 hz3 hz
              go_wp2
              go_end0
              have hfin := cut_sorted HCT.out HC1.out.1 HC1.out.2 (List.Perm.refl (A2 ++ B2)) HC2.out
              exact ⟨rfl, C1 ++ (A2 ++ B2), by have := HY.out; simpa using this, by rw [HEA.out, HEB.out]; exact hfin.2, hfin.1⟩
            · have hz : A2 = [] := List.eq_nil_of_length_eq_zero (by omega)
              have HC2 := Aside0.mk (show (A2 ++ B2).Pairwise (Lt ky) by rw [hz, List.nil_append]; exact HSP.out.2.2)
              clear hz2 hz3 hz
              go_wp2
              go_end0
              have hfin := cut_sorted HCT.out HC1.out.1 HC1.out.2 (List.Perm.refl (A2 ++ B2)) HC2.out
              exact ⟨rfl, C1 ++ (A2 ++ B2), by have := HY.out; simpa using this, by rw [HEA.out, HEB.out]; exact hfin.2, hfin.1⟩
          · have HC1 := Aside0.mk (show (A1 ++ B1).Perm (A1 ++ B1) ∧ (A1 ++ B1).Pairwise (Lt ky) from ⟨List.Perm.refl _, by
              have hz : B1 = [] := List.eq_nil_of_length_eq_zero (by omega)
              rw [hz, List.append_nil]; exact HSP.out.1.1⟩)
            obtain ⟨C1, hC1⟩ : ∃ C, A1 ++ B1 = C := ⟨_, rfl⟩
            have HY : Aside0 (Rw g w _ ((P ++ C1) ++ (A2 ++ (B2 ++ S)))) := Aside0.mk (by rw [← hC1]; have := HX.out; simpa using this)
            have HC1' : Aside0 (C1.Perm (A1 ++ B1) ∧ C1.Pairwise (Lt ky)) := Aside0.mk (by rw [← hC1]; exact HC1.out)
            clear HC1 hC1 HX hsm hq2 hq3
            have HC1 := HC1'
            clear HC1'
            go_upto_region 43 with fail
            have HLC1 : Aside0 ((P ++ C1).length = mid) := ⟨by have e1 := HC1.out.1.length_eq; have e2 := HA.out; have e3 := HQ2.out; have e4 := HQ3.out; rw [List.length_append] at e1 ⊢; omega⟩
            have HLY : Aside0 (((P ++ C1) ++ (A2 ++ (B2 ++ S))).length = N) := ⟨by have e1 := HC1.out.1.length_eq; have e2 := HLN.out; simp only [List.length_append] at e1 ⊢; omega⟩
            have hz2 := HZ2.out
            have hz3 := HZ3.out
            rcases (show (mid < en ∧ en < b) ∨ (mid < en ∧ ¬ en < b) ∨ ¬ mid < en by omega) with ⟨v1, v2⟩ | ⟨v1, v2⟩ | v1
            · have HP3 := Aside0.mk (show 0 < A2.length ∧ 0 < B2.length by omega)
              clear hz2 hz3
              go_wp2_with (first | (go_at_call 61; refine (HIH.out mid en b _ _ _ (P ++ C1) A2 B2 S _ _ (by omega) (by omega) (by omega) HY.out.gr HZ1.out rfl HY.out.blk HLY.out HLC1.out HZ2.out HZ3.out HZ4.out.1 HZ4.out.2.1 HZ4.out.2.2.1 HZ4.out.2.2.2 HP3.out.1 HP3.out.2).mono ?_; rintro e wz ⟨rfl, C2, hr, hp, hs⟩; have HZ := Aside0.mk (HY.out.then_ hr); have HC2 := Aside0.mk (And.intro hp hs); clear HY hr hp hs))
              go_end0
              have hfin := cut_sorted HCT.out HC1.out.1 HC1.out.2 HC2.out.1 HC2.out.2
              exact ⟨rfl, C1 ++ C2, by have := HZ.out; simpa using this, by rw [HEA.out, HEB.out]; exact hfin.2, hfin.1⟩
            · have hz : B2 = [] := List.eq_nil_of_length_eq_zero (by omega)
              have HC2 := Aside0.mk (show (A2 ++ B2).Pairwise (Lt ky) by rw [hz, List.append_nil]; exact HSP.out.1.2)
              clear hz2 hz3 hz
              go_wp2
              go_end0
              have hfin := cut_sorted HCT.out HC1.out.1 HC1.out.2 (List.Perm.refl (A2 ++ B2)) HC2.out
              exact ⟨rfl, C1 ++ (A2 ++ B2), by have := HY.out; simpa using this, by rw [HEA.out, HEB.out]; exact hfin.2, hfin.1⟩
            · have hz : A2 = [] := List.eq_nil_of_length_eq_zero (by omega)
              have HC2 := Aside0.mk (show (A2 ++ B2).Pairwise (Lt ky) by rw [hz, List.nil_append]; exact HSP.out.2.2)
              clear hz2 hz3 hz
              go_wp2
              go_end0
              have hfin := cut_sorted HCT.out HC1.out.1 HC1.out.2 (List.Perm.refl (A2 ++ B2)) HC2.out
              exact ⟨rfl, C1 ++ (A2 ++ B2), by have := HY.out; simpa using this, by rw [HEA.out, HEB.out]; exact hfin.2, hfin.1⟩
          · have HC1 := Aside0.mk (show (A1 ++ B1).Perm (A1 ++ B1) ∧ (A1 ++ B1).Pairwise (Lt ky) from ⟨List.Perm.refl _, by
              have hz : A1 = [] := List.eq_nil_of_length_eq_zero (by omega)
              rw [hz, List.nil_append]; exact HSP.out.2.1⟩)
            obtain ⟨C1, hC1⟩ : ∃ C, A1 ++ B1 = C := ⟨_, rfl⟩
            have HY : Aside0 (Rw g w _ ((P ++ C1) ++ (A2 ++ (B2 ++ S)))) := Aside0.mk (by rw [← hC1]; have := HX.out; simpa using this)
            have HC1' : Aside0 (C1.Perm (A1 ++ B1) ∧ C1.Pairwise (Lt ky)) := Aside0.mk (by rw [← hC1]; exact HC1.out)
            clear HC1 hC1 HX hsm hq2 hq3
            have HC1 := HC1'
            clear HC1'
            go_upto_region 43 with fail
            have HLC1 : Aside0 ((P ++ C1).length = mid) := ⟨by have e1 := HC1.out.1.length_eq; have e2 := HA.out; have e3 := HQ2.out; have e4 := HQ3.out; rw [List.length_append] at e1 ⊢; omega⟩
            have HLY : Aside0 (((P ++ C1) ++ (A2 ++ (B2 ++ S))).length = N) := ⟨by have e1 := HC1.out.1.length_eq; have e2 := HLN.out; simp only [List.length_append] at e1 ⊢; omega⟩
            have hz2 := HZ2.out
            have hz3 := HZ3.out
            rcases (show (mid < en ∧ en < b) ∨ (mid < en ∧ ¬ en < b) ∨ ¬ mid < en by omega) with ⟨v1, v2⟩ | ⟨v1, v2⟩ | v1
            · have HP3 := Aside0.mk (show 0 < A2.length ∧ 0 < B2.length by omega)
              clear hz2 hz3
              go_wp2_with (first | (go_at_call 61; refine (HIH.out mid en b _ _ _ (P ++ C1) A2 B2 S _ _ (by omega) (by omega) (by omega) HY.out.gr HZ1.out rfl HY.out.blk HLY.out HLC1.out HZ2.out HZ3.out HZ4.out.1 HZ4.out.2.1 HZ4.out.2.2.1 HZ4.out.2.2.2 HP3.out.1 HP3.out.2).mono ?_; rintro e wz ⟨rfl, C2, hr, hp, hs⟩; have HZ := Aside0.mk (HY.out.then_ hr); have HC2 := Aside0.mk (And.intro hp hs); clear HY hr hp hs))
              go_end0
              have hfin := cut_sorted HCT.out HC1.out.1 HC1.out.2 HC2.out.1 HC2.out.2
              exact ⟨rfl, C1 ++ C2, by have := HZ.out; simpa using this, by rw [HEA.out, HEB.out]; exact hfin.2, hfin.1⟩
            · have hz : B2 = [] := List.eq_nil_of_length_eq_zero (by omega)
              have HC2 := Aside0.mk (show (A2 ++ B2).Pairwise (Lt ky) by rw [hz, List.append_nil]; exact HSP.out.1.2)
              clear hz2 hz3 hz
              go_wp2
              go_end0
              have hfin := cut_sorted HCT.out HC1.out.1 HC1.out.2 (List.Perm.refl (A2 ++ B2)) HC2.out
              exact ⟨rfl, C1 ++ (A2 ++ B2), by have := HY.out; simpa using this, by rw [HEA.out, HEB.out]; exact hfin.2, hfin.1⟩
            · have hz : A2 = [] := List.eq_nil_of_length_eq_zero (by omega)
              have HC2 := Aside0.mk (show (A2 ++ B2).Pairwise (Lt ky) by rw [hz, List.nil_append]; exact HSP.out.2.2)
              clear hz2 hz3 hz
              go_wp2
              go_end0
              have hfin := cut_sorted HCT.out HC1.out.1 HC1.out.2 (List.Perm.refl (A2 ++ B2)) HC2.out
              exact ⟨rfl, C1 ++ (A2 ++ B2), by have := HY.out; simpa using this, by rw [HEA.out, HEB.out]; exact hfin.2, hfin.1⟩
  · have HG1 := Aside0.mk (show (lo : Int) = (a : Int) by rw [hg1])
    have HG2 := Aside0.mk (show (hi : Int) = (m : Int) by rw [hg2])
    clear hmid0 hn0 hg1 hg2 hlh
    go_enter Try.func61, Try.ntmps61
    go_wp2
    clear hmid hn
    go_loopw [20, 21, 23] (fun p q _ wr => ∃ s r : Nat, p = .int .i64 (s : Int) ∧ q = .int .i64 (r : Int) ∧ Aside0 (lo ≤ s ∧ s ≤ r ∧ r ≤ hi) ∧ Aside0 (lo < s → ¬ ky (rd D ((n - s : Nat) : Int)) < ky (rd D ((s - 1 : Nat) : Int))) ∧ Aside0 (r < hi → ky (rd D ((n - 1 - r : Nat) : Int)) < ky (rd D (r : Int))) ∧ Aside0 (Rw g w wr D)) (fun p q _ _ => (intOf q).toNat - (intOf p).toNat)
    case atStart => exact ⟨lo, hi, by first | rfl | rw [HG1.out], by rw [HG2.out], ⟨by have := HLH.out; omega⟩, ⟨fun h => by omega⟩, ⟨fun h => by omega⟩, HR⟩
    case round =>
      clear HR
      obtain ⟨s, r, rfl, rfl, hsr, hl, hh, HR⟩ := hrel
      have hsr' := hsr.out
      have hlh := HLH.out
      by_cases hlt : s < r
      · obtain ⟨c, hc0⟩ : ∃ h : Nat, (s + r) / 2 = h := ⟨_, rfl⟩
        have HC0 := Aside0.mk hc0
        have hcm : ((s : Int) + (r : Int)) / 2 = (c : Int) := by omega
        have hsc : s ≤ c := by omega
        have hcr : c < r := by omega
        obtain ⟨pc, hpc⟩ : ∃ h : Nat, n - 1 - c = h := ⟨_, rfl⟩
        have hnn := HNN.out
        have hw3 : IntKind.i64.wrap ((n : Int) - 1 - (c : Int)) = (pc : Int) := by rw [IntWalk.i64_in _ (by omega)]; omega
        have hltz : (s : Int) < (r : Int) := by omega
        have HU := Aside0.mk (show rd D (pc : Int) ∈ B from by
          rw [← HD.out, ← List.append_assoc]
          have e1 := HA.out; have e2 := HM.out; have e3 := HBL.out
          exact rd_in _ _ _ pc (by simp only [List.length_append]; omega) (by simp only [List.length_append]; omega))
        have HV := Aside0.mk (show rd D (c : Int) ∈ A from by
          rw [← HD.out]
          have e1 := HA.out; have e2 := HM.out; have e3 := HBL.out
          exact rd_in _ _ _ c (by omega) (by omega))
        have c2 := HR.out.cell pc (by have := HN.out; omega)
        have c3 := HR.out.cell c (by have := HN.out; omega)
        obtain ⟨u, hu⟩ : ∃ u, rd D (pc : Int) = u := ⟨_, rfl⟩
        obtain ⟨v, hv⟩ : ∃ v, rd D (c : Int) = v := ⟨_, rfl⟩
        rw [hu] at c2 HU
        rw [hv] at c3 HV
        have HUD := Aside0.mk hu
        have HVD := Aside0.mk hv
        have hur := HRG.out u (by simp [HU.out])
        have hvr := HRG.out v (by simp [HV.out])
        have hcc := fun n => HC.out.calls (wr.drewN n) u v (HR.out.gr.trans (grown_drewN _ n _)) hur.1 hur.2 hvr.1 hvr.2
        have hcl := HC.out.less u v hur.1 hur.2 hvr.1 hvr.2
        have p0 : 0 ≤ (c : Int) := by omega
        have p1 : (c : Int) < (N : Int) := by omega
        have p2 : 0 ≤ (pc : Int) := by omega
        have p3 : (pc : Int) < (N : Int) := by omega
        have HPC := Aside0.mk hpc
        clear hc0 hu hv hur hvr hsr' hlh hnn hpc
        by_cases hlv : cf u v < 0
        · have HLV := Aside0.mk (hcl.1 hlv)
          clear hcl
          go_upto_region 35 with fail
          go_quiet ((go_at_fn gf; refine Calls.quiet_of (hcc _)))
          have HR2 := Aside0.mk (HR.out.drewN nq)
          clear HR c2 c3 hcc hcm hw3
          go_wp2
          go_roundw
          case rel => exact ⟨s, c, rfl, rfl, ⟨by have := hsr.out; omega⟩, hl, ⟨fun _ => by rw [HPC.out, HUD.out, HVD.out]; exact HLV.out⟩, HR2⟩
          case measure => simp [intOf]; omega
        · have HLV := Aside0.mk (fun e => hlv (hcl.2 e))
          clear hcl
          go_upto_region 35 with fail
          go_quiet ((go_at_fn gf; refine Calls.quiet_of (hcc _)))
          have HR2 := Aside0.mk (HR.out.drewN nq)
          clear HR c2 c3 hcc hcm hw3
          go_wp2
          go_roundw
          case rel => exact ⟨c + 1, r, by push_cast; rfl, rfl, ⟨by have := hsr.out; omega⟩, ⟨fun _ => by rw [show n - (c + 1) = n - 1 - c by omega, HPC.out, Nat.add_sub_cancel, HUD.out, HVD.out]; exact HLV.out⟩, hh, HR2⟩
          case measure => simp [intOf]; omega
      · obtain rfl : s = r := by omega
        obtain ⟨en, hen⟩ : ∃ e : Nat, n - s = e := ⟨_, rfl⟩
        have HEN := Aside0.mk hen
        have hnn := HNN.out
        have hw4 : IntKind.i64.wrap ((n : Int) - (s : Int)) = (en : Int) := by rw [IntWalk.i64_in _ (by omega)]; omega
        have hen2 : m ≤ en ∧ en ≤ b ∧ a ≤ s ∧ s ≤ m ∧ s ≤ mid ∧ en = mid + (m - s) := by omega
        have HE2 := Aside0.mk hen2
        have HCUT : Aside0 (∃ A1 A2 B1 B2 : List Int, A = A1 ++ A2 ∧ B = B1 ++ B2 ∧ A1.length = s - a ∧ A2.length = m - s ∧ B1.length = en - m ∧ B2.length = b - en ∧ (∀ x ∈ A1 ++ B1, ∀ y ∈ A2 ++ B2, Lt ky x y)) := ⟨by
          have e1 := HA.out; have e2 := HM.out; have e3 := HBL.out
          have hA := List.take_append_drop (s - a) A
          have hB := List.take_append_drop (en - m) B
          have l1 : (A.take (s - a)).length = s - a := by rw [List.length_take]; omega
          have l2 : (A.drop (s - a)).length = m - s := by rw [List.length_drop]; omega
          have l3 : (B.take (en - m)).length = en - m := by rw [List.length_take]; omega
          have l4 : (B.drop (en - m)).length = b - en := by rw [List.length_drop]; omega
          obtain ⟨A1, hA1⟩ : ∃ l, A.take (s - a) = l := ⟨_, rfl⟩
          obtain ⟨A2, hA2⟩ : ∃ l, A.drop (s - a) = l := ⟨_, rfl⟩
          obtain ⟨B1, hB1⟩ : ∃ l, B.take (en - m) = l := ⟨_, rfl⟩
          obtain ⟨B2, hB2⟩ : ∃ l, B.drop (en - m) = l := ⟨_, rfl⟩
          rw [hA1] at hA l1
          rw [hA2] at hA l2
          rw [hB1] at hB l3
          rw [hB2] at hB l4
          refine ⟨A1, A2, B1, B2, hA.symm, hB.symm, l1, l2, l3, l4, ?_⟩
          have eD : D = ((P ++ A1) ++ (A2 ++ ((B1 ++ B2) ++ S))) := by rw [← HD.out, ← hA, ← hB]; simp
          have eD2 : D = ((P ++ (A1 ++ (A2 ++ B1))) ++ (B2 ++ S)) := by rw [eD]; simp
          refine cut_below (by rw [hA]; exact HSA.out) (by rw [hB]; exact HSB.out) (by rw [hA, hB]; exact HXB.out) ?_ ?_
          · intro x y hx hy
            have p1 : 0 < A1.length := by cases A1 with
              | nil => simp at hx
              | cons _ _ => simp
            have p2 : 0 < B2.length := by cases B2 with
              | nil => simp at hy
              | cons _ _ => simp
            have h3 := hl.out (by rcases HLO.out with h | h <;> omega)
            have ex : rd D ((s - 1 : Nat) : Int) = x := by
              rw [eD]
              exact rd_last_of _ _ _ _ (by rw [List.getLast?_append, hx]; rfl) (by simp only [List.length_append]; omega)
            have ey : rd D ((n - s : Nat) : Int) = y := by
              rw [hen, eD2]
              exact rd_head_of _ _ _ _ (by rw [List.head?_append, hy]; rfl) (by simp only [List.length_append]; omega)
            rw [ex, ey] at h3
            exact h3
          · intro x y hx hy
            have p1 : 0 < B1.length := by cases B1 with
              | nil => simp at hx
              | cons _ _ => simp
            have p2 : 0 < A2.length := by cases A2 with
              | nil => simp at hy
              | cons _ _ => simp
            have h3 := hh.out (by rcases HHI.out with h | h <;> omega)
            have ex : rd D ((n - 1 - s : Nat) : Int) = x := by
              rw [eD2]
              exact rd_last_of _ _ _ _ (by rw [List.getLast?_append, List.getLast?_append, List.getLast?_append, hx]; rfl) (by simp only [List.length_append]; omega)
            have ey : rd D (s : Int) = y := by
              rw [eD]
              exact rd_head_of _ _ _ _ (by rw [List.head?_append, hy]; rfl) (by simp only [List.length_append]; omega)
            rw [ex, ey] at h3
            exact h3⟩
        clear hl hh hen hnn hen2 hsr' hlh
        obtain ⟨A1, A2, B1, B2, eA, eB, l1, l2, l3, l4, hcut⟩ := HCUT.out
        have HCT := Aside0.mk hcut
        have HEA := Aside0.mk eA
        have HEB := Aside0.mk eB
        have HL1 := Aside0.mk l1
        have HL2 := Aside0.mk l2
        have HL3 := Aside0.mk l3
        have HL4 := Aside0.mk l4
        have HX0 := Aside0.mk (show Rw g w wr (P ++ (A1 ++ (A2 ++ (B1 ++ (B2 ++ S))))) by have := HR.out; rw [← HD.out, eA, eB] at this; simpa using this)
        have HSP := Aside0.mk (show (A1.Pairwise (Lt ky) ∧ A2.Pairwise (Lt ky)) ∧ (B1.Pairwise (Lt ky) ∧ B2.Pairwise (Lt ky)) by
          have h1 := HSA.out
          have h2 := HSB.out
          rw [eA] at h1
          rw [eB] at h2
          exact ⟨⟨(List.pairwise_append.1 h1).1, (List.pairwise_append.1 h1).2.1⟩, ⟨(List.pairwise_append.1 h2).1, (List.pairwise_append.1 h2).2.1⟩⟩)
        have HLN : Aside0 (P.length + A1.length + A2.length + B1.length + B2.length + S.length = N) := ⟨by have h := HN.out; rw [← HD.out, eA, eB] at h; simp only [List.length_append] at h; omega⟩
        have HLX := Aside0.mk (show (P ++ (A1 ++ (B1 ++ (A2 ++ (B2 ++ S))))).length = N by have := HLN.out; simp only [List.length_append]; omega)
        have HQ1 := Aside0.mk (show A1.length + B1.length ≤ A.length + B.length - 1 by have := HM.out; have := HBL.out; have := HE2.out; omega)
        have HQ2 := Aside0.mk (show s = a + A1.length by have := HE2.out; omega)
        have HQ3 := Aside0.mk (show mid = s + B1.length by have := HE2.out; omega)
        have HQ4 := Aside0.mk (show (∀ u ∈ A1 ++ B1, 1 ≤ u ∧ u ≤ (N : Int)) ∧ A1.Pairwise (Lt ky) ∧ B1.Pairwise (Lt ky) ∧ (∀ u ∈ A1, ∀ v ∈ B1, u < v) from
          ⟨fun u hu => HRG.out u (by rw [eA, eB]; simp at hu ⊢; rcases hu with h | h <;> simp [h]), HSP.out.1.1, HSP.out.2.1, fun u hu v hv => HXB.out u (by rw [eA]; simp [hu]) v (by rw [eB]; simp [hv])⟩)
        have HZ1 := Aside0.mk (show A2.length + B2.length ≤ A.length + B.length - 1 by have := HM.out; have := HBL.out; have := HE2.out; omega)
        have HZ2 := Aside0.mk (show en = mid + A2.length by have := HE2.out; omega)
        have HZ3 := Aside0.mk (show b = en + B2.length by have := HE2.out; omega)
        have HZ4 := Aside0.mk (show (∀ u ∈ A2 ++ B2, 1 ≤ u ∧ u ≤ (N : Int)) ∧ A2.Pairwise (Lt ky) ∧ B2.Pairwise (Lt ky) ∧ (∀ u ∈ A2, ∀ v ∈ B2, u < v) from
          ⟨fun u hu => HRG.out u (by rw [eA, eB]; simp at hu ⊢; rcases hu with h | h <;> simp [h]), HSP.out.1.2, HSP.out.2.2, fun u hu v hv => HXB.out u (by rw [eA]; simp [hu]) v (by rw [eB]; simp [hv])⟩)
        have hsm := HE2.out
        clear hcut eA eB l1 l2 l3 l4 HR HCUT HL
        rcases (show (s < m ∧ m < en) ∨ (s < m ∧ ¬ m < en) ∨ ¬ s < m by omega) with ⟨q1, q2⟩ | ⟨q1, q2⟩ | q1
        · clear hsm
          have HRL := Aside0.mk (show 0 < A2.length ∧ 0 < B1.length by have := HL2.out; have := HL3.out; omega)
          have HR1 := Aside0.mk (show (P ++ A1).length = s by have := HA.out; have := HQ2.out; rw [List.length_append]; omega)
          have HR2 := Aside0.mk (show s + A2.length = m ∧ m + B1.length = en by have := HL2.out; have := HL3.out; have := HE2.out; omega)
          go_upto_region 41 with (first | (go_at_call 67; refine (rotate_z g N s m en (P ++ A1) A2 B1 (B2 ++ S) _ _ _ _ _ (by omega) (by omega) (by omega) _ (by rw [List.append_assoc]) HX0.out.blk (by have := HLN.out; simp only [List.length_append]; omega) hN2 HR1.out HR2.out.1 HR2.out.2 HRL.out.1 HRL.out.2 (P ++ (A1 ++ (B1 ++ (A2 ++ (B2 ++ S))))) (by rw [List.append_assoc])).mono ?_; rintro e wx ⟨rfl, hr⟩; have HX := Aside0.mk (HX0.out.then_ hr); clear HX0 hr))
          have hsm := HE2.out
          have hq3 := HQ3.out
          have hq2 := HQ2.out
          rcases (show (a < s ∧ s < mid) ∨ (a < s ∧ ¬ s < mid) ∨ ¬ a < s by omega) with ⟨t1, t2⟩ | ⟨t1, t2⟩ | t1
          · have HP2 := Aside0.mk (show 0 < A1.length ∧ 0 < B1.length by omega)
            clear hsm hq2 hq3
            go_upto_region 43 with (first | (go_at_call 61; refine (HIH.out a s mid _ _ _ P A1 B1 (A2 ++ (B2 ++ S)) _ _ (by omega) (by omega) (by omega) HX.out.gr HQ1.out rfl HX.out.blk HLX.out HA.out HQ2.out HQ3.out HQ4.out.1 HQ4.out.2.1 HQ4.out.2.2.1 HQ4.out.2.2.2 HP2.out.1 HP2.out.2).mono ?_; rintro e wy ⟨rfl, C1, hr, hp, hs⟩; have HY : Aside0 (Rw g w wy ((P ++ C1) ++ (A2 ++ (B2 ++ S)))) := Aside0.mk (by have := HX.out.then_ hr; rw [List.append_assoc]; exact this); have HC1 := Aside0.mk (And.intro hp hs); clear HX hr hp hs))
            have HLC1 : Aside0 ((P ++ C1).length = mid) := ⟨by have e1 := HC1.out.1.length_eq; have e2 := HA.out; have e3 := HQ2.out; have e4 := HQ3.out; rw [List.length_append] at e1 ⊢; omega⟩
            have HLY : Aside0 (((P ++ C1) ++ (A2 ++ (B2 ++ S))).length = N) := ⟨by have e1 := HC1.out.1.length_eq; have e2 := HLN.out; simp only [List.length_append] at e1 ⊢; omega⟩
            have hz2 := HZ2.out
            have hz3 := HZ3.out
            rcases (show (mid < en ∧ en < b) ∨ (mid < en ∧ ¬ en < b) ∨ ¬ mid < en by omega) with ⟨v1, v2⟩ | ⟨v1, v2⟩ | v1
            · have HP3 := Aside0.mk (show 0 < A2.length ∧ 0 < B2.length by omega)
              clear hz2 hz3
              go_wp2_with (first | (go_at_call 61; refine (HIH.out mid en b _ _ _ (P ++ C1) A2 B2 S _ _ (by omega) (by omega) (by omega) HY.out.gr HZ1.out rfl HY.out.blk HLY.out HLC1.out HZ2.out HZ3.out HZ4.out.1 HZ4.out.2.1 HZ4.out.2.2.1 HZ4.out.2.2.2 HP3.out.1 HP3.out.2).mono ?_; rintro e wz ⟨rfl, C2, hr, hp, hs⟩; have HZ := Aside0.mk (HY.out.then_ hr); have HC2 := Aside0.mk (And.intro hp hs); clear HY hr hp hs))
              go_end0
              have hfin := cut_sorted HCT.out HC1.out.1 HC1.out.2 HC2.out.1 HC2.out.2
              exact ⟨rfl, C1 ++ C2, by have := HZ.out; simpa using this, by rw [HEA.out, HEB.out]; exact hfin.2, hfin.1⟩
            · have hz : B2 = [] := List.eq_nil_of_length_eq_zero (by omega)
              have HC2 := Aside0.mk (show (A2 ++ B2).Pairwise (Lt ky) by rw [hz, List.append_nil]; exact HSP.out.1.2)
              clear hz2 hz3 hz
              go_wp2
              go_end0
              have hfin := cut_sorted HCT.out HC1.out.1 HC1.out.2 (List.Perm.refl (A2 ++ B2)) HC2.out
              exact ⟨rfl, C1 ++ (A2 ++ B2), by have := HY.out; simpa using this, by rw [HEA.out, HEB.out]; exact hfin.2, hfin.1⟩
            · have hz : A2 = [] := List.eq_nil_of_length_eq_zero (by omega)
              have HC2 := Aside0.mk (show (A2 ++ B2).Pairwise (Lt ky) by rw [hz, List.nil_append]; exact HSP.out.2.2)
              clear hz2 hz3 hz
              go_wp2
              go_end0
              have hfin := cut_sorted HCT.out HC1.out.1 HC1.out.2 (List.Perm.refl (A2 ++ B2)) HC2.out
              exact ⟨rfl, C1 ++ (A2 ++ B2), by have := HY.out; simpa using this, by rw [HEA.out, HEB.out]; exact hfin.2, hfin.1⟩
          · have HC1 := Aside0.mk (show (A1 ++ B1).Perm (A1 ++ B1) ∧ (A1 ++ B1).Pairwise (Lt ky) from ⟨List.Perm.refl _, by
              have hz : B1 = [] := List.eq_nil_of_length_eq_zero (by omega)
              rw [hz, List.append_nil]; exact HSP.out.1.1⟩)
            obtain ⟨C1, hC1⟩ : ∃ C, A1 ++ B1 = C := ⟨_, rfl⟩
            have HY : Aside0 (Rw g w _ ((P ++ C1) ++ (A2 ++ (B2 ++ S)))) := Aside0.mk (by rw [← hC1]; have := HX.out; simpa using this)
            have HC1' : Aside0 (C1.Perm (A1 ++ B1) ∧ C1.Pairwise (Lt ky)) := Aside0.mk (by rw [← hC1]; exact HC1.out)
            clear HC1 hC1 HX hsm hq2 hq3
            have HC1 := HC1'
            clear HC1'
            go_upto_region 43 with fail
            have HLC1 : Aside0 ((P ++ C1).length = mid) := ⟨by have e1 := HC1.out.1.length_eq; have e2 := HA.out; have e3 := HQ2.out; have e4 := HQ3.out; rw [List.length_append] at e1 ⊢; omega⟩
            have HLY : Aside0 (((P ++ C1) ++ (A2 ++ (B2 ++ S))).length = N) := ⟨by have e1 := HC1.out.1.length_eq; have e2 := HLN.out; simp only [List.length_append] at e1 ⊢; omega⟩
            have hz2 := HZ2.out
            have hz3 := HZ3.out
            rcases (show (mid < en ∧ en < b) ∨ (mid < en ∧ ¬ en < b) ∨ ¬ mid < en by omega) with ⟨v1, v2⟩ | ⟨v1, v2⟩ | v1
            · have HP3 := Aside0.mk (show 0 < A2.length ∧ 0 < B2.length by omega)
              clear hz2 hz3
              go_wp2_with (first | (go_at_call 61; refine (HIH.out mid en b _ _ _ (P ++ C1) A2 B2 S _ _ (by omega) (by omega) (by omega) HY.out.gr HZ1.out rfl HY.out.blk HLY.out HLC1.out HZ2.out HZ3.out HZ4.out.1 HZ4.out.2.1 HZ4.out.2.2.1 HZ4.out.2.2.2 HP3.out.1 HP3.out.2).mono ?_; rintro e wz ⟨rfl, C2, hr, hp, hs⟩; have HZ := Aside0.mk (HY.out.then_ hr); have HC2 := Aside0.mk (And.intro hp hs); clear HY hr hp hs))
              go_end0
              have hfin := cut_sorted HCT.out HC1.out.1 HC1.out.2 HC2.out.1 HC2.out.2
              exact ⟨rfl, C1 ++ C2, by have := HZ.out; simpa using this, by rw [HEA.out, HEB.out]; exact hfin.2, hfin.1⟩
            · have hz : B2 = [] := List.eq_nil_of_length_eq_zero (by omega)
              have HC2 := Aside0.mk (show (A2 ++ B2).Pairwise (Lt ky) by rw [hz, List.append_nil]; exact HSP.out.1.2)
              clear hz2 hz3 hz
              go_wp2
              go_end0
              have hfin := cut_sorted HCT.out HC1.out.1 HC1.out.2 (List.Perm.refl (A2 ++ B2)) HC2.out
              exact ⟨rfl, C1 ++ (A2 ++ B2), by have := HY.out; simpa using this, by rw [HEA.out, HEB.out]; exact hfin.2, hfin.1⟩
            · have hz : A2 = [] := List.eq_nil_of_length_eq_zero (by omega)
              have HC2 := Aside0.mk (show (A2 ++ B2).Pairwise (Lt ky) by rw [hz, List.nil_append]; exact HSP.out.2.2)
              clear hz2 hz3 hz
              go_wp2
              go_end0
              have hfin := cut_sorted HCT.out HC1.out.1 HC1.out.2 (List.Perm.refl (A2 ++ B2)) HC2.out
              exact ⟨rfl, C1 ++ (A2 ++ B2), by have := HY.out; simpa using this, by rw [HEA.out, HEB.out]; exact hfin.2, hfin.1⟩
          · have HC1 := Aside0.mk (show (A1 ++ B1).Perm (A1 ++ B1) ∧ (A1 ++ B1).Pairwise (Lt ky) from ⟨List.Perm.refl _, by
              have hz : A1 = [] := List.eq_nil_of_length_eq_zero (by omega)
              rw [hz, List.nil_append]; exact HSP.out.2.1⟩)
            obtain ⟨C1, hC1⟩ : ∃ C, A1 ++ B1 = C := ⟨_, rfl⟩
            have HY : Aside0 (Rw g w _ ((P ++ C1) ++ (A2 ++ (B2 ++ S)))) := Aside0.mk (by rw [← hC1]; have := HX.out; simpa using this)
            have HC1' : Aside0 (C1.Perm (A1 ++ B1) ∧ C1.Pairwise (Lt ky)) := Aside0.mk (by rw [← hC1]; exact HC1.out)
            clear HC1 hC1 HX hsm hq2 hq3
            have HC1 := HC1'
            clear HC1'
            go_upto_region 43 with fail
            have HLC1 : Aside0 ((P ++ C1).length = mid) := ⟨by have e1 := HC1.out.1.length_eq; have e2 := HA.out; have e3 := HQ2.out; have e4 := HQ3.out; rw [List.length_append] at e1 ⊢; omega⟩
            have HLY : Aside0 (((P ++ C1) ++ (A2 ++ (B2 ++ S))).length = N) := ⟨by have e1 := HC1.out.1.length_eq; have e2 := HLN.out; simp only [List.length_append] at e1 ⊢; omega⟩
            have hz2 := HZ2.out
            have hz3 := HZ3.out
            rcases (show (mid < en ∧ en < b) ∨ (mid < en ∧ ¬ en < b) ∨ ¬ mid < en by omega) with ⟨v1, v2⟩ | ⟨v1, v2⟩ | v1
            · have HP3 := Aside0.mk (show 0 < A2.length ∧ 0 < B2.length by omega)
              clear hz2 hz3
              go_wp2_with (first | (go_at_call 61; refine (HIH.out mid en b _ _ _ (P ++ C1) A2 B2 S _ _ (by omega) (by omega) (by omega) HY.out.gr HZ1.out rfl HY.out.blk HLY.out HLC1.out HZ2.out HZ3.out HZ4.out.1 HZ4.out.2.1 HZ4.out.2.2.1 HZ4.out.2.2.2 HP3.out.1 HP3.out.2).mono ?_; rintro e wz ⟨rfl, C2, hr, hp, hs⟩; have HZ := Aside0.mk (HY.out.then_ hr); have HC2 := Aside0.mk (And.intro hp hs); clear HY hr hp hs))
              go_end0
              have hfin := cut_sorted HCT.out HC1.out.1 HC1.out.2 HC2.out.1 HC2.out.2
              exact ⟨rfl, C1 ++ C2, by have := HZ.out; simpa using this, by rw [HEA.out, HEB.out]; exact hfin.2, hfin.1⟩
            · have hz : B2 = [] := List.eq_nil_of_length_eq_zero (by omega)
              have HC2 := Aside0.mk (show (A2 ++ B2).Pairwise (Lt ky) by rw [hz, List.append_nil]; exact HSP.out.1.2)
              clear hz2 hz3 hz
              go_wp2
              go_end0
              have hfin := cut_sorted HCT.out HC1.out.1 HC1.out.2 (List.Perm.refl (A2 ++ B2)) HC2.out
              exact ⟨rfl, C1 ++ (A2 ++ B2), by have := HY.out; simpa using this, by rw [HEA.out, HEB.out]; exact hfin.2, hfin.1⟩
            · have hz : A2 = [] := List.eq_nil_of_length_eq_zero (by omega)
              have HC2 := Aside0.mk (show (A2 ++ B2).Pairwise (Lt ky) by rw [hz, List.nil_append]; exact HSP.out.2.2)
              clear hz2 hz3 hz
              go_wp2
              go_end0
              have hfin := cut_sorted HCT.out HC1.out.1 HC1.out.2 (List.Perm.refl (A2 ++ B2)) HC2.out
              exact ⟨rfl, C1 ++ (A2 ++ B2), by have := HY.out; simpa using this, by rw [HEA.out, HEB.out]; exact hfin.2, hfin.1⟩
        · have hz : B1 = [] := List.eq_nil_of_length_eq_zero (by have := HL3.out; omega)
          have HX := Aside0.mk (show Rw g w wr (P ++ (A1 ++ (B1 ++ (A2 ++ (B2 ++ S))))) by have := HX0.out; rw [hz] at this ⊢; simpa using this)
          clear hz HX0 hsm
          go_upto_region 41 with fail
          have hsm := HE2.out
          have hq3 := HQ3.out
          have hq2 := HQ2.out
          rcases (show (a < s ∧ s < mid) ∨ (a < s ∧ ¬ s < mid) ∨ ¬ a < s by omega) with ⟨t1, t2⟩ | ⟨t1, t2⟩ | t1
          · have HP2 := Aside0.mk (show 0 < A1.length ∧ 0 < B1.length by omega)
            clear hsm hq2 hq3
            go_upto_region 43 with (first | (go_at_call 61; refine (HIH.out a s mid _ _ _ P A1 B1 (A2 ++ (B2 ++ S)) _ _ (by omega) (by omega) (by omega) HX.out.gr HQ1.out rfl HX.out.blk HLX.out HA.out HQ2.out HQ3.out HQ4.out.1 HQ4.out.2.1 HQ4.out.2.2.1 HQ4.out.2.2.2 HP2.out.1 HP2.out.2).mono ?_; rintro e wy ⟨rfl, C1, hr, hp, hs⟩; have HY : Aside0 (Rw g w wy ((P ++ C1) ++ (A2 ++ (B2 ++ S)))) := Aside0.mk (by have := HX.out.then_ hr; rw [List.append_assoc]; exact this); have HC1 := Aside0.mk (And.intro hp hs); clear HX hr hp hs))
            have HLC1 : Aside0 ((P ++ C1).length = mid) := ⟨by have e1 := HC1.out.1.length_eq; have e2 := HA.out; have e3 := HQ2.out; have e4 := HQ3.out; rw [List.length_append] at e1 ⊢; omega⟩
            have HLY : Aside0 (((P ++ C1) ++ (A2 ++ (B2 ++ S))).length = N) := ⟨by have e1 := HC1.out.1.length_eq; have e2 := HLN.out; simp only [List.length_append] at e1 ⊢; omega⟩
            have hz2 := HZ2.out
            have hz3 := HZ3.out
            rcases (show (mid < en ∧ en < b) ∨ (mid < en ∧ ¬ en < b) ∨ ¬ mid < en by omega) with ⟨v1, v2⟩ | ⟨v1, v2⟩ | v1
            · have HP3 := Aside0.mk (show 0 < A2.length ∧ 0 < B2.length by omega)
              clear hz2 hz3
              go_wp2_with (first | (go_at_call 61; refine (HIH.out mid en b _ _ _ (P ++ C1) A2 B2 S _ _ (by omega) (by omega) (by omega) HY.out.gr HZ1.out rfl HY.out.blk HLY.out HLC1.out HZ2.out HZ3.out HZ4.out.1 HZ4.out.2.1 HZ4.out.2.2.1 HZ4.out.2.2.2 HP3.out.1 HP3.out.2).mono ?_; rintro e wz ⟨rfl, C2, hr, hp, hs⟩; have HZ := Aside0.mk (HY.out.then_ hr); have HC2 := Aside0.mk (And.intro hp hs); clear HY hr hp hs))
              go_end0
              have hfin := cut_sorted HCT.out HC1.out.1 HC1.out.2 HC2.out.1 HC2.out.2
              exact ⟨rfl, C1 ++ C2, by have := HZ.out; simpa using this, by rw [HEA.out, HEB.out]; exact hfin.2, hfin.1⟩
            · have hz : B2 = [] := List.eq_nil_of_length_eq_zero (by omega)
              have HC2 := Aside0.mk (show (A2 ++ B2).Pairwise (Lt ky) by rw [hz, List.append_nil]; exact HSP.out.1.2)
              clear hz2 hz3 hz
              go_wp2
              go_end0
              have hfin := cut_sorted HCT.out HC1.out.1 HC1.out.2 (List.Perm.refl (A2 ++ B2)) HC2.out
              exact ⟨rfl, C1 ++ (A2 ++ B2), by have := HY.out; simpa using this, by rw [HEA.out, HEB.out]; exact hfin.2, hfin.1⟩
            · have hz : A2 = [] := List.eq_nil_of_length_eq_zero (by omega)
              have HC2 := Aside0.mk (show (A2 ++ B2).Pairwise (Lt ky) by rw [hz, List.nil_append]; exact HSP.out.2.2)
              clear hz2 hz3 hz
              go_wp2
              go_end0
              have hfin := cut_sorted HCT.out HC1.out.1 HC1.out.2 (List.Perm.refl (A2 ++ B2)) HC2.out
              exact ⟨rfl, C1 ++ (A2 ++ B2), by have := HY.out; simpa using this, by rw [HEA.out, HEB.out]; exact hfin.2, hfin.1⟩
          · have HC1 := Aside0.mk (show (A1 ++ B1).Perm (A1 ++ B1) ∧ (A1 ++ B1).Pairwise (Lt ky) from ⟨List.Perm.refl _, by
              have hz : B1 = [] := List.eq_nil_of_length_eq_zero (by omega)
              rw [hz, List.append_nil]; exact HSP.out.1.1⟩)
            obtain ⟨C1, hC1⟩ : ∃ C, A1 ++ B1 = C := ⟨_, rfl⟩
            have HY : Aside0 (Rw g w _ ((P ++ C1) ++ (A2 ++ (B2 ++ S)))) := Aside0.mk (by rw [← hC1]; have := HX.out; simpa using this)
            have HC1' : Aside0 (C1.Perm (A1 ++ B1) ∧ C1.Pairwise (Lt ky)) := Aside0.mk (by rw [← hC1]; exact HC1.out)
            clear HC1 hC1 HX hsm hq2 hq3
            have HC1 := HC1'
            clear HC1'
            go_upto_region 43 with fail
            have HLC1 : Aside0 ((P ++ C1).length = mid) := ⟨by have e1 := HC1.out.1.length_eq; have e2 := HA.out; have e3 := HQ2.out; have e4 := HQ3.out; rw [List.length_append] at e1 ⊢; omega⟩
            have HLY : Aside0 (((P ++ C1) ++ (A2 ++ (B2 ++ S))).length = N) := ⟨by have e1 := HC1.out.1.length_eq; have e2 := HLN.out; simp only [List.length_append] at e1 ⊢; omega⟩
            have hz2 := HZ2.out
            have hz3 := HZ3.out
            rcases (show (mid < en ∧ en < b) ∨ (mid < en ∧ ¬ en < b) ∨ ¬ mid < en by omega) with ⟨v1, v2⟩ | ⟨v1, v2⟩ | v1
            · have HP3 := Aside0.mk (show 0 < A2.length ∧ 0 < B2.length by omega)
              clear hz2 hz3
              go_wp2_with (first | (go_at_call 61; refine (HIH.out mid en b _ _ _ (P ++ C1) A2 B2 S _ _ (by omega) (by omega) (by omega) HY.out.gr HZ1.out rfl HY.out.blk HLY.out HLC1.out HZ2.out HZ3.out HZ4.out.1 HZ4.out.2.1 HZ4.out.2.2.1 HZ4.out.2.2.2 HP3.out.1 HP3.out.2).mono ?_; rintro e wz ⟨rfl, C2, hr, hp, hs⟩; have HZ := Aside0.mk (HY.out.then_ hr); have HC2 := Aside0.mk (And.intro hp hs); clear HY hr hp hs))
              go_end0
              have hfin := cut_sorted HCT.out HC1.out.1 HC1.out.2 HC2.out.1 HC2.out.2
              exact ⟨rfl, C1 ++ C2, by have := HZ.out; simpa using this, by rw [HEA.out, HEB.out]; exact hfin.2, hfin.1⟩
            · have hz : B2 = [] := List.eq_nil_of_length_eq_zero (by omega)
              have HC2 := Aside0.mk (show (A2 ++ B2).Pairwise (Lt ky) by rw [hz, List.append_nil]; exact HSP.out.1.2)
              clear hz2 hz3 hz
              go_wp2
              go_end0
              have hfin := cut_sorted HCT.out HC1.out.1 HC1.out.2 (List.Perm.refl (A2 ++ B2)) HC2.out
              exact ⟨rfl, C1 ++ (A2 ++ B2), by have := HY.out; simpa using this, by rw [HEA.out, HEB.out]; exact hfin.2, hfin.1⟩
            · have hz : A2 = [] := List.eq_nil_of_length_eq_zero (by omega)
              have HC2 := Aside0.mk (show (A2 ++ B2).Pairwise (Lt ky) by rw [hz, List.nil_append]; exact HSP.out.2.2)
              clear hz2 hz3 hz
              go_wp2
              go_end0
              have hfin := cut_sorted HCT.out HC1.out.1 HC1.out.2 (List.Perm.refl (A2 ++ B2)) HC2.out
              exact ⟨rfl, C1 ++ (A2 ++ B2), by have := HY.out; simpa using this, by rw [HEA.out, HEB.out]; exact hfin.2, hfin.1⟩
          · have HC1 := Aside0.mk (show (A1 ++ B1).Perm (A1 ++ B1) ∧ (A1 ++ B1).Pairwise (Lt ky) from ⟨List.Perm.refl _, by
              have hz : A1 = [] := List.eq_nil_of_length_eq_zero (by omega)
              rw [hz, List.nil_append]; exact HSP.out.2.1⟩)
            obtain ⟨C1, hC1⟩ : ∃ C, A1 ++ B1 = C := ⟨_, rfl⟩
            have HY : Aside0 (Rw g w _ ((P ++ C1) ++ (A2 ++ (B2 ++ S)))) := Aside0.mk (by rw [← hC1]; have := HX.out; simpa using this)
            have HC1' : Aside0 (C1.Perm (A1 ++ B1) ∧ C1.Pairwise (Lt ky)) := Aside0.mk (by rw [← hC1]; exact HC1.out)
            clear HC1 hC1 HX hsm hq2 hq3
            have HC1 := HC1'
            clear HC1'
            go_upto_region 43 with fail
            have HLC1 : Aside0 ((P ++ C1).length = mid) := ⟨by have e1 := HC1.out.1.length_eq; have e2 := HA.out; have e3 := HQ2.out; have e4 := HQ3.out; rw [List.length_append] at e1 ⊢; omega⟩
            have HLY : Aside0 (((P ++ C1) ++ (A2 ++ (B2 ++ S))).length = N) := ⟨by have e1 := HC1.out.1.length_eq; have e2 := HLN.out; simp only [List.length_append] at e1 ⊢; omega⟩
            have hz2 := HZ2.out
            have hz3 := HZ3.out
            rcases (show (mid < en ∧ en < b) ∨ (mid < en ∧ ¬ en < b) ∨ ¬ mid < en by omega) with ⟨v1, v2⟩ | ⟨v1, v2⟩ | v1
            · have HP3 := Aside0.mk (show 0 < A2.length ∧ 0 < B2.length by omega)
              clear hz2 hz3
              go_wp2_with (first | (go_at_call 61; refine (HIH.out mid en b _ _ _ (P ++ C1) A2 B2 S _ _ (by omega) (by omega) (by omega) HY.out.gr HZ1.out rfl HY.out.blk HLY.out HLC1.out HZ2.out HZ3.out HZ4.out.1 HZ4.out.2.1 HZ4.out.2.2.1 HZ4.out.2.2.2 HP3.out.1 HP3.out.2).mono ?_; rintro e wz ⟨rfl, C2, hr, hp, hs⟩; have HZ := Aside0.mk (HY.out.then_ hr); have HC2 := Aside0.mk (And.intro hp hs); clear HY hr hp hs))
              go_end0
              have hfin := cut_sorted HCT.out HC1.out.1 HC1.out.2 HC2.out.1 HC2.out.2
              exact ⟨rfl, C1 ++ C2, by have := HZ.out; simpa using this, by rw [HEA.out, HEB.out]; exact hfin.2, hfin.1⟩
            · have hz : B2 = [] := List.eq_nil_of_length_eq_zero (by omega)
              have HC2 := Aside0.mk (show (A2 ++ B2).Pairwise (Lt ky) by rw [hz, List.append_nil]; exact HSP.out.1.2)
              clear hz2 hz3 hz
              go_wp2
              go_end0
              have hfin := cut_sorted HCT.out HC1.out.1 HC1.out.2 (List.Perm.refl (A2 ++ B2)) HC2.out
              exact ⟨rfl, C1 ++ (A2 ++ B2), by have := HY.out; simpa using this, by rw [HEA.out, HEB.out]; exact hfin.2, hfin.1⟩
            · have hz : A2 = [] := List.eq_nil_of_length_eq_zero (by omega)
              have HC2 := Aside0.mk (show (A2 ++ B2).Pairwise (Lt ky) by rw [hz, List.nil_append]; exact HSP.out.2.2)
              clear hz2 hz3 hz
              go_wp2
              go_end0
              have hfin := cut_sorted HCT.out HC1.out.1 HC1.out.2 (List.Perm.refl (A2 ++ B2)) HC2.out
              exact ⟨rfl, C1 ++ (A2 ++ B2), by have := HY.out; simpa using this, by rw [HEA.out, HEB.out]; exact hfin.2, hfin.1⟩
        · have hz : A2 = [] := List.eq_nil_of_length_eq_zero (by have := HL2.out; omega)
          have HX := Aside0.mk (show Rw g w wr (P ++ (A1 ++ (B1 ++ (A2 ++ (B2 ++ S))))) by have := HX0.out; rw [hz] at this ⊢; simpa using this)
          clear hz HX0 hsm
          go_upto_region 41 with fail
          have hsm := HE2.out
          have hq3 := HQ3.out
          have hq2 := HQ2.out
          rcases (show (a < s ∧ s < mid) ∨ (a < s ∧ ¬ s < mid) ∨ ¬ a < s by omega) with ⟨t1, t2⟩ | ⟨t1, t2⟩ | t1
          · have HP2 := Aside0.mk (show 0 < A1.length ∧ 0 < B1.length by omega)
            clear hsm hq2 hq3
            go_upto_region 43 with (first | (go_at_call 61; refine (HIH.out a s mid _ _ _ P A1 B1 (A2 ++ (B2 ++ S)) _ _ (by omega) (by omega) (by omega) HX.out.gr HQ1.out rfl HX.out.blk HLX.out HA.out HQ2.out HQ3.out HQ4.out.1 HQ4.out.2.1 HQ4.out.2.2.1 HQ4.out.2.2.2 HP2.out.1 HP2.out.2).mono ?_; rintro e wy ⟨rfl, C1, hr, hp, hs⟩; have HY : Aside0 (Rw g w wy ((P ++ C1) ++ (A2 ++ (B2 ++ S)))) := Aside0.mk (by have := HX.out.then_ hr; rw [List.append_assoc]; exact this); have HC1 := Aside0.mk (And.intro hp hs); clear HX hr hp hs))
            have HLC1 : Aside0 ((P ++ C1).length = mid) := ⟨by have e1 := HC1.out.1.length_eq; have e2 := HA.out; have e3 := HQ2.out; have e4 := HQ3.out; rw [List.length_append] at e1 ⊢; omega⟩
            have HLY : Aside0 (((P ++ C1) ++ (A2 ++ (B2 ++ S))).length = N) := ⟨by have e1 := HC1.out.1.length_eq; have e2 := HLN.out; simp only [List.length_append] at e1 ⊢; omega⟩
            have hz2 := HZ2.out
            have hz3 := HZ3.out
            rcases (show (mid < en ∧ en < b) ∨ (mid < en ∧ ¬ en < b) ∨ ¬ mid < en by omega) with ⟨v1, v2⟩ | ⟨v1, v2⟩ | v1
            · have HP3 := Aside0.mk (show 0 < A2.length ∧ 0 < B2.length by omega)
              clear hz2 hz3
              go_wp2_with (first | (go_at_call 61; refine (HIH.out mid en b _ _ _ (P ++ C1) A2 B2 S _ _ (by omega) (by omega) (by omega) HY.out.gr HZ1.out rfl HY.out.blk HLY.out HLC1.out HZ2.out HZ3.out HZ4.out.1 HZ4.out.2.1 HZ4.out.2.2.1 HZ4.out.2.2.2 HP3.out.1 HP3.out.2).mono ?_; rintro e wz ⟨rfl, C2, hr, hp, hs⟩; have HZ := Aside0.mk (HY.out.then_ hr); have HC2 := Aside0.mk (And.intro hp hs); clear HY hr hp hs))
              go_end0
              have hfin := cut_sorted HCT.out HC1.out.1 HC1.out.2 HC2.out.1 HC2.out.2
              exact ⟨rfl, C1 ++ C2, by have := HZ.out; simpa using this, by rw [HEA.out, HEB.out]; exact hfin.2, hfin.1⟩
            · have hz : B2 = [] := List.eq_nil_of_length_eq_zero (by omega)
              have HC2 := Aside0.mk (show (A2 ++ B2).Pairwise (Lt ky) by rw [hz, List.append_nil]; exact HSP.out.1.2)
              clear hz2 hz3 hz
              go_wp2
              go_end0
              have hfin := cut_sorted HCT.out HC1.out.1 HC1.out.2 (List.Perm.refl (A2 ++ B2)) HC2.out
              exact ⟨rfl, C1 ++ (A2 ++ B2), by have := HY.out; simpa using this, by rw [HEA.out, HEB.out]; exact hfin.2, hfin.1⟩
            · have hz : A2 = [] := List.eq_nil_of_length_eq_zero (by omega)
              have HC2 := Aside0.mk (show (A2 ++ B2).Pairwise (Lt ky) by rw [hz, List.nil_append]; exact HSP.out.2.2)
              clear hz2 hz3 hz
              go_wp2
              go_end0
              have hfin := cut_sorted HCT.out HC1.out.1 HC1.out.2 (List.Perm.refl (A2 ++ B2)) HC2.out
              exact ⟨rfl, C1 ++ (A2 ++ B2), by have := HY.out; simpa using this, by rw [HEA.out, HEB.out]; exact hfin.2, hfin.1⟩
          · have HC1 := Aside0.mk (show (A1 ++ B1).Perm (A1 ++ B1) ∧ (A1 ++ B1).Pairwise (Lt ky) from ⟨List.Perm.refl _, by
              have hz : B1 = [] := List.eq_nil_of_length_eq_zero (by omega)
              rw [hz, List.append_nil]; exact HSP.out.1.1⟩)
            obtain ⟨C1, hC1⟩ : ∃ C, A1 ++ B1 = C := ⟨_, rfl⟩
            have HY : Aside0 (Rw g w _ ((P ++ C1) ++ (A2 ++ (B2 ++ S)))) := Aside0.mk (by rw [← hC1]; have := HX.out; simpa using this)
            have HC1' : Aside0 (C1.Perm (A1 ++ B1) ∧ C1.Pairwise (Lt ky)) := Aside0.mk (by rw [← hC1]; exact HC1.out)
            clear HC1 hC1 HX hsm hq2 hq3
            have HC1 := HC1'
            clear HC1'
            go_upto_region 43 with fail
            have HLC1 : Aside0 ((P ++ C1).length = mid) := ⟨by have e1 := HC1.out.1.length_eq; have e2 := HA.out; have e3 := HQ2.out; have e4 := HQ3.out; rw [List.length_append] at e1 ⊢; omega⟩
            have HLY : Aside0 (((P ++ C1) ++ (A2 ++ (B2 ++ S))).length = N) := ⟨by have e1 := HC1.out.1.length_eq; have e2 := HLN.out; simp only [List.length_append] at e1 ⊢; omega⟩
            have hz2 := HZ2.out
            have hz3 := HZ3.out
            rcases (show (mid < en ∧ en < b) ∨ (mid < en ∧ ¬ en < b) ∨ ¬ mid < en by omega) with ⟨v1, v2⟩ | ⟨v1, v2⟩ | v1
            · have HP3 := Aside0.mk (show 0 < A2.length ∧ 0 < B2.length by omega)
              clear hz2 hz3
              go_wp2_with (first | (go_at_call 61; refine (HIH.out mid en b _ _ _ (P ++ C1) A2 B2 S _ _ (by omega) (by omega) (by omega) HY.out.gr HZ1.out rfl HY.out.blk HLY.out HLC1.out HZ2.out HZ3.out HZ4.out.1 HZ4.out.2.1 HZ4.out.2.2.1 HZ4.out.2.2.2 HP3.out.1 HP3.out.2).mono ?_; rintro e wz ⟨rfl, C2, hr, hp, hs⟩; have HZ := Aside0.mk (HY.out.then_ hr); have HC2 := Aside0.mk (And.intro hp hs); clear HY hr hp hs))
              go_end0
              have hfin := cut_sorted HCT.out HC1.out.1 HC1.out.2 HC2.out.1 HC2.out.2
              exact ⟨rfl, C1 ++ C2, by have := HZ.out; simpa using this, by rw [HEA.out, HEB.out]; exact hfin.2, hfin.1⟩
            · have hz : B2 = [] := List.eq_nil_of_length_eq_zero (by omega)
              have HC2 := Aside0.mk (show (A2 ++ B2).Pairwise (Lt ky) by rw [hz, List.append_nil]; exact HSP.out.1.2)
              clear hz2 hz3 hz
              go_wp2
              go_end0
              have hfin := cut_sorted HCT.out HC1.out.1 HC1.out.2 (List.Perm.refl (A2 ++ B2)) HC2.out
              exact ⟨rfl, C1 ++ (A2 ++ B2), by have := HY.out; simpa using this, by rw [HEA.out, HEB.out]; exact hfin.2, hfin.1⟩
            · have hz : A2 = [] := List.eq_nil_of_length_eq_zero (by omega)
              have HC2 := Aside0.mk (show (A2 ++ B2).Pairwise (Lt ky) by rw [hz, List.nil_append]; exact HSP.out.2.2)
              clear hz2 hz3 hz
              go_wp2
              go_end0
              have hfin := cut_sorted HCT.out HC1.out.1 HC1.out.2 (List.Perm.refl (A2 ++ B2)) HC2.out
              exact ⟨rfl, C1 ++ (A2 ++ B2), by have := HY.out; simpa using this, by rw [HEA.out, HEB.out]; exact hfin.2, hfin.1⟩
          · have HC1 := Aside0.mk (show (A1 ++ B1).Perm (A1 ++ B1) ∧ (A1 ++ B1).Pairwise (Lt ky) from ⟨List.Perm.refl _, by
              have hz : A1 = [] := List.eq_nil_of_length_eq_zero (by omega)
              rw [hz, List.nil_append]; exact HSP.out.2.1⟩)
            obtain ⟨C1, hC1⟩ : ∃ C, A1 ++ B1 = C := ⟨_, rfl⟩
            have HY : Aside0 (Rw g w _ ((P ++ C1) ++ (A2 ++ (B2 ++ S)))) := Aside0.mk (by rw [← hC1]; have := HX.out; simpa using this)
            have HC1' : Aside0 (C1.Perm (A1 ++ B1) ∧ C1.Pairwise (Lt ky)) := Aside0.mk (by rw [← hC1]; exact HC1.out)
            clear HC1 hC1 HX hsm hq2 hq3
            have HC1 := HC1'
            clear HC1'
            go_upto_region 43 with fail
            have HLC1 : Aside0 ((P ++ C1).length = mid) := ⟨by have e1 := HC1.out.1.length_eq; have e2 := HA.out; have e3 := HQ2.out; have e4 := HQ3.out; rw [List.length_append] at e1 ⊢; omega⟩
            have HLY : Aside0 (((P ++ C1) ++ (A2 ++ (B2 ++ S))).length = N) := ⟨by have e1 := HC1.out.1.length_eq; have e2 := HLN.out; simp only [List.length_append] at e1 ⊢; omega⟩
            have hz2 := HZ2.out
            have hz3 := HZ3.out
            rcases (show (mid < en ∧ en < b) ∨ (mid < en ∧ ¬ en < b) ∨ ¬ mid < en by omega) with ⟨v1, v2⟩ | ⟨v1, v2⟩ | v1
            · have HP3 := Aside0.mk (show 0 < A2.length ∧ 0 < B2.length by omega)
              clear hz2 hz3
              go_wp2_with (first | (go_at_call 61; refine (HIH.out mid en b _ _ _ (P ++ C1) A2 B2 S _ _ (by omega) (by omega) (by omega) HY.out.gr HZ1.out rfl HY.out.blk HLY.out HLC1.out HZ2.out HZ3.out HZ4.out.1 HZ4.out.2.1 HZ4.out.2.2.1 HZ4.out.2.2.2 HP3.out.1 HP3.out.2).mono ?_; rintro e wz ⟨rfl, C2, hr, hp, hs⟩; have HZ := Aside0.mk (HY.out.then_ hr); have HC2 := Aside0.mk (And.intro hp hs); clear HY hr hp hs))
              go_end0
              have hfin := cut_sorted HCT.out HC1.out.1 HC1.out.2 HC2.out.1 HC2.out.2
              exact ⟨rfl, C1 ++ C2, by have := HZ.out; simpa using this, by rw [HEA.out, HEB.out]; exact hfin.2, hfin.1⟩
            · have hz : B2 = [] := List.eq_nil_of_length_eq_zero (by omega)
              have HC2 := Aside0.mk (show (A2 ++ B2).Pairwise (Lt ky) by rw [hz, List.append_nil]; exact HSP.out.1.2)
              clear hz2 hz3 hz
              go_wp2
              go_end0
              have hfin := cut_sorted HCT.out HC1.out.1 HC1.out.2 (List.Perm.refl (A2 ++ B2)) HC2.out
              exact ⟨rfl, C1 ++ (A2 ++ B2), by have := HY.out; simpa using this, by rw [HEA.out, HEB.out]; exact hfin.2, hfin.1⟩
            · have hz : A2 = [] := List.eq_nil_of_length_eq_zero (by omega)
              have HC2 := Aside0.mk (show (A2 ++ B2).Pairwise (Lt ky) by rw [hz, List.nil_append]; exact HSP.out.2.2)
              clear hz2 hz3 hz
              go_wp2
              go_end0
              have hfin := cut_sorted HCT.out HC1.out.1 HC1.out.2 (List.Perm.refl (A2 ++ B2)) HC2.out
              exact ⟨rfl, C1 ++ (A2 ++ B2), by have := HY.out; simpa using this, by rw [HEA.out, HEB.out]; exact hfin.2, hfin.1⟩
theorem Merges.mono {gf : Nat} {lb : Array Value} {cf : Int → Int → Int} {ky : Int → Int} {g N : Nat} {w : World} {sz sz' : Nat} (h : Merges gf lb cf ky g N w sz) (hle : sz' ≤ sz) : Merges gf lb cf ky g N w sz' :=
  fun a m b za zm zb P A B S D W ea em eb hg hsz => h a m b za zm zb P A B S D W ea em eb hg (Nat.le_trans hsz hle)
theorem symMerge_all (gf : Nat) (lb : Array Value) (eg : ∀ args w, (callFunc gf args).run Try.prog w = .ok (.enter gf args) w) (cf : Int → Int → Int) (ky : Int → Int) (g N : Nat) (hN2 : N ≤ 1000000) : ∀ (sz : Nat) (w : World), CmpOk gf lb cf ky g N w → Merges gf lb cf ky g N w sz := by
  intro sz
  induction sz with
  | zero =>
    intro w hc a m b za zm zb P A B S D W ea em eb hg hsz hD h0 hN ha hm hb hr hsA hsB hx hA hB
    omega
  | succ sz ih =>
    intro w hc a m b za zm zb P A B S D W ea em eb hg hsz hD h0 hN ha hm hb hr hsA hsB hx hA hB
    subst ea em eb hD
    have hc' := hc.of hg
    by_cases h1 : A.length = 1
    · obtain ⟨x, rfl⟩ := List.length_eq_one_iff.1 h1
      exact symOne gf lb eg cf ky g N a m b P S x B W hc' (by simpa using h0) (by simpa using hN) hN2 ha (by simpa using hm) hb hr hsB (fun u hu => hx x (by simp) u hu) hB
    · by_cases h2 : B.length = 1
      · obtain ⟨y, rfl⟩ := List.length_eq_one_iff.1 h2
        exact symTail gf lb eg cf ky g N a m b P S y A W hc' (by simpa using h0) (by simpa using hN) hN2 ha hm (by simpa using hb) hr hsA (fun u hu => hx u hu y (by simp)) (by omega)
      · exact symGen gf lb eg cf ky g N a m b P A B S W hc' h0 hN hN2 ha hm hb hr hsA hsB hx (by omega) (by omega) ((ih W hc').mono (by omega))
end Go.Proofs.Ytlomomhajmackaa.PA

namespace Go.Proofs.Ytlomomhajmackaa.PA
open Go.RowKit Go.Shelf Go.Proofs.YtlomomhajmackaaW.PrintWords Go.Proofs.YtlomomhajmackaaW.PrintLast Go.Proofs.YtlomomhajmackaaW.PrintMore
set_option linter.unusedVariables false
set_option linter.unusedSimpArgs false
/-- Parts, each in order, every number of an earlier part below every number of a later one. -/
structure Bks (ky : Int → Int) (Ls : List (List Int)) : Prop where
  srt : ∀ X ∈ Ls, X.Pairwise (Lt ky)
  cross : Ls.Pairwise (fun X Y => ∀ u ∈ X, ∀ v ∈ Y, u < v)
theorem Bks.group {ky : Int → Int} {Qs Ms t : List (List Int)} {C : List Int} (h : Bks ky (Qs ++ (Ms ++ t))) (hp : C.Perm Ms.flatten) (hs : C.Pairwise (Lt ky)) : Bks ky (Qs ++ C :: t) := by
  obtain ⟨c1, c2, c3⟩ := List.pairwise_append.1 h.cross
  obtain ⟨d1, d2, d3⟩ := List.pairwise_append.1 c2
  have hin : ∀ u ∈ C, ∃ M ∈ Ms, u ∈ M := fun u hu => by
    have := hp.mem_iff.1 hu
    simpa [List.mem_flatten] using this
  refine ⟨fun X hX => ?_, List.pairwise_append.2 ⟨c1, List.pairwise_cons.2 ⟨fun Y hY u hu v hv => ?_, d2⟩, fun X hX Y hY u hu v hv => ?_⟩⟩
  · simp only [List.mem_append, List.mem_cons] at hX
    rcases hX with h1 | rfl | h1
    · exact h.srt X (by simp [h1])
    · exact hs
    · exact h.srt X (by simp [h1])
  · obtain ⟨M, hM, huM⟩ := hin u hu
    exact d3 M hM Y hY u huM v hv
  · rcases List.mem_cons.1 hY with rfl | hY
    · obtain ⟨M, hM, hvM⟩ := hin v hv
      exact c3 X hX M (by simp [hM]) u hu v hvM
    · exact c3 X hX Y (by simp [hY]) u hu v hv
theorem group_perm {Qs Ms t : List (List Int)} {C L : List Int} (hp : C.Perm Ms.flatten) (h : (Qs ++ (Ms ++ t)).flatten.Perm L) : (Qs ++ C :: t).flatten.Perm L := by
  refine List.Perm.trans ?_ h
  simp only [List.flatten_append, List.flatten_cons]
  exact (hp.append_right _).append_left _
def singles (R : List Int) : List (List Int) := R.map fun x => [x]
theorem singles_flat (R : List Int) : (singles R).flatten = R := by
  induction R with
  | nil => rfl
  | cons x R ih => simp only [singles, List.map_cons, List.flatten_cons]; rw [show (R.map fun x => [x]).flatten = R from ih]; rfl
theorem singles_app (R S : List Int) : singles (R ++ S) = singles R ++ singles S := by simp [singles]
theorem bks_singles (ky : Int → Int) {R : List Int} (h : R.Pairwise (· < ·)) : Bks ky (singles R) := by
  refine ⟨fun X hX => ?_, ?_⟩
  · simp only [singles, List.mem_map] at hX
    obtain ⟨x, _, rfl⟩ := hX
    simp
  · simp only [singles, List.pairwise_map]
    exact h.imp fun h u hu v hv => by simp at hu hv; subst hu hv; exact h
/-- All parts but the last are as long as is said; the last is no longer, and not empty. -/
def Good (bs : Nat) : List (List Int) → Prop
  | [] => True
  | [X] => 0 < X.length ∧ X.length ≤ bs
  | X :: Y :: t => X.length = bs ∧ Good bs (Y :: t)
theorem good_full {bs : Nat} (h0 : 0 < bs) : ∀ {Qs : List (List Int)}, (∀ X ∈ Qs, X.length = bs) → Good bs Qs
  | [], _ => trivial
  | [X], h => by have := h X (by simp); exact ⟨by omega, by omega⟩
  | X :: Y :: t, h => ⟨h X (by simp), good_full h0 (fun Z hZ => h Z (by simp at hZ ⊢; exact .inr hZ))⟩
theorem good_snoc {bs : Nat} {C : List Int} (hC : 0 < C.length) (hC2 : C.length ≤ bs) : ∀ {Qs : List (List Int)}, (∀ X ∈ Qs, X.length = bs) → Good bs (Qs ++ [C])
  | [], _ => ⟨hC, hC2⟩
  | [X], h => ⟨h X (by simp), hC, hC2⟩
  | X :: Y :: t, h => ⟨h X (by simp), good_snoc hC hC2 (Qs := Y :: t) (fun Z hZ => h Z (by simp at hZ ⊢; exact .inr hZ))⟩
theorem good_pos {bs : Nat} : ∀ {t : List (List Int)} {Z : List Int}, Good bs (Z :: t) → 0 < bs
  | [], _, h => by have := h.1; have := h.2; omega
  | Y :: t, _, h => good_pos (Z := Y) (t := t) h.2
theorem good_two {bs : Nat} {Rs : List (List Int)} (h : Good bs Rs) (hl : bs < Rs.flatten.length) : ∃ X Y t, Rs = X :: Y :: t ∧ X.length = bs ∧ 0 < Y.length ∧ Y.length ≤ bs ∧ Good bs t ∧ (Y.length < bs → t = []) := by
  match Rs, h, hl with
  | [], _, hl => simp at hl
  | [X], h, hl => simp at hl; have := h.2; omega
  | [X, Y], h, hl => exact ⟨X, Y, [], rfl, h.1, h.2.1, h.2.2, trivial, fun _ => rfl⟩
  | X :: Y :: Z :: t, h, hl => exact ⟨X, Y, Z :: t, rfl, h.1, by have := h.2.1; have h3 := good_pos h.2.2; omega, by have := h.2.1; omega, h.2.2, fun hlt => by have := h.2.1; omega⟩
theorem good_small {bs : Nat} {Rs : List (List Int)} (h : Good bs Rs) (hl : Rs.flatten.length ≤ bs) : Rs = [] ∨ ∃ X, Rs = [X] := by
  match Rs, h, hl with
  | [], _, _ => exact .inl rfl
  | [X], _, _ => exact .inr ⟨X, rfl⟩
  | X :: Y :: t, h, hl =>
    exfalso
    have h1 := h.1
    have hy : 0 < Y.length := by
      cases t with
      | nil => exact h.2.1
      | cons Z t => have := h.2.1; have := good_pos h.2; omega
    simp at hl
    omega
theorem insertion_nil (g N : Nat) (za zb : Int) (a : Nat) (ea : za = (a : Int)) (eb : zb = (a : Int)) (ha : a ≤ 1000000) (cv : Value) (sl : Value) (w : World) : Calls Try.prog 60 #[sl, .int .i64 za, .int .i64 zb, cv] w fun e w' => e = .returned (.tuple #[]) ∧ w' = w := by
  subst ea eb
  have h : ¬ ((a : Int) + 1 < (a : Int)) := by omega
  go_enter Try.func60, Try.ntmps60
  go_wp2
  refine wp_loop_rounds 1 ?_
  rw [rounds_succ]
  go_wp2
  go_end0
  exact ⟨rfl, rfl⟩
theorem insertion_z (gf : Nat) (lb : Array Value) (eg : ∀ args w, (callFunc gf args).run Try.prog w = .ok (.enter gf args) w) (cf : Int → Int → Int) (ky : Int → Int) (g N a b : Nat) (za zb : Int) (P S R D : List Int) (w : World) (ea : za = (a : Int)) (eb : zb = (b : Int)) (hc : CmpOk gf lb cf ky g N w) (hD : P ++ (R ++ S) = D)
    (h0 : w.heap[g]? = some (.cells (rowI D) 3 (0, 0))) (hN : D.length = N) (hN2 : N ≤ 1000000) (ha : P.length = a) (hb : a + R.length = b) (hr : ∀ x ∈ R, 1 ≤ x ∧ x ≤ (N : Int)) (hs : R.Pairwise (· < ·)) :
    Calls Try.prog 60 #[.slice (some ⟨g, 0, none⟩) N N, .int .i64 za, .int .i64 zb, .func (.func gf) #[] lb] w fun e w' => e = .returned (.tuple #[]) ∧ ∃ C : List Int, Rw g w w' (P ++ (C ++ S)) ∧ C.Perm R ∧ C.Pairwise (Lt ky) := by
  subst hD
  cases R with
  | nil =>
    refine (insertion_nil g N za zb a ea (by simp at hb; omega) (by simp at hN; omega) _ _ w).mono ?_
    rintro e w' ⟨rfl, rfl⟩
    exact ⟨rfl, [], Rw.start h0, List.Perm.refl _, List.Pairwise.nil⟩
  | cons r R =>
    subst ea eb
    exact insertion_in gf lb eg cf ky g N a b P S r R w hc h0 hN hN2 ha hb hr hs
set_option maxHeartbeats 8000000 in
set_option maxRecDepth 100000 in
theorem stable_in (gf : Nat) (lb : Array Value) (eg : ∀ args w, (callFunc gf args).run Try.prog w = .ok (.enter gf args) w) (cf : Int → Int → Int) (ky : Int → Int) (g N : Nat) (L : List Int) (w : World) (hc : CmpOk gf lb cf ky g N w)
    (h0 : w.heap[g]? = some (.cells (rowI L) 3 (0, 0))) (hN : L.length = N) (hN2 : N ≤ 1000000) (hr : ∀ x ∈ L, 1 ≤ x ∧ x ≤ (N : Int)) (hs : L.Pairwise (· < ·)) :
    Calls Try.prog 50 #[.slice (some ⟨g, 0, none⟩) N N, .int .i64 (N : Int), .func (.func gf) #[] lb] w fun e w' => e = .returned (.tuple #[]) ∧ ∃ C : List Int, Rw g w w' C ∧ C.Perm L ∧ C.Pairwise (Lt ky) := by
  have HC := Aside0.mk hc
  have HR := Aside0.mk (Rw.start h0)
  have HN := Aside0.mk hN
  have HRG := Aside0.mk hr
  have HS := Aside0.mk hs
  have HBK := Aside0.mk (bks_singles ky hs)
  clear hc h0 hN hr hs
  go_enter Try.func50, Try.ntmps50
  go_wp2
  go_loopw [7, 8] (fun p q wr => ∃ (a bb : Nat) (Qs : List (List Int)) (R : List Int), p = .int .i64 (a : Int) ∧ q = .int .i64 (bb : Int) ∧ Aside0 (bb = a + 20) ∧ Aside0 (Qs.flatten.length = a ∧ a + R.length = N) ∧ Aside0 (∀ X ∈ Qs, X.length = 20) ∧ Aside0 (R.Pairwise (· < ·)) ∧ Aside0 (Bks ky (Qs ++ singles R)) ∧ Aside0 ((Qs ++ singles R).flatten.Perm L) ∧ Aside0 (Rw g w wr (Qs.flatten ++ R))) (fun p _ _ => N - (intOf p).toNat)
  case atStart => exact ⟨0, 20, [], L, rfl, rfl, ⟨rfl⟩, ⟨by simp; exact HN.out⟩, ⟨by simp⟩, HS, HBK, ⟨by rw [List.nil_append, singles_flat]⟩, HR⟩
  case round =>
    clear HR HS HBK
    obtain ⟨a, bb, Qs, R, rfl, rfl, hbb, hlen, hQ, hR, HBK, HP, HR⟩ := hrel
    have HRL := Aside0.mk (show ∀ x ∈ R, 1 ≤ x ∧ x ≤ (N : Int) from fun x hx => HRG.out x (HP.out.mem_iff.1 (by rw [List.flatten_append, singles_flat]; simp [hx])))
    have HDN := Aside0.mk (show (Qs.flatten ++ R).length = N by rw [List.length_append]; have := hlen.out; omega)
    have haN : a ≤ N := by have := hlen.out; omega
    by_cases hlt : bb ≤ N
    · obtain ⟨R1, hR1⟩ : ∃ l, R.take 20 = l := ⟨_, rfl⟩
      obtain ⟨R2, hR2⟩ : ∃ l, R.drop 20 = l := ⟨_, rfl⟩
      have hRR : R = R1 ++ R2 := by rw [← hR1, ← hR2, List.take_append_drop]
      have HRR := Aside0.mk hRR
      have l1 : R1.length = 20 := by have := hlen.out; have := hbb.out; rw [← hR1, List.length_take]; omega
      have HL1 := Aside0.mk l1
      have hp := hR.out
      rw [hRR] at hp
      obtain ⟨s1, s2, _⟩ := List.pairwise_append.1 hp
      have HS1 := Aside0.mk s1
      have HS2 := Aside0.mk s2
      have HRG1 := Aside0.mk (show ∀ x ∈ R1, 1 ≤ x ∧ x ≤ (N : Int) from fun x hx => HRL.out x (by rw [hRR]; simp [hx]))
      have hltz : (bb : Int) ≤ (N : Int) := by omega
      have hbb' : bb = a + 20 := hbb.out
      have HBB := Aside0.mk hbb'
      clear hR1 hR2 hRR l1 hp s1 s2 hbb'
      go_wp2_with (first | (go_at_call 60; refine (insertion_z gf lb eg cf ky g N a bb _ _ Qs.flatten R2 R1 _ _ rfl rfl (HC.out.of HR.out.gr) (by rw [← HRR.out]) HR.out.blk HDN.out hN2 hlen.out.1 (by rw [HL1.out]; exact HBB.out.symm) HRG1.out HS1.out).mono ?_; rintro e w2 ⟨rfl, C, hr, hp, hs⟩; have HR2 := Aside0.mk (HR.out.then_ hr); have HCP := Aside0.mk hp; have HCS := Aside0.mk hs; clear HR hr hp hs))
      go_roundw
      case rel =>
        have hcl := HCP.out.length_eq
        have hb := HBK.out
        rw [HRR.out, singles_app] at hb
        have hpp := HP.out
        rw [HRR.out, singles_app] at hpp
        have hm : C.Perm (singles R1).flatten := by rw [singles_flat]; exact HCP.out
        exact ⟨bb, bb + 20, Qs ++ [C], R2, rfl, by push_cast; rfl, ⟨rfl⟩, ⟨by have e1 := hlen.out; have e2 := HL1.out; have e3 := HRR.out; have e4 := HBB.out; rw [e3, List.length_append] at e1; simp only [List.flatten_append, List.length_append, List.flatten_cons, List.flatten_nil, List.length_nil]; omega⟩, ⟨fun X hX => by
          rcases List.mem_append.1 hX with h | h
          · exact hQ.out X h
          · rw [List.mem_singleton.1 h, hcl]; exact HL1.out⟩, HS2, ⟨by have := hb.group hm HCS.out; simpa using this⟩, ⟨by have := group_perm hm hpp; simpa using this⟩, ⟨by have := HR2.out; simpa using this⟩⟩
      case measure => have := HBB.out; simp [intOf]; omega
    · have hltz : ¬ ((bb : Int) ≤ (N : Int)) := by omega
      have HRR := Aside0.mk (show Qs.flatten ++ (R ++ []) = Qs.flatten ++ R by rw [List.append_nil])
      have hlen' : a + R.length = N := hlen.out.2
      have HLN := Aside0.mk hlen'
      clear hlen'
      go_wp2_with (first | (go_at_call 60; refine (insertion_z gf lb eg cf ky g N a N _ _ Qs.flatten [] R _ _ rfl rfl (HC.out.of HR.out.gr) HRR.out HR.out.blk HDN.out hN2 hlen.out.1 HLN.out HRL.out hR.out).mono ?_; rintro e w2 ⟨rfl, C, hr, hp, hs⟩; have HR2 := Aside0.mk (HR.out.then_ hr); have HCP := Aside0.mk hp; have HCS := Aside0.mk hs; clear HR hr hp hs))
      obtain ⟨Ls, HG, HB, HPL, HRW⟩ : ∃ Ls : List (List Int), Aside0 (Good 20 Ls) ∧ Aside0 (Bks ky Ls) ∧ Aside0 (Ls.flatten.Perm L) ∧ Aside0 (Rw g w w2 Ls.flatten) := by
        have hm : C.Perm (singles R).flatten := by rw [singles_flat]; exact HCP.out
        have hcl := HCP.out.length_eq
        have hw := HR2.out
        rw [List.append_nil] at hw
        by_cases hz : C = []
        · subst hz
          have hR0 : R = [] := List.eq_nil_of_length_eq_zero (by simpa using hcl.symm)
          subst hR0
          exact ⟨Qs, ⟨good_full (by decide) hQ.out⟩, ⟨by have := HBK.out; rw [show singles [] = [] from rfl, List.append_nil] at this; exact this⟩, ⟨by have := HP.out; rw [show singles [] = [] from rfl, List.append_nil] at this; exact this⟩, ⟨by rw [List.append_nil] at hw; exact hw⟩⟩
        · have hb := Bks.group (Qs := Qs) (Ms := singles R) (t := []) (by rw [List.append_nil]; exact HBK.out) hm HCS.out
          have hpp : (Qs ++ [C]).flatten.Perm L := group_perm (Qs := Qs) (Ms := singles R) (t := []) (L := L) hm (by rw [List.append_nil]; exact HP.out)
          have hpos : 0 < C.length := by cases C with
            | nil => exact absurd rfl hz
            | cons _ _ => simp
          exact ⟨Qs ++ [C], ⟨good_snoc hpos (by have := hlen.out; have := hbb.out; omega) hQ.out⟩, ⟨hb⟩, ⟨hpp⟩, ⟨by simpa using hw⟩⟩
      clear hlen hQ hR HBK HP HRL HDN HLN HRR HCP HCS HR2 hbb
      go_loopw [6, 7, 8, 9] (fun p _ _ _ wr => ∃ (bs : Nat) (Ls : List (List Int)), p = .int .i64 (bs : Int) ∧ Aside0 (0 < bs ∧ bs ≤ 2 * N + 20) ∧ Aside0 (Good bs Ls) ∧ Aside0 (Bks ky Ls) ∧ Aside0 (Ls.flatten.Perm L) ∧ Aside0 (Rw g w wr Ls.flatten)) (fun p _ _ _ _ => N - (intOf p).toNat)
      case atStart => exact ⟨20, Ls, rfl, ⟨by omega⟩, HG, HB, HPL, HRW⟩
      case round =>
        clear HG HB HPL HRW
        obtain ⟨bs, Ls, rfl, hbs, HG, HB, HPL, HRW⟩ := hrel
        have hb1 := hbs.out.1
        have hb2 := hbs.out.2
        by_cases hlt2 : bs < N
        · obtain ⟨b2, hb22⟩ : ∃ b : Nat, 2 * bs = b := ⟨_, rfl⟩
          have HB2 := Aside0.mk hb22
          have hltz2 : (bs : Int) < (N : Int) := by omega
          have hwm : IntKind.i64.wrap (2 * (bs : Int)) = (b2 : Int) := by rw [IntWalk.i64_in _ (by omega)]; omega
          have hwm2 : IntKind.i64.wrap ((bs : Int) * 2) = (b2 : Int) := by rw [IntWalk.i64_in _ (by omega)]; omega
          have hbN2 : b2 ≤ 2 * N := by omega
          clear hb22
          go_wp2
          have HSM := Aside0.mk (symMerge_all gf lb eg cf ky g N hN2 (2 * N) w HC.out)
          go_loopw [7, 8] (fun p q wr => ∃ (a bb : Nat) (Qs Rs : List (List Int)), p = .int .i64 (a : Int) ∧ q = .int .i64 (bb : Int) ∧ Aside0 (bb = a + b2) ∧ Aside0 (Qs.flatten.length = a ∧ a + Rs.flatten.length = N) ∧ Aside0 (∀ X ∈ Qs, X.length = b2) ∧ Aside0 (Good bs Rs) ∧ Aside0 (Bks ky (Qs ++ Rs)) ∧ Aside0 ((Qs ++ Rs).flatten.Perm L) ∧ Aside0 (Rw g w wr (Qs ++ Rs).flatten)) (fun p _ _ => N - (intOf p).toNat)
          case atStart => exact ⟨0, b2, [], Ls, rfl, rfl, ⟨by omega⟩, ⟨⟨rfl, by rw [Nat.zero_add, HPL.out.length_eq]; exact HN.out⟩⟩, ⟨by simp⟩, HG, HB, HPL, HRW⟩
          case round =>
            clear HG HB HPL HRW
            obtain ⟨a, bb, Qs, Rs, rfl, rfl, hbb, hlen, hQ, HG, HBK, HP, HR⟩ := hrel
            have HDN := Aside0.mk (show (Qs ++ Rs).flatten.length = N by rw [List.flatten_append, List.length_append]; have := hlen.out; omega)
            have haN : a ≤ N := by have := hlen.out; omega
            obtain ⟨na, hna⟩ : ∃ x : Nat, a + bs = x := ⟨_, rfl⟩
            have HNM := Aside0.mk hna
            have hw5 : IntKind.i64.wrap ((a : Int) + (bs : Int)) = (na : Int) := by rw [IntWalk.i64_in _ (by omega)]; omega
            have hnN : na ≤ 3 * N := by omega
            by_cases hlt3 : bb ≤ N
            · obtain ⟨X, Y, t, e1, l1, l2, l3, g1, g2⟩ := good_two HG.out (by have := hlen.out; have := hbb.out; have := HB2.out; omega)
              subst e1
              have l4 : Y.length = bs := by
                by_cases h : Y.length < bs
                · have := g2 h
                  subst this
                  exfalso
                  have e6 := hbb.out
                  have e7 := HB2.out
                  have e5 := hlen.out.2
                  simp only [List.flatten_cons, List.flatten_nil, List.length_append, List.length_nil] at e5
                  omega
                · omega
              have hltz3 : (bb : Int) ≤ (N : Int) := by omega
              have HGT := Aside0.mk g1
              have HSZ := Aside0.mk (show X.length + Y.length ≤ 2 * N by omega)
              have HEQ := Aside0.mk (show Qs.flatten ++ (X ++ (Y ++ t.flatten)) = (Qs ++ X :: Y :: t).flatten by simp)
              have HMM := Aside0.mk (show a + bs = a + X.length by omega)
              have HEE := Aside0.mk (show bb = (a + bs) + Y.length by have := hbb.out; have := HB2.out; omega)
              have HRG2 := Aside0.mk (show ∀ u ∈ X ++ Y, 1 ≤ u ∧ u ≤ (N : Int) from fun u hu => HRG.out u (HP.out.mem_iff.1 (by simp at hu ⊢; rcases hu with h | h <;> simp [h])))
              have HSX := Aside0.mk (show X.Pairwise (Lt ky) ∧ Y.Pairwise (Lt ky) ∧ (∀ u ∈ X, ∀ v ∈ Y, u < v) from by
                have hb := HBK.out
                obtain ⟨c1, c2, c3⟩ := List.pairwise_append.1 hb.cross
                exact ⟨hb.srt X (by simp), hb.srt Y (by simp), (List.pairwise_cons.1 c2).1 Y (by simp)⟩)
              have HPS := Aside0.mk (show 0 < X.length ∧ 0 < Y.length by omega)
              have HXY := Aside0.mk (show X.length = bs ∧ Y.length = bs from ⟨l1, l4⟩)
              have hbN : bb ≤ N := hlt3
              clear l1 l2 l3 l4 g1 g2 HG hna
              go_wp2_with (first | (go_at_call 61; refine (HSM.out a (a + bs) bb _ _ _ Qs.flatten X Y t.flatten _ _ (by omega) (by have := HNM.out; omega) (by omega) HR.out.gr HSZ.out HEQ.out HR.out.blk HDN.out hlen.out.1 HMM.out HEE.out HRG2.out HSX.out.1 HSX.out.2.1 HSX.out.2.2 HPS.out.1 HPS.out.2).mono ?_; rintro e w2 ⟨rfl, C, hr, hp, hs⟩; have HR2 := Aside0.mk (HR.out.then_ hr); have HCP := Aside0.mk hp; have HCS := Aside0.mk hs; clear HR hr hp hs))
              go_roundw
              case rel =>
                have hcl := HCP.out.length_eq
                have hm : C.Perm ([X, Y] : List (List Int)).flatten := by simpa using HCP.out
                have hb := Bks.group (Qs := Qs) (Ms := [X, Y]) (t := t) (by simpa using HBK.out) hm HCS.out
                have hpp : (Qs ++ C :: t).flatten.Perm L := group_perm (Qs := Qs) (Ms := [X, Y]) (t := t) (L := L) hm (by simpa using HP.out)
                have e2 := HXY.out
                have e3 := HB2.out
                rw [List.length_append] at hcl
                exact ⟨bb, bb + b2, Qs ++ [C], t, rfl, by push_cast; rfl, ⟨rfl⟩, ⟨by
                  have e5 := hlen.out
                  have e6 := hbb.out
                  simp only [List.flatten_cons, List.flatten_append, List.flatten_nil, List.length_append, List.length_nil] at e5 ⊢
                  omega⟩, ⟨fun Z hZ => by
                  rcases List.mem_append.1 hZ with h | h
                  · exact hQ.out Z h
                  · rw [List.mem_singleton.1 h]; omega⟩, HGT, ⟨by simpa using hb⟩, ⟨by simpa using hpp⟩, ⟨by have := HR2.out; simpa using this⟩⟩
              case measure => have := hbb.out; have := HB2.out; simp [intOf]; omega
            · have hltz3 : ¬ ((bb : Int) ≤ (N : Int)) := by omega
              have hna' := HNM.out
              have hbsN := hbs.out
              by_cases hm2 : na < N
              · obtain ⟨X, Y, t, e1, l1, l2, l3, g1, g2⟩ := good_two HG.out (by have := hlen.out; omega)
                subst e1
                have ht : t = [] := by
                  by_cases h : Y.length < bs
                  · exact g2 h
                  · exfalso
                    have e5 := hlen.out.2
                    have e6 := hbb.out
                    have e7 := HB2.out
                    simp only [List.flatten_cons, List.length_append] at e5
                    omega
                subst ht
                have hltzm : (na : Int) < (N : Int) := by omega
                have HSZ := Aside0.mk (show X.length + Y.length ≤ 2 * N by omega)
                have HEQ := Aside0.mk (show Qs.flatten ++ (X ++ (Y ++ ([] : List Int))) = (Qs ++ [X, Y]).flatten by simp)
                have HMM := Aside0.mk (show a + bs = a + X.length by omega)
                have HEE := Aside0.mk (show N = (a + bs) + Y.length by have e5 := hlen.out.2; simp only [List.flatten_cons, List.flatten_nil, List.length_append, List.length_nil] at e5; omega)
                have HRG2 := Aside0.mk (show ∀ u ∈ X ++ Y, 1 ≤ u ∧ u ≤ (N : Int) from fun u hu => HRG.out u (HP.out.mem_iff.1 (by simp at hu ⊢; rcases hu with h | h <;> simp [h])))
                have HSX := Aside0.mk (show X.Pairwise (Lt ky) ∧ Y.Pairwise (Lt ky) ∧ (∀ u ∈ X, ∀ v ∈ Y, u < v) from by
                  have hb := HBK.out
                  obtain ⟨c1, c2, c3⟩ := List.pairwise_append.1 hb.cross
                  exact ⟨hb.srt X (by simp), hb.srt Y (by simp), (List.pairwise_cons.1 c2).1 Y (by simp)⟩)
                have HPS := Aside0.mk (show 0 < X.length ∧ 0 < Y.length by omega)
                have HXY := Aside0.mk (show X.length = bs ∧ Y.length ≤ bs from ⟨l1, l3⟩)
                clear l1 l2 l3 g1 g2 HG hna hna' hbsN
                go_wp2_with (first | (go_at_call 61; refine (HSM.out a (a + bs) N _ _ _ Qs.flatten X Y [] _ _ (by omega) (by have := HNM.out; omega) (by omega) HR.out.gr HSZ.out HEQ.out HR.out.blk HDN.out hlen.out.1 HMM.out HEE.out HRG2.out HSX.out.1 HSX.out.2.1 HSX.out.2.2 HPS.out.1 HPS.out.2).mono ?_; rintro e w2 ⟨rfl, C, hr, hp, hs⟩; have HR2 := Aside0.mk (HR.out.then_ hr); have HCP := Aside0.mk hp; have HCS := Aside0.mk hs; clear HR hr hp hs))
                go_roundw
                case rel =>
                  have hcl := HCP.out.length_eq
                  have hm : C.Perm ([X, Y] : List (List Int)).flatten := by simpa using HCP.out
                  have hb := Bks.group (Qs := Qs) (Ms := [X, Y]) (t := []) (by simpa using HBK.out) hm HCS.out
                  have hpp : (Qs ++ [C]).flatten.Perm L := group_perm (Qs := Qs) (Ms := [X, Y]) (t := []) (L := L) hm (by simpa using HP.out)
                  have e2 := HXY.out
                  have e3 := HB2.out
                  have e4 := HPS.out
                  rw [List.length_append] at hcl
                  exact ⟨b2, Qs ++ [C], rfl, ⟨by omega⟩, ⟨good_snoc (by omega) (by omega) hQ.out⟩, ⟨hb⟩, ⟨hpp⟩, ⟨by have := HR2.out; simpa using this⟩⟩
                case measure => have := HB2.out; simp [intOf]; omega
              · have hltzm : ¬ ((na : Int) < (N : Int)) := by omega
                have HGS := Aside0.mk (good_small HG.out (by have := hlen.out; omega))
                have HG2 : Aside0 (Good b2 (Qs ++ Rs)) := ⟨by
                  rcases HGS.out with rfl | ⟨X, rfl⟩
                  · rw [List.append_nil]; exact good_full (by have := HB2.out; omega) hQ.out
                  · have h := HG.out
                    exact good_snoc h.1 (by have := h.2; have := HB2.out; omega) hQ.out⟩
                clear HG HGS hna hna' hbsN
                go_wp2
                go_roundw
                case rel => exact ⟨b2, Qs ++ Rs, rfl, ⟨by have := HB2.out; omega⟩, HG2, HBK, HP, HR⟩
                case measure => have := HB2.out; simp [intOf]; omega
        · have HSRT : Aside0 (Ls.flatten.Pairwise (Lt ky)) := ⟨by
            rcases good_small HG.out (by have := HPL.out.length_eq; have := HN.out; omega) with rfl | ⟨X, rfl⟩
            · simp
            · have := HB.out.srt X (by simp); simpa using this⟩
          have hltz2 : ¬ ((bs : Int) < (N : Int)) := by omega
          go_wp2
          go_end0
          exact ⟨rfl, _, HRW.out, HPL.out, HSRT.out⟩
theorem sortStable_in (gf : Nat) (lb : Array Value) (eg : ∀ args w, (callFunc gf args).run Try.prog w = .ok (.enter gf args) w) (cf : Int → Int → Int) (ky : Int → Int) (g N : Nat) (L : List Int) (w : World) (hc : CmpOk gf lb cf ky g N w)
    (h0 : w.heap[g]? = some (.cells (rowI L) 3 (0, 0))) (hN : L.length = N) (hN2 : N ≤ 1000000) (hr : ∀ x ∈ L, 1 ≤ x ∧ x ≤ (N : Int)) (hs : L.Pairwise (· < ·)) :
    Calls Try.prog 38 #[.slice (some ⟨g, 0, none⟩) N N, .func (.func gf) #[] lb] w fun e w' => e = .returned (.tuple #[]) ∧ ∃ C : List Int, Rw g w w' C ∧ C.Perm L ∧ C.Pairwise (Lt ky) := by
  have HC := Aside0.mk (stable_in gf lb eg cf ky g N L w hc h0 hN hN2 hr hs)
  clear hc h0 hN hr hs
  go_enter Try.func38, Try.ntmps38
  go_wp2_with (first | (go_at_call 50; refine HC.out.mono ?_; rintro e w2 ⟨rfl, hr⟩; have HR := Aside0.mk hr; clear hr))
  go_end0
  exact ⟨rfl, HR.out⟩
end Go.Proofs.Ytlomomhajmackaa.PA

-- By a program (prt.py, over the print of the kit), for this claim. Not trusted: Lean checks it.
namespace Go.Proofs.Ytlomomhajmackaa.PA
open Go.RowKit Go.Proofs.YtlomomhajmackaaW.PrintWords Go.Proofs.YtlomomhajmackaaW.PrintLast Go.Proofs.YtlomomhajmackaaW.PrintMore
attribute [local go_sem] max2_int min2_int max_two min_two max_three min_three max_four min_four   -- for this text's walks alone
set_option linter.unusedVariables false
set_option linter.unusedSimpArgs false

/-! ### impl_Array_rank: function 28 -/
def impl_Array_rank.f (a0_0 : Bool) (l0_1 : List Int) (l0_2 : List Int) : Option (Int) := some (l0_1.length : Int)
set_option maxHeartbeats 8000000 in
set_option maxRecDepth 100000 in
theorem impl_Array_rank.calls (a0_0 : Bool) (A0_1 : Option Addr) (c0_1 : Nat) (l0_1 : List Int) (A0_2 : Option Addr) (c0_2 : Nat) (l0_2 : List Int) (r : Int) (w : World) (hr0_1 : Kd.C (Kd.int .i64) w A0_1 l0_1.length l0_1) (hc0_1 : l0_1.length ≤ c0_1) (hr0_2 : Kd.C (Kd.int .i64) w A0_2 l0_2.length l0_2) (hc0_2 : l0_2.length ≤ c0_2) (h : impl_Array_rank.f a0_0 l0_1 l0_2 = some r) :
    Calls Try.prog 28 #[.agg #[.bool a0_0, .slice A0_1 l0_1.length c0_1, .slice A0_2 l0_2.length c0_2]] w fun e w' => e = .returned (.int .i64 r) ∧ Below w.heap.size w w' := by
  have hu26 := Try.underlying26
  have HR0_1 := Aside0.mk hr0_1
  have HC0_1 := Aside0.mk hc0_1
  clear hr0_1 hc0_1
  have HR0_2 := Aside0.mk hr0_2
  have HC0_2 := Aside0.mk hc0_2
  clear hr0_2 hc0_2
  have HB := Aside0.mk (Below.refl w.heap.size w)
  have H : (some (l0_1.length : Int)) = some r := h
  clear h
  obtain rfl := Option.some.inj H
  go_enter Try.func28, Try.ntmps28
  go_wp2_with (first | ((with_reducible refine gate_dst (N := 1) rfl ?_); refine box_event ?hg (N := 1) ?hd (cs := #[.bool a0_0, .slice A0_1 l0_1.length c0_1, .slice A0_2 l0_2.length c0_2]) (t := 26) ?hr ?_; (case hd => rfl); (case hg => rfl); (case hr => first | (go_simp; done) | (go_simp; rfl)); intro gb101 hg w2 hbox hb; have n0_ := Aside0.mk (below_step (by repeat (first | (with_reducible first | exact HB.out | apply below_alloc | apply pw_below_drewN | apply below_drew1) | exact HB.out)) hb); have n1_ := Aside0.mk (hbox); have n2_ := Aside0.mk ((by rw [hg]; exact (below_size (by repeat (first | (with_reducible first | exact HB.out | apply below_alloc | apply pw_below_drewN | apply below_drew1) | exact HB.out))) : w.heap.size ≤ gb101)); have n3_ := Aside0.mk ((by rw [hg]; exact (below_size (by repeat (first | (with_reducible first | exact HB.out | apply below_alloc | apply pw_below_drewN | apply below_drew1) | exact HB.out))) : w.heap.size ≤ gb101)); clear HB; have HB := n0_; have BK101 := n1_; have GW101 := n2_; have GE101 := n3_; clear n0_ n1_ n2_ n3_; clear hb hbox hg; have hcz3_0 : w2.cell? ⟨gb101, 0, none⟩ = some (.bool a0_0) := (blk_cell BK101.out 0).trans rfl; have hcz3_1 : w2.cell? ⟨gb101, 1, none⟩ = some (.slice A0_1 l0_1.length c0_1) := (blk_cell BK101.out 1).trans rfl; have hcz3_2 : w2.cell? ⟨gb101, 2, none⟩ = some (.slice A0_2 l0_2.length c0_2) := (blk_cell BK101.out 2).trans rfl; have hfz3_0 := blk_frozen BK101.out 0; have hfz3_1 := blk_frozen BK101.out 1; have hfz3_2 := blk_frozen BK101.out 2))
  go_ret
  exact ⟨by first | rfl | (simp [errW_none, errW_some] <;> rfl) | (simp [*, errW_none, errW_some] <;> rfl), by repeat (first | (with_reducible first | exact HB.out | apply below_alloc | apply pw_below_drewN | apply below_drew1 | refine below_set ?_ GE101.out) | exact HB.out)⟩

end Go.Proofs.Ytlomomhajmackaa.PA

namespace Go.Proofs.Ytlomomhajmackaa.PA
open Go.RowKit Go.Proofs.YtlomomhajmackaaW.PrintWords Go.Proofs.YtlomomhajmackaaW.PrintLast Go.Proofs.YtlomomhajmackaaW.PrintMore
set_option linter.unusedVariables false
set_option linter.unusedSimpArgs false
open Go.Shelf
theorem make_rowM (n : Nat) (hn : n ≤ 1000000) (w : World) : (Instr.makeSlice 22 (.int .i64 (n : Int)) (.int .i64 (n : Int))).run Try.prog w = .ok (.slice (some ⟨w.heap.size, 0, none⟩) n n) (w.alloc (.cells (rowI (List.replicate n 0)) 3)) := by
  obtain ⟨i, hi, hz⟩ := Option.map_eq_some_iff.1 info3
  simp only [Prod.mk.injEq] at hz
  have h := run_make (P := Try.prog) w 22 3 i (.int .i64 0) Try.underlying22 hi hz.1 .i64 .i64 (n : Int) (n : Int) (by omega) (by omega) (by rw [hz.2.2]; omega) (by omega)
  rw [h, hz.2.1]
  have e : madeCells (Value.int .i64 0).cells ((n : Int).toNat * 1) = rowI (List.replicate n 0) := by
    apply Array.ext
    · simp [madeCells, rowI]
    · intro j h1 h2
      simp [madeCells, rowI, Value.cells, Nat.mod_one]
  rw [e]; simp
theorem R_of_blkM {W : World} {g : Nat} {l : List Int} {B : Nat} (h : W.heap[g]? = some (.cells (rowI l) 3 (0, 0))) (hB : B ≤ g) (hm : l.length ≤ 1000000) : Kd.R (Kd.int .i64) 3 W B (fun _ => True) (.slice (some ⟨g, 0, none⟩) l.length l.length) l := by
  refine Kd.R_of_own ⟨by simp [encs], .inr ⟨g, l.length, rowI l, rfl, hB, h, Nat.le_refl _, by unfold maxLen; omega, by simp [rowI], ?_⟩⟩ (fun _ _ => trivial)
  simp only [rowI, encs, Nat.mul_one, List.toList_toArray]
  exact List.take_of_length_le (by simp)
/-- The state behind a call that turned one row alone. -/
theorem Sx.ofRw {w W W' : World} {Ts : List Th} (h : Sx w W Ts) (i : Nat) {g : Nat} {L C : List Int} (hi : Ts[i]? = some (.blk g (rowI L) 3)) (hr : Rw g W W' C) : Sx w W' (Ts.set i (.blk g (rowI C) 3)) :=
  h.repl i hi ⟨hr.blk, (h.get i hi).2⟩ (fun k hk hlt => hr.gr.block k hlt (fun e => hk (by injection e))) (fun k hk => .inl hk) (pw_below_grown h.below (some g) h.below.size hr.gr (fun k e => by cases e; exact (h.get i hi).2))
def kyG (l : List Int) (down : Bool) (p : Int) : Int := if down then -rd l (p - 1) else rd l (p - 1)
def cfG (l : List Int) (down : Bool) (x y : Int) : Int := if down then rd l (y - 1) - rd l (x - 1) else rd l (x - 1) - rd l (y - 1)
theorem cfG_less (l : List Int) (down : Bool) (x y : Int) : cfG l down x y < 0 ↔ kyG l down x < kyG l down y := by
  unfold cfG kyG; cases down <;> simp <;> omega
/-- The places of n elements. -/
def pls (n : Nat) : List Int := (List.range n).map fun (i : Nat) => (i : Int) + 1
theorem pls_len (n : Nat) : (pls n).length = n := by simp [pls]
theorem pls_succ (n : Nat) : pls (n + 1) = pls n ++ [(n : Int) + 1] := by simp [pls, List.range_succ]
theorem pls_mem {n : Nat} {x : Int} : x ∈ pls n ↔ 1 ≤ x ∧ x ≤ n := by
  simp only [pls, List.mem_map, List.mem_range]
  constructor
  · rintro ⟨i, hi, rfl⟩; omega
  · rintro ⟨h1, h2⟩; exact ⟨(x - 1).toNat, by omega, by omega⟩
theorem pls_sorted (n : Nat) : (pls n).Pairwise (· < ·) := by
  unfold pls
  rw [List.pairwise_map]
  exact List.pairwise_lt_range.imp fun h => by omega
set_option maxHeartbeats 2000000 in
set_option maxRecDepth 100000 in
theorem grade_fn (down a : Bool) (gD gK : Nat) (A1 : Option Addr) (n1 c1 : Nat) (A2 : Option Addr) (c2 : Nat) (l2 : List Int) (x y : Int) (W : World)
    (hD : W.heap[gD]? = some (.cells #[.bool down] 4 (0, 0))) (hK : W.heap[gK]? = some (.cells #[.bool a, .slice A1 n1 c1, .slice A2 l2.length c2] 26 (0, 0)))
    (h2 : Kd.C (Kd.int .i64) W A2 l2.length l2) (hr : ∀ u ∈ l2, -1000000000000000 ≤ u ∧ u ≤ 1000000000000000) (hn : l2.length ≤ 10000) (x1 : 1 ≤ x) (x2 : x ≤ l2.length) (y1 : 1 ≤ y) (y2 : y ≤ l2.length) :
    Calls Try.prog 39 #[.int .i64 x, .int .i64 y, .pointer (some ⟨gD, 0, none⟩), .pointer (some ⟨gK, 0, none⟩)] W fun e w' => e = .returned (.int .i64 (cfG l2 down x y)) ∧ ∃ q, w' = W.drewN q := by
  have d0 : W.cell? ⟨gD, 0, none⟩ = some (.bool down) := (blk_cell hD 0).trans rfl
  have k2 : W.cell? ⟨gK, 2, none⟩ = some (.slice A2 l2.length c2) := (blk_cell hK 2).trans rfl
  have hmem : ∀ i : Int, 0 ≤ i → i < l2.length → rd l2 i ∈ l2 := fun i h0 h1 => by
    have : i.toNat < l2.length := by omega
    simp only [rd, List.getD_eq_getElem?_getD, List.getElem?_eq_getElem this, Option.getD_some]; exact List.getElem_mem this
  have hx := hr _ (hmem (x - 1) (by omega) (by omega))
  have hy := hr _ (hmem (y - 1) (by omega) (by omega))
  obtain ⟨ad, rfl, c3⟩ := Kd.at_int h2 (x - 1) (by omega) (by omega)
  obtain ⟨ad', e', c4⟩ := Kd.at_int h2 (y - 1) (by omega) (by omega)
  cases e'
  obtain ⟨u, hu⟩ : ∃ u, rd l2 (x - 1) = u := ⟨_, rfl⟩
  obtain ⟨v, hv⟩ : ∃ v, rd l2 (y - 1) = v := ⟨_, rfl⟩
  obtain ⟨ix, hix⟩ : ∃ i : Nat, (x - 1).toNat = i := ⟨_, rfl⟩
  obtain ⟨iy, hiy⟩ : ∃ i : Nat, (y - 1).toNat = i := ⟨_, rfl⟩
  rw [hu, hix] at c3
  rw [hv, hiy] at c4
  rw [hu] at hx
  rw [hv] at hy
  have wx : IntKind.i64.wrap (x - 1) = (ix : Int) := by rw [IntWalk.i64_in _ (by omega)]; omega
  have wy : IntKind.i64.wrap (y - 1) = (iy : Int) := by rw [IntWalk.i64_in _ (by omega)]; omega
  have HCF : Aside0 (cfG l2 down x y = if down then v - u else u - v) := ⟨by unfold cfG; rw [hu, hv]⟩
  have px : (ix : Int) < (l2.length : Int) := by omega
  have py : (iy : Int) < (l2.length : Int) := by omega
  have px0 : 0 ≤ (ix : Int) := by omega
  have py0 : 0 ≤ (iy : Int) := by omega
  obtain ⟨x0, x0'⟩ := hx
  obtain ⟨y0, y0'⟩ := hy
  have w1 : IntKind.i64.wrap (u - v) = u - v := IntWalk.i64_in _ (by omega)
  have w2 : IntKind.i64.wrap (v - u) = v - u := IntWalk.i64_in _ (by omega)
  have hn' : l2.length ≤ 9223372036854775807 := by omega
  clear hD hK h2 hr hmem hu hv hix hiy
  cases down with
  | false =>
    go_enter Try.func39, Try.ntmps39
    go_wp2_with fail
    go_quiet (fail)
    go_wp2
    go_ret
    exact ⟨by rw [HCF.out]; rfl, _, rfl⟩
  | true =>
    go_enter Try.func39, Try.ntmps39
    go_wp2_with fail
    go_quiet (fail)
    go_wp2
    go_ret
    exact ⟨by rw [HCF.out]; rfl, _, rfl⟩
end Go.Proofs.Ytlomomhajmackaa.PA

namespace Go.Proofs.Ytlomomhajmackaa.PA
open Go.RowKit Go.Proofs.YtlomomhajmackaaW.PrintWords Go.Proofs.YtlomomhajmackaaW.PrintLast Go.Proofs.YtlomomhajmackaaW.PrintMore
set_option linter.unusedVariables false
set_option linter.unusedSimpArgs false
open Go.Shelf
section
variable {P : Program} {ops : Array Oper} {rest : List Oper} {o : Oper} {a : Act} {Q : Exit → Act → World → Prop}
theorem ev_store_rowM {W : World} (hgd : o.guard = none) (ty : TypeId) (x y : Operand) (ho : o.op = .store ty x y) (g j : Nat) (hx : a.eval x = .pointer (some ⟨g, j, none⟩)) (z : Int) (hy : a.eval y = .int .i64 z)
    (l : List Int) (hg : W.heap[g]? = some (.cells (rowI l) 3 (0, 0))) (hj : j < l.length) (hi : (P.info? ty).map (·.size) = some 1)
    (h : ∀ w1, w1.heap[g]? = some (.cells (rowI (l.set j z)) 3 (0, 0)) → But1 g W w1 → wpList P ops Q rest (a.put o.dst undef) w1) : wpList P ops Q (o :: rest) a W := by
  refine ev_store hgd ty x y ho g j hx (.int .i64 z) hy (rowI l) 3 hg (by simpa [rowI] using hj) rfl hi ?_
  intro w1 h1 h2
  rw [rowI_set] at h1
  exact h w1 h1 h2
end
set_option maxHeartbeats 2000000 in
set_option maxRecDepth 100000 in
theorem vec_any (A : Option Addr) (n : Nat) (w : World) :
    Calls Try.prog 40 #[.slice A n n] w fun e w' => ∃ g, e = .returned (.agg #[.bool false, .slice (some ⟨g, 0, none⟩) 1 1, .slice A n n]) ∧ w'.heap[g]? = some (.cells #[.int .i64 (n : Int)] 3 (0, 0)) ∧ w.heap.size ≤ g ∧ Below w.heap.size w w' := by
  have HS := Aside0.mk (Sx.start w)
  go_enter Try.func40, Try.ntmps40
  go_wp2_with (first | ((with_reducible refine gate_dst (N := 2) rfl ?_); refine box_event ?hg (N := 2) ?hd (cs := #[.bool false, .slice none 0 0, .slice none 0 0]) (t := 26) ?hr ?_; (case hd => rfl); (case hg => rfl); (case hr => first | (go_simp; done) | (go_simp; rfl)); intro gR hg1 w1 hx1 hb1; have nS : Aside0 (Sx w w1 [(.blk gR #[.bool false, .slice none 0 0, .slice none 0 0] 26)]) := Aside0.mk (HS.out.box hg1 hx1 hb1); clear HS; have HS := nS; clear nS hg1 hx1 hb1) | ((with_reducible refine gate_dst (N := 5) rfl ?_); refine lit_event ?hg (N := 5) ?hd (cs := #[.int .i64 (n : Int)]) (t := 3) (n := 1) ?hr ?_; (case hd => rfl); (case hg => rfl); (case hr => first | (go_simp; done) | (go_simp; rfl)); intro gO hg2 w2 hx2 hb2; have nS : Aside0 (Sx w w2 [(.blk gO #[.int .i64 (n : Int)] 3), (.blk gR #[.bool false, .slice none 0 0, .slice none 0 0] 26)]) := Aside0.mk (HS.out.box hg2 hx2 hb2); clear HS; have HS := nS; clear nS hg2 hx2 hb2) | ((with_reducible refine gate_store rfl ?_); refine store_named rfl 26 (.tmp 2) (.tmp 7) rfl gR #[.bool false, .slice (some ⟨gO, 0, none⟩) 1 1, .slice A n n] rfl rfl 26 #[.bool false, .slice none 0 0, .slice none 0 0] (HS.out.blk 1 rfl) (by kernel_rfl) rfl (by simp [Value.oneCell']) ?_; intro w3 hx3 hb3; have nS : Aside0 (Sx w w3 [(.blk gO #[.int .i64 (n : Int)] 3), (.blk gR #[.bool false, .slice (some ⟨gO, 0, none⟩) 1 1, .slice A n n] 26)]) := Aside0.mk (HS.out.put 1 rfl hx3 hb3); clear HS; have HS := nS; clear nS hx3 hb3))
  refine bodyPost_ret (results_cell_row rfl _ _ gR 26 #[.bool false, .slice (some ⟨gO, 0, none⟩) 1 1, .slice A n n] (0, 0) _ rfl (HS.out.blk 1 rfl) Try.underlying26 rfl (by kernel_rfl)) rfl ?_
  exact ⟨gO, rfl, HS.out.blk 0 rfl, (HS.out.get 0 rfl).2, HS.out.below⟩
set_option maxHeartbeats 2000000 in
set_option maxRecDepth 100000 in
theorem grade_no (k0 : Nat) (a : Bool) (Aa1 : Option Addr) (ca1 : Nat) (la1 : List Int) (Aa2 : Option Addr) (ca2 : Nat) (la2 : List Int) (d : Bool) (w : World) (ha1 : Kd.C (Kd.int .i64) w Aa1 la1.length la1) (ka1 : la1.length ≤ ca1) (ha2 : Kd.C (Kd.int .i64) w Aa2 la2.length la2) (ka2 : la2.length ≤ ca2) (v : Int) (hv : impl_valid.f k0 [⟨a, la1, la2⟩] = some v) (hv0 : v ≠ 0) :
    Calls Try.prog 17 #[.agg #[.bool a, .slice Aa1 la1.length ca1, .slice Aa2 la2.length ca2], .bool d] w fun e w' => ∃ v1_ v2_ : Value, e = .returned (.tuple #[.agg #[.bool false, v1_, v2_], .int .i64 v]) ∧ Kd.R (Kd.int .i64) 3 w' w.heap.size (fun k_ => some k_ ≠ (v2_ : Value).ownBlock) v1_ [] ∧ Kd.R (Kd.int .i64) 3 w' w.heap.size (fun k_ => some k_ ≠ (v1_ : Value).ownBlock) v2_ [] ∧ Below w.heap.size w w' := by
  have Ha1 := Aside0.mk ha1
  have Ka1 := Aside0.mk ka1
  clear ha1 ka1
  have Ha2 := Aside0.mk ha2
  have Ka2 := Aside0.mk ka2
  clear ha2 ka2
  have HV := Aside0.mk hv
  clear hv
  have c0 : (v == 0) = false := beq_eq_false_iff_ne.mpr hv0
  have c1 : (v != 0) = true := bne_iff_ne.mpr hv0
  clear hv0
  have HS := Aside0.mk (Sx.start w)
  go_enter Try.func17, Try.ntmps17
  go_wp2_with (first | ((with_reducible refine gate_dst (N := 2) rfl ?_); refine box_event ?hg (N := 2) ?hd (cs := #[.bool a, .slice Aa1 la1.length ca1, .slice Aa2 la2.length ca2]) (t := 26) ?hr ?_; (case hd => rfl); (case hg => rfl); (case hr => first | (go_simp; done) | (go_simp; rfl)); intro gK hg1 w1 hx1 hb1; have nS : Aside0 (Sx w w1 [(.blk gK #[.bool a, .slice Aa1 la1.length ca1, .slice Aa2 la2.length ca2] 26)]) := Aside0.mk (HS.out.box hg1 hx1 hb1); clear HS; have HS := nS; clear nS hg1 hx1 hb1) | ((with_reducible refine gate_dst (N := 3) rfl ?_); refine box_event ?hg (N := 3) ?hd (cs := #[.bool d]) (t := 4) ?hr ?_; (case hd => rfl); (case hg => rfl); (case hr => first | (go_simp; done) | (go_simp; rfl)); intro gD hg2 w2 hx2 hb2; have nS : Aside0 (Sx w w2 [(.blk gD #[.bool d] 4), (.blk gK #[.bool a, .slice Aa1 la1.length ca1, .slice Aa2 la2.length ca2] 26)]) := Aside0.mk (HS.out.box hg2 hx2 hb2); clear HS; have HS := nS; clear nS hg2 hx2 hb2) | ((with_reducible refine gate_dst (N := 4) rfl ?_); refine box_event ?hg (N := 4) ?hd (cs := #[.bool false, .slice none 0 0, .slice none 0 0]) (t := 26) ?hr ?_; (case hd => rfl); (case hg => rfl); (case hr => first | (go_simp; done) | (go_simp; rfl)); intro gR hg3 w3 hx3 hb3; have nS : Aside0 (Sx w w3 [(.blk gR #[.bool false, .slice none 0 0, .slice none 0 0] 26), (.blk gD #[.bool d] 4), (.blk gK #[.bool a, .slice Aa1 la1.length ca1, .slice Aa2 la2.length ca2] 26)]) := Aside0.mk (HS.out.box hg3 hx3 hb3); clear HS; have HS := nS; clear nS hg3 hx3 hb3) | ((with_reducible refine gate_dst (N := 9) rfl ?_); refine wpList_load_row rfl 26 (.tmp 2) rfl gK rfl 26 #[.bool a, .slice Aa1 la1.length ca1, .slice Aa2 la2.length ca2] (0, 0) _ (HS.out.blk 2 rfl) Try.underlying26 rfl (by kernel_rfl) ?_) | ((with_reducible refine gate_dst (N := 10) rfl ?_); refine lit_event ?hg (N := 10) ?hd (cs := #[.bool a, .slice Aa1 la1.length ca1, .slice Aa2 la2.length ca2]) (t := 26) (n := 1) ?hr ?_; (case hd => rfl); (case hg => rfl); (case hr => first | (go_simp; done) | (go_simp; rfl)); intro gV hg4 w4 hx4 hb4; have nS : Aside0 (Sx w w4 [(.blk gV #[.bool a, .slice Aa1 la1.length ca1, .slice Aa2 la2.length ca2] 26), (.blk gR #[.bool false, .slice none 0 0, .slice none 0 0] 26), (.blk gD #[.bool d] 4), (.blk gK #[.bool a, .slice Aa1 la1.length ca1, .slice Aa2 la2.length ca2] 26)]) := Aside0.mk (HS.out.box hg4 hx4 hb4); clear HS; have HS := nS; clear nS hg4 hx4 hb4) | (go_at_call 27; refine (impl_valid.calls k0 _ 1 [⟨a, la1, la2⟩] v _ (one_C (HS.out.blk 0 rfl) (Kd.C_below Ha1.out HS.out.below) Ka1.out (Kd.C_below Ha2.out HS.out.below) Ka2.out) (Nat.le_refl _) HV.out).mono ?_; rintro e w5 ⟨rfl, hb5⟩; have nS : Aside0 (Sx w w5 [(.blk gV #[.bool a, .slice Aa1 la1.length ca1, .slice Aa2 la2.length ca2] 26), (.blk gR #[.bool false, .slice none 0 0, .slice none 0 0] 26), (.blk gD #[.bool d] 4), (.blk gK #[.bool a, .slice Aa1 la1.length ca1, .slice Aa2 la2.length ca2] 26)]) := Aside0.mk (HS.out.step hb5); clear HS; have HS := nS; clear nS hb5) | ((with_reducible refine gate_store rfl ?_); refine store_named rfl 26 (.tmp 4) (.tmp 14) rfl gR #[.bool false, .slice none 0 0, .slice none 0 0] rfl rfl 26 #[.bool false, .slice none 0 0, .slice none 0 0] (HS.out.blk 1 rfl) (by kernel_rfl) rfl (by simp [Value.oneCell']) ?_; intro w6 hx6 hb6; have nS : Aside0 (Sx w w6 [(.blk gV #[.bool a, .slice Aa1 la1.length ca1, .slice Aa2 la2.length ca2] 26), (.blk gR #[.bool false, .slice none 0 0, .slice none 0 0] 26), (.blk gD #[.bool d] 4), (.blk gK #[.bool a, .slice Aa1 la1.length ca1, .slice Aa2 la2.length ca2] 26)]) := Aside0.mk (HS.out.put 1 rfl hx6 hb6); clear HS; have HS := nS; clear nS hx6 hb6))
  refine bodyPost_ret (results_ct rfl _ _ gR 26 #[.bool false, .slice none 0 0, .slice none 0 0] (0, 0) _ rfl (HS.out.blk 1 rfl) Try.underlying26 rfl (by kernel_rfl)) rfl ?_
  exact ⟨_, _, rfl, Kd.R_nil _ _ _ _ _, Kd.R_nil _ _ _ _ _, HS.out.below⟩
set_option maxHeartbeats 2000000 in
set_option maxRecDepth 100000 in
theorem grade_rank (k0 : Nat) (a : Bool) (Aa1 : Option Addr) (ca1 : Nat) (la1 : List Int) (Aa2 : Option Addr) (ca2 : Nat) (la2 : List Int) (d : Bool) (w : World) (ha1 : Kd.C (Kd.int .i64) w Aa1 la1.length la1) (ka1 : la1.length ≤ ca1) (ha2 : Kd.C (Kd.int .i64) w Aa2 la2.length la2) (ka2 : la2.length ≤ ca2) (hv : impl_valid.f k0 [⟨a, la1, la2⟩] = some 0) (hr : la1.length ≠ 1) :
    Calls Try.prog 17 #[.agg #[.bool a, .slice Aa1 la1.length ca1, .slice Aa2 la2.length ca2], .bool d] w fun e w' => ∃ v1_ v2_ : Value, e = .returned (.tuple #[.agg #[.bool false, v1_, v2_], .int .i64 4]) ∧ Kd.R (Kd.int .i64) 3 w' w.heap.size (fun k_ => some k_ ≠ (v2_ : Value).ownBlock) v1_ [] ∧ Kd.R (Kd.int .i64) 3 w' w.heap.size (fun k_ => some k_ ≠ (v1_ : Value).ownBlock) v2_ [] ∧ Below w.heap.size w w' := by
  have Ha1 := Aside0.mk ha1
  have Ka1 := Aside0.mk ka1
  clear ha1 ka1
  have Ha2 := Aside0.mk ha2
  have Ka2 := Aside0.mk ka2
  clear ha2 ka2
  have HV := Aside0.mk hv
  clear hv
  have c0 : ((la1.length : Int) == 1) = false := beq_eq_false_iff_ne.mpr (by omega)
  have c1 : ((la1.length : Int) != 1) = true := bne_iff_ne.mpr (by omega)
  clear hr
  have HS := Aside0.mk (Sx.start w)
  go_enter Try.func17, Try.ntmps17
  go_wp2_with (first | ((with_reducible refine gate_dst (N := 2) rfl ?_); refine box_event ?hg (N := 2) ?hd (cs := #[.bool a, .slice Aa1 la1.length ca1, .slice Aa2 la2.length ca2]) (t := 26) ?hr ?_; (case hd => rfl); (case hg => rfl); (case hr => first | (go_simp; done) | (go_simp; rfl)); intro gK hg1 w1 hx1 hb1; have nS : Aside0 (Sx w w1 [(.blk gK #[.bool a, .slice Aa1 la1.length ca1, .slice Aa2 la2.length ca2] 26)]) := Aside0.mk (HS.out.box hg1 hx1 hb1); clear HS; have HS := nS; clear nS hg1 hx1 hb1) | ((with_reducible refine gate_dst (N := 3) rfl ?_); refine box_event ?hg (N := 3) ?hd (cs := #[.bool d]) (t := 4) ?hr ?_; (case hd => rfl); (case hg => rfl); (case hr => first | (go_simp; done) | (go_simp; rfl)); intro gD hg2 w2 hx2 hb2; have nS : Aside0 (Sx w w2 [(.blk gD #[.bool d] 4), (.blk gK #[.bool a, .slice Aa1 la1.length ca1, .slice Aa2 la2.length ca2] 26)]) := Aside0.mk (HS.out.box hg2 hx2 hb2); clear HS; have HS := nS; clear nS hg2 hx2 hb2) | ((with_reducible refine gate_dst (N := 4) rfl ?_); refine box_event ?hg (N := 4) ?hd (cs := #[.bool false, .slice none 0 0, .slice none 0 0]) (t := 26) ?hr ?_; (case hd => rfl); (case hg => rfl); (case hr => first | (go_simp; done) | (go_simp; rfl)); intro gR hg3 w3 hx3 hb3; have nS : Aside0 (Sx w w3 [(.blk gR #[.bool false, .slice none 0 0, .slice none 0 0] 26), (.blk gD #[.bool d] 4), (.blk gK #[.bool a, .slice Aa1 la1.length ca1, .slice Aa2 la2.length ca2] 26)]) := Aside0.mk (HS.out.box hg3 hx3 hb3); clear HS; have HS := nS; clear nS hg3 hx3 hb3) | ((with_reducible refine gate_dst (N := 9) rfl ?_); refine wpList_load_row rfl 26 (.tmp 2) rfl gK rfl 26 #[.bool a, .slice Aa1 la1.length ca1, .slice Aa2 la2.length ca2] (0, 0) _ (HS.out.blk 2 rfl) Try.underlying26 rfl (by kernel_rfl) ?_) | ((with_reducible refine gate_dst (N := 10) rfl ?_); refine lit_event ?hg (N := 10) ?hd (cs := #[.bool a, .slice Aa1 la1.length ca1, .slice Aa2 la2.length ca2]) (t := 26) (n := 1) ?hr ?_; (case hd => rfl); (case hg => rfl); (case hr => first | (go_simp; done) | (go_simp; rfl)); intro gV hg4 w4 hx4 hb4; have nS : Aside0 (Sx w w4 [(.blk gV #[.bool a, .slice Aa1 la1.length ca1, .slice Aa2 la2.length ca2] 26), (.blk gR #[.bool false, .slice none 0 0, .slice none 0 0] 26), (.blk gD #[.bool d] 4), (.blk gK #[.bool a, .slice Aa1 la1.length ca1, .slice Aa2 la2.length ca2] 26)]) := Aside0.mk (HS.out.box hg4 hx4 hb4); clear HS; have HS := nS; clear nS hg4 hx4 hb4) | (go_at_call 27; refine (impl_valid.calls k0 _ 1 [⟨a, la1, la2⟩] 0 _ (one_C (HS.out.blk 0 rfl) (Kd.C_below Ha1.out HS.out.below) Ka1.out (Kd.C_below Ha2.out HS.out.below) Ka2.out) (Nat.le_refl _) HV.out).mono ?_; rintro e w5 ⟨rfl, hb5⟩; have nS : Aside0 (Sx w w5 [(.blk gV #[.bool a, .slice Aa1 la1.length ca1, .slice Aa2 la2.length ca2] 26), (.blk gR #[.bool false, .slice none 0 0, .slice none 0 0] 26), (.blk gD #[.bool d] 4), (.blk gK #[.bool a, .slice Aa1 la1.length ca1, .slice Aa2 la2.length ca2] 26)]) := Aside0.mk (HS.out.step hb5); clear HS; have HS := nS; clear nS hb5) | ((with_reducible refine gate_dst (N := 16) rfl ?_); refine wpList_load_row rfl 26 (.tmp 2) rfl gK rfl 26 #[.bool a, .slice Aa1 la1.length ca1, .slice Aa2 la2.length ca2] (0, 0) _ (HS.out.blk 3 rfl) Try.underlying26 rfl (by kernel_rfl) ?_) | (go_at_call 28; refine (impl_Array_rank.calls a Aa1 ca1 la1 Aa2 ca2 la2 (la1.length : Int) _ (Kd.C_below Ha1.out HS.out.below) Ka1.out (Kd.C_below Ha2.out HS.out.below) Ka2.out rfl).mono ?_; rintro e w6 ⟨rfl, hb6⟩; have nS : Aside0 (Sx w w6 [(.blk gV #[.bool a, .slice Aa1 la1.length ca1, .slice Aa2 la2.length ca2] 26), (.blk gR #[.bool false, .slice none 0 0, .slice none 0 0] 26), (.blk gD #[.bool d] 4), (.blk gK #[.bool a, .slice Aa1 la1.length ca1, .slice Aa2 la2.length ca2] 26)]) := Aside0.mk (HS.out.step hb6); clear HS; have HS := nS; clear nS hb6) | ((with_reducible refine gate_store rfl ?_); refine store_named rfl 26 (.tmp 4) (.tmp 19) rfl gR #[.bool false, .slice none 0 0, .slice none 0 0] rfl rfl 26 #[.bool false, .slice none 0 0, .slice none 0 0] (HS.out.blk 1 rfl) (by kernel_rfl) rfl (by simp [Value.oneCell']) ?_; intro w7 hx7 hb7; have nS : Aside0 (Sx w w7 [(.blk gV #[.bool a, .slice Aa1 la1.length ca1, .slice Aa2 la2.length ca2] 26), (.blk gR #[.bool false, .slice none 0 0, .slice none 0 0] 26), (.blk gD #[.bool d] 4), (.blk gK #[.bool a, .slice Aa1 la1.length ca1, .slice Aa2 la2.length ca2] 26)]) := Aside0.mk (HS.out.put 1 rfl hx7 hb7); clear HS; have HS := nS; clear nS hx7 hb7))
  refine bodyPost_ret (results_ct rfl _ _ gR 26 #[.bool false, .slice none 0 0, .slice none 0 0] (0, 0) _ rfl (HS.out.blk 1 rfl) Try.underlying26 rfl (by kernel_rfl)) rfl ?_
  exact ⟨_, _, rfl, Kd.R_nil _ _ _ _ _, Kd.R_nil _ _ _ _ _, HS.out.below⟩
theorem Sx.vecAdd {w W W' : World} {Ts : List Th} {g : Nat} {cs : Array Value} {t : TypeId} (h : Sx w W Ts) (hB : W'.heap[g]? = some (.cells cs t (0, 0))) (hg : W.heap.size ≤ g) (hb : Below W.heap.size W W') : Sx w W' (.blk g cs t :: Ts) := h.add hb ⟨hB, hg⟩
theorem Sx.apart {w W : World} {Ts : List Th} (h : Sx w W Ts) (i j : Nat) (hij : i < j) {g1 g2 : Nat} {c1 c2 : Array Value} {t1 t2 : TypeId} (hi : Ts[i]? = some (.blk g1 c1 t1)) (hj : Ts[j]? = some (.blk g2 c2 t2)) : g1 ≠ g2 := by
  intro e
  obtain ⟨h1, e1⟩ := List.getElem?_eq_some_iff.1 hi
  obtain ⟨h2, e2⟩ := List.getElem?_eq_some_iff.1 hj
  have := List.pairwise_iff_getElem.1 h.nod i j h1 h2 hij
  rw [e1, e2] at this
  exact this g1 rfl e
theorem cmp_ok (a d : Bool) (gD gK gP : Nat) (A1 : Option Addr) (n1 c1 : Nat) (A2 : Option Addr) (c2 : Nat) (l2 : List Int) (W : World)
    (hD : W.heap[gD]? = some (.cells #[.bool d] 4 (0, 0))) (hK : W.heap[gK]? = some (.cells #[.bool a, .slice A1 n1 c1, .slice A2 l2.length c2] 26 (0, 0))) (hDP : gD = gP → False) (hKP : gK = gP → False) (B : Nat) (hB : B ≤ gP) {w : World} (hb : Below B w W)
    (h2 : Kd.C (Kd.int .i64) w A2 l2.length l2) (hr : ∀ u ∈ l2, -1000000000000000 ≤ u ∧ u ≤ 1000000000000000) (hn : l2.length ≤ 10000) (hBs : B = w.heap.size := by rfl) :
    CmpOk 39 #[.pointer (some ⟨gD, 0, none⟩), .pointer (some ⟨gK, 0, none⟩)] (cfG l2 d) (kyG l2 d) gP l2.length W := by
  subst hBs
  have lt1 : ∀ {g : Nat} {c : Obj}, W.heap[g]? = some c → g < W.heap.size := fun h => (Array.getElem?_eq_some_iff.1 h).1
  refine ⟨fun W' x y hg x1 x2 y1 y2 => ?_, fun x y _ _ _ _ => cfG_less l2 d x y⟩
  have bD : W'.heap[gD]? = _ := (hg.block gD (lt1 hD) (fun e => hDP (by injection e))).trans hD
  have bK : W'.heap[gK]? = _ := (hg.block gK (lt1 hK) (fun e => hKP (by injection e))).trans hK
  have hbb := pw_below_grown hb (some gP) hb.size hg (fun k e => by cases e; exact hB)
  exact grade_fn d a gD gK A1 n1 c1 A2 c2 l2 x y W' bD bK (Kd.C_below h2 hbb) hr hn x1 x2 y1 y2
set_option maxHeartbeats 2000000 in
set_option maxRecDepth 100000 in
theorem grade_yes (k0 : Nat) (a : Bool) (Aa1 : Option Addr) (ca1 : Nat) (la1 : List Int) (Aa2 : Option Addr) (ca2 : Nat) (la2 : List Int) (d : Bool) (w : World) (ha1 : Kd.C (Kd.int .i64) w Aa1 la1.length la1) (ka1 : la1.length ≤ ca1) (ha2 : Kd.C (Kd.int .i64) w Aa2 la2.length la2) (ka2 : la2.length ≤ ca2) (hv : impl_valid.f k0 [⟨a, la1, la2⟩] = some 0) (hr : la1.length = 1) (hR2 : ∀ u ∈ la2, -1000000000000000 ≤ u ∧ u ≤ 1000000000000000) (hN2 : la2.length ≤ 10000) :
    Calls Try.prog 17 #[.agg #[.bool a, .slice Aa1 la1.length ca1, .slice Aa2 la2.length ca2], .bool d] w fun e w' => ∃ C : List Int, C.Perm (pls la2.length) ∧ C.Pairwise (Lt (kyG la2 d)) ∧ ∃ v1_ v2_ : Value, e = .returned (.tuple #[.agg #[.bool false, v1_, v2_], .int .i64 0]) ∧ Kd.R (Kd.int .i64) 3 w' w.heap.size (fun k_ => some k_ ≠ (v2_ : Value).ownBlock) v1_ [(la2.length : Int)] ∧ Kd.R (Kd.int .i64) 3 w' w.heap.size (fun k_ => some k_ ≠ (v1_ : Value).ownBlock) v2_ C ∧ Below w.heap.size w w' := by
  have Ha1 := Aside0.mk ha1
  have Ka1 := Aside0.mk ka1
  clear ha1 ka1
  have Ha2 := Aside0.mk ha2
  have Ka2 := Aside0.mk ka2
  clear ha2 ka2
  have HV := Aside0.mk hv
  clear hv
  have HR2 := Aside0.mk hR2
  have HN2 := Aside0.mk hN2
  have c0 : ((la1.length : Int) == 1) = true := beq_iff_eq.mpr (by omega)
  have c1 : ((la1.length : Int) != 1) = false := by rw [bne, c0]; rfl
  clear hr hR2 hN2
  have hmk := make_rowM la2.length (by have := HN2.out; omega)
  have HS := Aside0.mk (Sx.start w)
  go_enter Try.func17, Try.ntmps17
  go_wp2_with (first | ((with_reducible refine gate_dst (N := 2) rfl ?_); refine box_event ?hg (N := 2) ?hd (cs := #[.bool a, .slice Aa1 la1.length ca1, .slice Aa2 la2.length ca2]) (t := 26) ?hr ?_; (case hd => rfl); (case hg => rfl); (case hr => first | (go_simp; done) | (go_simp; rfl)); intro gK hg1 w1 hx1 hb1; have nS : Aside0 (Sx w w1 [(.blk gK #[.bool a, .slice Aa1 la1.length ca1, .slice Aa2 la2.length ca2] 26)]) := Aside0.mk (HS.out.box hg1 hx1 hb1); clear HS; have HS := nS; clear nS hg1 hx1 hb1) | ((with_reducible refine gate_dst (N := 3) rfl ?_); refine box_event ?hg (N := 3) ?hd (cs := #[.bool d]) (t := 4) ?hr ?_; (case hd => rfl); (case hg => rfl); (case hr => first | (go_simp; done) | (go_simp; rfl)); intro gD hg2 w2 hx2 hb2; have nS : Aside0 (Sx w w2 [(.blk gD #[.bool d] 4), (.blk gK #[.bool a, .slice Aa1 la1.length ca1, .slice Aa2 la2.length ca2] 26)]) := Aside0.mk (HS.out.box hg2 hx2 hb2); clear HS; have HS := nS; clear nS hg2 hx2 hb2) | ((with_reducible refine gate_dst (N := 4) rfl ?_); refine box_event ?hg (N := 4) ?hd (cs := #[.bool false, .slice none 0 0, .slice none 0 0]) (t := 26) ?hr ?_; (case hd => rfl); (case hg => rfl); (case hr => first | (go_simp; done) | (go_simp; rfl)); intro gR hg3 w3 hx3 hb3; have nS : Aside0 (Sx w w3 [(.blk gR #[.bool false, .slice none 0 0, .slice none 0 0] 26), (.blk gD #[.bool d] 4), (.blk gK #[.bool a, .slice Aa1 la1.length ca1, .slice Aa2 la2.length ca2] 26)]) := Aside0.mk (HS.out.box hg3 hx3 hb3); clear HS; have HS := nS; clear nS hg3 hx3 hb3) | ((with_reducible refine gate_dst (N := 9) rfl ?_); refine wpList_load_row rfl 26 (.tmp 2) rfl gK rfl 26 #[.bool a, .slice Aa1 la1.length ca1, .slice Aa2 la2.length ca2] (0, 0) _ (HS.out.blk 2 rfl) Try.underlying26 rfl (by kernel_rfl) ?_) | ((with_reducible refine gate_dst (N := 10) rfl ?_); refine lit_event ?hg (N := 10) ?hd (cs := #[.bool a, .slice Aa1 la1.length ca1, .slice Aa2 la2.length ca2]) (t := 26) (n := 1) ?hr ?_; (case hd => rfl); (case hg => rfl); (case hr => first | (go_simp; done) | (go_simp; rfl)); intro gV hg4 w4 hx4 hb4; have nS : Aside0 (Sx w w4 [(.blk gV #[.bool a, .slice Aa1 la1.length ca1, .slice Aa2 la2.length ca2] 26), (.blk gR #[.bool false, .slice none 0 0, .slice none 0 0] 26), (.blk gD #[.bool d] 4), (.blk gK #[.bool a, .slice Aa1 la1.length ca1, .slice Aa2 la2.length ca2] 26)]) := Aside0.mk (HS.out.box hg4 hx4 hb4); clear HS; have HS := nS; clear nS hg4 hx4 hb4) | (go_at_call 27; refine (impl_valid.calls k0 _ 1 [⟨a, la1, la2⟩] 0 _ (one_C (HS.out.blk 0 rfl) (Kd.C_below Ha1.out HS.out.below) Ka1.out (Kd.C_below Ha2.out HS.out.below) Ka2.out) (Nat.le_refl _) HV.out).mono ?_; rintro e w5 ⟨rfl, hb5⟩; have nS : Aside0 (Sx w w5 [(.blk gV #[.bool a, .slice Aa1 la1.length ca1, .slice Aa2 la2.length ca2] 26), (.blk gR #[.bool false, .slice none 0 0, .slice none 0 0] 26), (.blk gD #[.bool d] 4), (.blk gK #[.bool a, .slice Aa1 la1.length ca1, .slice Aa2 la2.length ca2] 26)]) := Aside0.mk (HS.out.step hb5); clear HS; have HS := nS; clear nS hb5) | ((with_reducible refine gate_dst (N := 16) rfl ?_); refine wpList_load_row rfl 26 (.tmp 2) rfl gK rfl 26 #[.bool a, .slice Aa1 la1.length ca1, .slice Aa2 la2.length ca2] (0, 0) _ (HS.out.blk 3 rfl) Try.underlying26 rfl (by kernel_rfl) ?_) | (go_at_call 28; refine (impl_Array_rank.calls a Aa1 ca1 la1 Aa2 ca2 la2 (la1.length : Int) _ (Kd.C_below Ha1.out HS.out.below) Ka1.out (Kd.C_below Ha2.out HS.out.below) Ka2.out rfl).mono ?_; rintro e w6 ⟨rfl, hb6⟩; have nS : Aside0 (Sx w w6 [(.blk gV #[.bool a, .slice Aa1 la1.length ca1, .slice Aa2 la2.length ca2] 26), (.blk gR #[.bool false, .slice none 0 0, .slice none 0 0] 26), (.blk gD #[.bool d] 4), (.blk gK #[.bool a, .slice Aa1 la1.length ca1, .slice Aa2 la2.length ca2] 26)]) := Aside0.mk (HS.out.step hb6); clear HS; have HS := nS; clear nS hb6) | ((with_reducible refine gate_dst (N := 21) rfl ?_); refine ev_load rfl 22 (.tmp 20) rfl ⟨gK, 2, none⟩ rfl (.slice Aa2 la2.length ca2) ((blk_cell (HS.out.blk 3 rfl) 2).trans rfl) (by kernel_rfl) ?_) | ((with_reducible refine gate_dst (N := 23) rfl ?_); refine lit_event ?hg (N := 23) ?hd (cs := (rowI (List.replicate la2.length 0))) (t := 3) (n := la2.length) ?hr ?_; (case hd => rfl); (case hg => rfl); (case hr => first | (go_simp; done) | (go_simp; rfl)); intro gP hg7 w7 hx7 hb7; have nS : Aside0 (Sx w w7 [(.blk gP (rowI (List.replicate la2.length 0)) 3), (.blk gV #[.bool a, .slice Aa1 la1.length ca1, .slice Aa2 la2.length ca2] 26), (.blk gR #[.bool false, .slice none 0 0, .slice none 0 0] 26), (.blk gD #[.bool d] 4), (.blk gK #[.bool a, .slice Aa1 la1.length ca1, .slice Aa2 la2.length ca2] 26)]) := Aside0.mk (HS.out.box hg7 hx7 hb7); clear HS; have HS := nS; clear nS hg7 hx7 hb7))
  have HS0 : Aside0 (Sx w _ [(.blk gP (rowI (pls 0 ++ List.replicate (la2.length - 0) 0)) 3), (.blk gV #[.bool a, .slice Aa1 la1.length ca1, .slice Aa2 la2.length ca2] 26), (.blk gR #[.bool false, .slice none 0 0, .slice none 0 0] 26), (.blk gD #[.bool d] 4), (.blk gK #[.bool a, .slice Aa1 la1.length ca1, .slice Aa2 la2.length ca2] 26)]) := Aside0.mk (by have := HS.out; exact this)
  clear HS
  go_loopw [8, 26] (fun _ z wr => ∃ j : Nat, z = .int .i64 (j : Int) ∧ Aside0 (j ≤ la2.length) ∧ Aside0 (Sx w wr [(.blk gP (rowI (pls j ++ List.replicate (la2.length - j) 0)) 3), (.blk gV #[.bool a, .slice Aa1 la1.length ca1, .slice Aa2 la2.length ca2] 26), (.blk gR #[.bool false, .slice none 0 0, .slice none 0 0] 26), (.blk gD #[.bool d] 4), (.blk gK #[.bool a, .slice Aa1 la1.length ca1, .slice Aa2 la2.length ca2] 26)])) (fun _ z _ => la2.length - (intOf z).toNat)
  case atStart => exact ⟨0, rfl, ⟨Nat.zero_le _⟩, HS0⟩
  case round =>
    clear HS0
    obtain ⟨j, rfl, hj, HS⟩ := hrel
    by_cases hlt : j < la2.length
    · have wj : IntKind.i64.wrap ((j : Int) + 1) = (j : Int) + 1 := IntWalk.i64_in _ (by have := HN2.out; omega)
      have p0 : 0 ≤ (j : Int) := by omega
      have p1 : (j : Int) < (la2.length : Int) := by omega
      have HL := Aside0.mk (show j < (pls j ++ List.replicate (la2.length - j) 0).length from by rw [List.length_append, pls_len, List.length_replicate]; omega)
      have HNX := Aside0.mk (show (pls j ++ List.replicate (la2.length - j) (0 : Int)).set j ((j : Int) + 1) = pls (j + 1) ++ List.replicate (la2.length - (j + 1)) 0 from by
        rw [show List.replicate (la2.length - j) (0 : Int) = 0 :: List.replicate (la2.length - (j + 1)) 0 by rw [show la2.length - j = (la2.length - (j + 1)) + 1 by omega, List.replicate_succ], List.set_append_right _ _ (by rw [pls_len]; omega), pls_len, Nat.sub_self, List.set_cons_zero, pls_succ, List.append_assoc]; rfl)
      go_wp2_with ((with_reducible refine gate_store rfl ?_); refine ev_store_rowM rfl 3 (.tmp 33) (.tmp 32) rfl gP j rfl ((j : Int) + 1) rfl (pls j ++ List.replicate (la2.length - j) 0) (HS.out.blk 0 rfl) HL.out (by kernel_rfl) ?_; intro wz hxz hbz; rw [HNX.out] at hxz; have nS : Aside0 (Sx w wz [(.blk gP (rowI (pls (j + 1) ++ List.replicate (la2.length - (j + 1)) 0)) 3), (.blk gV #[.bool a, .slice Aa1 la1.length ca1, .slice Aa2 la2.length ca2] 26), (.blk gR #[.bool false, .slice none 0 0, .slice none 0 0] 26), (.blk gD #[.bool d] 4), (.blk gK #[.bool a, .slice Aa1 la1.length ca1, .slice Aa2 la2.length ca2] 26)]) := Aside0.mk (HS.out.put 0 rfl hxz hbz); clear HS; have HS := nS; clear nS hxz hbz)
      go_roundw
      case rel => exact ⟨j + 1, by push_cast; rfl, ⟨hlt⟩, HS⟩
      case measure => simp [intOf]; omega
    · obtain rfl : j = la2.length := by have := hj.out; omega
      have nS : Aside0 (Sx w wr [(.blk gP (rowI (pls la2.length)) 3), (.blk gV #[.bool a, .slice Aa1 la1.length ca1, .slice Aa2 la2.length ca2] 26), (.blk gR #[.bool false, .slice none 0 0, .slice none 0 0] 26), (.blk gD #[.bool d] 4), (.blk gK #[.bool a, .slice Aa1 la1.length ca1, .slice Aa2 la2.length ca2] 26)]) := Aside0.mk (by have := HS.out; rw [Nat.sub_self, List.replicate_zero, List.append_nil] at this; exact this)
      clear HS; have HS := nS; clear nS
      go_wp2_with (first | (go_at_call 38; refine (sortStable_in 39 #[.pointer (some ⟨gD, 0, none⟩), .pointer (some ⟨gK, 0, none⟩)] (enters_of Try.func39 (by kernel_rfl) rfl) (cfG la2 d) (kyG la2 d) gP la2.length (pls la2.length) _ (cmp_ok a d gD gK gP Aa1 la1.length ca1 Aa2 ca2 la2 _ (HS.out.blk 3 rfl) (HS.out.blk 4 rfl) (fun e => by subst e; have h1 := HS.out.blk 3 rfl; have h2 := HS.out.blk 0 rfl; rw [h1] at h2; simp at h2) (fun e => by subst e; have h1 := HS.out.blk 4 rfl; have h2 := HS.out.blk 0 rfl; rw [h1] at h2; simp at h2) w.heap.size (HS.out.get 0 rfl).2 HS.out.below Ha2.out HR2.out HN2.out) (HS.out.blk 0 rfl) (pls_len _) (by have := HN2.out; omega) (fun x hx => pls_mem.1 hx) (pls_sorted _)).mono ?_; rintro e w8 ⟨rfl, C, hrw, hpm, hst⟩; have HPM := Aside0.mk hpm; have HST := Aside0.mk hst; have nS : Aside0 (Sx w w8 [(.blk gP (rowI C) 3), (.blk gV #[.bool a, .slice Aa1 la1.length ca1, .slice Aa2 la2.length ca2] 26), (.blk gR #[.bool false, .slice none 0 0, .slice none 0 0] 26), (.blk gD #[.bool d] 4), (.blk gK #[.bool a, .slice Aa1 la1.length ca1, .slice Aa2 la2.length ca2] 26)]) := Aside0.mk (HS.out.ofRw 0 rfl hrw); clear HS; have HS := nS; clear nS hrw hpm hst) | (go_at_call 40; refine (vec_any (some ⟨gP, 0, none⟩) la2.length _).mono ?_; rintro e w9 ⟨gO, rfl, hc9, hg9, hb9⟩; have nS : Aside0 (Sx w w9 [(.blk gO #[.int .i64 (la2.length : Int)] 3), (.blk gP (rowI C) 3), (.blk gV #[.bool a, .slice Aa1 la1.length ca1, .slice Aa2 la2.length ca2] 26), (.blk gR #[.bool false, .slice none 0 0, .slice none 0 0] 26), (.blk gD #[.bool d] 4), (.blk gK #[.bool a, .slice Aa1 la1.length ca1, .slice Aa2 la2.length ca2] 26)]) := Aside0.mk (HS.out.vecAdd hc9 hg9 hb9); clear HS; have HS := nS; clear nS hb9 hc9 hg9) | ((with_reducible refine gate_store rfl ?_); refine store_named rfl 26 (.tmp 4) (.tmp 39) rfl gR #[.bool false, .slice (some ⟨gO, 0, none⟩) 1 1, .slice (some ⟨gP, 0, none⟩) la2.length la2.length] rfl rfl 26 #[.bool false, .slice none 0 0, .slice none 0 0] (HS.out.blk 3 rfl) (by kernel_rfl) rfl (by simp [Value.oneCell']) ?_; intro w10 hx10 hb10; have nS : Aside0 (Sx w w10 [(.blk gO #[.int .i64 (la2.length : Int)] 3), (.blk gP (rowI C) 3), (.blk gV #[.bool a, .slice Aa1 la1.length ca1, .slice Aa2 la2.length ca2] 26), (.blk gR #[.bool false, .slice (some ⟨gO, 0, none⟩) 1 1, .slice (some ⟨gP, 0, none⟩) la2.length la2.length] 26), (.blk gD #[.bool d] 4), (.blk gK #[.bool a, .slice Aa1 la1.length ca1, .slice Aa2 la2.length ca2] 26)]) := Aside0.mk (HS.out.put 3 rfl hx10 hb10); clear HS; have HS := nS; clear nS hx10 hb10))
      refine bodyPost_ret (results_ct rfl _ _ gR 26 #[.bool false, .slice (some ⟨gO, 0, none⟩) 1 1, .slice (some ⟨gP, 0, none⟩) la2.length la2.length] (0, 0) _ rfl (HS.out.blk 3 rfl) Try.underlying26 rfl (by kernel_rfl)) rfl ?_
      have hCl : C.length = la2.length := by rw [HPM.out.length_eq, pls_len]
      have hne : gO ≠ gP := fun e => by subst e; exact (HS.out.apart 0 1 (by decide) rfl rfl) rfl
      have hO := R_of_blkM (l := [(la2.length : Int)]) (HS.out.blk 0 rfl) (HS.out.get 0 rfl).2 (by simp)
      have hP := R_of_blkM (HS.out.blk 1 rfl) (HS.out.get 1 rfl).2 (by rw [hCl]; have := HN2.out; omega)
      rw [hCl] at hP
      refine ⟨C, HPM.out, HST.out, _, _, rfl, Kd.R_reok rfl hO fun k hk e => ?_, Kd.R_reok rfl hP fun k hk e => ?_, HS.out.below⟩
      · have h1 : gO = k := by simpa [Value.ownBlock] using hk
        have h2 : k = gP := by simpa [Value.ownBlock] using e
        exact hne (h1.trans h2)
      · have h1 : gP = k := by simpa [Value.ownBlock] using hk
        have h2 : k = gO := by simpa [Value.ownBlock] using e
        exact hne (h1.trans h2).symm
end Go.Proofs.Ytlomomhajmackaa.PA
