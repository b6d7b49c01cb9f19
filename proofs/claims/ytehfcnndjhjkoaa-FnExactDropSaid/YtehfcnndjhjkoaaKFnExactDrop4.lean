import Derived.Test.YtehfcnndjhjkoaaKFnExactDrop3
import Derived.Deep.RegionHeld3
import Derived.IntWalk
import Derived.StillTailTactics

-- By a program (prt.py, over the print of the kit), for this claim. Not trusted: Lean checks it.
namespace Go.Proofs.Ytehfcnndjhjkoaa.PA
open Go.RowKit Go.Proofs.YtehfcnndjhjkoaaW.PrintWords Go.Proofs.YtehfcnndjhjkoaaW.PrintLast Go.Proofs.YtehfcnndjhjkoaaW.PrintMore
attribute [local go_sem] max2_int min2_int max_two min_two max_three min_three max_four min_four   -- for this text's walks alone
set_option linter.unusedVariables false
set_option linter.unusedSimpArgs false

/-! ### impl_absolute: function 129 -/
def impl_absolute.f (a0 : Int) : Option (Int) := some (mx a0 (wrap64 (-a0)))
set_option maxHeartbeats 8000000 in
set_option maxRecDepth 100000 in
theorem impl_absolute.calls (a0 : Int) (r : Int) (w : World) (h : impl_absolute.f a0 = some r) :
    Calls Try.prog 129 #[.int .i64 a0] w fun e w' => e = .returned (.int .i64 r) ∧ Below w.heap.size w w' := by
  have HB := Aside0.mk (Below.refl w.heap.size w)
  have H : (some (mx a0 (wrap64 (-a0)))) = some r := h
  clear h
  obtain ⟨ji2, hji2⟩ : ∃ j_ : Int, (mx a0 (wrap64 (-a0))) = j_ := ⟨_, rfl⟩
  replace H : (some ji2) = some r := by first | (rw [hji2] at H; exact H) | (simp only [hji2] at H ⊢; exact H)
  have hji2_ : (if a0 < (wrap64 (-a0)) then (wrap64 (-a0)) else a0) = ji2 := hji2
  obtain rfl := Option.some.inj H
  go_enter Try.func129, Try.ntmps129
  go_wp2
  go_ret
  exact ⟨by first | rfl | (simp [errW_none, errW_some] <;> rfl) | (simp only [← hji2]; first | rfl | (simp [errW_none, errW_some] <;> rfl)) | (simp [*, errW_none, errW_some] <;> rfl), by repeat (first | (with_reducible first | exact HB.out | apply below_alloc | apply pw_below_drewN | apply below_drew1) | exact HB.out)⟩

end Go.Proofs.Ytehfcnndjhjkoaa.PA

namespace Go.Proofs.Ytehfcnndjhjkoaa.PA
open Go.RowKit Go.Proofs.YtehfcnndjhjkoaaW.PrintWords Go.Proofs.YtehfcnndjhjkoaaW.PrintLast Go.Proofs.YtehfcnndjhjkoaaW.PrintMore
set_option linter.unusedVariables false
set_option linter.unusedSimpArgs false
/-- Where a part begins along each axis. -/
def stTake (s k : List Int) : List Int := (List.range k.length).map fun (i : Nat) => if rd k (i : Int) < 0 then rd s (i : Int) + rd k (i : Int) else 0
theorem rd_mem' (l : List Int) (i : Nat) (h : i < l.length) : rd l (i : Int) ∈ l := by
  simp only [rd, Int.toNat_natCast, List.getD_eq_getElem?_getD, List.getElem?_eq_getElem h, Option.getD_some]; exact List.getElem_mem h
theorem rd_range (f : Nat → Int) (n i : Nat) (h : i < n) : rd ((List.range n).map f) (i : Int) = f i := by
  simp [rd, List.getD_eq_getElem?_getD, h]
section
variable {P : Program} {ops : Array Oper} {rest : List Oper} {o : Oper} {a : Act} {Q : Exit → Act → World → Prop}
end
def absL (k : List Int) : List Int := k.map fun (n : Int) => if n < 0 then -n else n
theorem abs_eq (n : Int) (h0 : -1000000000000000 ≤ n) (h1 : n ≤ 1000000000000000) : impl_absolute.f n = some (if n < 0 then -n else n) := by
  unfold impl_absolute.f mx
  rw [w64 (by omega) (by omega)]
  congr 1
  split <;> split <;> omega
theorem take_snocI (p : List Int) (j : Nat) (h : j < p.length) : p.take (j + 1) = p.take j ++ [rd p (j : Int)] := by
  rw [List.take_succ_eq_append_getElem h]; simp [rd, List.getD_eq_getElem?_getD, h]
/-- The list of a loop that fills a row, a number further. -/
theorem fill_next (q : List Int) (x : Int) (N j : Nat) (hq : q.length = j) (hj : j < N) : (q ++ List.replicate (N - j) (0 : Int)).set j x = (q ++ [x]) ++ List.replicate (N - (j + 1)) 0 := by
  rw [show List.replicate (N - j) (0 : Int) = 0 :: List.replicate (N - (j + 1)) 0 by rw [show N - j = (N - (j + 1)) + 1 by omega, List.replicate_succ]]
  rw [set_last q _ 0 x j hq]; simp
end Go.Proofs.Ytehfcnndjhjkoaa.PA

namespace Go.Proofs.Ytehfcnndjhjkoaa.PA
open Go.RowKit Go.Proofs.YtehfcnndjhjkoaaW.PrintWords Go.Proofs.YtehfcnndjhjkoaaW.PrintLast Go.Proofs.YtehfcnndjhjkoaaW.PrintMore
set_option linter.unusedVariables false
set_option linter.unusedSimpArgs false
theorem l5Window_n (kc n : Nat) (a : Bool) (A1 : Option Addr) (c1 : Nat) (l1 : List Int) (A2 : Option Addr) (c2 : Nat) (l2 : List Int) (At : Option Addr) (ct : Nat) (lt : List Int) (As : Option Addr) (cs : Nat) (ls : List Int) (w : World)
    (h1 : Kd.C (Kd.int .i64) w A1 l1.length l1) (k1 : l1.length ≤ c1) (h2 : Kd.C (Kd.int .i64) w A2 l2.length l2) (k2 : l2.length ≤ c2) (ht : Kd.C (Kd.int .i64) w At lt.length lt) (kt : lt.length ≤ ct) (hs : Kd.C (Kd.int .i64) w As ls.length ls) (ks : ls.length ≤ cs)
    (hl1 : l1.length = n) (hlt : lt.length = n) (hls : ls.length = n) (h5 : n ≤ 5) (hso : shOk ls = true) (hcn : spec_l3Count.f kc ls = some (prod ls)) (hr1 : ∀ x ∈ l1, 0 ≤ x ∧ x ≤ 10000) (hrt : ∀ x ∈ lt, -1000000000000000 ≤ x ∧ x ≤ 1000000000000000) (hp1 : prod l1 = l2.length) (hn2 : l2.length ≤ 10000) :
    Calls Try.prog 97 #[.agg #[.bool a, .slice A1 l1.length c1, .slice A2 l2.length c2], .slice At n ct, .slice As n cs] w fun e w' => ∃ v, e = .returned (.agg #[.bool a, .slice As n cs, v]) ∧ Kd.R (Kd.int .i64) 3 w' w.heap.size (fun _ => True) v (winL a l1 l2 ls lt (prod ls).toNat) ∧ Below w.heap.size w w' := by
  subst hls
  have := l5Window_in kc a A1 c1 l1 A2 c2 l2 At ct lt As cs ls w h1 k1 h2 k2 ht kt hs ks hl1 hlt h5 hso hcn hr1 hrt hp1 hn2
  rw [hlt] at this
  exact this
theorem Sx.atM {w W : World} {Ts : List Th} (h : Sx w W Ts) {g n c : Nat} {xs : List Int} (hm : Th.row (.slice (some ⟨g, 0, none⟩) n c) xs ∈ Ts) (j : Nat) (hj : j < xs.length) : W.cell? ⟨g, j, none⟩ = some (.int .i64 (rd xs (j : Int))) := by
  have hr : Kd.R (Kd.int .i64) 3 W w.heap.size (fun _ => True) (.slice (some ⟨g, 0, none⟩) n c) xs := h.ok _ hm
  obtain ⟨rfl, _, _⟩ := Kd.R_reads' hr
  have := Kd.R_cell (0 : Int) (enc := Value.int .i64) hr (j : Int) (by omega) (by omega)
  rw [Int.toNat_natCast] at this
  exact this.1
end Go.Proofs.Ytehfcnndjhjkoaa.PA

namespace Go.Proofs.Ytehfcnndjhjkoaa.PA
open Go.RowKit Go.Shelf Go.Proofs.YtehfcnndjhjkoaaW.PrintWords Go.Proofs.YtehfcnndjhjkoaaW.PrintLast Go.Proofs.YtehfcnndjhjkoaaW.PrintMore
attribute [local go_sem] Oper.semAt_some
set_option linter.unusedVariables false
set_option linter.unusedSimpArgs false
set_option maxRecDepth 100000 in
set_option maxHeartbeats 4000000 in
theorem axisP_in (b : Bool) (A1 : Option Addr) (c1 : Nat) (l1 : List Int) (A2 : Option Addr) (c2 : Nat) (l2 : List Int) (As : Option Addr) (cs : Nat) (s : List Int) (g : Nat) (lb : Array Value) (f : Nat → Int → Int) (eg : ∀ args w, (callFunc g args).run Try.prog w = .ok (.enter g args) w) (w : World)
    (h1 : Kd.C (Kd.int .i64) w A1 l1.length l1) (k1 : l1.length ≤ c1) (hs : Kd.C (Kd.int .i64) w As s.length s) (ks : s.length ≤ cs) (hl : l1.length = s.length) (h5 : s.length ≤ 5) (hp : 0 ≤ prod s ∧ prod s ≤ 10000) (k : Nat) (hk : impl_shapeOk.f k s = some (prod s, true)) (hf : Gives2 g lb f s w) (hrg : ∀ (t : Nat), t < (prod s).toNat → ∀ k : Nat, k < s.length → 0 ≤ rd (idxL s t) (k : Int) ∧ rd (idxL s t) (k : Int) < rd s (k : Int)) :
    CallsIn Fence.wide 9 Try.prog 130 #[.agg #[.bool b, .slice A1 l1.length c1, .slice A2 l2.length c2], .slice As s.length cs, .func (.func g) #[] lb] w fun e w' => ∃ v, e = .returned (.agg #[.slice As s.length cs, v]) ∧ Kd.R (Kd.int .i64) 3 w' w.heap.size (fun _ => True) v (fromL l1 s f (prod s).toNat) ∧ Below w.heap.size w w' := by
  have H1 := Aside0.mk h1
  have HS := Aside0.mk hs
  have HL := Aside0.mk hl
  have HF := Aside0.mk hf
  have HK := Aside0.mk hk
  have HRG := Aside0.mk hrg
  clear hrg
  clear h1 hs hl hf hk
  have hmk := make_row s.length (by omega)
  refine callsIn_of_wp_marks Try.func130 rfl trivial ?_ rfl
  simp only [Try.ntmps130, List.size_toArray, List.length_cons, List.length_nil, Nat.reduceAdd, Nat.reduceSub, Array.replicate_succ, Array.replicate_zero, List.push_toArray, List.append_toArray, List.nil_append, List.cons_append]
  gi_wp2_with (first | (refine ⟨trivial, ?_⟩; gi_at_call 119; refine (indexes_in _ _ _ _ _).mono ?_; rintro e w' ⟨rfl, rfl⟩))
  obtain ⟨W0, hW0⟩ : ∃ W0, ((((((w.alloc (.cells #[.bool b, .slice A1 l1.length c1, .slice A2 l2.length c2] 28)).alloc (.cells #[.func (.func g) #[] lb] 133)).alloc (.cells #[.slice none 0 0, .slice none 0 0] 70)).alloc (.cells #[.slice As s.length cs, .slice none 0 0] 70)).alloc (.cells (rowI (List.replicate s.length 0)) 3)).alloc (.cells #[.slice (some ⟨w.heap.size + 1 + 1 + 1 + 1, 0, none⟩) s.length s.length] 22)).alloc (.cells #[.slice As s.length cs] 22) = W0 := ⟨_, rfl⟩
  obtain ⟨FA, FP, FR, FM, FS, FB, FX, hsz, hB0⟩ : (_ ∧ _ ∧ _ ∧ _ ∧ _ ∧ _ ∧ _ ∧ _ ∧ Below w.heap.size w W0) := hW0 ▸ alloc7 w _ _ _ _ _ _ _
  rw [hW0]
  have HSZ := Aside0.mk hsz
  clear hW0 hsz
  obtain ⟨gX, hgX⟩ : ∃ gX, gX = w.heap.size + 1 + 1 + 1 + 1 + 1 + 1 := ⟨_, rfl⟩
  rw [← hgX] at FX ⊢
  obtain ⟨gB, hgB⟩ : ∃ gB, gB = w.heap.size + 1 + 1 + 1 + 1 + 1 := ⟨_, rfl⟩
  rw [← hgB] at FB ⊢
  obtain ⟨gS, hgS⟩ : ∃ gS, gS = w.heap.size + 1 + 1 + 1 + 1 := ⟨_, rfl⟩
  rw [← hgS] at FS FB ⊢
  obtain ⟨gM, hgM⟩ : ∃ gM, gM = w.heap.size + 1 + 1 + 1 := ⟨_, rfl⟩
  rw [← hgM] at FM ⊢
  obtain ⟨gR, hgR⟩ : ∃ gR, gR = w.heap.size + 1 + 1 := ⟨_, rfl⟩
  rw [← hgR] at FR ⊢
  obtain ⟨gP, hgP⟩ : ∃ gP, gP = w.heap.size + 1 := ⟨_, rfl⟩
  rw [← hgP] at FP ⊢
  have HGX := Aside0.mk hgX
  have HGB := Aside0.mk hgB
  have HGS := Aside0.mk hgS
  have HGM := Aside0.mk hgM
  have HGR := Aside0.mk hgR
  have HGP := Aside0.mk hgP
  clear hgX hgB hgS hgM hgR hgP
  have gs : gX = w.heap.size + 6 ∧ gB = w.heap.size + 5 ∧ gS = w.heap.size + 4 ∧ gM = w.heap.size + 3 ∧ gR = w.heap.size + 2 ∧ gP = w.heap.size + 1 := by
    have := HGX.out; have := HGB.out; have := HGS.out; have := HGM.out; have := HGR.out; have := HGP.out; omega
  have GS := Aside0.mk gs
  clear gs HGX HGB HGS HGM HGR HGP
  obtain ⟨i0, hi, hz0, hz1, hz2⟩ := info_parts info3
  refine wpIn_rounds rfl (by omega) (gf := 137) (lb := #[.pointer (some ⟨gX, 0, none⟩)]) rfl trivial (enters_of Try.func137 (by kernel_rfl) rfl)
    (idx_rounds 8 (by omega) gX As cs s h5 hp.2 k HK.out W0 ((blk_cell FX 0).trans rfl) (Kd.C_below HS.out hB0) ks (fun ad e e0 => ?addr))
    (Below.refl _ _) ?mlt (fun G t A B h e => by unfold AtI at *; rw [e]; exact h) rfl
    (fun t W => W.heap[w.heap.size]? = some (.cells #[.bool b, .slice A1 l1.length c1, .slice A2 l2.length c2] 28 (0, 0)) ∧ W.heap[gP]? = some (.cells #[.func (.func g) #[] lb] 133 (0, 0)) ∧ W.heap[gR]? = some (.cells #[.slice none 0 0, .slice none 0 0] 70 (0, 0)) ∧
      W.heap[gB]? = some (.cells #[.slice (some ⟨gS, 0, none⟩) s.length s.length] 22 (0, 0)) ∧ (∃ src : List Int, src.length = s.length ∧ W.heap[gS]? = some (.cells (rowI src) 3 (0, 0))) ∧
      (∃ v, W.heap[gM]? = some (.cells #[.slice As s.length cs, v] 70 (0, 0)) ∧ W.ownsRow (w.heap.size + 10) 3 1 v t ((fromL l1 s f t).map (Value.int .i64))) ∧ Below w.heap.size w W)
    (fun _ _ _ => False)
    (fun t A B hI hS => ?inv)
    (fun _ _ _ _ h _ => h)
    ⟨FA, FP, FR, FB, ⟨_, by simp, FS⟩, ⟨_, FM, World.ownsRow_nil _ _ _ _⟩, hB0⟩
    ?a1 ?assign ?body ?done ?stop
  case addr =>
    obtain ⟨ad', e', hx⟩ := Kd.at_int (Kd.C_below HS.out hB0) 0 (by omega) (by omega)
    rw [e] at e'; cases e'
    have := World.block_lt_of_cell? W0 _ hx
    rwa [show (ad.add (0 : Int).toNat).block = ad.block by unfold Addr.add; split <;> rfl] at this
  case mlt =>
    intro k hk
    rcases hk with rfl | ⟨e0, hk⟩
    · exact blk_lt FX
    · obtain ⟨ad, hx, -⟩ := Kd.at_int (Kd.C_below HS.out hB0) 0 (by omega) (by omega)
      obtain ⟨ad', e', hx⟩ := Kd.at_int (Kd.C_below HS.out hB0) 0 (by omega) (by omega)
      rw [e'] at hk
      cases Option.some.inj hk
      have := World.block_lt_of_cell? W0 _ hx
      rwa [show (ad'.add (0 : Int).toNat).block = ad'.block by unfold Addr.add; split <;> rfl] at this
  case inv =>
    obtain ⟨q1, q2, q3, q4, ⟨src, q5, q6⟩, ⟨v, q7, q8⟩, q9⟩ := hI
    have := HSZ.out
    have := GS.out
    exact ⟨hS.blk q1 (by omega), hS.blk q2 (by omega), hS.blk q3 (by omega), hS.blk q4 (by omega), ⟨src, q5, hS.blk q6 (by omega)⟩, ⟨v, hS.blk q7 (by omega), hS.own q8 (fun k hk => by omega)⟩, q9.trans (hS.below (fun k hk => by omega) q9.size)⟩
  case assign =>
    intro lo W K hK
    gi_wp2
    exact hK
  case body =>
    rintro lo t W ⟨q1, q2, q3, q4, ⟨src, q5, q6⟩, ⟨v, q7, q8⟩, q9⟩ hlt hat hge
    have hlt' := Aside0.mk hlt
    have HAT := Aside0.mk hat
    have HGE := Aside0.mk hge
    have Q1 := Aside0.mk q1
    have Q2 := Aside0.mk q2
    have Q3 := Aside0.mk q3
    have Q4 := Aside0.mk q4
    have Q5 := Aside0.mk q5
    have Q6 := Aside0.mk q6
    have Q7 := Aside0.mk q7
    have HCI := Aside0.mk (idxL_len s t)
    have hrng : ∀ (t : Nat), t < (prod s).toNat → ∀ k : Nat, k < s.length → 0 ≤ rd (idxL s t) (k : Int) ∧ rd (idxL s t) (k : Int) < rd s (k : Int) := HRG.out
    clear hlt hat hge q1 q2 q3 q4 q5 q6 q7
    gi_wp2
    gi_loopw [10, 24] (fun th kk wr => ∃ (j : Nat) (q : Bool) (sr : List Int), kk = .int .i64 (j : Int) ∧ th = .bool q ∧ Aside0 (j ≤ s.length) ∧ Aside0 (sr.length = s.length) ∧ Aside0 (wr.heap[gS]? = some (.cells (rowI sr) 3 (0, 0))) ∧
        Aside0 (sr.take j ++ srcGo f j ((idxL s t).drop j) = srcGo f 0 (idxL s t)) ∧ Aside0 (thrGo l1 f j q ((idxL s t).drop j) = thrGo l1 f 0 true (idxL s t)) ∧ Aside0 (ButS (fun k => k = gS) W wr))
      (fun _ kk _ => s.length - (intOf kk).toNat)
    case atStart => exact ⟨0, true, src, rfl, rfl, ⟨Nat.zero_le _⟩, Q5, Q6, ⟨rfl⟩, ⟨rfl⟩, ⟨⟨Nat.le_refl _, fun _ _ _ => rfl, rfl, rfl, rfl⟩⟩⟩
    case round =>
      obtain ⟨j, q, sr, rfl, rfl, hj, hsl, hsr, htk, hth, hbs⟩ := hrel
      by_cases hjl : j < s.length
      · have p0 : 0 ≤ (j : Int) := by omega
        have p1 : (j : Int) < (s.length : Int) := by omega
        have hgs := GS.out
        have hx := rowI_cell (blk_of (hbs.out.blk HAT.out (by have := HSZ.out; omega))) j (by have := HCI.out; omega)
        have hB5 := blk_cell (hbs.out.blk Q4.out (by omega)) 0
        have hP5 := blk_cell (hbs.out.blk Q2.out (by omega)) 0
        have hbel := hbs.out.below (n := w.heap.size) (by rintro k rfl; omega) (by have := HSZ.out; have := HGE.out; omega)
        have HBE := Aside0.mk (q9.trans hbel)
        clear hgs hbel
        have hcg := rowI_cell hsr.out j (by have := hsl.out; omega)
        have hfz := blk_frozen hsr.out j
        have HR := Aside0.mk (hrng t hlt'.out j hjl)
        obtain ⟨x, hxe⟩ : ∃ x, x = rd (idxL s t) (j : Int) := ⟨_, rfl⟩
        rw [← hxe] at hx HR
        have HXE := Aside0.mk hxe
        clear hxe
        have hcall : ∀ (n : Nat) (W' : World), Below w.heap.size w W' → CallsIn Fence.wide n Try.prog g (#[.int .i64 (j : Int), .int .i64 x] ++ lb) W' fun e w' => e = .returned (.int .i64 (f j x)) ∧ ∃ q, w' = W'.drewN q := fun n W' hb => callsIn_wide.2 (HF.out W' j x hb hjl HR.out.1 HR.out.2)
        gi_wp2
        refine region_round (by kernel_rfl) (by kernel_rfl) ?_
        refine wpAnyIn_take (i := 1) (v := ?_) rfl rfl (by kernel_rfl) (by kernel_rfl) (by kernel_rfl) (fun _ _ _ h => h) ⟨Or.inl ⟨by rfl, ?_⟩, fun _ => rfl⟩ ?_
        rotate_left
        · intro w'; go_simp; try with_reducible rfl
        refine wpAnyIn_take (i := 3) (v := ?_) rfl rfl (by kernel_rfl) (by kernel_rfl) (by kernel_rfl) (fun _ _ _ h => h) ⟨Or.inl ⟨by rfl, ?_⟩, fun _ => rfl⟩ ?_
        rotate_left
        · intro w'; go_simp; try with_reducible rfl
        refine wpAnyIn_take (i := 4) (v := ?_) rfl rfl (by kernel_rfl) (by kernel_rfl) (by kernel_rfl) (fun _ _ _ h => h) ⟨Or.inl ⟨by rfl, ?_⟩, fun _ => rfl⟩ ?_
        rotate_left
        · intro w'; go_simp; try with_reducible rfl
        refine wpAnyIn_ready (rs := [0, 2]) (by kernel_rfl) (by simp) ?_
        refine AllReadyIn.cons rfl (fun K hK => ?_) ?_
        · go_simp
          refine hK _ _ ?_
          clear hK K
          refine wpAnyIn_ready (rs := [2]) (by kernel_rfl) (by simp) ?_
          refine AllReadyIn.cons rfl (fun K hK => ?_) ?_
          · go_simp
            refine hK _ _ ?_
            clear hK K
            refine wpAnyIn_ready (rs := [5]) (by kernel_rfl) (by simp) ?_
            refine AllReadyIn.cons rfl (fun K hK => ?_) ?_
            · go_simp
              refine ⟨trivial, (hcall _ _ (pw_below_drewN HBE.out 1)).mono ?_⟩
              rintro e w' ⟨rfl, q', rfl⟩
              refine hK _ _ ?_
              clear hK K
              refine wpAnyIn_take (i := 6) (v := ?_) rfl rfl (by kernel_rfl) (by kernel_rfl) (by kernel_rfl) (fun _ _ _ h => h) ⟨Or.inl ⟨by rfl, ?_⟩, fun _ => rfl⟩ ?_
              rotate_left
              · intro w'; go_simp; try with_reducible rfl
              refine wpAnyIn_ready (rs := [7]) (by kernel_rfl) (by simp) ?_
              refine AllReadyIn.cons rfl (fun K hK => ?_) ?_
              · go_simp
                refine hK _ _ ?_
                clear hK K
                refine wpAnyIn_done (by kernel_rfl) ?_ _
                gi_wp2
                obtain ⟨W2, hW2⟩ : ∃ W2, (World.drewN wr (1 + q')).setCell ⟨gS, j, none⟩ (.int .i64 (f j x)) = W2 := ⟨_, rfl⟩
                rw [hW2]
                have hS2 : ButS (fun k => k = gS) W W2 := hW2 ▸ butS_set (show ButS (fun k => k = gS) W (World.drewN wr (1 + q')) from ⟨hbs.out.size, hbs.out.same, hbs.out.os, hbs.out.tape, hbs.out.output⟩) rfl j _
                have hsr2 : W2.heap[gS]? = some (.cells (rowI (sr.set j (f j x))) 3 (0, 0)) := hW2 ▸ rowI_put (show (World.drewN wr (1 + q')).heap[gS]? = _ from hsr.out) j _
                have HS2 := Aside0.mk hS2
                have HSR2 := Aside0.mk hsr2
                have hgs := GS.out
                have hu1 := blk_cell (hS2.blk Q4.out (by omega)) 0
                have hu2 := blk_cell (hS2.blk Q1.out (by omega)) 1
                have hu3 := rowI_cell hsr2 j (by have := hsl.out; rw [List.length_set]; omega)
                rw [show rd (sr.set j (f j x)) (j : Int) = f j x from rd_set _ _ _ (by have := hsl.out; omega)] at hu3
                have hb2 : Below w.heap.size w W2 := q9.trans (hS2.below (by rintro k rfl; omega) (by have := HSZ.out; have := HGE.out; omega))
                obtain ⟨ad, rfl, hu4⟩ := Kd.at_int (Kd.C_below H1.out hb2) (j : Int) p0 (by have := HL.out; omega)
                rw [Int.toNat_natCast] at hu4
                have p2 : (j : Int) < (l1.length : Int) := by have := HL.out; omega
                clear hgs hS2 hsr2 hb2 hW2
                cases q with
                | true =>
                  have hwith : ∀ (n : Nat) (W' : World), CallsIn Fence.wide n Try.prog 118 #[.int .i64 (f j x), .int .i64 0, .int .i64 (wrap64 (rd l1 (j : Int) - 1))] W' fun e w' => e = .returned (.bool (decide (0 ≤ f j x ∧ f j x ≤ wrap64 (rd l1 (j : Int) - 1)))) ∧ ∃ m, w' = W'.drewN m := fun n W' => callsIn_wide.2 ((impl_within.calls (f j x) 0 (wrap64 (rd l1 (j : Int) - 1)) (decide (0 ≤ f j x ∧ f j x ≤ wrap64 (rd l1 (j : Int) - 1))) W' (within_ev _ _)).mono (fun _ _ h => ⟨h.1, h.2.out⟩))
                  refine quiet_round rfl (by kernel_rfl) (by kernel_rfl) (by kernel_rfl) ?_
                  repeat (gi_big_quiet_step (fail))
                  refine BigFrame.wpQuietIn_want (fun _ _ _ _ => trivial) rfl (fun K hK => ?_)
                  gi_big_quiet_op
                  apply Exists.intro
                  refine ⟨fun _ => ?_, ?_⟩
                  · refine CallsIn.quiet_of (hwith _ _)
                  refine hK _ ?_
                  clear hK K
                  repeat (gi_big_quiet_step (fail))
                  refine wpQuietIn_nil ?_
                  intro _ hw'
                  obtain ⟨nq, hw''⟩ := hw'
                  subst hw''
                  gi_wp2
                  refine ⟨⟨j + 1, _, sr.set j (f j x), by push_cast; rfl, rfl, ⟨hjl⟩, ⟨by rw [List.length_set]; exact hsl.out⟩, ⟨HSR2.out⟩, ⟨?_⟩, ⟨?_⟩, ⟨HS2.out.size, HS2.out.same, HS2.out.os, HS2.out.tape, HS2.out.output⟩⟩, by simp [intOf]; omega⟩
                  · rw [← htk.out, HXE.out]; exact src_step f sr _ j (by have := hsl.out; omega) (by have := HCI.out; omega)
                  · rw [← hth.out, thr_step l1 f _ j _ (by have := HCI.out; omega), ← HXE.out]; congr 1; simp [Bool.decide_and]
                | false =>
                  refine quiet_round rfl (by kernel_rfl) (by kernel_rfl) (by kernel_rfl) ?_
                  repeat (gi_big_quiet_step (fail))
                  refine BigFrame.wpQuietIn_skip (fun _ _ _ _ => trivial) rfl ?_
                  go_simp
                  repeat (gi_big_quiet_step (fail))
                  refine wpQuietIn_nil ?_
                  intro nq
                  gi_wp2
                  refine ⟨⟨j + 1, false, sr.set j (f j x), by push_cast; rfl, rfl, ⟨hjl⟩, ⟨by rw [List.length_set]; exact hsl.out⟩, ⟨HSR2.out⟩, ⟨?_⟩, ⟨?_⟩, ⟨HS2.out.size, HS2.out.same, HS2.out.os, HS2.out.tape, HS2.out.output⟩⟩, by simp [intOf]; omega⟩
                  · rw [← htk.out, HXE.out]; exact src_step f sr _ j (by have := hsl.out; omega) (by have := HCI.out; omega)
                  · rw [← hth.out, thr_step l1 f _ j _ (by have := HCI.out; omega), ← HXE.out]; congr 1
              exact AllReadyIn.nil
            exact AllReadyIn.nil
          exact AllReadyIn.nil
        refine AllReadyIn.cons rfl (fun K hK => ?_) ?_
        · go_simp
          refine hK _ _ ?_
          clear hK K
          refine wpAnyIn_ready (rs := [0, 5]) (by kernel_rfl) (by simp) ?_
          refine AllReadyIn.cons rfl (fun K hK => ?_) ?_
          · go_simp
            refine hK _ _ ?_
            clear hK K
            refine wpAnyIn_ready (rs := [5]) (by kernel_rfl) (by simp) ?_
            refine AllReadyIn.cons rfl (fun K hK => ?_) ?_
            · go_simp
              refine ⟨trivial, (hcall _ _ (pw_below_drewN HBE.out 1)).mono ?_⟩
              rintro e w' ⟨rfl, q', rfl⟩
              refine hK _ _ ?_
              clear hK K
              refine wpAnyIn_take (i := 6) (v := ?_) rfl rfl (by kernel_rfl) (by kernel_rfl) (by kernel_rfl) (fun _ _ _ h => h) ⟨Or.inl ⟨by rfl, ?_⟩, fun _ => rfl⟩ ?_
              rotate_left
              · intro w'; go_simp; try with_reducible rfl
              refine wpAnyIn_ready (rs := [7]) (by kernel_rfl) (by simp) ?_
              refine AllReadyIn.cons rfl (fun K hK => ?_) ?_
              · go_simp
                refine hK _ _ ?_
                clear hK K
                refine wpAnyIn_done (by kernel_rfl) ?_ _
                gi_wp2
                obtain ⟨W2, hW2⟩ : ∃ W2, (World.drewN wr (1 + q')).setCell ⟨gS, j, none⟩ (.int .i64 (f j x)) = W2 := ⟨_, rfl⟩
                rw [hW2]
                have hS2 : ButS (fun k => k = gS) W W2 := hW2 ▸ butS_set (show ButS (fun k => k = gS) W (World.drewN wr (1 + q')) from ⟨hbs.out.size, hbs.out.same, hbs.out.os, hbs.out.tape, hbs.out.output⟩) rfl j _
                have hsr2 : W2.heap[gS]? = some (.cells (rowI (sr.set j (f j x))) 3 (0, 0)) := hW2 ▸ rowI_put (show (World.drewN wr (1 + q')).heap[gS]? = _ from hsr.out) j _
                have HS2 := Aside0.mk hS2
                have HSR2 := Aside0.mk hsr2
                have hgs := GS.out
                have hu1 := blk_cell (hS2.blk Q4.out (by omega)) 0
                have hu2 := blk_cell (hS2.blk Q1.out (by omega)) 1
                have hu3 := rowI_cell hsr2 j (by have := hsl.out; rw [List.length_set]; omega)
                rw [show rd (sr.set j (f j x)) (j : Int) = f j x from rd_set _ _ _ (by have := hsl.out; omega)] at hu3
                have hb2 : Below w.heap.size w W2 := q9.trans (hS2.below (by rintro k rfl; omega) (by have := HSZ.out; have := HGE.out; omega))
                obtain ⟨ad, rfl, hu4⟩ := Kd.at_int (Kd.C_below H1.out hb2) (j : Int) p0 (by have := HL.out; omega)
                rw [Int.toNat_natCast] at hu4
                have p2 : (j : Int) < (l1.length : Int) := by have := HL.out; omega
                clear hgs hS2 hsr2 hb2 hW2
                cases q with
                | true =>
                  have hwith : ∀ (n : Nat) (W' : World), CallsIn Fence.wide n Try.prog 118 #[.int .i64 (f j x), .int .i64 0, .int .i64 (wrap64 (rd l1 (j : Int) - 1))] W' fun e w' => e = .returned (.bool (decide (0 ≤ f j x ∧ f j x ≤ wrap64 (rd l1 (j : Int) - 1)))) ∧ ∃ m, w' = W'.drewN m := fun n W' => callsIn_wide.2 ((impl_within.calls (f j x) 0 (wrap64 (rd l1 (j : Int) - 1)) (decide (0 ≤ f j x ∧ f j x ≤ wrap64 (rd l1 (j : Int) - 1))) W' (within_ev _ _)).mono (fun _ _ h => ⟨h.1, h.2.out⟩))
                  refine quiet_round rfl (by kernel_rfl) (by kernel_rfl) (by kernel_rfl) ?_
                  repeat (gi_big_quiet_step (fail))
                  refine BigFrame.wpQuietIn_want (fun _ _ _ _ => trivial) rfl (fun K hK => ?_)
                  gi_big_quiet_op
                  apply Exists.intro
                  refine ⟨fun _ => ?_, ?_⟩
                  · refine CallsIn.quiet_of (hwith _ _)
                  refine hK _ ?_
                  clear hK K
                  repeat (gi_big_quiet_step (fail))
                  refine wpQuietIn_nil ?_
                  intro _ hw'
                  obtain ⟨nq, hw''⟩ := hw'
                  subst hw''
                  gi_wp2
                  refine ⟨⟨j + 1, _, sr.set j (f j x), by push_cast; rfl, rfl, ⟨hjl⟩, ⟨by rw [List.length_set]; exact hsl.out⟩, ⟨HSR2.out⟩, ⟨?_⟩, ⟨?_⟩, ⟨HS2.out.size, HS2.out.same, HS2.out.os, HS2.out.tape, HS2.out.output⟩⟩, by simp [intOf]; omega⟩
                  · rw [← htk.out, HXE.out]; exact src_step f sr _ j (by have := hsl.out; omega) (by have := HCI.out; omega)
                  · rw [← hth.out, thr_step l1 f _ j _ (by have := HCI.out; omega), ← HXE.out]; congr 1; simp [Bool.decide_and]
                | false =>
                  refine quiet_round rfl (by kernel_rfl) (by kernel_rfl) (by kernel_rfl) ?_
                  repeat (gi_big_quiet_step (fail))
                  refine BigFrame.wpQuietIn_skip (fun _ _ _ _ => trivial) rfl ?_
                  go_simp
                  repeat (gi_big_quiet_step (fail))
                  refine wpQuietIn_nil ?_
                  intro nq
                  gi_wp2
                  refine ⟨⟨j + 1, false, sr.set j (f j x), by push_cast; rfl, rfl, ⟨hjl⟩, ⟨by rw [List.length_set]; exact hsl.out⟩, ⟨HSR2.out⟩, ⟨?_⟩, ⟨?_⟩, ⟨HS2.out.size, HS2.out.same, HS2.out.os, HS2.out.tape, HS2.out.output⟩⟩, by simp [intOf]; omega⟩
                  · rw [← htk.out, HXE.out]; exact src_step f sr _ j (by have := hsl.out; omega) (by have := HCI.out; omega)
                  · rw [← hth.out, thr_step l1 f _ j _ (by have := HCI.out; omega), ← HXE.out]; congr 1
              exact AllReadyIn.nil
            exact AllReadyIn.nil
          refine AllReadyIn.cons rfl (fun K hK => ?_) ?_
          · go_simp
            refine ⟨trivial, (hcall _ _ (pw_below_drewN HBE.out 1)).mono ?_⟩
            rintro e w' ⟨rfl, q', rfl⟩
            refine hK _ _ ?_
            clear hK K
            refine wpAnyIn_ready (rs := [0]) (by kernel_rfl) (by simp) ?_
            refine AllReadyIn.cons rfl (fun K hK => ?_) ?_
            · go_simp
              refine hK _ _ ?_
              clear hK K
              refine wpAnyIn_take (i := 6) (v := ?_) rfl rfl (by kernel_rfl) (by kernel_rfl) (by kernel_rfl) (fun _ _ _ h => h) ⟨Or.inl ⟨by rfl, ?_⟩, fun _ => rfl⟩ ?_
              rotate_left
              · intro w'; go_simp; try with_reducible rfl
              refine wpAnyIn_ready (rs := [7]) (by kernel_rfl) (by simp) ?_
              refine AllReadyIn.cons rfl (fun K hK => ?_) ?_
              · go_simp
                refine hK _ _ ?_
                clear hK K
                refine wpAnyIn_done (by kernel_rfl) ?_ _
                gi_wp2
                obtain ⟨W2, hW2⟩ : ∃ W2, (World.drewN wr (1 + q')).setCell ⟨gS, j, none⟩ (.int .i64 (f j x)) = W2 := ⟨_, rfl⟩
                rw [hW2]
                have hS2 : ButS (fun k => k = gS) W W2 := hW2 ▸ butS_set (show ButS (fun k => k = gS) W (World.drewN wr (1 + q')) from ⟨hbs.out.size, hbs.out.same, hbs.out.os, hbs.out.tape, hbs.out.output⟩) rfl j _
                have hsr2 : W2.heap[gS]? = some (.cells (rowI (sr.set j (f j x))) 3 (0, 0)) := hW2 ▸ rowI_put (show (World.drewN wr (1 + q')).heap[gS]? = _ from hsr.out) j _
                have HS2 := Aside0.mk hS2
                have HSR2 := Aside0.mk hsr2
                have hgs := GS.out
                have hu1 := blk_cell (hS2.blk Q4.out (by omega)) 0
                have hu2 := blk_cell (hS2.blk Q1.out (by omega)) 1
                have hu3 := rowI_cell hsr2 j (by have := hsl.out; rw [List.length_set]; omega)
                rw [show rd (sr.set j (f j x)) (j : Int) = f j x from rd_set _ _ _ (by have := hsl.out; omega)] at hu3
                have hb2 : Below w.heap.size w W2 := q9.trans (hS2.below (by rintro k rfl; omega) (by have := HSZ.out; have := HGE.out; omega))
                obtain ⟨ad, rfl, hu4⟩ := Kd.at_int (Kd.C_below H1.out hb2) (j : Int) p0 (by have := HL.out; omega)
                rw [Int.toNat_natCast] at hu4
                have p2 : (j : Int) < (l1.length : Int) := by have := HL.out; omega
                clear hgs hS2 hsr2 hb2 hW2
                cases q with
                | true =>
                  have hwith : ∀ (n : Nat) (W' : World), CallsIn Fence.wide n Try.prog 118 #[.int .i64 (f j x), .int .i64 0, .int .i64 (wrap64 (rd l1 (j : Int) - 1))] W' fun e w' => e = .returned (.bool (decide (0 ≤ f j x ∧ f j x ≤ wrap64 (rd l1 (j : Int) - 1)))) ∧ ∃ m, w' = W'.drewN m := fun n W' => callsIn_wide.2 ((impl_within.calls (f j x) 0 (wrap64 (rd l1 (j : Int) - 1)) (decide (0 ≤ f j x ∧ f j x ≤ wrap64 (rd l1 (j : Int) - 1))) W' (within_ev _ _)).mono (fun _ _ h => ⟨h.1, h.2.out⟩))
                  refine quiet_round rfl (by kernel_rfl) (by kernel_rfl) (by kernel_rfl) ?_
                  repeat (gi_big_quiet_step (fail))
                  refine BigFrame.wpQuietIn_want (fun _ _ _ _ => trivial) rfl (fun K hK => ?_)
                  gi_big_quiet_op
                  apply Exists.intro
                  refine ⟨fun _ => ?_, ?_⟩
                  · refine CallsIn.quiet_of (hwith _ _)
                  refine hK _ ?_
                  clear hK K
                  repeat (gi_big_quiet_step (fail))
                  refine wpQuietIn_nil ?_
                  intro _ hw'
                  obtain ⟨nq, hw''⟩ := hw'
                  subst hw''
                  gi_wp2
                  refine ⟨⟨j + 1, _, sr.set j (f j x), by push_cast; rfl, rfl, ⟨hjl⟩, ⟨by rw [List.length_set]; exact hsl.out⟩, ⟨HSR2.out⟩, ⟨?_⟩, ⟨?_⟩, ⟨HS2.out.size, HS2.out.same, HS2.out.os, HS2.out.tape, HS2.out.output⟩⟩, by simp [intOf]; omega⟩
                  · rw [← htk.out, HXE.out]; exact src_step f sr _ j (by have := hsl.out; omega) (by have := HCI.out; omega)
                  · rw [← hth.out, thr_step l1 f _ j _ (by have := HCI.out; omega), ← HXE.out]; congr 1; simp [Bool.decide_and]
                | false =>
                  refine quiet_round rfl (by kernel_rfl) (by kernel_rfl) (by kernel_rfl) ?_
                  repeat (gi_big_quiet_step (fail))
                  refine BigFrame.wpQuietIn_skip (fun _ _ _ _ => trivial) rfl ?_
                  go_simp
                  repeat (gi_big_quiet_step (fail))
                  refine wpQuietIn_nil ?_
                  intro nq
                  gi_wp2
                  refine ⟨⟨j + 1, false, sr.set j (f j x), by push_cast; rfl, rfl, ⟨hjl⟩, ⟨by rw [List.length_set]; exact hsl.out⟩, ⟨HSR2.out⟩, ⟨?_⟩, ⟨?_⟩, ⟨HS2.out.size, HS2.out.same, HS2.out.os, HS2.out.tape, HS2.out.output⟩⟩, by simp [intOf]; omega⟩
                  · rw [← htk.out, HXE.out]; exact src_step f sr _ j (by have := hsl.out; omega) (by have := HCI.out; omega)
                  · rw [← hth.out, thr_step l1 f _ j _ (by have := HCI.out; omega), ← HXE.out]; congr 1
              exact AllReadyIn.nil
            exact AllReadyIn.nil
          exact AllReadyIn.nil
        exact AllReadyIn.nil
      · have hje : j = s.length := by have := hj.out; omega
        have hte : sr = srcGo f 0 (idxL s t) := by
          have h := htk.out
          rw [List.drop_eq_nil_of_le (by have := HCI.out; omega), srcGo, List.append_nil, List.take_of_length_le (by have := hsl.out; omega)] at h
          exact h
        have hqe : q = thrGo l1 f 0 true (idxL s t) := by
          have h := hth.out
          rw [List.drop_eq_nil_of_le (by have := HCI.out; omega), thrGo] at h
          exact h
        have HTE := Aside0.mk hte
        have HQE := Aside0.mk hqe
        have HJE := Aside0.mk hje
        clear hte hqe hje
        have hgs := GS.out
        have hB5 := blk_cell (hbs.out.blk Q4.out (by omega)) 0
        have hA1 := blk_cell (hbs.out.blk Q1.out (by omega)) 1
        have hM0 := blk_cell (hbs.out.blk Q7.out (by omega)) 0
        have hM1 := blk_cell (hbs.out.blk Q7.out (by omega)) 1
        have hM2 := blk_frozen (hbs.out.blk Q7.out (by omega)) 1
        clear hgs
        cases q with
        | true =>
          have hgs := GS.out
          have hbw : Below w.heap.size w wr := q9.trans (hbs.out.below (by rintro k rfl; omega) (by have := HSZ.out; have := HGE.out; omega))
          have hCS : Kd.C (Kd.int .i64) wr (some ⟨gS, 0, none⟩) sr.length sr := rowI_C hsr.out (by have := hsl.out; omega)
          have hnum : CallsIn (Fence.wide.inRound lo) 6 Try.prog 120 #[.slice A1 l1.length c1, .slice (some ⟨gS, 0, none⟩) s.length s.length] wr fun e w' => e = .returned (.int .i64 (numGo l1 0 0 sr)) ∧ ∃ m, w' = wr.drewN m := by
            have h := impl_number.calls (sr.length + 1) A1 c1 l1 (some ⟨gS, 0, none⟩) sr.length sr _ wr (Kd.C_below H1.out hbw) k1 hCS (Nat.le_refl _) (number_ev l1 sr (by have := hsl.out; have := HL.out; omega) (by have := hsl.out; omega))
            rw [hsl.out] at h
            exact CallsIn.inRound lo (callsIn_wide.2 (h.mono fun _ _ h => ⟨h.1, h.2.out⟩))
          have HN := Aside0.mk hnum
          clear hnum hCS hgs hbw
          have bd1 : t + 1 ≤ maxLen := by have := hlt'.out; unfold maxLen; omega
          have bd2 : (t + 1) * 8 ≤ 140737488355328 := by have := hlt'.out; omega
          have hgs := GS.out
          have hm7 := hbs.out.blk Q7.out (by omega)
          have hrow := hbs.out.own q8 (fun k hk => by omega)
          have HM7 := Aside0.mk hm7
          clear hgs hm7
          gi_wp2_with (first | (refine ⟨trivial, HN.out.mono ?_⟩; rintro e w' ⟨rfl, m, rfl⟩) | (gi_at_builtin; refine wpListIn_append_own _ rfl _ _ 22 rfl (w.heap.size + 10) 3 i0 (.int .i64 0) 1 8 Try.underlying22 hi hz0 hz1 hz2 rfl (by decide) _ _ _ rfl ((show (wr.drewN m).ownsRow _ _ _ _ _ _ from hrow).alloc _) ⟨wr.heap.size, 0, none⟩ 1 1 [.int .i64 (numGo l1 0 0 sr)] rfl rfl (cell_one_new _ _ _) (by simp [Value.oneCell']) bd1 bd2 (by have := HGE.out; have := HSZ.out; have := hbs.out.size; simp; omega) ?_; intro v' w1 hown' hgrow _; obtain ⟨g', cap', rfl⟩ := ownsRow_succ hown'; obtain ⟨pp1, pp2, pp3, ppk, pp4⟩ := pair_appended (W := wr.drewN m) HM7.out (by decide) hrow hown' hgrow; have hc1 := blk_cell pp1 1; have hf1 := blk_frozen pp1 1))
          have hgs := GS.out
          have hb1 : ButS (fun k => k = gS) W (wr.drewN m) := ⟨hbs.out.size, hbs.out.same, hbs.out.os, hbs.out.tape, hbs.out.output⟩
          have hba := (hb1.mono (T := fun k => k = gS ∨ k = gM ∨ w.heap.size + 10 ≤ k) (fun k h => .inl h)).trans (pp4.mono (fun k h => .inr h))
          have hz := HSZ.out
          have hge := HGE.out
          refine ⟨(keeps_butS hb1 (fun k e o ho => by cases e; rw [Q6.out] at ho; cases ho; rfl)).trans ppk, fun k hk => hba.same k ?_ ?_, ?_, hba.blk Q1.out (by omega), hba.blk Q2.out (by omega), hba.blk Q3.out (by omega), hba.blk Q4.out (by omega), ⟨sr, hsl.out, pp4.blk (show (wr.drewN m).heap[gS]? = _ from hsr.out) (by omega)⟩, ⟨_, pp2, ?_⟩, q9.trans (hba.below (fun k hk => by omega) q9.size)⟩
          · rcases hk with rfl | ⟨e0, hk⟩
            · omega
            · have := C_block HS.out e0 hk; omega
          · rcases hk with rfl | ⟨e0, hk⟩
            · omega
            · have := C_block HS.out e0 hk; omega
          · exact hba.blk (show W.heap[W0.heap.size + 2]? = _ from HAT.out) (by omega)
          · rw [show fromL l1 s f (t + 1) = fromL l1 s f t ++ [numGo l1 0 0 sr] from by rw [fromL, fromOne, ← HQE.out]; simp [HTE.out]]
            simpa using pp3
        | false =>
          have bd1 : t + 1 ≤ maxLen := by have := hlt'.out; unfold maxLen; omega
          have bd2 : (t + 1) * 8 ≤ 140737488355328 := by have := hlt'.out; omega
          have hgs := GS.out
          have hm7 := hbs.out.blk Q7.out (by omega)
          have hrow := hbs.out.own q8 (fun k hk => by omega)
          have HM7 := Aside0.mk hm7
          clear hgs hm7
          gi_wp2_with (gi_at_builtin; refine wpListIn_append_own _ rfl _ _ 22 rfl (w.heap.size + 10) 3 i0 (.int .i64 0) 1 8 Try.underlying22 hi hz0 hz1 hz2 rfl (by decide) _ _ _ rfl (hrow.alloc _) ⟨wr.heap.size, 0, none⟩ 1 1 [.int .i64 (-1)] rfl rfl (cell_one_new _ _ _) (by simp [Value.oneCell']) bd1 bd2 (by have := HGE.out; have := HSZ.out; have := hbs.out.size; simp; omega) ?_; intro v' w1 hown' hgrow _; obtain ⟨g', cap', rfl⟩ := ownsRow_succ hown'; obtain ⟨pp1, pp2, pp3, ppk, pp4⟩ := pair_appended HM7.out (by decide) hrow hown' hgrow; have hc1 := blk_cell pp1 1; have hf1 := blk_frozen pp1 1)
          have hgs := GS.out
          have hb1 : ButS (fun k => k = gS) W wr := ⟨hbs.out.size, hbs.out.same, hbs.out.os, hbs.out.tape, hbs.out.output⟩
          have hba := (hb1.mono (T := fun k => k = gS ∨ k = gM ∨ w.heap.size + 10 ≤ k) (fun k h => .inl h)).trans (pp4.mono (fun k h => .inr h))
          have hz := HSZ.out
          have hge := HGE.out
          refine ⟨(keeps_butS hb1 (fun k e o ho => by cases e; rw [Q6.out] at ho; cases ho; rfl)).trans ppk, fun k hk => hba.same k ?_ ?_, ?_, hba.blk Q1.out (by omega), hba.blk Q2.out (by omega), hba.blk Q3.out (by omega), hba.blk Q4.out (by omega), ⟨sr, hsl.out, pp4.blk (show wr.heap[gS]? = _ from hsr.out) (by omega)⟩, ⟨_, pp2, ?_⟩, q9.trans (hba.below (fun k hk => by omega) q9.size)⟩
          · rcases hk with rfl | ⟨e0, hk⟩
            · omega
            · have := C_block HS.out e0 hk; omega
          · rcases hk with rfl | ⟨e0, hk⟩
            · omega
            · have := C_block HS.out e0 hk; omega
          · exact hba.blk (show W.heap[W0.heap.size + 2]? = _ from HAT.out) (by omega)
          · rw [show fromL l1 s f (t + 1) = fromL l1 s f t ++ [-1] from by rw [fromL, fromOne, ← HQE.out]; simp [HTE.out]]
            simpa using pp3
  case done =>
    rintro W ⟨q1, q2, q3, q4, ⟨src, q5, q6⟩, ⟨v, q7, q8⟩, q9⟩ hD
    have hR : Kd.R (Kd.int .i64) 3 W (w.heap.size + 10) (fun _ => True) v (fromL l1 s f (prod s).toNat) := Kd.R_of_own (by rw [fromL_len]; exact q8) (fun _ _ => trivial)
    obtain ⟨Av, cv, rfl⟩ := Kd.R_slice hR
    gi_wp2_with (first | (refine wpListIn_load_row rfl 70 (.tmp 7) rfl gM rfl 70 #[.slice As s.length cs, .slice Av _ cv] (0, 0) _ q7 Try.underlying70 rfl (by kernel_rfl) ?_) | (refine wpListIn_store_named rfl 70 (.tmp 6) (.tmp 62) rfl gR #[.slice As s.length cs, .slice Av _ cv] rfl rfl 70 #[.slice none 0 0, .slice none 0 0] q3 (by kernel_rfl) rfl (by simp [Value.oneCell']) ?_; intro w1 hs1 hb1))
    have hz := HSZ.out
    have hgs := GS.out
    have hD1 : w1.heap[W0.heap.size]? = some (.deferred (some [])) := (hb1.same _ (by omega)).trans hD
    have hR1 := hb1.row hR q3 (by decide)
    refine ⟨by simp, .inl ⟨_, _, rfl, run_takeDeferred hD1, ?_⟩⟩
    refine ⟨_, results_cell_row rfl _ _ gR 70 #[.slice As s.length cs, .slice Av _ cv] (0, 0) _ rfl ((World.putObj_heap_other (by omega)).trans hs1) Try.underlying70 rfl (by kernel_rfl), _, rfl, Kd.R_of_own (own_weaken (base := w.heap.size + 10) (ownsRow_putObj (Kd.own_of_R hR1) _ hD1 rfl) (by omega)) (fun _ _ => trivial), (q9.trans (hb1.below _ (by omega))).trans (belowK_b (w := w) (Nat.le_refl _) w1 W0.heap.size _ _ (by omega) hD1 rfl rfl)⟩
  case stop =>
    rintro c t W _ h _
    exact h.elim
end Go.Proofs.Ytehfcnndjhjkoaa.PA

namespace Go.Proofs.Ytehfcnndjhjkoaa.PA
open Go.RowKit Go.Proofs.YtehfcnndjhjkoaaW.PrintWords Go.Proofs.YtehfcnndjhjkoaaW.PrintLast Go.Proofs.YtehfcnndjhjkoaaW.PrintMore
set_option linter.unusedVariables false
set_option linter.unusedSimpArgs false
def stDrop (k : List Int) : List Int := (List.range k.length).map fun (i : Nat) => mx 0 (rd k (i : Int))
theorem stDrop_rd (k : List Int) (i : Nat) (h : i < k.length) : rd (stDrop k) (i : Int) = mx 0 (rd k (i : Int)) := rd_range _ _ _ h
/-- The shape that is left, its first j numbers. -/
def dropL (s k : List Int) (j : Nat) : List Int := (List.range j).map fun (i : Nat) => mx 0 (rd s (i : Int) - (if rd k (i : Int) < 0 then -rd k (i : Int) else rd k (i : Int)))
theorem dropL_len (s k : List Int) (j : Nat) : (dropL s k j).length = j := by simp [dropL]
theorem dropL_succ (s k : List Int) (j : Nat) : dropL s k (j + 1) = dropL s k j ++ [mx 0 (rd s (j : Int) - (if rd k (j : Int) < 0 then -rd k (j : Int) else rd k (j : Int)))] := by simp [dropL, List.range_succ]
theorem drop_fn (k : Nat) (i : Int) (gK : Nat) (a : Bool) (A1 : Option Addr) (n1 c1 : Nat) (A2 : Option Addr) (c2 : Nat) (l2 : List Int) (W : World)
    (hK : W.heap[gK]? = some (.cells #[.bool a, .slice A1 n1 c1, .slice A2 l2.length c2] 28 (0, 0)))
    (hc2 : Kd.C (Kd.int .i64) W A2 l2.length l2) (hk : k < l2.length) (i0 : 0 ≤ i) (i1 : i ≤ 10000) (r0 : -1000000000000000 ≤ rd l2 (k : Int) ∧ rd l2 (k : Int) ≤ 1000000000000000) :
    Calls Try.prog 131 #[.int .i64 (k : Int), .int .i64 i, .pointer (some ⟨gK, 0, none⟩)] W fun e w' => e = .returned (.int .i64 (i + rd (stDrop l2) (k : Int))) ∧ ∃ q, w' = W.drewN q := by
  rw [stDrop_rd _ _ hk]
  have x2 : W.cell? ⟨gK, 2, none⟩ = some (.slice A2 l2.length c2) := (blk_cell hK 2).trans rfl
  obtain ⟨ad1, rfl, y1⟩ := Kd.at_int hc2 (k : Int) (by omega) (by omega)
  rw [Int.toNat_natCast] at y1
  have p0 : 0 ≤ (k : Int) := by omega
  have p1 : (k : Int) < (l2.length : Int) := by omega
  obtain ⟨n, hne⟩ : ∃ n, rd l2 (k : Int) = n := ⟨_, rfl⟩
  rw [hne] at y1 r0 ⊢
  obtain ⟨r0, r1⟩ := r0
  clear hK hc2 hne hk
  have hm0 : 0 ≤ mx 0 n := by unfold mx; split <;> omega
  have hm1 : mx 0 n ≤ 1000000000000000 := by unfold mx; split <;> omega
  go_enter Try.func131, Try.ntmps131
  go_wp2
  all_goals
    go_ret
    refine ⟨?_, 0, rfl⟩
    first | (rw [show mx 0 n = n by unfold mx; split <;> omega]; rfl) | (rw [show mx 0 n = 0 by unfold mx; split <;> omega, Int.add_zero]; rfl)
theorem drop_gives (gK : Nat) (a : Bool) (A1 : Option Addr) (n1 c1 : Nat) (A2 : Option Addr) (c2 : Nat) (l2 : List Int) (s : List Int) (W : World)
    (hK : W.heap[gK]? = some (.cells #[.bool a, .slice A1 n1 c1, .slice A2 l2.length c2] 28 (0, 0)))
    (hc2 : Kd.C (Kd.int .i64) W A2 l2.length l2) (hs : s.length = l2.length) (hr : ∀ x ∈ s, 0 ≤ x ∧ x ≤ 10000) (r0 : ∀ x ∈ l2, -1000000000000000 ≤ x ∧ x ≤ 1000000000000000) :
    Gives2 131 #[.pointer (some ⟨gK, 0, none⟩)] (fun k i => i + rd (stDrop l2) (k : Int)) s W := by
  intro W' k i hb hk i0 i1
  exact drop_fn k i gK a A1 n1 c1 A2 c2 l2 W' (blk_below hK hb) (Kd.C_below hc2 hb) (by omega) i0 (by have := (hr _ (rd_mem' s k hk)).2; omega) (r0 _ (rd_mem' l2 k (by omega)))
theorem axisP_n (b : Bool) (A1 : Option Addr) (n1 c1 : Nat) (l1 : List Int) (A2 : Option Addr) (c2 : Nat) (l2 : List Int) (gS n : Nat) (s : List Int) (g : Nat) (lb : Array Value) (f : Nat → Int → Int) (eg : ∀ args w, (callFunc g args).run Try.prog w = .ok (.enter g args) w) (w : World)
    (h1 : Kd.C (Kd.int .i64) w A1 l1.length l1) (k1 : l1.length ≤ c1) (hn1 : l1.length = n1) (hs : Kd.C (Kd.int .i64) w (some ⟨gS, 0, none⟩) s.length s) (hn : s.length = n) (hl : l1.length = n) (h5 : n ≤ 5) (hp : 0 ≤ prod s ∧ prod s ≤ 10000) (k : Nat) (hk : impl_shapeOk.f k s = some (prod s, true)) (hf : Gives2 g lb f s w) (hrg : ∀ (t : Nat), t < (prod s).toNat → ∀ k : Nat, k < s.length → 0 ≤ rd (idxL s t) (k : Int) ∧ rd (idxL s t) (k : Int) < rd s (k : Int)) :
    CallsIn Fence.wide 9 Try.prog 130 #[.agg #[.bool b, .slice A1 n1 c1, .slice A2 l2.length c2], .slice (some ⟨gS, 0, none⟩) n n, .func (.func g) #[] lb] w fun e w' => ∃ v, e = .returned (.agg #[.slice (some ⟨gS, 0, none⟩) n n, v]) ∧ Kd.R (Kd.int .i64) 3 w' w.heap.size (fun _ => True) v (fromL l1 s f (prod s).toNat) ∧ Below w.heap.size w w' := by
  subst hn hn1
  exact axisP_in b A1 c1 l1 A2 c2 l2 (some ⟨gS, 0, none⟩) s.length s g lb f eg w h1 k1 hs (Nat.le_refl _) hl h5 hp k hk hf hrg
theorem dropL_range (s k : List Int) (n : Nat) (hn : n ≤ s.length) (hs : ∀ x ∈ s, 0 ≤ x ∧ x ≤ 10000) (hk : ∀ x ∈ k, -1000000000000000 ≤ x ∧ x ≤ 1000000000000000) : ∀ x ∈ dropL s k n, 0 ≤ x ∧ x ≤ 10000 := by
  intro x hx
  simp only [dropL, List.mem_map, List.mem_range] at hx
  obtain ⟨i, hi, rfl⟩ := hx
  have h1 := hs _ (rd_mem' s i (by omega))
  unfold mx
  split <;> split <;> omega
theorem mx0_bounds (z m : Int) (z0 : 0 ≤ z) (z1 : z ≤ 10000) (m0 : 0 ≤ m) : 0 ≤ mx 0 (z - m) ∧ mx 0 (z - m) ≤ 10000 := by unfold mx; split <;> omega
set_option maxHeartbeats 2000000 in
set_option maxRecDepth 100000 in
theorem dropMove_bad (a : Bool) (Aa1 : Option Addr) (ca1 : Nat) (la1 : List Int) (Aa2 : Option Addr) (ca2 : Nat) (la2 : List Int) (b : Bool) (Ab1 : Option Addr) (cb1 : Nat) (lb1 : List Int) (Ab2 : Option Addr) (cb2 : Nat) (lb2 : List Int) (w : World) (ha1 : Kd.C (Kd.int .i64) w Aa1 la1.length la1) (ka1 : la1.length ≤ ca1) (ha2 : Kd.C (Kd.int .i64) w Aa2 la2.length la2) (ka2 : la2.length ≤ ca2) (hb1 : Kd.C (Kd.int .i64) w Ab1 lb1.length lb1) (kb1 : lb1.length ≤ cb1) (hb2 : Kd.C (Kd.int .i64) w Ab2 lb2.length lb2) (kb2 : lb2.length ≤ cb2) (v : Int) (hv : v ≠ 0) (hx : ∀ W, Below w.heap.size w W → Calls Try.prog 128 #[.agg #[.bool a, .slice Aa1 la1.length ca1, .slice Aa2 la2.length ca2], .agg #[.bool b, .slice Ab1 lb1.length cb1, .slice Ab2 lb2.length cb2]] W fun e w' => e = .returned (.tuple #[.agg #[.bool b, .slice Ab1 lb1.length cb1, .slice Ab2 lb2.length cb2], .int .i64 v]) ∧ Below W.heap.size W w') :
    Calls Try.prog 98 #[.agg #[.bool a, .slice Aa1 la1.length ca1, .slice Aa2 la2.length ca2], .agg #[.bool b, .slice Ab1 lb1.length cb1, .slice Ab2 lb2.length cb2]] w fun e w' => ∃ A1 c1 A2 c2, e = .returned (.tuple #[.agg #[.slice A1 ([] : List Int).length c1, .slice A2 ([] : List Int).length c2], .int .i64 v]) ∧ Kd.C (Kd.int .i64) w' A1 ([] : List Int).length [] ∧ ([] : List Int).length ≤ c1 ∧ Kd.C (Kd.int .i64) w' A2 ([] : List Int).length [] ∧ ([] : List Int).length ≤ c2 ∧ Below w.heap.size w w' := by
  have Ha1 := Aside0.mk ha1
  have Ka1 := Aside0.mk ka1
  clear ha1 ka1
  have Ha2 := Aside0.mk ha2
  have Ka2 := Aside0.mk ka2
  clear ha2 ka2
  have Hb1 := Aside0.mk hb1
  have Kb1 := Aside0.mk kb1
  clear hb1 kb1
  have Hb2 := Aside0.mk hb2
  have Kb2 := Aside0.mk kb2
  clear hb2 kb2
  have HX := Aside0.mk hx
  have c0 : (v == 0) = false := beq_eq_false_iff_ne.mpr hv
  have c1 : (v != 0) = true := bne_iff_ne.mpr hv
  clear hx hv
  have HS := Aside0.mk (Sx.start w)
  go_enter Try.func98, Try.ntmps98
  go_wp2_with (first | ((with_reducible refine gate_dst (N := 2) rfl ?_); refine box_event ?hg (N := 2) ?hd (cs := #[.bool a, .slice Aa1 la1.length ca1, .slice Aa2 la2.length ca2]) (t := 28) ?hr ?_; (case hd => rfl); (case hg => rfl); (case hr => first | (go_simp; done) | (go_simp; rfl)); intro gK hg1 w1 hx1 hb1; have nS : Aside0 (Sx w w1 [(.blk gK #[.bool a, .slice Aa1 la1.length ca1, .slice Aa2 la2.length ca2] 28)]) := Aside0.mk (HS.out.box hg1 hx1 hb1); clear HS; have HS := nS; clear nS hg1 hx1 hb1) | ((with_reducible refine gate_dst (N := 3) rfl ?_); refine box_event ?hg (N := 3) ?hd (cs := #[.bool b, .slice Ab1 lb1.length cb1, .slice Ab2 lb2.length cb2]) (t := 28) ?hr ?_; (case hd => rfl); (case hg => rfl); (case hr => first | (go_simp; done) | (go_simp; rfl)); intro gB hg2 w2 hx2 hb2; have nS : Aside0 (Sx w w2 [(.blk gB #[.bool b, .slice Ab1 lb1.length cb1, .slice Ab2 lb2.length cb2] 28), (.blk gK #[.bool a, .slice Aa1 la1.length ca1, .slice Aa2 la2.length ca2] 28)]) := Aside0.mk (HS.out.box hg2 hx2 hb2); clear HS; have HS := nS; clear nS hg2 hx2 hb2) | ((with_reducible refine gate_dst (N := 4) rfl ?_); refine box_event ?hg (N := 4) ?hd (cs := #[.slice none 0 0, .slice none 0 0]) (t := 70) ?hr ?_; (case hd => rfl); (case hg => rfl); (case hr => first | (go_simp; done) | (go_simp; rfl)); intro gR hg3 w3 hx3 hb3; have nS : Aside0 (Sx w w3 [(.blk gR #[.slice none 0 0, .slice none 0 0] 70), (.blk gB #[.bool b, .slice Ab1 lb1.length cb1, .slice Ab2 lb2.length cb2] 28), (.blk gK #[.bool a, .slice Aa1 la1.length ca1, .slice Aa2 la2.length ca2] 28)]) := Aside0.mk (HS.out.box hg3 hx3 hb3); clear HS; have HS := nS; clear nS hg3 hx3 hb3) | ((with_reducible refine gate_dst (N := 11) rfl ?_); refine wpList_load_row rfl 28 (.tmp 2) rfl gK rfl 28 #[.bool a, .slice Aa1 la1.length ca1, .slice Aa2 la2.length ca2] (0, 0) _ (HS.out.blk 2 rfl) Try.underlying28 rfl (by kernel_rfl) ?_) | ((with_reducible refine gate_dst (N := 12) rfl ?_); refine wpList_load_row rfl 28 (.tmp 3) rfl gB rfl 28 #[.bool b, .slice Ab1 lb1.length cb1, .slice Ab2 lb2.length cb2] (0, 0) _ (HS.out.blk 1 rfl) Try.underlying28 rfl (by kernel_rfl) ?_) | (go_at_call 128; refine (HX.out _ HS.out.below).mono ?_; rintro e w4 ⟨rfl, hb4⟩; have nS : Aside0 (Sx w w4 [(.blk gR #[.slice none 0 0, .slice none 0 0] 70), (.blk gB #[.bool b, .slice Ab1 lb1.length cb1, .slice Ab2 lb2.length cb2] 28), (.blk gK #[.bool a, .slice Aa1 la1.length ca1, .slice Aa2 la2.length ca2] 28)]) := Aside0.mk (HS.out.step hb4); clear HS; have HS := nS; clear nS hb4) | ((with_reducible refine gate_store rfl ?_); refine store_named rfl 28 (.tmp 3) (.tmp 14) rfl gB #[.bool b, .slice Ab1 lb1.length cb1, .slice Ab2 lb2.length cb2] rfl rfl 28 #[.bool b, .slice Ab1 lb1.length cb1, .slice Ab2 lb2.length cb2] (HS.out.blk 1 rfl) (by kernel_rfl) rfl (by simp [Value.oneCell']) ?_; intro w5 hx5 hb5; have nS : Aside0 (Sx w w5 [(.blk gR #[.slice none 0 0, .slice none 0 0] 70), (.blk gB #[.bool b, .slice Ab1 lb1.length cb1, .slice Ab2 lb2.length cb2] 28), (.blk gK #[.bool a, .slice Aa1 la1.length ca1, .slice Aa2 la2.length ca2] 28)]) := Aside0.mk (HS.out.put 1 rfl hx5 hb5); clear HS; have HS := nS; clear nS hx5 hb5) | ((with_reducible refine gate_store rfl ?_); refine store_named rfl 70 (.tmp 4) (.tmp 18) rfl gR #[.slice none 0 0, .slice none 0 0] rfl rfl 70 #[.slice none 0 0, .slice none 0 0] (HS.out.blk 0 rfl) (by kernel_rfl) rfl (by simp [Value.oneCell']) ?_; intro w6 hx6 hb6; have nS : Aside0 (Sx w w6 [(.blk gR #[.slice none 0 0, .slice none 0 0] 70), (.blk gB #[.bool b, .slice Ab1 lb1.length cb1, .slice Ab2 lb2.length cb2] 28), (.blk gK #[.bool a, .slice Aa1 la1.length ca1, .slice Aa2 la2.length ca2] 28)]) := Aside0.mk (HS.out.put 0 rfl hx6 hb6); clear HS; have HS := nS; clear nS hx6 hb6))
  refine bodyPost_ret (results_ct rfl _ _ gR 70 #[.slice none 0 0, .slice none 0 0] (0, 0) _ rfl (HS.out.blk 0 rfl) Try.underlying70 rfl (by kernel_rfl)) rfl ?_
  exact ⟨none, 0, none, 0, rfl, Kd.C_nil _ _, Nat.le_refl _, Kd.C_nil _ _, Nat.le_refl _, HS.out.below⟩
set_option maxHeartbeats 2000000 in
set_option maxRecDepth 100000 in
theorem dropMove_same (a : Bool) (Aa1 : Option Addr) (ca1 : Nat) (la1 : List Int) (Aa2 : Option Addr) (ca2 : Nat) (la2 : List Int) (b : Bool) (Ab1 : Option Addr) (cb1 : Nat) (lb1 : List Int) (Ab2 : Option Addr) (cb2 : Nat) (lb2 : List Int) (w : World) (ha1 : Kd.C (Kd.int .i64) w Aa1 la1.length la1) (ka1 : la1.length ≤ ca1) (ha2 : Kd.C (Kd.int .i64) w Aa2 la2.length la2) (ka2 : la2.length ≤ ca2) (hb1 : Kd.C (Kd.int .i64) w Ab1 lb1.length lb1) (kb1 : lb1.length ≤ cb1) (hb2 : Kd.C (Kd.int .i64) w Ab2 lb2.length lb2) (kb2 : lb2.length ≤ cb2) (hx : ∀ W, Below w.heap.size w W → Calls Try.prog 128 #[.agg #[.bool a, .slice Aa1 la1.length ca1, .slice Aa2 la2.length ca2], .agg #[.bool b, .slice Ab1 lb1.length cb1, .slice Ab2 lb2.length cb2]] W fun e w' => e = .returned (.tuple #[.agg #[.bool b, .slice Ab1 lb1.length cb1, .slice Ab2 lb2.length cb2], .int .i64 0]) ∧ Below W.heap.size W w') (hr0 : ∀ x ∈ la2, -1000000000000000 ≤ x ∧ x ≤ 1000000000000000) (hls : la2.length ≤ 10000) (ks : Nat) (hso : impl_shapeOk.f ks (dropL lb1 la2 la2.length) = some (prod (dropL lb1 la2 la2.length), true)) (hsl : lb1.length = la2.length) (h5 : la2.length ≤ 5) (hp : 0 ≤ prod (dropL lb1 la2 la2.length) ∧ prod (dropL lb1 la2 la2.length) ≤ 10000) (hrb : ∀ x ∈ lb1, 0 ≤ x ∧ x ≤ 10000) (hrg : ∀ (t : Nat), t < (prod (dropL lb1 la2 la2.length)).toNat → ∀ k : Nat, k < (dropL lb1 la2 la2.length).length → 0 ≤ rd (idxL (dropL lb1 la2 la2.length) t) (k : Int) ∧ rd (idxL (dropL lb1 la2 la2.length) t) (k : Int) < rd (dropL lb1 la2 la2.length) (k : Int)) :
    Calls Try.prog 98 #[.agg #[.bool a, .slice Aa1 la1.length ca1, .slice Aa2 la2.length ca2], .agg #[.bool b, .slice Ab1 lb1.length cb1, .slice Ab2 lb2.length cb2]] w fun e w' => ∃ A1 c1 A2 c2, e = .returned (.tuple #[.agg #[.slice A1 ((dropL lb1 la2 la2.length) : List Int).length c1, .slice A2 ((fromL lb1 (dropL lb1 la2 la2.length) (fun k i => i + rd (stDrop la2) (k : Int)) (prod (dropL lb1 la2 la2.length)).toNat) : List Int).length c2], .int .i64 0]) ∧ Kd.C (Kd.int .i64) w' A1 ((dropL lb1 la2 la2.length) : List Int).length (dropL lb1 la2 la2.length) ∧ ((dropL lb1 la2 la2.length) : List Int).length ≤ c1 ∧ Kd.C (Kd.int .i64) w' A2 ((fromL lb1 (dropL lb1 la2 la2.length) (fun k i => i + rd (stDrop la2) (k : Int)) (prod (dropL lb1 la2 la2.length)).toNat) : List Int).length (fromL lb1 (dropL lb1 la2 la2.length) (fun k i => i + rd (stDrop la2) (k : Int)) (prod (dropL lb1 la2 la2.length)).toNat) ∧ ((fromL lb1 (dropL lb1 la2 la2.length) (fun k i => i + rd (stDrop la2) (k : Int)) (prod (dropL lb1 la2 la2.length)).toNat) : List Int).length ≤ c2 ∧ Below w.heap.size w w' := by
  have Ha1 := Aside0.mk ha1
  have Ka1 := Aside0.mk ka1
  clear ha1 ka1
  have Ha2 := Aside0.mk ha2
  have Ka2 := Aside0.mk ka2
  clear ha2 ka2
  have Hb1 := Aside0.mk hb1
  have Kb1 := Aside0.mk kb1
  clear hb1 kb1
  have Hb2 := Aside0.mk hb2
  have Kb2 := Aside0.mk kb2
  clear hb2 kb2
  have HX := Aside0.mk hx
  have HR0 := Aside0.mk hr0
  have HSO := Aside0.mk hso
  have hmk := make_rowN la2.length (by omega)
  have HLS := Aside0.mk (show (dropL lb1 la2 la2.length).length ≤ 9223372036854775807 by rw [dropL_len]; omega)
  clear hx hso
  have HSL := Aside0.mk hsl
  have H5 := Aside0.mk h5
  have HP := Aside0.mk hp
  have HRB := Aside0.mk hrb
  have HRS := Aside0.mk (dropL_range lb1 la2 la2.length (by omega) hrb hr0)
  have HRG := Aside0.mk hrg
  clear hsl h5 hp hrb hrg hr0
  have HS := Aside0.mk (Sx.start w)
  go_enter Try.func98, Try.ntmps98
  go_wp2_with (first | ((with_reducible refine gate_dst (N := 2) rfl ?_); refine box_event ?hg (N := 2) ?hd (cs := #[.bool a, .slice Aa1 la1.length ca1, .slice Aa2 la2.length ca2]) (t := 28) ?hr ?_; (case hd => rfl); (case hg => rfl); (case hr => first | (go_simp; done) | (go_simp; rfl)); intro gK hg1 w1 hx1 hb1; have nS : Aside0 (Sx w w1 [(.blk gK #[.bool a, .slice Aa1 la1.length ca1, .slice Aa2 la2.length ca2] 28)]) := Aside0.mk (HS.out.box hg1 hx1 hb1); clear HS; have HS := nS; clear nS hg1 hx1 hb1) | ((with_reducible refine gate_dst (N := 3) rfl ?_); refine box_event ?hg (N := 3) ?hd (cs := #[.bool b, .slice Ab1 lb1.length cb1, .slice Ab2 lb2.length cb2]) (t := 28) ?hr ?_; (case hd => rfl); (case hg => rfl); (case hr => first | (go_simp; done) | (go_simp; rfl)); intro gB hg2 w2 hx2 hb2; have nS : Aside0 (Sx w w2 [(.blk gB #[.bool b, .slice Ab1 lb1.length cb1, .slice Ab2 lb2.length cb2] 28), (.blk gK #[.bool a, .slice Aa1 la1.length ca1, .slice Aa2 la2.length ca2] 28)]) := Aside0.mk (HS.out.box hg2 hx2 hb2); clear HS; have HS := nS; clear nS hg2 hx2 hb2) | ((with_reducible refine gate_dst (N := 4) rfl ?_); refine box_event ?hg (N := 4) ?hd (cs := #[.slice none 0 0, .slice none 0 0]) (t := 70) ?hr ?_; (case hd => rfl); (case hg => rfl); (case hr => first | (go_simp; done) | (go_simp; rfl)); intro gR hg3 w3 hx3 hb3; have nS : Aside0 (Sx w w3 [(.blk gR #[.slice none 0 0, .slice none 0 0] 70), (.blk gB #[.bool b, .slice Ab1 lb1.length cb1, .slice Ab2 lb2.length cb2] 28), (.blk gK #[.bool a, .slice Aa1 la1.length ca1, .slice Aa2 la2.length ca2] 28)]) := Aside0.mk (HS.out.box hg3 hx3 hb3); clear HS; have HS := nS; clear nS hg3 hx3 hb3) | ((with_reducible refine gate_dst (N := 11) rfl ?_); refine wpList_load_row rfl 28 (.tmp 2) rfl gK rfl 28 #[.bool a, .slice Aa1 la1.length ca1, .slice Aa2 la2.length ca2] (0, 0) _ (HS.out.blk 2 rfl) Try.underlying28 rfl (by kernel_rfl) ?_) | ((with_reducible refine gate_dst (N := 12) rfl ?_); refine wpList_load_row rfl 28 (.tmp 3) rfl gB rfl 28 #[.bool b, .slice Ab1 lb1.length cb1, .slice Ab2 lb2.length cb2] (0, 0) _ (HS.out.blk 1 rfl) Try.underlying28 rfl (by kernel_rfl) ?_) | (go_at_call 128; refine (HX.out _ HS.out.below).mono ?_; rintro e w4 ⟨rfl, hb4⟩; have nS : Aside0 (Sx w w4 [(.blk gR #[.slice none 0 0, .slice none 0 0] 70), (.blk gB #[.bool b, .slice Ab1 lb1.length cb1, .slice Ab2 lb2.length cb2] 28), (.blk gK #[.bool a, .slice Aa1 la1.length ca1, .slice Aa2 la2.length ca2] 28)]) := Aside0.mk (HS.out.step hb4); clear HS; have HS := nS; clear nS hb4) | ((with_reducible refine gate_store rfl ?_); refine store_named rfl 28 (.tmp 3) (.tmp 14) rfl gB #[.bool b, .slice Ab1 lb1.length cb1, .slice Ab2 lb2.length cb2] rfl rfl 28 #[.bool b, .slice Ab1 lb1.length cb1, .slice Ab2 lb2.length cb2] (HS.out.blk 1 rfl) (by kernel_rfl) rfl (by simp [Value.oneCell']) ?_; intro w5 hx5 hb5; have nS : Aside0 (Sx w w5 [(.blk gR #[.slice none 0 0, .slice none 0 0] 70), (.blk gB #[.bool b, .slice Ab1 lb1.length cb1, .slice Ab2 lb2.length cb2] 28), (.blk gK #[.bool a, .slice Aa1 la1.length ca1, .slice Aa2 la2.length ca2] 28)]) := Aside0.mk (HS.out.put 1 rfl hx5 hb5); clear HS; have HS := nS; clear nS hx5 hb5) | ((with_reducible refine gate_dst (N := 21) rfl ?_); refine ev_load rfl 22 (.tmp 20) rfl ⟨gK, 2, none⟩ rfl (.slice Aa2 la2.length ca2) ((blk_cell (HS.out.blk 2 rfl) 2).trans rfl) (by kernel_rfl) ?_) | ((with_reducible refine gate_dst (N := 23) rfl ?_); refine lit_event ?hg (N := 23) ?hd (cs := (rowI (List.replicate la2.length 0))) (t := 3) (n := la2.length) ?hr ?_; (case hd => rfl); (case hg => rfl); (case hr => first | (go_simp; done) | (go_simp; rfl)); intro gS hg6 w6 hx6 hb6; have nS : Aside0 (Sx w w6 [(.blk gS (rowI (List.replicate la2.length 0)) 3), (.blk gR #[.slice none 0 0, .slice none 0 0] 70), (.blk gB #[.bool b, .slice Ab1 lb1.length cb1, .slice Ab2 lb2.length cb2] 28), (.blk gK #[.bool a, .slice Aa1 la1.length ca1, .slice Aa2 la2.length ca2] 28)]) := Aside0.mk (HS.out.box hg6 hx6 hb6); clear HS; have HS := nS; clear nS hg6 hx6 hb6) | ((with_reducible refine gate_dst (N := 25) rfl ?_); refine ev_load rfl 22 (.tmp 24) rfl ⟨gK, 2, none⟩ rfl (.slice Aa2 la2.length ca2) ((blk_cell (HS.out.blk 3 rfl) 2).trans rfl) (by kernel_rfl) ?_))
  go_loopw [8, 9, 27] (fun _ _ z wr => ∃ j : Nat, z = .int .i64 (j : Int) ∧ Aside0 (j ≤ la2.length) ∧ Aside0 (Sx w wr [(.blk gS (rowI (dropL lb1 la2 j ++ List.replicate (la2.length - j) 0)) 3), (.blk gR #[.slice none 0 0, .slice none 0 0] 70), (.blk gB #[.bool b, .slice Ab1 lb1.length cb1, .slice Ab2 lb2.length cb2] 28), (.blk gK #[.bool a, .slice Aa1 la1.length ca1, .slice Aa2 la2.length ca2] 28)])) (fun _ _ z _ => la2.length - (intOf z).toNat)
  case atStart => exact ⟨0, rfl, ⟨Nat.zero_le _⟩, ⟨by simpa [dropL] using HS.out⟩⟩
  case round =>
    clear HS
    obtain ⟨j, rfl, hj, HS⟩ := hrel
    by_cases hlt : j < la2.length
    · obtain ⟨ad, rfl, y1⟩ := Kd.at_int (Kd.C_below Ha2.out HS.out.below) (j : Int) (by omega) (by omega)
      rw [Int.toNat_natCast] at y1
      have hb := HR0.out _ (rd_mem' la2 j hlt)
      obtain ⟨n, hne⟩ : ∃ n, n = rd la2 (j : Int) := ⟨_, rfl⟩
      have HN := Aside0.mk hne
      rw [← hne] at y1 hb
      obtain ⟨m_, hme⟩ : ∃ m, (if n < 0 then -n else n) = m := ⟨_, rfl⟩
      have HM := Aside0.mk hme
      have HABS := Aside0.mk ((abs_eq n hb.1 hb.2).trans (by rw [hme]))
      have m0 : 0 ≤ m_ := by rw [← hme]; split <;> omega
      have m1 : m_ ≤ 1000000000000000 := by rw [← hme]; split <;> omega
      obtain ⟨z_, hze⟩ : ∃ z, rd lb1 (j : Int) = z := ⟨_, rfl⟩
      have HZ := Aside0.mk hze
      have hzr := HRB.out _ (rd_mem' lb1 j (by rw [HSL.out]; exact hlt))
      rw [hze] at hzr
      obtain ⟨z0, z1⟩ := hzr
      have p0 : 0 ≤ (j : Int) := by omega
      have p1 : (j : Int) < (la2.length : Int) := by omega
      have HLT := Aside0.mk hlt
      have HL := Aside0.mk (show j < (dropL lb1 la2 j ++ List.replicate (la2.length - j) 0).length by rw [List.length_append, dropL_len, List.length_replicate]; omega)
      obtain ⟨c_, hce⟩ : ∃ c, rd (dropL lb1 la2 j ++ List.replicate (la2.length - j) 0) (j : Int) = c := ⟨_, rfl⟩
      have HC := Aside0.mk hce
      have hw : IntKind.i64.wrap (z_ - m_) = z_ - m_ := IntWalk.i64_in _ (by omega)
      clear hne hme hze hb hce
      obtain ⟨ad2, rfl, y2⟩ := Kd.at_int (Kd.C_below Hb1.out HS.out.below) (j : Int) (by omega) (by have := HSL.out; omega)
      clear y2
      have p2 : (j : Int) < (lb1.length : Int) := by have := HSL.out; omega
      have xB : wr.cell? ⟨gB, 1, none⟩ = some (.slice (some ad2) lb1.length cb1) := (blk_cell (HS.out.blk 2 rfl) 1).trans rfl
      have y2 : wr.cell? (ad2.add j) = some (.int .i64 z_) := (C_at (Kd.C_below Hb1.out (Sx.below (show Sx w _ _ from (by repeat (first | (with_reducible exact HS.out) | (with_reducible apply Sx.drew) | (with_reducible apply Sx.drewN) | (with_reducible apply Sx.alloc)))))) j (by rw [HSL.out]; exact HLT.out)).trans (by rw [HZ.out])
      go_upto_region 8 with fail
      go_region_held3 (fun w' => w'.cell? ⟨gB, 1, none⟩ = some (.slice (some ad2) lb1.length cb1) ∧ w'.cell? (ad2.add j) = some (.int .i64 z_)) ((first | (exact ⟨(blk_cell (Sx.blkM (by repeat (first | (with_reducible exact HS.out) | (with_reducible apply Sx.drew) | (with_reducible apply Sx.drewN) | (with_reducible apply Sx.alloc))) (g := gB) (cs := #[.bool b, .slice (some ad2) lb1.length cb1, .slice Ab2 lb2.length cb2]) (t := 28) (by simp)) 1).trans rfl, (C_at (Kd.C_below Hb1.out (Sx.below (show Sx w _ _ from (by repeat (first | (with_reducible exact HS.out) | (with_reducible apply Sx.drew) | (with_reducible apply Sx.drewN) | (with_reducible apply Sx.alloc)))))) j (by rw [HSL.out]; exact HLT.out)).trans (by rw [HZ.out])⟩) | (exact ⟨(blk_cell (Sx.blkM (HS.out.put 0 rfl (blk_set (HS.out.blk 0 rfl) j _) (But1.set1 gS j _ _)) (g := gB) (cs := #[.bool b, .slice (some ad2) lb1.length cb1, .slice Ab2 lb2.length cb2]) (t := 28) (by simp)) 1).trans rfl, (C_at (Kd.C_below Hb1.out (Sx.below (show Sx w _ _ from (HS.out.put 0 rfl (blk_set (HS.out.blk 0 rfl) j _) (But1.set1 gS j _ _))))) j (by rw [HSL.out]; exact HLT.out)).trans (by rw [HZ.out])⟩))) (first | (go_at_call 129; refine (impl_absolute.calls n m_ _ HABS.out).mono ?_; rintro e wr1 ⟨rfl, hbr1⟩; have nS : Aside0 (Sx w wr1 [(.blk gS (rowI (dropL lb1 la2 j ++ List.replicate (la2.length - j) 0)) 3), (.blk gR #[.slice none 0 0, .slice none 0 0] 70), (.blk gB #[.bool b, .slice (some ad2) lb1.length cb1, .slice Ab2 lb2.length cb2] 28), (.blk gK #[.bool a, .slice Aa1 la1.length ca1, .slice (some ad) la2.length ca2] 28)]) := Aside0.mk ((show Sx w _ [(.blk gS (rowI (dropL lb1 la2 j ++ List.replicate (la2.length - j) 0)) 3), (.blk gR #[.slice none 0 0, .slice none 0 0] 70), (.blk gB #[.bool b, .slice (some ad2) lb1.length cb1, .slice Ab2 lb2.length cb2] 28), (.blk gK #[.bool a, .slice Aa1 la1.length ca1, .slice (some ad) la2.length ca2] 28)] from (by repeat (first | (with_reducible exact HS.out) | (with_reducible apply Sx.drew) | (with_reducible apply Sx.drewN) | (with_reducible apply Sx.alloc)))).step hbr1); clear HS; have HS := nS; clear nS hbr1; have xC : wr1.cell? ⟨gS, j, none⟩ = some (.int .i64 c_) := (rowI_cell (HS.out.blk 0 rfl) j HL.out).trans (by rw [HC.out]); have fC : wr1.frozen? ⟨gS, j, none⟩ = false := blk_frozen (HS.out.blk 0 rfl) j))
      have nS : Aside0 (Sx w (wr1.setCell ⟨gS, j, none⟩ (.int .i64 (if m_ < z_ then z_ - m_ else 0))) [(.blk gS (rowI ((dropL lb1 la2 j ++ List.replicate (la2.length - j) 0).set j (if m_ < z_ then z_ - m_ else 0))) 3), (.blk gR #[.slice none 0 0, .slice none 0 0] 70), (.blk gB #[.bool b, .slice (some ad2) lb1.length cb1, .slice Ab2 lb2.length cb2] 28), (.blk gK #[.bool a, .slice Aa1 la1.length ca1, .slice (some ad) la2.length ca2] 28)]) := Aside0.mk (by have h := HS.out.put 0 rfl (blk_set (HS.out.blk 0 rfl) j (.int .i64 (if m_ < z_ then z_ - m_ else 0))) (But1.set1 gS j _ _); rw [rowI_set] at h; exact h)
      clear HS xC fC hw
      have HS := nS
      clear nS
      go_wp2
      go_roundw
      case rel =>
        refine ⟨j + 1, by push_cast; rfl, ⟨hlt⟩, ⟨?_⟩⟩
        have h := fill_next (dropL lb1 la2 j) (if m_ < z_ then z_ - m_ else 0) la2.length j (dropL_len _ _ _) hlt
        have hq : dropL lb1 la2 (j + 1) = dropL lb1 la2 j ++ [if m_ < z_ then z_ - m_ else 0] := by
          rw [dropL_succ, HZ.out, ← HN.out, HM.out]
          congr 2
          unfold mx
          split <;> split <;> omega
        rw [hq, ← h]
        exact HS.out
      case measure => simp [intOf]; omega
    · obtain rfl : j = la2.length := by have := hj.out; omega
      have HS' : Aside0 (Sx w wr [(.blk gS (rowI (dropL lb1 la2 la2.length)) 3), (.blk gR #[.slice none 0 0, .slice none 0 0] 70), (.blk gB #[.bool b, .slice Ab1 lb1.length cb1, .slice Ab2 lb2.length cb2] 28), (.blk gK #[.bool a, .slice Aa1 la1.length ca1, .slice Aa2 la2.length ca2] 28)]) := Aside0.mk (by have := HS.out; simpa using this)
      clear HS
      have HS := HS'
      clear HS'
      go_wp2_with (first | ((with_reducible refine gate_dst (N := 45) rfl ?_); refine wpList_load_row rfl 28 (.tmp 3) rfl gB rfl 28 #[.bool b, .slice Ab1 lb1.length cb1, .slice Ab2 lb2.length cb2] (0, 0) _ (HS.out.blk 2 rfl) Try.underlying28 rfl (by kernel_rfl) ?_) | (go_at_call 130; refine (callsIn_wide.1 (axisP_n b Ab1 lb1.length cb1 lb1 Ab2 cb2 lb2 gS la2.length (dropL lb1 la2 la2.length) 131 #[.pointer (some ⟨gK, 0, none⟩)] (fun k i => i + rd (stDrop la2) (k : Int)) (enters_of Try.func131 (by kernel_rfl) rfl) _ (Kd.C_below Hb1.out HS.out.below) Kb1.out rfl (rowI_C (HS.out.blk 0 rfl) HLS.out) (dropL_len lb1 la2 la2.length) HSL.out H5.out HP.out ks HSO.out (drop_gives gK a Aa1 _ ca1 Aa2 ca2 la2 (dropL lb1 la2 la2.length) _ (HS.out.blk 3 rfl) (Kd.C_below Ha2.out HS.out.below) (dropL_len lb1 la2 la2.length) HRS.out HR0.out) HRG.out)).mono ?_; rintro e wz1 ⟨v, rfl, hrz1, hbz1⟩; obtain ⟨Av, cv, rfl⟩ := Kd.R_slice hrz1; have nS : Aside0 (Sx w wz1 [(.row (.slice Av (fromL lb1 (dropL lb1 la2 la2.length) (fun k i => i + rd (stDrop la2) (k : Int)) (prod (dropL lb1 la2 la2.length)).toNat).length cv) (fromL lb1 (dropL lb1 la2 la2.length) (fun k i => i + rd (stDrop la2) (k : Int)) (prod (dropL lb1 la2 la2.length)).toNat)), (.blk gS (rowI (dropL lb1 la2 la2.length)) 3), (.blk gR #[.slice none 0 0, .slice none 0 0] 70), (.blk gB #[.bool b, .slice Ab1 lb1.length cb1, .slice Ab2 lb2.length cb2] 28), (.blk gK #[.bool a, .slice Aa1 la1.length ca1, .slice Aa2 la2.length ca2] 28)]) := Aside0.mk (HS.out.addRow hbz1 hrz1); clear HS; have HS := nS; clear nS hbz1 hrz1) | ((with_reducible refine gate_store rfl ?_); refine store_named rfl 70 (.tmp 4) (.tmp 48) rfl gR #[.slice (some ⟨gS, 0, none⟩) la2.length la2.length, .slice Av (fromL lb1 (dropL lb1 la2 la2.length) (fun k i => i + rd (stDrop la2) (k : Int)) (prod (dropL lb1 la2 la2.length)).toNat).length cv] rfl rfl 70 #[.slice none 0 0, .slice none 0 0] (HS.out.blk 2 rfl) (by kernel_rfl) rfl (by simp [Value.oneCell']) ?_; intro wz2 hxz2 hbz2; have nS : Aside0 (Sx w wz2 [(.row (.slice Av (fromL lb1 (dropL lb1 la2 la2.length) (fun k i => i + rd (stDrop la2) (k : Int)) (prod (dropL lb1 la2 la2.length)).toNat).length cv) (fromL lb1 (dropL lb1 la2 la2.length) (fun k i => i + rd (stDrop la2) (k : Int)) (prod (dropL lb1 la2 la2.length)).toNat)), (.blk gS (rowI (dropL lb1 la2 la2.length)) 3), (.blk gR #[.slice (some ⟨gS, 0, none⟩) la2.length la2.length, .slice Av (fromL lb1 (dropL lb1 la2 la2.length) (fun k i => i + rd (stDrop la2) (k : Int)) (prod (dropL lb1 la2 la2.length)).toNat).length cv] 70), (.blk gB #[.bool b, .slice Ab1 lb1.length cb1, .slice Ab2 lb2.length cb2] 28), (.blk gK #[.bool a, .slice Aa1 la1.length ca1, .slice Aa2 la2.length ca2] 28)]) := Aside0.mk (HS.out.put 2 rfl hxz2 hbz2); clear HS; have HS := nS; clear nS hxz2 hbz2))
      refine bodyPost_ret (results_ct rfl _ _ gR 70 #[.slice (some ⟨gS, 0, none⟩) la2.length la2.length, .slice Av (fromL lb1 (dropL lb1 la2 la2.length) (fun k i => i + rd (stDrop la2) (k : Int)) (prod (dropL lb1 la2 la2.length)).toNat).length cv] (0, 0) _ rfl (HS.out.blk 2 rfl) Try.underlying70 rfl (by kernel_rfl)) rfl ?_
      exact ⟨some ⟨gS, 0, none⟩, la2.length, Av, cv, by rw [dropL_len]; rfl, rowI_C (HS.out.blk 1 rfl) HLS.out, by rw [dropL_len]; exact Nat.le_refl _, HS.out.C 0 rfl, HS.out.cap 0 rfl, HS.out.below⟩
set_option maxHeartbeats 2000000 in
set_option maxRecDepth 100000 in
theorem dropMove_ones (a : Bool) (Aa1 : Option Addr) (ca1 : Nat) (la1 : List Int) (Aa2 : Option Addr) (ca2 : Nat) (la2 : List Int) (b : Bool) (Ab1 : Option Addr) (cb1 : Nat) (lb1 : List Int) (Ab2 : Option Addr) (cb2 : Nat) (lb2 : List Int) (w : World) (ha1 : Kd.C (Kd.int .i64) w Aa1 la1.length la1) (ka1 : la1.length ≤ ca1) (ha2 : Kd.C (Kd.int .i64) w Aa2 la2.length la2) (ka2 : la2.length ≤ ca2) (hb1 : Kd.C (Kd.int .i64) w Ab1 lb1.length lb1) (kb1 : lb1.length ≤ cb1) (hb2 : Kd.C (Kd.int .i64) w Ab2 lb2.length lb2) (kb2 : lb2.length ≤ cb2) (hx : ∀ W, Below w.heap.size w W → Calls Try.prog 128 #[.agg #[.bool a, .slice Aa1 la1.length ca1, .slice Aa2 la2.length ca2], .agg #[.bool b, .slice Ab1 lb1.length cb1, .slice Ab2 lb2.length cb2]] W fun e w' => ∃ As cs, e = .returned (.tuple #[.agg #[.bool b, .slice As la2.length cs, .slice Ab2 lb2.length cb2], .int .i64 0]) ∧ Kd.R (Kd.int .i64) 3 w' W.heap.size (fun _ => True) (.slice As la2.length cs) (List.replicate la2.length (1 : Int)) ∧ Below W.heap.size W w') (hr0 : ∀ x ∈ la2, -1000000000000000 ≤ x ∧ x ≤ 1000000000000000) (hls : la2.length ≤ 10000) (ks : Nat) (hso : impl_shapeOk.f ks (dropL (List.replicate la2.length (1 : Int)) la2 la2.length) = some (prod (dropL (List.replicate la2.length (1 : Int)) la2 la2.length), true)) (hsl : (List.replicate la2.length (1 : Int)).length = la2.length) (h5 : la2.length ≤ 5) (hp : 0 ≤ prod (dropL (List.replicate la2.length (1 : Int)) la2 la2.length) ∧ prod (dropL (List.replicate la2.length (1 : Int)) la2 la2.length) ≤ 10000) (hrb : ∀ x ∈ (List.replicate la2.length (1 : Int)), 0 ≤ x ∧ x ≤ 10000) (hrg : ∀ (t : Nat), t < (prod (dropL (List.replicate la2.length (1 : Int)) la2 la2.length)).toNat → ∀ k : Nat, k < (dropL (List.replicate la2.length (1 : Int)) la2 la2.length).length → 0 ≤ rd (idxL (dropL (List.replicate la2.length (1 : Int)) la2 la2.length) t) (k : Int) ∧ rd (idxL (dropL (List.replicate la2.length (1 : Int)) la2 la2.length) t) (k : Int) < rd (dropL (List.replicate la2.length (1 : Int)) la2 la2.length) (k : Int)) :
    Calls Try.prog 98 #[.agg #[.bool a, .slice Aa1 la1.length ca1, .slice Aa2 la2.length ca2], .agg #[.bool b, .slice Ab1 lb1.length cb1, .slice Ab2 lb2.length cb2]] w fun e w' => ∃ A1 c1 A2 c2, e = .returned (.tuple #[.agg #[.slice A1 ((dropL (List.replicate la2.length (1 : Int)) la2 la2.length) : List Int).length c1, .slice A2 ((fromL (List.replicate la2.length (1 : Int)) (dropL (List.replicate la2.length (1 : Int)) la2 la2.length) (fun k i => i + rd (stDrop la2) (k : Int)) (prod (dropL (List.replicate la2.length (1 : Int)) la2 la2.length)).toNat) : List Int).length c2], .int .i64 0]) ∧ Kd.C (Kd.int .i64) w' A1 ((dropL (List.replicate la2.length (1 : Int)) la2 la2.length) : List Int).length (dropL (List.replicate la2.length (1 : Int)) la2 la2.length) ∧ ((dropL (List.replicate la2.length (1 : Int)) la2 la2.length) : List Int).length ≤ c1 ∧ Kd.C (Kd.int .i64) w' A2 ((fromL (List.replicate la2.length (1 : Int)) (dropL (List.replicate la2.length (1 : Int)) la2 la2.length) (fun k i => i + rd (stDrop la2) (k : Int)) (prod (dropL (List.replicate la2.length (1 : Int)) la2 la2.length)).toNat) : List Int).length (fromL (List.replicate la2.length (1 : Int)) (dropL (List.replicate la2.length (1 : Int)) la2 la2.length) (fun k i => i + rd (stDrop la2) (k : Int)) (prod (dropL (List.replicate la2.length (1 : Int)) la2 la2.length)).toNat) ∧ ((fromL (List.replicate la2.length (1 : Int)) (dropL (List.replicate la2.length (1 : Int)) la2 la2.length) (fun k i => i + rd (stDrop la2) (k : Int)) (prod (dropL (List.replicate la2.length (1 : Int)) la2 la2.length)).toNat) : List Int).length ≤ c2 ∧ Below w.heap.size w w' := by
  have Ha1 := Aside0.mk ha1
  have Ka1 := Aside0.mk ka1
  clear ha1 ka1
  have Ha2 := Aside0.mk ha2
  have Ka2 := Aside0.mk ka2
  clear ha2 ka2
  have Hb1 := Aside0.mk hb1
  have Kb1 := Aside0.mk kb1
  clear hb1 kb1
  have Hb2 := Aside0.mk hb2
  have Kb2 := Aside0.mk kb2
  clear hb2 kb2
  have HX := Aside0.mk hx
  have HR0 := Aside0.mk hr0
  have HSO := Aside0.mk hso
  have hmk := make_rowN la2.length (by omega)
  have HLS := Aside0.mk (show (dropL (List.replicate la2.length (1 : Int)) la2 la2.length).length ≤ 9223372036854775807 by rw [dropL_len]; omega)
  clear hx hso
  have HSL := Aside0.mk hsl
  have H5 := Aside0.mk h5
  have HP := Aside0.mk hp
  have HRB := Aside0.mk hrb
  have HRS := Aside0.mk (dropL_range (List.replicate la2.length (1 : Int)) la2 la2.length (by omega) hrb hr0)
  have HRG := Aside0.mk hrg
  clear hsl h5 hp hrb hrg hr0
  have HS := Aside0.mk (Sx.start w)
  go_enter Try.func98, Try.ntmps98
  go_wp2_with (first | ((with_reducible refine gate_dst (N := 2) rfl ?_); refine box_event ?hg (N := 2) ?hd (cs := #[.bool a, .slice Aa1 la1.length ca1, .slice Aa2 la2.length ca2]) (t := 28) ?hr ?_; (case hd => rfl); (case hg => rfl); (case hr => first | (go_simp; done) | (go_simp; rfl)); intro gK hg1 w1 hx1 hb1; have nS : Aside0 (Sx w w1 [(.blk gK #[.bool a, .slice Aa1 la1.length ca1, .slice Aa2 la2.length ca2] 28)]) := Aside0.mk (HS.out.box hg1 hx1 hb1); clear HS; have HS := nS; clear nS hg1 hx1 hb1) | ((with_reducible refine gate_dst (N := 3) rfl ?_); refine box_event ?hg (N := 3) ?hd (cs := #[.bool b, .slice Ab1 lb1.length cb1, .slice Ab2 lb2.length cb2]) (t := 28) ?hr ?_; (case hd => rfl); (case hg => rfl); (case hr => first | (go_simp; done) | (go_simp; rfl)); intro gB hg2 w2 hx2 hb2; have nS : Aside0 (Sx w w2 [(.blk gB #[.bool b, .slice Ab1 lb1.length cb1, .slice Ab2 lb2.length cb2] 28), (.blk gK #[.bool a, .slice Aa1 la1.length ca1, .slice Aa2 la2.length ca2] 28)]) := Aside0.mk (HS.out.box hg2 hx2 hb2); clear HS; have HS := nS; clear nS hg2 hx2 hb2) | ((with_reducible refine gate_dst (N := 4) rfl ?_); refine box_event ?hg (N := 4) ?hd (cs := #[.slice none 0 0, .slice none 0 0]) (t := 70) ?hr ?_; (case hd => rfl); (case hg => rfl); (case hr => first | (go_simp; done) | (go_simp; rfl)); intro gR hg3 w3 hx3 hb3; have nS : Aside0 (Sx w w3 [(.blk gR #[.slice none 0 0, .slice none 0 0] 70), (.blk gB #[.bool b, .slice Ab1 lb1.length cb1, .slice Ab2 lb2.length cb2] 28), (.blk gK #[.bool a, .slice Aa1 la1.length ca1, .slice Aa2 la2.length ca2] 28)]) := Aside0.mk (HS.out.box hg3 hx3 hb3); clear HS; have HS := nS; clear nS hg3 hx3 hb3) | ((with_reducible refine gate_dst (N := 11) rfl ?_); refine wpList_load_row rfl 28 (.tmp 2) rfl gK rfl 28 #[.bool a, .slice Aa1 la1.length ca1, .slice Aa2 la2.length ca2] (0, 0) _ (HS.out.blk 2 rfl) Try.underlying28 rfl (by kernel_rfl) ?_) | ((with_reducible refine gate_dst (N := 12) rfl ?_); refine wpList_load_row rfl 28 (.tmp 3) rfl gB rfl 28 #[.bool b, .slice Ab1 lb1.length cb1, .slice Ab2 lb2.length cb2] (0, 0) _ (HS.out.blk 1 rfl) Try.underlying28 rfl (by kernel_rfl) ?_) | (go_at_call 128; refine (HX.out _ HS.out.below).mono ?_; rintro e w4 ⟨As, cs, rfl, hr4, hb4⟩; have nS : Aside0 (Sx w w4 [(.row (.slice As la2.length cs) (List.replicate la2.length (1 : Int))), (.blk gR #[.slice none 0 0, .slice none 0 0] 70), (.blk gB #[.bool b, .slice Ab1 lb1.length cb1, .slice Ab2 lb2.length cb2] 28), (.blk gK #[.bool a, .slice Aa1 la1.length ca1, .slice Aa2 la2.length ca2] 28)]) := Aside0.mk (HS.out.addRow hb4 hr4); clear HS; have HS := nS; clear nS hb4 hr4) | ((with_reducible refine gate_store rfl ?_); refine store_named rfl 28 (.tmp 3) (.tmp 14) rfl gB #[.bool b, .slice As la2.length cs, .slice Ab2 lb2.length cb2] rfl rfl 28 #[.bool b, .slice Ab1 lb1.length cb1, .slice Ab2 lb2.length cb2] (HS.out.blk 2 rfl) (by kernel_rfl) rfl (by simp [Value.oneCell']) ?_; intro w5 hx5 hb5; have nS : Aside0 (Sx w w5 [(.row (.slice As la2.length cs) (List.replicate la2.length (1 : Int))), (.blk gR #[.slice none 0 0, .slice none 0 0] 70), (.blk gB #[.bool b, .slice As la2.length cs, .slice Ab2 lb2.length cb2] 28), (.blk gK #[.bool a, .slice Aa1 la1.length ca1, .slice Aa2 la2.length ca2] 28)]) := Aside0.mk (HS.out.put 2 rfl hx5 hb5); clear HS; have HS := nS; clear nS hx5 hb5) | ((with_reducible refine gate_dst (N := 21) rfl ?_); refine ev_load rfl 22 (.tmp 20) rfl ⟨gK, 2, none⟩ rfl (.slice Aa2 la2.length ca2) ((blk_cell (HS.out.blk 3 rfl) 2).trans rfl) (by kernel_rfl) ?_) | ((with_reducible refine gate_dst (N := 23) rfl ?_); refine lit_event ?hg (N := 23) ?hd (cs := (rowI (List.replicate la2.length 0))) (t := 3) (n := la2.length) ?hr ?_; (case hd => rfl); (case hg => rfl); (case hr => first | (go_simp; done) | (go_simp; rfl)); intro gS hg6 w6 hx6 hb6; have nS : Aside0 (Sx w w6 [(.blk gS (rowI (List.replicate la2.length 0)) 3), (.row (.slice As la2.length cs) (List.replicate la2.length (1 : Int))), (.blk gR #[.slice none 0 0, .slice none 0 0] 70), (.blk gB #[.bool b, .slice As la2.length cs, .slice Ab2 lb2.length cb2] 28), (.blk gK #[.bool a, .slice Aa1 la1.length ca1, .slice Aa2 la2.length ca2] 28)]) := Aside0.mk (HS.out.box hg6 hx6 hb6); clear HS; have HS := nS; clear nS hg6 hx6 hb6) | ((with_reducible refine gate_dst (N := 25) rfl ?_); refine ev_load rfl 22 (.tmp 24) rfl ⟨gK, 2, none⟩ rfl (.slice Aa2 la2.length ca2) ((blk_cell (HS.out.blk 4 rfl) 2).trans rfl) (by kernel_rfl) ?_))
  go_loopw [8, 9, 27] (fun _ _ z wr => ∃ j : Nat, z = .int .i64 (j : Int) ∧ Aside0 (j ≤ la2.length) ∧ Aside0 (Sx w wr [(.blk gS (rowI (dropL (List.replicate la2.length (1 : Int)) la2 j ++ List.replicate (la2.length - j) 0)) 3), (.row (.slice As la2.length cs) (List.replicate la2.length (1 : Int))), (.blk gR #[.slice none 0 0, .slice none 0 0] 70), (.blk gB #[.bool b, .slice As la2.length cs, .slice Ab2 lb2.length cb2] 28), (.blk gK #[.bool a, .slice Aa1 la1.length ca1, .slice Aa2 la2.length ca2] 28)])) (fun _ _ z _ => la2.length - (intOf z).toNat)
  case atStart => exact ⟨0, rfl, ⟨Nat.zero_le _⟩, ⟨by simpa [dropL] using HS.out⟩⟩
  case round =>
    clear HS
    obtain ⟨j, rfl, hj, HS⟩ := hrel
    by_cases hlt : j < la2.length
    · obtain ⟨ad, rfl, y1⟩ := Kd.at_int (Kd.C_below Ha2.out HS.out.below) (j : Int) (by omega) (by omega)
      rw [Int.toNat_natCast] at y1
      have hb := HR0.out _ (rd_mem' la2 j hlt)
      obtain ⟨n, hne⟩ : ∃ n, n = rd la2 (j : Int) := ⟨_, rfl⟩
      have HN := Aside0.mk hne
      rw [← hne] at y1 hb
      obtain ⟨m_, hme⟩ : ∃ m, (if n < 0 then -n else n) = m := ⟨_, rfl⟩
      have HM := Aside0.mk hme
      have HABS := Aside0.mk ((abs_eq n hb.1 hb.2).trans (by rw [hme]))
      have m0 : 0 ≤ m_ := by rw [← hme]; split <;> omega
      have m1 : m_ ≤ 1000000000000000 := by rw [← hme]; split <;> omega
      obtain ⟨z_, hze⟩ : ∃ z, rd (List.replicate la2.length (1 : Int)) (j : Int) = z := ⟨_, rfl⟩
      have HZ := Aside0.mk hze
      have hzr := HRB.out _ (rd_mem' (List.replicate la2.length (1 : Int)) j (by rw [HSL.out]; exact hlt))
      rw [hze] at hzr
      obtain ⟨z0, z1⟩ := hzr
      have p0 : 0 ≤ (j : Int) := by omega
      have p1 : (j : Int) < (la2.length : Int) := by omega
      have HLT := Aside0.mk hlt
      have HL := Aside0.mk (show j < (dropL (List.replicate la2.length (1 : Int)) la2 j ++ List.replicate (la2.length - j) 0).length by rw [List.length_append, dropL_len, List.length_replicate]; omega)
      obtain ⟨c_, hce⟩ : ∃ c, rd (dropL (List.replicate la2.length (1 : Int)) la2 j ++ List.replicate (la2.length - j) 0) (j : Int) = c := ⟨_, rfl⟩
      have HC := Aside0.mk hce
      have hw : IntKind.i64.wrap (z_ - m_) = z_ - m_ := IntWalk.i64_in _ (by omega)
      clear hne hme hze hb hce
      obtain ⟨gs, eA, xS, fS⟩ := HS.out.at 1 rfl j (by rw [List.length_replicate]; exact hlt)
      subst eA
      clear xS fS
      have xB : wr.cell? ⟨gB, 1, none⟩ = some (.slice (some ⟨gs, 0, none⟩) la2.length cs) := (blk_cell (HS.out.blk 3 rfl) 1).trans rfl
      have y2 : wr.cell? ⟨gs, j, none⟩ = some (.int .i64 z_) := (Sx.atM (by repeat (first | (with_reducible exact HS.out) | (with_reducible apply Sx.drew) | (with_reducible apply Sx.drewN) | (with_reducible apply Sx.alloc))) (g := gs) (n := la2.length) (c := cs) (xs := (List.replicate la2.length (1 : Int))) (by simp) j (by rw [List.length_replicate]; exact HLT.out)).trans (by rw [HZ.out])
      go_upto_region 8 with fail
      go_region_held3 (fun w' => w'.cell? ⟨gB, 1, none⟩ = some (.slice (some ⟨gs, 0, none⟩) la2.length cs) ∧ w'.cell? ⟨gs, j, none⟩ = some (.int .i64 z_)) ((first | (exact ⟨(blk_cell (Sx.blkM (by repeat (first | (with_reducible exact HS.out) | (with_reducible apply Sx.drew) | (with_reducible apply Sx.drewN) | (with_reducible apply Sx.alloc))) (g := gB) (cs := #[.bool b, .slice (some ⟨gs, 0, none⟩) la2.length cs, .slice Ab2 lb2.length cb2]) (t := 28) (by simp)) 1).trans rfl, (Sx.atM (by repeat (first | (with_reducible exact HS.out) | (with_reducible apply Sx.drew) | (with_reducible apply Sx.drewN) | (with_reducible apply Sx.alloc))) (g := gs) (n := la2.length) (c := cs) (xs := (List.replicate la2.length (1 : Int))) (by simp) j (by rw [List.length_replicate]; exact HLT.out)).trans (by rw [HZ.out])⟩) | (exact ⟨(blk_cell (Sx.blkM (HS.out.put 0 rfl (blk_set (HS.out.blk 0 rfl) j _) (But1.set1 gS j _ _)) (g := gB) (cs := #[.bool b, .slice (some ⟨gs, 0, none⟩) la2.length cs, .slice Ab2 lb2.length cb2]) (t := 28) (by simp)) 1).trans rfl, (Sx.atM (HS.out.put 0 rfl (blk_set (HS.out.blk 0 rfl) j _) (But1.set1 gS j _ _)) (g := gs) (n := la2.length) (c := cs) (xs := (List.replicate la2.length (1 : Int))) (by simp) j (by rw [List.length_replicate]; exact HLT.out)).trans (by rw [HZ.out])⟩))) (first | (go_at_call 129; refine (impl_absolute.calls n m_ _ HABS.out).mono ?_; rintro e wr1 ⟨rfl, hbr1⟩; have nS : Aside0 (Sx w wr1 [(.blk gS (rowI (dropL (List.replicate la2.length (1 : Int)) la2 j ++ List.replicate (la2.length - j) 0)) 3), (.row (.slice (some ⟨gs, 0, none⟩) la2.length cs) (List.replicate la2.length (1 : Int))), (.blk gR #[.slice none 0 0, .slice none 0 0] 70), (.blk gB #[.bool b, .slice (some ⟨gs, 0, none⟩) la2.length cs, .slice Ab2 lb2.length cb2] 28), (.blk gK #[.bool a, .slice Aa1 la1.length ca1, .slice (some ad) la2.length ca2] 28)]) := Aside0.mk ((show Sx w _ [(.blk gS (rowI (dropL (List.replicate la2.length (1 : Int)) la2 j ++ List.replicate (la2.length - j) 0)) 3), (.row (.slice (some ⟨gs, 0, none⟩) la2.length cs) (List.replicate la2.length (1 : Int))), (.blk gR #[.slice none 0 0, .slice none 0 0] 70), (.blk gB #[.bool b, .slice (some ⟨gs, 0, none⟩) la2.length cs, .slice Ab2 lb2.length cb2] 28), (.blk gK #[.bool a, .slice Aa1 la1.length ca1, .slice (some ad) la2.length ca2] 28)] from (by repeat (first | (with_reducible exact HS.out) | (with_reducible apply Sx.drew) | (with_reducible apply Sx.drewN) | (with_reducible apply Sx.alloc)))).step hbr1); clear HS; have HS := nS; clear nS hbr1; have xC : wr1.cell? ⟨gS, j, none⟩ = some (.int .i64 c_) := (rowI_cell (HS.out.blk 0 rfl) j HL.out).trans (by rw [HC.out]); have fC : wr1.frozen? ⟨gS, j, none⟩ = false := blk_frozen (HS.out.blk 0 rfl) j))
      have nS : Aside0 (Sx w (wr1.setCell ⟨gS, j, none⟩ (.int .i64 (if m_ < z_ then z_ - m_ else 0))) [(.blk gS (rowI ((dropL (List.replicate la2.length (1 : Int)) la2 j ++ List.replicate (la2.length - j) 0).set j (if m_ < z_ then z_ - m_ else 0))) 3), (.row (.slice (some ⟨gs, 0, none⟩) la2.length cs) (List.replicate la2.length (1 : Int))), (.blk gR #[.slice none 0 0, .slice none 0 0] 70), (.blk gB #[.bool b, .slice (some ⟨gs, 0, none⟩) la2.length cs, .slice Ab2 lb2.length cb2] 28), (.blk gK #[.bool a, .slice Aa1 la1.length ca1, .slice (some ad) la2.length ca2] 28)]) := Aside0.mk (by have h := HS.out.put 0 rfl (blk_set (HS.out.blk 0 rfl) j (.int .i64 (if m_ < z_ then z_ - m_ else 0))) (But1.set1 gS j _ _); rw [rowI_set] at h; exact h)
      clear HS xC fC hw
      have HS := nS
      clear nS
      go_wp2
      go_roundw
      case rel =>
        refine ⟨j + 1, by push_cast; rfl, ⟨hlt⟩, ⟨?_⟩⟩
        have h := fill_next (dropL (List.replicate la2.length (1 : Int)) la2 j) (if m_ < z_ then z_ - m_ else 0) la2.length j (dropL_len _ _ _) hlt
        have hq : dropL (List.replicate la2.length (1 : Int)) la2 (j + 1) = dropL (List.replicate la2.length (1 : Int)) la2 j ++ [if m_ < z_ then z_ - m_ else 0] := by
          rw [dropL_succ, HZ.out, ← HN.out, HM.out]
          congr 2
          unfold mx
          split <;> split <;> omega
        rw [hq, ← h]
        exact HS.out
      case measure => simp [intOf]; omega
    · obtain rfl : j = la2.length := by have := hj.out; omega
      have HS' : Aside0 (Sx w wr [(.blk gS (rowI (dropL (List.replicate la2.length (1 : Int)) la2 la2.length)) 3), (.row (.slice As la2.length cs) (List.replicate la2.length (1 : Int))), (.blk gR #[.slice none 0 0, .slice none 0 0] 70), (.blk gB #[.bool b, .slice As la2.length cs, .slice Ab2 lb2.length cb2] 28), (.blk gK #[.bool a, .slice Aa1 la1.length ca1, .slice Aa2 la2.length ca2] 28)]) := Aside0.mk (by have := HS.out; simpa using this)
      clear HS
      have HS := HS'
      clear HS'
      go_wp2_with (first | ((with_reducible refine gate_dst (N := 45) rfl ?_); refine wpList_load_row rfl 28 (.tmp 3) rfl gB rfl 28 #[.bool b, .slice As la2.length cs, .slice Ab2 lb2.length cb2] (0, 0) _ (HS.out.blk 3 rfl) Try.underlying28 rfl (by kernel_rfl) ?_) | (go_at_call 130; refine (callsIn_wide.1 (axisP_n b As la2.length cs (List.replicate la2.length (1 : Int)) Ab2 cb2 lb2 gS la2.length (dropL (List.replicate la2.length (1 : Int)) la2 la2.length) 131 #[.pointer (some ⟨gK, 0, none⟩)] (fun k i => i + rd (stDrop la2) (k : Int)) (enters_of Try.func131 (by kernel_rfl) rfl) _ (HS.out.C 1 rfl) (HS.out.cap 1 rfl) HSL.out (rowI_C (HS.out.blk 0 rfl) HLS.out) (dropL_len (List.replicate la2.length (1 : Int)) la2 la2.length) HSL.out H5.out HP.out ks HSO.out (drop_gives gK a Aa1 _ ca1 Aa2 ca2 la2 (dropL (List.replicate la2.length (1 : Int)) la2 la2.length) _ (HS.out.blk 4 rfl) (Kd.C_below Ha2.out HS.out.below) (dropL_len (List.replicate la2.length (1 : Int)) la2 la2.length) HRS.out HR0.out) HRG.out)).mono ?_; rintro e wz1 ⟨v, rfl, hrz1, hbz1⟩; obtain ⟨Av, cv, rfl⟩ := Kd.R_slice hrz1; have nS : Aside0 (Sx w wz1 [(.row (.slice Av (fromL (List.replicate la2.length (1 : Int)) (dropL (List.replicate la2.length (1 : Int)) la2 la2.length) (fun k i => i + rd (stDrop la2) (k : Int)) (prod (dropL (List.replicate la2.length (1 : Int)) la2 la2.length)).toNat).length cv) (fromL (List.replicate la2.length (1 : Int)) (dropL (List.replicate la2.length (1 : Int)) la2 la2.length) (fun k i => i + rd (stDrop la2) (k : Int)) (prod (dropL (List.replicate la2.length (1 : Int)) la2 la2.length)).toNat)), (.blk gS (rowI (dropL (List.replicate la2.length (1 : Int)) la2 la2.length)) 3), (.row (.slice As la2.length cs) (List.replicate la2.length (1 : Int))), (.blk gR #[.slice none 0 0, .slice none 0 0] 70), (.blk gB #[.bool b, .slice As la2.length cs, .slice Ab2 lb2.length cb2] 28), (.blk gK #[.bool a, .slice Aa1 la1.length ca1, .slice Aa2 la2.length ca2] 28)]) := Aside0.mk (HS.out.addRow hbz1 hrz1); clear HS; have HS := nS; clear nS hbz1 hrz1) | ((with_reducible refine gate_store rfl ?_); refine store_named rfl 70 (.tmp 4) (.tmp 48) rfl gR #[.slice (some ⟨gS, 0, none⟩) la2.length la2.length, .slice Av (fromL (List.replicate la2.length (1 : Int)) (dropL (List.replicate la2.length (1 : Int)) la2 la2.length) (fun k i => i + rd (stDrop la2) (k : Int)) (prod (dropL (List.replicate la2.length (1 : Int)) la2 la2.length)).toNat).length cv] rfl rfl 70 #[.slice none 0 0, .slice none 0 0] (HS.out.blk 3 rfl) (by kernel_rfl) rfl (by simp [Value.oneCell']) ?_; intro wz2 hxz2 hbz2; have nS : Aside0 (Sx w wz2 [(.row (.slice Av (fromL (List.replicate la2.length (1 : Int)) (dropL (List.replicate la2.length (1 : Int)) la2 la2.length) (fun k i => i + rd (stDrop la2) (k : Int)) (prod (dropL (List.replicate la2.length (1 : Int)) la2 la2.length)).toNat).length cv) (fromL (List.replicate la2.length (1 : Int)) (dropL (List.replicate la2.length (1 : Int)) la2 la2.length) (fun k i => i + rd (stDrop la2) (k : Int)) (prod (dropL (List.replicate la2.length (1 : Int)) la2 la2.length)).toNat)), (.blk gS (rowI (dropL (List.replicate la2.length (1 : Int)) la2 la2.length)) 3), (.row (.slice As la2.length cs) (List.replicate la2.length (1 : Int))), (.blk gR #[.slice (some ⟨gS, 0, none⟩) la2.length la2.length, .slice Av (fromL (List.replicate la2.length (1 : Int)) (dropL (List.replicate la2.length (1 : Int)) la2 la2.length) (fun k i => i + rd (stDrop la2) (k : Int)) (prod (dropL (List.replicate la2.length (1 : Int)) la2 la2.length)).toNat).length cv] 70), (.blk gB #[.bool b, .slice As la2.length cs, .slice Ab2 lb2.length cb2] 28), (.blk gK #[.bool a, .slice Aa1 la1.length ca1, .slice Aa2 la2.length ca2] 28)]) := Aside0.mk (HS.out.put 3 rfl hxz2 hbz2); clear HS; have HS := nS; clear nS hxz2 hbz2))
      refine bodyPost_ret (results_ct rfl _ _ gR 70 #[.slice (some ⟨gS, 0, none⟩) la2.length la2.length, .slice Av (fromL (List.replicate la2.length (1 : Int)) (dropL (List.replicate la2.length (1 : Int)) la2 la2.length) (fun k i => i + rd (stDrop la2) (k : Int)) (prod (dropL (List.replicate la2.length (1 : Int)) la2 la2.length)).toNat).length cv] (0, 0) _ rfl (HS.out.blk 3 rfl) Try.underlying70 rfl (by kernel_rfl)) rfl ?_
      exact ⟨some ⟨gS, 0, none⟩, la2.length, Av, cv, by rw [dropL_len]; rfl, rowI_C (HS.out.blk 1 rfl) HLS.out, by rw [dropL_len]; exact Nat.le_refl _, HS.out.C 0 rfl, HS.out.cap 0 rfl, HS.out.below⟩
end Go.Proofs.Ytehfcnndjhjkoaa.PA

namespace Go.Proofs.Ytehfcnndjhjkoaa.PA
open Go.RowKit Go.Proofs.YtehfcnndjhjkoaaW.PrintWords Go.Proofs.YtehfcnndjhjkoaaW.PrintLast Go.Proofs.YtehfcnndjhjkoaaW.PrintMore
set_option linter.unusedVariables false
set_option linter.unusedSimpArgs false
set_option maxHeartbeats 2000000 in
set_option maxRecDepth 100000 in
theorem specDrop_no1 (a : Bool) (Aa1 : Option Addr) (ca1 : Nat) (la1 : List Int) (Aa2 : Option Addr) (ca2 : Nat) (la2 : List Int) (b : Bool) (Ab1 : Option Addr) (cb1 : Nat) (lb1 : List Int) (Ab2 : Option Addr) (cb2 : Nat) (lb2 : List Int) (w : World) (ha1 : Kd.C (Kd.int .i64) w Aa1 la1.length la1) (ka1 : la1.length ≤ ca1) (ha2 : Kd.C (Kd.int .i64) w Aa2 la2.length la2) (ka2 : la2.length ≤ ca2) (hb1 : Kd.C (Kd.int .i64) w Ab1 lb1.length lb1) (kb1 : lb1.length ≤ cb1) (hb2 : Kd.C (Kd.int .i64) w Ab2 lb2.length lb2) (kb2 : lb2.length ≤ cb2) (ka : Nat) (hva : spec_ArrayOk.f ka a la1 la2 = some false)  :
    Calls Try.prog 40 #[.agg #[.bool a, .slice Aa1 la1.length ca1, .slice Aa2 la2.length ca2], .agg #[.bool b, .slice Ab1 lb1.length cb1, .slice Ab2 lb2.length cb2]] w fun e w' => ∃ v1_ v2_ : Value, e = .returned (.tuple #[.agg #[.bool false, v1_, v2_], .int .i64 3]) ∧ Kd.R (Kd.int .i64) 3 w' w.heap.size (fun k_ => some k_ ≠ (v2_ : Value).ownBlock) v1_ [] ∧ Kd.R (Kd.int .i64) 3 w' w.heap.size (fun k_ => some k_ ≠ (v1_ : Value).ownBlock) v2_ [] ∧ Below w.heap.size w w' := by
  have Ha1 := Aside0.mk ha1
  have Ka1 := Aside0.mk ka1
  clear ha1 ka1
  have Ha2 := Aside0.mk ha2
  have Ka2 := Aside0.mk ka2
  clear ha2 ka2
  have Hb1 := Aside0.mk hb1
  have Kb1 := Aside0.mk kb1
  clear hb1 kb1
  have Hb2 := Aside0.mk hb2
  have Kb2 := Aside0.mk kb2
  clear hb2 kb2
  have HVa := Aside0.mk hva
  clear hva
  have HS := Aside0.mk (Sx.start w)
  go_enter Try.func40, Try.ntmps40
  go_wp2_with (first | ((with_reducible refine gate_dst (N := 2) rfl ?_); refine box_event ?hg (N := 2) ?hd (cs := #[.bool a, .slice Aa1 la1.length ca1, .slice Aa2 la2.length ca2]) (t := 28) ?hr ?_; (case hd => rfl); (case hg => rfl); (case hr => first | (go_simp; done) | (go_simp; rfl)); intro gK hg1 w1 hx1 hb1; have nS : Aside0 (Sx w w1 [(.blk gK #[.bool a, .slice Aa1 la1.length ca1, .slice Aa2 la2.length ca2] 28)]) := Aside0.mk (HS.out.box hg1 hx1 hb1); clear HS; have HS := nS; clear nS hg1 hx1 hb1) | ((with_reducible refine gate_dst (N := 3) rfl ?_); refine box_event ?hg (N := 3) ?hd (cs := #[.bool b, .slice Ab1 lb1.length cb1, .slice Ab2 lb2.length cb2]) (t := 28) ?hr ?_; (case hd => rfl); (case hg => rfl); (case hr => first | (go_simp; done) | (go_simp; rfl)); intro gB hg2 w2 hx2 hb2; have nS : Aside0 (Sx w w2 [(.blk gB #[.bool b, .slice Ab1 lb1.length cb1, .slice Ab2 lb2.length cb2] 28), (.blk gK #[.bool a, .slice Aa1 la1.length ca1, .slice Aa2 la2.length ca2] 28)]) := Aside0.mk (HS.out.box hg2 hx2 hb2); clear HS; have HS := nS; clear nS hg2 hx2 hb2) | ((with_reducible refine gate_dst (N := 4) rfl ?_); refine box_event ?hg (N := 4) ?hd (cs := #[.bool false, .slice none 0 0, .slice none 0 0]) (t := 28) ?hr ?_; (case hd => rfl); (case hg => rfl); (case hr => first | (go_simp; done) | (go_simp; rfl)); intro gR hg3 w3 hx3 hb3; have nS : Aside0 (Sx w w3 [(.blk gR #[.bool false, .slice none 0 0, .slice none 0 0] 28), (.blk gB #[.bool b, .slice Ab1 lb1.length cb1, .slice Ab2 lb2.length cb2] 28), (.blk gK #[.bool a, .slice Aa1 la1.length ca1, .slice Aa2 la2.length ca2] 28)]) := Aside0.mk (HS.out.box hg3 hx3 hb3); clear HS; have HS := nS; clear nS hg3 hx3 hb3) | ((with_reducible refine gate_dst (N := 12) rfl ?_); refine wpList_load_row rfl 28 (.tmp 2) rfl gK rfl 28 #[.bool a, .slice Aa1 la1.length ca1, .slice Aa2 la2.length ca2] (0, 0) _ (HS.out.blk 2 rfl) Try.underlying28 rfl (by kernel_rfl) ?_) | (go_at_call 47; with_reducible refine (spec_ArrayOk.calls ka a Aa1 ca1 la1 Aa2 ca2 la2 false _ (Kd.C_below Ha1.out HS.out.below) Ka1.out (Kd.C_below Ha2.out HS.out.below) Ka2.out HVa.out).mono ?_; rintro e w4 ⟨rfl, hb4⟩; have nS : Aside0 (Sx w w4 [(.blk gR #[.bool false, .slice none 0 0, .slice none 0 0] 28), (.blk gB #[.bool b, .slice Ab1 lb1.length cb1, .slice Ab2 lb2.length cb2] 28), (.blk gK #[.bool a, .slice Aa1 la1.length ca1, .slice Aa2 la2.length ca2] 28)]) := Aside0.mk (HS.out.step hb4); clear HS; have HS := nS; clear nS hb4) | (go_at_call 53; refine (spec_l4None.calls false [] [] _ rfl).mono ?_; rintro e w5 ⟨v15, v25, rfl, hr15, hr25, hb5⟩; obtain ⟨AS, cS, hv_⟩ := Kd.R_slice hr15; subst hv_; obtain ⟨AD, cD, hv_⟩ := Kd.R_slice hr25; subst hv_; have nS : Aside0 (Sx w w5 [(.row (.slice AS ([] : List Int).length cS) []), (.row (.slice AD ([] : List Int).length cD) []), (.blk gR #[.bool false, .slice none 0 0, .slice none 0 0] 28), (.blk gB #[.bool b, .slice Ab1 lb1.length cb1, .slice Ab2 lb2.length cb2] 28), (.blk gK #[.bool a, .slice Aa1 la1.length ca1, .slice Aa2 la2.length ca2] 28)]) := Aside0.mk (HS.out.addRow2 hb5 hr15 hr25); clear HS; have HS := nS; clear nS hb5 hr15 hr25) | ((with_reducible refine gate_store rfl ?_); refine store_named rfl 28 (.tmp 4) (.tmp 20) rfl gR #[.bool false, .slice AS ([] : List Int).length cS, .slice AD ([] : List Int).length cD] rfl rfl 28 #[.bool false, .slice none 0 0, .slice none 0 0] (HS.out.blk 2 rfl) (by kernel_rfl) rfl (by simp [Value.oneCell']) ?_; intro w6 hx6 hb6; have nS : Aside0 (Sx w w6 [(.row (.slice AS ([] : List Int).length cS) []), (.row (.slice AD ([] : List Int).length cD) []), (.blk gR #[.bool false, .slice AS ([] : List Int).length cS, .slice AD ([] : List Int).length cD] 28), (.blk gB #[.bool b, .slice Ab1 lb1.length cb1, .slice Ab2 lb2.length cb2] 28), (.blk gK #[.bool a, .slice Aa1 la1.length ca1, .slice Aa2 la2.length ca2] 28)]) := Aside0.mk (HS.out.put 2 rfl hx6 hb6); clear HS; have HS := nS; clear nS hx6 hb6))
  refine bodyPost_ret (results_ct rfl _ _ gR 28 #[.bool false, .slice AS ([] : List Int).length cS, .slice AD ([] : List Int).length cD] (0, 0) _ rfl (HS.out.blk 2 rfl) Try.underlying28 rfl (by kernel_rfl)) rfl ?_
  exact ⟨_, _, rfl, (HS.out.two 0 1 (by decide) rfl rfl).1, (HS.out.two 0 1 (by decide) rfl rfl).2, HS.out.below⟩
set_option maxHeartbeats 2000000 in
set_option maxRecDepth 100000 in
theorem specDrop_no2 (a : Bool) (Aa1 : Option Addr) (ca1 : Nat) (la1 : List Int) (Aa2 : Option Addr) (ca2 : Nat) (la2 : List Int) (b : Bool) (Ab1 : Option Addr) (cb1 : Nat) (lb1 : List Int) (Ab2 : Option Addr) (cb2 : Nat) (lb2 : List Int) (w : World) (ha1 : Kd.C (Kd.int .i64) w Aa1 la1.length la1) (ka1 : la1.length ≤ ca1) (ha2 : Kd.C (Kd.int .i64) w Aa2 la2.length la2) (ka2 : la2.length ≤ ca2) (hb1 : Kd.C (Kd.int .i64) w Ab1 lb1.length lb1) (kb1 : lb1.length ≤ cb1) (hb2 : Kd.C (Kd.int .i64) w Ab2 lb2.length lb2) (kb2 : lb2.length ≤ cb2) (ka : Nat) (hva : spec_ArrayOk.f ka a la1 la2 = some true) (kb : Nat) (hvb : spec_ArrayOk.f kb b lb1 lb2 = some false)  :
    Calls Try.prog 40 #[.agg #[.bool a, .slice Aa1 la1.length ca1, .slice Aa2 la2.length ca2], .agg #[.bool b, .slice Ab1 lb1.length cb1, .slice Ab2 lb2.length cb2]] w fun e w' => ∃ v1_ v2_ : Value, e = .returned (.tuple #[.agg #[.bool false, v1_, v2_], .int .i64 3]) ∧ Kd.R (Kd.int .i64) 3 w' w.heap.size (fun k_ => some k_ ≠ (v2_ : Value).ownBlock) v1_ [] ∧ Kd.R (Kd.int .i64) 3 w' w.heap.size (fun k_ => some k_ ≠ (v1_ : Value).ownBlock) v2_ [] ∧ Below w.heap.size w w' := by
  have Ha1 := Aside0.mk ha1
  have Ka1 := Aside0.mk ka1
  clear ha1 ka1
  have Ha2 := Aside0.mk ha2
  have Ka2 := Aside0.mk ka2
  clear ha2 ka2
  have Hb1 := Aside0.mk hb1
  have Kb1 := Aside0.mk kb1
  clear hb1 kb1
  have Hb2 := Aside0.mk hb2
  have Kb2 := Aside0.mk kb2
  clear hb2 kb2
  have HVa := Aside0.mk hva
  clear hva
  have HVb := Aside0.mk hvb
  clear hvb
  have HS := Aside0.mk (Sx.start w)
  go_enter Try.func40, Try.ntmps40
  go_wp2_with (first | ((with_reducible refine gate_dst (N := 2) rfl ?_); refine box_event ?hg (N := 2) ?hd (cs := #[.bool a, .slice Aa1 la1.length ca1, .slice Aa2 la2.length ca2]) (t := 28) ?hr ?_; (case hd => rfl); (case hg => rfl); (case hr => first | (go_simp; done) | (go_simp; rfl)); intro gK hg1 w1 hx1 hb1; have nS : Aside0 (Sx w w1 [(.blk gK #[.bool a, .slice Aa1 la1.length ca1, .slice Aa2 la2.length ca2] 28)]) := Aside0.mk (HS.out.box hg1 hx1 hb1); clear HS; have HS := nS; clear nS hg1 hx1 hb1) | ((with_reducible refine gate_dst (N := 3) rfl ?_); refine box_event ?hg (N := 3) ?hd (cs := #[.bool b, .slice Ab1 lb1.length cb1, .slice Ab2 lb2.length cb2]) (t := 28) ?hr ?_; (case hd => rfl); (case hg => rfl); (case hr => first | (go_simp; done) | (go_simp; rfl)); intro gB hg2 w2 hx2 hb2; have nS : Aside0 (Sx w w2 [(.blk gB #[.bool b, .slice Ab1 lb1.length cb1, .slice Ab2 lb2.length cb2] 28), (.blk gK #[.bool a, .slice Aa1 la1.length ca1, .slice Aa2 la2.length ca2] 28)]) := Aside0.mk (HS.out.box hg2 hx2 hb2); clear HS; have HS := nS; clear nS hg2 hx2 hb2) | ((with_reducible refine gate_dst (N := 4) rfl ?_); refine box_event ?hg (N := 4) ?hd (cs := #[.bool false, .slice none 0 0, .slice none 0 0]) (t := 28) ?hr ?_; (case hd => rfl); (case hg => rfl); (case hr => first | (go_simp; done) | (go_simp; rfl)); intro gR hg3 w3 hx3 hb3; have nS : Aside0 (Sx w w3 [(.blk gR #[.bool false, .slice none 0 0, .slice none 0 0] 28), (.blk gB #[.bool b, .slice Ab1 lb1.length cb1, .slice Ab2 lb2.length cb2] 28), (.blk gK #[.bool a, .slice Aa1 la1.length ca1, .slice Aa2 la2.length ca2] 28)]) := Aside0.mk (HS.out.box hg3 hx3 hb3); clear HS; have HS := nS; clear nS hg3 hx3 hb3) | ((with_reducible refine gate_dst (N := 12) rfl ?_); refine wpList_load_row rfl 28 (.tmp 2) rfl gK rfl 28 #[.bool a, .slice Aa1 la1.length ca1, .slice Aa2 la2.length ca2] (0, 0) _ (HS.out.blk 2 rfl) Try.underlying28 rfl (by kernel_rfl) ?_) | (go_at_call 47; with_reducible refine (spec_ArrayOk.calls ka a Aa1 ca1 la1 Aa2 ca2 la2 true _ (Kd.C_below Ha1.out HS.out.below) Ka1.out (Kd.C_below Ha2.out HS.out.below) Ka2.out HVa.out).mono ?_; rintro e w4 ⟨rfl, hb4⟩; have nS : Aside0 (Sx w w4 [(.blk gR #[.bool false, .slice none 0 0, .slice none 0 0] 28), (.blk gB #[.bool b, .slice Ab1 lb1.length cb1, .slice Ab2 lb2.length cb2] 28), (.blk gK #[.bool a, .slice Aa1 la1.length ca1, .slice Aa2 la2.length ca2] 28)]) := Aside0.mk (HS.out.step hb4); clear HS; have HS := nS; clear nS hb4) | ((with_reducible refine wpList_guarded ?hw ?_); (case hw => first | rfl | (go_simp; done))) | ((with_reducible refine gate_dst (N := 16) rfl ?_); refine wpList_load_row rfl 28 (.tmp 3) rfl gB rfl 28 #[.bool b, .slice Ab1 lb1.length cb1, .slice Ab2 lb2.length cb2] (0, 0) _ (HS.out.blk 1 rfl) Try.underlying28 rfl (by kernel_rfl) ?_) | (go_at_call 47; with_reducible refine (spec_ArrayOk.calls kb b Ab1 cb1 lb1 Ab2 cb2 lb2 false _ (Kd.C_below Hb1.out HS.out.below) Kb1.out (Kd.C_below Hb2.out HS.out.below) Kb2.out HVb.out).mono ?_; rintro e w5 ⟨rfl, hb5⟩; have nS : Aside0 (Sx w w5 [(.blk gR #[.bool false, .slice none 0 0, .slice none 0 0] 28), (.blk gB #[.bool b, .slice Ab1 lb1.length cb1, .slice Ab2 lb2.length cb2] 28), (.blk gK #[.bool a, .slice Aa1 la1.length ca1, .slice Aa2 la2.length ca2] 28)]) := Aside0.mk (HS.out.step hb5); clear HS; have HS := nS; clear nS hb5) | (go_at_call 53; refine (spec_l4None.calls false [] [] _ rfl).mono ?_; rintro e w6 ⟨v16, v26, rfl, hr16, hr26, hb6⟩; obtain ⟨AS, cS, hv_⟩ := Kd.R_slice hr16; subst hv_; obtain ⟨AD, cD, hv_⟩ := Kd.R_slice hr26; subst hv_; have nS : Aside0 (Sx w w6 [(.row (.slice AS ([] : List Int).length cS) []), (.row (.slice AD ([] : List Int).length cD) []), (.blk gR #[.bool false, .slice none 0 0, .slice none 0 0] 28), (.blk gB #[.bool b, .slice Ab1 lb1.length cb1, .slice Ab2 lb2.length cb2] 28), (.blk gK #[.bool a, .slice Aa1 la1.length ca1, .slice Aa2 la2.length ca2] 28)]) := Aside0.mk (HS.out.addRow2 hb6 hr16 hr26); clear HS; have HS := nS; clear nS hb6 hr16 hr26) | ((with_reducible refine gate_store rfl ?_); refine store_named rfl 28 (.tmp 4) (.tmp 20) rfl gR #[.bool false, .slice AS ([] : List Int).length cS, .slice AD ([] : List Int).length cD] rfl rfl 28 #[.bool false, .slice none 0 0, .slice none 0 0] (HS.out.blk 2 rfl) (by kernel_rfl) rfl (by simp [Value.oneCell']) ?_; intro w7 hx7 hb7; have nS : Aside0 (Sx w w7 [(.row (.slice AS ([] : List Int).length cS) []), (.row (.slice AD ([] : List Int).length cD) []), (.blk gR #[.bool false, .slice AS ([] : List Int).length cS, .slice AD ([] : List Int).length cD] 28), (.blk gB #[.bool b, .slice Ab1 lb1.length cb1, .slice Ab2 lb2.length cb2] 28), (.blk gK #[.bool a, .slice Aa1 la1.length ca1, .slice Aa2 la2.length ca2] 28)]) := Aside0.mk (HS.out.put 2 rfl hx7 hb7); clear HS; have HS := nS; clear nS hx7 hb7))
  refine bodyPost_ret (results_ct rfl _ _ gR 28 #[.bool false, .slice AS ([] : List Int).length cS, .slice AD ([] : List Int).length cD] (0, 0) _ rfl (HS.out.blk 2 rfl) Try.underlying28 rfl (by kernel_rfl)) rfl ?_
  exact ⟨_, _, rfl, (HS.out.two 0 1 (by decide) rfl rfl).1, (HS.out.two 0 1 (by decide) rfl rfl).2, HS.out.below⟩
set_option maxHeartbeats 2000000 in
set_option maxRecDepth 100000 in
theorem specDrop_code (a : Bool) (Aa1 : Option Addr) (ca1 : Nat) (la1 : List Int) (Aa2 : Option Addr) (ca2 : Nat) (la2 : List Int) (b : Bool) (Ab1 : Option Addr) (cb1 : Nat) (lb1 : List Int) (Ab2 : Option Addr) (cb2 : Nat) (lb2 : List Int) (w : World) (ha1 : Kd.C (Kd.int .i64) w Aa1 la1.length la1) (ka1 : la1.length ≤ ca1) (ha2 : Kd.C (Kd.int .i64) w Aa2 la2.length la2) (ka2 : la2.length ≤ ca2) (hb1 : Kd.C (Kd.int .i64) w Ab1 lb1.length lb1) (kb1 : lb1.length ≤ cb1) (hb2 : Kd.C (Kd.int .i64) w Ab2 lb2.length lb2) (kb2 : lb2.length ≤ cb2) (ka : Nat) (hva : spec_ArrayOk.f ka a la1 la2 = some true) (kb : Nat) (hvb : spec_ArrayOk.f kb b lb1 lb2 = some true) (v : Int) (hv0 : v ≠ 0) (hc : ∀ W, Below w.heap.size w W → Calls Try.prog 95 #[.agg #[.bool a, .slice Aa1 la1.length ca1, .slice Aa2 la2.length ca2], .agg #[.bool b, .slice Ab1 lb1.length cb1, .slice Ab2 lb2.length cb2]] W fun e w' => e = .returned (.tuple #[.agg #[.bool b, .slice Ab1 lb1.length cb1, .slice Ab2 lb2.length cb2], .int .i64 v]) ∧ Below W.heap.size W w')  :
    Calls Try.prog 40 #[.agg #[.bool a, .slice Aa1 la1.length ca1, .slice Aa2 la2.length ca2], .agg #[.bool b, .slice Ab1 lb1.length cb1, .slice Ab2 lb2.length cb2]] w fun e w' => ∃ v1_ v2_ : Value, e = .returned (.tuple #[.agg #[.bool false, v1_, v2_], .int .i64 v]) ∧ Kd.R (Kd.int .i64) 3 w' w.heap.size (fun k_ => some k_ ≠ (v2_ : Value).ownBlock) v1_ [] ∧ Kd.R (Kd.int .i64) 3 w' w.heap.size (fun k_ => some k_ ≠ (v1_ : Value).ownBlock) v2_ [] ∧ Below w.heap.size w w' := by
  have Ha1 := Aside0.mk ha1
  have Ka1 := Aside0.mk ka1
  clear ha1 ka1
  have Ha2 := Aside0.mk ha2
  have Ka2 := Aside0.mk ka2
  clear ha2 ka2
  have Hb1 := Aside0.mk hb1
  have Kb1 := Aside0.mk kb1
  clear hb1 kb1
  have Hb2 := Aside0.mk hb2
  have Kb2 := Aside0.mk kb2
  clear hb2 kb2
  have HVa := Aside0.mk hva
  clear hva
  have HVb := Aside0.mk hvb
  clear hvb
  have HCT := Aside0.mk hc
  clear hc
  have c0 : (v == 0) = false := beq_eq_false_iff_ne.mpr hv0
  have c1 : (v != 0) = true := bne_iff_ne.mpr hv0
  clear hv0
  have HS := Aside0.mk (Sx.start w)
  go_enter Try.func40, Try.ntmps40
  go_wp2_with (first | ((with_reducible refine gate_dst (N := 2) rfl ?_); refine box_event ?hg (N := 2) ?hd (cs := #[.bool a, .slice Aa1 la1.length ca1, .slice Aa2 la2.length ca2]) (t := 28) ?hr ?_; (case hd => rfl); (case hg => rfl); (case hr => first | (go_simp; done) | (go_simp; rfl)); intro gK hg1 w1 hx1 hb1; have nS : Aside0 (Sx w w1 [(.blk gK #[.bool a, .slice Aa1 la1.length ca1, .slice Aa2 la2.length ca2] 28)]) := Aside0.mk (HS.out.box hg1 hx1 hb1); clear HS; have HS := nS; clear nS hg1 hx1 hb1) | ((with_reducible refine gate_dst (N := 3) rfl ?_); refine box_event ?hg (N := 3) ?hd (cs := #[.bool b, .slice Ab1 lb1.length cb1, .slice Ab2 lb2.length cb2]) (t := 28) ?hr ?_; (case hd => rfl); (case hg => rfl); (case hr => first | (go_simp; done) | (go_simp; rfl)); intro gB hg2 w2 hx2 hb2; have nS : Aside0 (Sx w w2 [(.blk gB #[.bool b, .slice Ab1 lb1.length cb1, .slice Ab2 lb2.length cb2] 28), (.blk gK #[.bool a, .slice Aa1 la1.length ca1, .slice Aa2 la2.length ca2] 28)]) := Aside0.mk (HS.out.box hg2 hx2 hb2); clear HS; have HS := nS; clear nS hg2 hx2 hb2) | ((with_reducible refine gate_dst (N := 4) rfl ?_); refine box_event ?hg (N := 4) ?hd (cs := #[.bool false, .slice none 0 0, .slice none 0 0]) (t := 28) ?hr ?_; (case hd => rfl); (case hg => rfl); (case hr => first | (go_simp; done) | (go_simp; rfl)); intro gR hg3 w3 hx3 hb3; have nS : Aside0 (Sx w w3 [(.blk gR #[.bool false, .slice none 0 0, .slice none 0 0] 28), (.blk gB #[.bool b, .slice Ab1 lb1.length cb1, .slice Ab2 lb2.length cb2] 28), (.blk gK #[.bool a, .slice Aa1 la1.length ca1, .slice Aa2 la2.length ca2] 28)]) := Aside0.mk (HS.out.box hg3 hx3 hb3); clear HS; have HS := nS; clear nS hg3 hx3 hb3) | ((with_reducible refine gate_dst (N := 12) rfl ?_); refine wpList_load_row rfl 28 (.tmp 2) rfl gK rfl 28 #[.bool a, .slice Aa1 la1.length ca1, .slice Aa2 la2.length ca2] (0, 0) _ (HS.out.blk 2 rfl) Try.underlying28 rfl (by kernel_rfl) ?_) | (go_at_call 47; with_reducible refine (spec_ArrayOk.calls ka a Aa1 ca1 la1 Aa2 ca2 la2 true _ (Kd.C_below Ha1.out HS.out.below) Ka1.out (Kd.C_below Ha2.out HS.out.below) Ka2.out HVa.out).mono ?_; rintro e w4 ⟨rfl, hb4⟩; have nS : Aside0 (Sx w w4 [(.blk gR #[.bool false, .slice none 0 0, .slice none 0 0] 28), (.blk gB #[.bool b, .slice Ab1 lb1.length cb1, .slice Ab2 lb2.length cb2] 28), (.blk gK #[.bool a, .slice Aa1 la1.length ca1, .slice Aa2 la2.length ca2] 28)]) := Aside0.mk (HS.out.step hb4); clear HS; have HS := nS; clear nS hb4) | ((with_reducible refine wpList_guarded ?hw ?_); (case hw => first | rfl | (go_simp; done))) | ((with_reducible refine gate_dst (N := 16) rfl ?_); refine wpList_load_row rfl 28 (.tmp 3) rfl gB rfl 28 #[.bool b, .slice Ab1 lb1.length cb1, .slice Ab2 lb2.length cb2] (0, 0) _ (HS.out.blk 1 rfl) Try.underlying28 rfl (by kernel_rfl) ?_) | (go_at_call 47; with_reducible refine (spec_ArrayOk.calls kb b Ab1 cb1 lb1 Ab2 cb2 lb2 true _ (Kd.C_below Hb1.out HS.out.below) Kb1.out (Kd.C_below Hb2.out HS.out.below) Kb2.out HVb.out).mono ?_; rintro e w5 ⟨rfl, hb5⟩; have nS : Aside0 (Sx w w5 [(.blk gR #[.bool false, .slice none 0 0, .slice none 0 0] 28), (.blk gB #[.bool b, .slice Ab1 lb1.length cb1, .slice Ab2 lb2.length cb2] 28), (.blk gK #[.bool a, .slice Aa1 la1.length ca1, .slice Aa2 la2.length ca2] 28)]) := Aside0.mk (HS.out.step hb5); clear HS; have HS := nS; clear nS hb5) | ((with_reducible refine gate_dst (N := 22) rfl ?_); refine wpList_load_row rfl 28 (.tmp 2) rfl gK rfl 28 #[.bool a, .slice Aa1 la1.length ca1, .slice Aa2 la2.length ca2] (0, 0) _ (HS.out.blk 2 rfl) Try.underlying28 rfl (by kernel_rfl) ?_) | ((with_reducible refine gate_dst (N := 23) rfl ?_); refine wpList_load_row rfl 28 (.tmp 3) rfl gB rfl 28 #[.bool b, .slice Ab1 lb1.length cb1, .slice Ab2 lb2.length cb2] (0, 0) _ (HS.out.blk 1 rfl) Try.underlying28 rfl (by kernel_rfl) ?_) | (go_at_call 95; refine (HCT.out _ HS.out.below).mono ?_; rintro e w6 ⟨rfl, hb6⟩; have nS : Aside0 (Sx w w6 [(.blk gR #[.bool false, .slice none 0 0, .slice none 0 0] 28), (.blk gB #[.bool b, .slice Ab1 lb1.length cb1, .slice Ab2 lb2.length cb2] 28), (.blk gK #[.bool a, .slice Aa1 la1.length ca1, .slice Aa2 la2.length ca2] 28)]) := Aside0.mk (HS.out.step hb6); clear HS; have HS := nS; clear nS hb6) | ((with_reducible refine gate_dst (N := 6) rfl ?_); refine box_event ?hg (N := 6) ?hd (cs := #[.bool false, .slice none 0 0, .slice none 0 0]) (t := 28) ?hr ?_; (case hd => rfl); (case hg => rfl); (case hr => first | (go_simp; done) | (go_simp; rfl)); intro gO hg7 w7 hx7 hb7; have nS : Aside0 (Sx w w7 [(.blk gO #[.bool false, .slice none 0 0, .slice none 0 0] 28), (.blk gR #[.bool false, .slice none 0 0, .slice none 0 0] 28), (.blk gB #[.bool b, .slice Ab1 lb1.length cb1, .slice Ab2 lb2.length cb2] 28), (.blk gK #[.bool a, .slice Aa1 la1.length ca1, .slice Aa2 la2.length ca2] 28)]) := Aside0.mk (HS.out.box hg7 hx7 hb7); clear HS; have HS := nS; clear nS hg7 hx7 hb7) | ((with_reducible refine gate_store rfl ?_); refine store_named rfl 28 (.tmp 6) (.tmp 25) rfl gO #[.bool b, .slice Ab1 lb1.length cb1, .slice Ab2 lb2.length cb2] rfl rfl 28 #[.bool false, .slice none 0 0, .slice none 0 0] (HS.out.blk 0 rfl) (by kernel_rfl) rfl (by simp [Value.oneCell']) ?_; intro w8 hx8 hb8; have nS : Aside0 (Sx w w8 [(.blk gO #[.bool b, .slice Ab1 lb1.length cb1, .slice Ab2 lb2.length cb2] 28), (.blk gR #[.bool false, .slice none 0 0, .slice none 0 0] 28), (.blk gB #[.bool b, .slice Ab1 lb1.length cb1, .slice Ab2 lb2.length cb2] 28), (.blk gK #[.bool a, .slice Aa1 la1.length ca1, .slice Aa2 la2.length ca2] 28)]) := Aside0.mk (HS.out.put 0 rfl hx8 hb8); clear HS; have HS := nS; clear nS hx8 hb8) | (go_at_call 53; refine (spec_l4None.calls false [] [] _ rfl).mono ?_; rintro e w9 ⟨v19, v29, rfl, hr19, hr29, hb9⟩; obtain ⟨AS, cS, hv_⟩ := Kd.R_slice hr19; subst hv_; obtain ⟨AD, cD, hv_⟩ := Kd.R_slice hr29; subst hv_; have nS : Aside0 (Sx w w9 [(.row (.slice AS ([] : List Int).length cS) []), (.row (.slice AD ([] : List Int).length cD) []), (.blk gO #[.bool b, .slice Ab1 lb1.length cb1, .slice Ab2 lb2.length cb2] 28), (.blk gR #[.bool false, .slice none 0 0, .slice none 0 0] 28), (.blk gB #[.bool b, .slice Ab1 lb1.length cb1, .slice Ab2 lb2.length cb2] 28), (.blk gK #[.bool a, .slice Aa1 la1.length ca1, .slice Aa2 la2.length ca2] 28)]) := Aside0.mk (HS.out.addRow2 hb9 hr19 hr29); clear HS; have HS := nS; clear nS hb9 hr19 hr29) | ((with_reducible refine gate_store rfl ?_); refine store_named rfl 28 (.tmp 4) (.tmp 29) rfl gR #[.bool false, .slice AS ([] : List Int).length cS, .slice AD ([] : List Int).length cD] rfl rfl 28 #[.bool false, .slice none 0 0, .slice none 0 0] (HS.out.blk 3 rfl) (by kernel_rfl) rfl (by simp [Value.oneCell']) ?_; intro w10 hx10 hb10; have nS : Aside0 (Sx w w10 [(.row (.slice AS ([] : List Int).length cS) []), (.row (.slice AD ([] : List Int).length cD) []), (.blk gO #[.bool b, .slice Ab1 lb1.length cb1, .slice Ab2 lb2.length cb2] 28), (.blk gR #[.bool false, .slice AS ([] : List Int).length cS, .slice AD ([] : List Int).length cD] 28), (.blk gB #[.bool b, .slice Ab1 lb1.length cb1, .slice Ab2 lb2.length cb2] 28), (.blk gK #[.bool a, .slice Aa1 la1.length ca1, .slice Aa2 la2.length ca2] 28)]) := Aside0.mk (HS.out.put 3 rfl hx10 hb10); clear HS; have HS := nS; clear nS hx10 hb10))
  refine bodyPost_ret (results_ct rfl _ _ gR 28 #[.bool false, .slice AS ([] : List Int).length cS, .slice AD ([] : List Int).length cD] (0, 0) _ rfl (HS.out.blk 3 rfl) Try.underlying28 rfl (by kernel_rfl)) rfl ?_
  exact ⟨_, _, rfl, (HS.out.two 0 1 (by decide) rfl rfl).1, (HS.out.two 0 1 (by decide) rfl rfl).2, HS.out.below⟩
theorem stDrop_len (k : List Int) : (stDrop k).length = k.length := by simp [stDrop]
theorem stDrop_range (k : List Int) (hk : ∀ x ∈ k, -1000000000000000 ≤ x ∧ x ≤ 1000000000000000) : ∀ x ∈ stDrop k, -1000000000000000 ≤ x ∧ x ≤ 1000000000000000 := by
  intro x hx
  simp only [stDrop, List.mem_map, List.mem_range] at hx
  obtain ⟨i, hi, rfl⟩ := hx
  have h2 := hk _ (rd_mem' k i hi)
  unfold mx
  split <;> omega
theorem shGo_less : ∀ (l m : List Int) (f g : Int), 1 ≤ f → f ≤ g → l.length = m.length → (∀ i : Nat, i < l.length → 0 ≤ rd l (i : Int) ∧ rd l (i : Int) ≤ rd m (i : Int)) → shGo g m = true → shGo f l = true
  | [], _, _, _, _, _, _, _, _ => rfl
  | a :: t, [], _, _, _, _, h, _, _ => by simp at h
  | a :: t, b :: u, f, g, h1, hfg, hl, hle, h => by
    have h0 := hle 0 (by simp)
    have h0' : 0 ≤ a ∧ a ≤ b := h0
    have ht : ∀ i : Nat, i < t.length → 0 ≤ rd t (i : Int) ∧ rd t (i : Int) ≤ rd u (i : Int) := fun i hi => by
      have := hle (i + 1) (by simp; omega)
      simpa [rd, List.getD_eq_getElem?_getD, show ((i : Int) + 1).toNat = i + 1 by omega] using this
    simp only [shGo, Bool.and_eq_true, decide_eq_true_eq] at h ⊢
    refine ⟨by omega, ?_⟩
    have hl' : t.length = u.length := by simpa using hl
    by_cases ha : a = 0
    · rw [if_pos ha]
      by_cases hb : b = 0
      · rw [if_pos hb] at h; exact shGo_less t u f g h1 hfg hl' ht h.2
      · rw [if_neg hb] at h
        simp only [Bool.and_eq_true, decide_eq_true_eq] at h
        have : g * 1 ≤ g * b := Int.mul_le_mul_of_nonneg_left (by omega) (by omega)
        exact shGo_less t u f (g * b) h1 (by omega) hl' ht h.2.2
    · rw [if_neg ha]
      rw [if_neg (by omega)] at h
      simp only [Bool.and_eq_true, decide_eq_true_eq] at h ⊢
      have h2 : f * a ≤ g * b := Int.mul_le_mul hfg h0'.2 h0'.1 (by omega)
      have h3 : f * 1 ≤ f * a := Int.mul_le_mul_of_nonneg_left (by omega) (by omega)
      exact ⟨by omega, shGo_less t u (f * a) (g * b) (by omega) h2 hl' ht h.2.2⟩
theorem dropL_rd (s k : List Int) (n i : Nat) (h : i < n) : rd (dropL s k n) (i : Int) = mx 0 (rd s (i : Int) - (if rd k (i : Int) < 0 then -rd k (i : Int) else rd k (i : Int))) := rd_range _ _ _ h
theorem dropL_ok (s k : List Int) (n : Nat) (hn : s.length = n) (hs : shOk s = true) : shOk (dropL s k n) = true := by
  have hr := shOk_range hs
  simp only [shOk, Bool.and_eq_true, decide_eq_true_eq] at hs ⊢
  refine ⟨by rw [dropL_len]; omega, shGo_less _ s 1 1 (by omega) (by omega) (by rw [dropL_len]; omega) (fun i hi => ?_) hs.2⟩
  rw [dropL_len] at hi
  rw [dropL_rd _ _ _ _ hi]
  have := hr _ (rd_mem' s i (by omega))
  unfold mx
  split <;> split <;> omega
set_option maxHeartbeats 2000000 in
set_option maxRecDepth 100000 in
theorem specDrop_ok (a : Bool) (Aa1 : Option Addr) (ca1 : Nat) (la1 : List Int) (Aa2 : Option Addr) (ca2 : Nat) (la2 : List Int) (b : Bool) (Ab1 : Option Addr) (cb1 : Nat) (lb1 : List Int) (Ab2 : Option Addr) (cb2 : Nat) (lb2 : List Int) (w : World) (ha1 : Kd.C (Kd.int .i64) w Aa1 la1.length la1) (ka1 : la1.length ≤ ca1) (ha2 : Kd.C (Kd.int .i64) w Aa2 la2.length la2) (ka2 : la2.length ≤ ca2) (hb1 : Kd.C (Kd.int .i64) w Ab1 lb1.length lb1) (kb1 : lb1.length ≤ cb1) (hb2 : Kd.C (Kd.int .i64) w Ab2 lb2.length lb2) (kb2 : lb2.length ≤ cb2) (ka : Nat) (hva : spec_ArrayOk.f ka a la1 la2 = some true) (kb : Nat) (hvb : spec_ArrayOk.f kb b lb1 lb2 = some true) (s : List Int) (hls : s.length = la2.length) (h5 : la2.length ≤ 5) (hso : shOk s = true) (hrk : ∀ x ∈ la2, -1000000000000000 ≤ x ∧ x ≤ 1000000000000000) (hps : prod s = lb2.length) (hn2 : lb2.length ≤ 10000) (hc : ∀ W, Below w.heap.size w W → Calls Try.prog 95 #[.agg #[.bool a, .slice Aa1 la1.length ca1, .slice Aa2 la2.length ca2], .agg #[.bool b, .slice Ab1 lb1.length cb1, .slice Ab2 lb2.length cb2]] W fun e w' => ∃ A1 c1 A2 c2, e = .returned (.tuple #[.agg #[.bool b, .slice A1 s.length c1, .slice A2 lb2.length c2], .int .i64 0]) ∧ Kd.R (Kd.int .i64) 3 w' W.heap.size (fun k => some k ≠ (Value.slice A2 lb2.length c2).ownBlock) (.slice A1 s.length c1) s ∧ Kd.R (Kd.int .i64) 3 w' W.heap.size (fun k => some k ≠ (Value.slice A1 s.length c1).ownBlock) (.slice A2 lb2.length c2) lb2 ∧ Below W.heap.size W w')  :
    Calls Try.prog 40 #[.agg #[.bool a, .slice Aa1 la1.length ca1, .slice Aa2 la2.length ca2], .agg #[.bool b, .slice Ab1 lb1.length cb1, .slice Ab2 lb2.length cb2]] w fun e w' => ∃ v1_ v2_ : Value, e = .returned (.tuple #[.agg #[.bool b, v1_, v2_], .int .i64 0]) ∧ Kd.R (Kd.int .i64) 3 w' w.heap.size (fun k_ => some k_ ≠ (v2_ : Value).ownBlock) v1_ (dropL s la2 la2.length) ∧ Kd.R (Kd.int .i64) 3 w' w.heap.size (fun k_ => some k_ ≠ (v1_ : Value).ownBlock) v2_ (winL b s lb2 (dropL s la2 la2.length) (stDrop la2) (prod (dropL s la2 la2.length)).toNat) ∧ Below w.heap.size w w' := by
  have Ha1 := Aside0.mk ha1
  have Ka1 := Aside0.mk ka1
  clear ha1 ka1
  have Ha2 := Aside0.mk ha2
  have Ka2 := Aside0.mk ka2
  clear ha2 ka2
  have Hb1 := Aside0.mk hb1
  have Kb1 := Aside0.mk kb1
  clear hb1 kb1
  have Hb2 := Aside0.mk hb2
  have Kb2 := Aside0.mk kb2
  clear hb2 kb2
  have HVa := Aside0.mk hva
  clear hva
  have HVb := Aside0.mk hvb
  clear hvb
  have HCT := Aside0.mk hc
  clear hc
  have HLS := Aside0.mk hls
  have H5 := Aside0.mk h5
  have HRS := Aside0.mk (shOk_range hso)
  have HRK := Aside0.mk hrk
  have HPS := Aside0.mk hps
  have HN2 := Aside0.mk hn2
  have HST := Aside0.mk (stDrop_range la2 hrk)
  have HOK := Aside0.mk (dropL_ok s la2 la2.length hls hso)
  clear hls h5 hso hrk hps hn2
  have HS := Aside0.mk (Sx.start w)
  go_enter Try.func40, Try.ntmps40
  go_wp2_with (first | ((with_reducible refine gate_dst (N := 2) rfl ?_); refine box_event ?hg (N := 2) ?hd (cs := #[.bool a, .slice Aa1 la1.length ca1, .slice Aa2 la2.length ca2]) (t := 28) ?hr ?_; (case hd => rfl); (case hg => rfl); (case hr => first | (go_simp; done) | (go_simp; rfl)); intro gK hg1 w1 hx1 hb1; have nS : Aside0 (Sx w w1 [(.blk gK #[.bool a, .slice Aa1 la1.length ca1, .slice Aa2 la2.length ca2] 28)]) := Aside0.mk (HS.out.box hg1 hx1 hb1); clear HS; have HS := nS; clear nS hg1 hx1 hb1) | ((with_reducible refine gate_dst (N := 3) rfl ?_); refine box_event ?hg (N := 3) ?hd (cs := #[.bool b, .slice Ab1 lb1.length cb1, .slice Ab2 lb2.length cb2]) (t := 28) ?hr ?_; (case hd => rfl); (case hg => rfl); (case hr => first | (go_simp; done) | (go_simp; rfl)); intro gB hg2 w2 hx2 hb2; have nS : Aside0 (Sx w w2 [(.blk gB #[.bool b, .slice Ab1 lb1.length cb1, .slice Ab2 lb2.length cb2] 28), (.blk gK #[.bool a, .slice Aa1 la1.length ca1, .slice Aa2 la2.length ca2] 28)]) := Aside0.mk (HS.out.box hg2 hx2 hb2); clear HS; have HS := nS; clear nS hg2 hx2 hb2) | ((with_reducible refine gate_dst (N := 4) rfl ?_); refine box_event ?hg (N := 4) ?hd (cs := #[.bool false, .slice none 0 0, .slice none 0 0]) (t := 28) ?hr ?_; (case hd => rfl); (case hg => rfl); (case hr => first | (go_simp; done) | (go_simp; rfl)); intro gR hg3 w3 hx3 hb3; have nS : Aside0 (Sx w w3 [(.blk gR #[.bool false, .slice none 0 0, .slice none 0 0] 28), (.blk gB #[.bool b, .slice Ab1 lb1.length cb1, .slice Ab2 lb2.length cb2] 28), (.blk gK #[.bool a, .slice Aa1 la1.length ca1, .slice Aa2 la2.length ca2] 28)]) := Aside0.mk (HS.out.box hg3 hx3 hb3); clear HS; have HS := nS; clear nS hg3 hx3 hb3) | ((with_reducible refine gate_dst (N := 12) rfl ?_); refine wpList_load_row rfl 28 (.tmp 2) rfl gK rfl 28 #[.bool a, .slice Aa1 la1.length ca1, .slice Aa2 la2.length ca2] (0, 0) _ (HS.out.blk 2 rfl) Try.underlying28 rfl (by kernel_rfl) ?_) | (go_at_call 47; with_reducible refine (spec_ArrayOk.calls ka a Aa1 ca1 la1 Aa2 ca2 la2 true _ (Kd.C_below Ha1.out HS.out.below) Ka1.out (Kd.C_below Ha2.out HS.out.below) Ka2.out HVa.out).mono ?_; rintro e w4 ⟨rfl, hb4⟩; have nS : Aside0 (Sx w w4 [(.blk gR #[.bool false, .slice none 0 0, .slice none 0 0] 28), (.blk gB #[.bool b, .slice Ab1 lb1.length cb1, .slice Ab2 lb2.length cb2] 28), (.blk gK #[.bool a, .slice Aa1 la1.length ca1, .slice Aa2 la2.length ca2] 28)]) := Aside0.mk (HS.out.step hb4); clear HS; have HS := nS; clear nS hb4) | ((with_reducible refine wpList_guarded ?hw ?_); (case hw => first | rfl | (go_simp; done))) | ((with_reducible refine gate_dst (N := 16) rfl ?_); refine wpList_load_row rfl 28 (.tmp 3) rfl gB rfl 28 #[.bool b, .slice Ab1 lb1.length cb1, .slice Ab2 lb2.length cb2] (0, 0) _ (HS.out.blk 1 rfl) Try.underlying28 rfl (by kernel_rfl) ?_) | (go_at_call 47; with_reducible refine (spec_ArrayOk.calls kb b Ab1 cb1 lb1 Ab2 cb2 lb2 true _ (Kd.C_below Hb1.out HS.out.below) Kb1.out (Kd.C_below Hb2.out HS.out.below) Kb2.out HVb.out).mono ?_; rintro e w5 ⟨rfl, hb5⟩; have nS : Aside0 (Sx w w5 [(.blk gR #[.bool false, .slice none 0 0, .slice none 0 0] 28), (.blk gB #[.bool b, .slice Ab1 lb1.length cb1, .slice Ab2 lb2.length cb2] 28), (.blk gK #[.bool a, .slice Aa1 la1.length ca1, .slice Aa2 la2.length ca2] 28)]) := Aside0.mk (HS.out.step hb5); clear HS; have HS := nS; clear nS hb5) | ((with_reducible refine gate_dst (N := 22) rfl ?_); refine wpList_load_row rfl 28 (.tmp 2) rfl gK rfl 28 #[.bool a, .slice Aa1 la1.length ca1, .slice Aa2 la2.length ca2] (0, 0) _ (HS.out.blk 2 rfl) Try.underlying28 rfl (by kernel_rfl) ?_) | ((with_reducible refine gate_dst (N := 23) rfl ?_); refine wpList_load_row rfl 28 (.tmp 3) rfl gB rfl 28 #[.bool b, .slice Ab1 lb1.length cb1, .slice Ab2 lb2.length cb2] (0, 0) _ (HS.out.blk 1 rfl) Try.underlying28 rfl (by kernel_rfl) ?_) | (go_at_call 95; refine (HCT.out _ HS.out.below).mono ?_; rintro e w6 ⟨A1, c1, A2, c2, rfl, hr16, hr26, hb6⟩; have nS : Aside0 (Sx w w6 [(.row (.slice A1 s.length c1) s), (.row (.slice A2 lb2.length c2) lb2), (.blk gR #[.bool false, .slice none 0 0, .slice none 0 0] 28), (.blk gB #[.bool b, .slice Ab1 lb1.length cb1, .slice Ab2 lb2.length cb2] 28), (.blk gK #[.bool a, .slice Aa1 la1.length ca1, .slice Aa2 la2.length ca2] 28)]) := Aside0.mk (HS.out.addRow2 hb6 hr16 hr26); clear HS; have HS := nS; clear nS hb6 hr16 hr26) | ((with_reducible refine gate_dst (N := 6) rfl ?_); refine box_event ?hg (N := 6) ?hd (cs := #[.bool false, .slice none 0 0, .slice none 0 0]) (t := 28) ?hr ?_; (case hd => rfl); (case hg => rfl); (case hr => first | (go_simp; done) | (go_simp; rfl)); intro gO hg7 w7 hx7 hb7; have nS : Aside0 (Sx w w7 [(.blk gO #[.bool false, .slice none 0 0, .slice none 0 0] 28), (.row (.slice A1 s.length c1) s), (.row (.slice A2 lb2.length c2) lb2), (.blk gR #[.bool false, .slice none 0 0, .slice none 0 0] 28), (.blk gB #[.bool b, .slice Ab1 lb1.length cb1, .slice Ab2 lb2.length cb2] 28), (.blk gK #[.bool a, .slice Aa1 la1.length ca1, .slice Aa2 la2.length ca2] 28)]) := Aside0.mk (HS.out.box hg7 hx7 hb7); clear HS; have HS := nS; clear nS hg7 hx7 hb7) | ((with_reducible refine gate_store rfl ?_); refine store_named rfl 28 (.tmp 6) (.tmp 25) rfl gO #[.bool b, .slice A1 s.length c1, .slice A2 lb2.length c2] rfl rfl 28 #[.bool false, .slice none 0 0, .slice none 0 0] (HS.out.blk 0 rfl) (by kernel_rfl) rfl (by simp [Value.oneCell']) ?_; intro w8 hx8 hb8; have nS : Aside0 (Sx w w8 [(.blk gO #[.bool b, .slice A1 s.length c1, .slice A2 lb2.length c2] 28), (.row (.slice A1 s.length c1) s), (.row (.slice A2 lb2.length c2) lb2), (.blk gR #[.bool false, .slice none 0 0, .slice none 0 0] 28), (.blk gB #[.bool b, .slice Ab1 lb1.length cb1, .slice Ab2 lb2.length cb2] 28), (.blk gK #[.bool a, .slice Aa1 la1.length ca1, .slice Aa2 la2.length ca2] 28)]) := Aside0.mk (HS.out.put 0 rfl hx8 hb8); clear HS; have HS := nS; clear nS hx8 hb8) | ((with_reducible refine gate_dst (N := 31) rfl ?_); refine ev_nolit HS.out rfl (N := 31) rfl ?hr ?_; (case hr => first | (go_simp; done) | (go_simp; rfl)); intro ASt w9 hd; have nS : Aside0 (Sx w w9 [(.row (.slice ASt 0 0) []), (.blk gO #[.bool b, .slice A1 s.length c1, .slice A2 lb2.length c2] 28), (.row (.slice A1 s.length c1) s), (.row (.slice A2 lb2.length c2) lb2), (.blk gR #[.bool false, .slice none 0 0, .slice none 0 0] 28), (.blk gB #[.bool b, .slice Ab1 lb1.length cb1, .slice Ab2 lb2.length cb2] 28), (.blk gK #[.bool a, .slice Aa1 la1.length ca1, .slice Aa2 la2.length ca2] 28)]) := Aside0.mk hd; clear HS; have HS := nS; clear nS hd) | ((with_reducible refine gate_dst (N := 32) rfl ?_); refine ev_nolit HS.out rfl (N := 32) rfl ?hr ?_; (case hr => first | (go_simp; done) | (go_simp; rfl)); intro ASh w10 hd; have nS : Aside0 (Sx w w10 [(.row (.slice ASh 0 0) []), (.row (.slice ASt 0 0) []), (.blk gO #[.bool b, .slice A1 s.length c1, .slice A2 lb2.length c2] 28), (.row (.slice A1 s.length c1) s), (.row (.slice A2 lb2.length c2) lb2), (.blk gR #[.bool false, .slice none 0 0, .slice none 0 0] 28), (.blk gB #[.bool b, .slice Ab1 lb1.length cb1, .slice Ab2 lb2.length cb2] 28), (.blk gK #[.bool a, .slice Aa1 la1.length ca1, .slice Aa2 la2.length ca2] 28)]) := Aside0.mk hd; clear HS; have HS := nS; clear nS hd))
  go_loopw [8, 9, 10, 11] (fun p q z _ wr => ∃ (i : Nat) (B1 : Option Addr) (d1 : Nat) (B2 : Option Addr) (d2 : Nat), p = .slice B1 i d1 ∧ q = .slice B2 i d2 ∧ z = .int .i64 (i : Int) ∧ Aside0 (i ≤ la2.length) ∧ Aside0 (Sx w wr [(.row (.slice B2 i d2) (dropL s la2 i)), (.row (.slice B1 i d1) ((stDrop la2).take i)), (.blk gO #[.bool b, .slice A1 s.length c1, .slice A2 lb2.length c2] 28), (.row (.slice A1 s.length c1) s), (.row (.slice A2 lb2.length c2) lb2), (.blk gR #[.bool false, .slice none 0 0, .slice none 0 0] 28), (.blk gB #[.bool b, .slice Ab1 lb1.length cb1, .slice Ab2 lb2.length cb2] 28), (.blk gK #[.bool a, .slice Aa1 la1.length ca1, .slice Aa2 la2.length ca2] 28)])) (fun _ _ z _ _ => la2.length - (intOf z).toNat)
  case atStart => exact ⟨0, ASt, 0, ASh, 0, rfl, rfl, rfl, ⟨Nat.zero_le _⟩, HS⟩
  case round =>
    clear HS
    obtain ⟨i, B1, d1, B2, d2, rfl, rfl, rfl, hi, HS⟩ := hrel
    by_cases hlt : i < la2.length
    · have h5_ := H5.out
      obtain ⟨ad, rfl, y1⟩ := Kd.at_int Ha2.out (i : Int) (by omega) (by omega)
      clear y1
      have hx_ := HRK.out _ (rd_mem' la2 i hlt)
      obtain ⟨x_, hX⟩ : ∃ x, rd la2 (i : Int) = x := ⟨_, rfl⟩
      have HX := Aside0.mk hX
      rw [hX] at hx_
      clear hX
      obtain ⟨m_, hm_⟩ : ∃ m, (if x_ < 0 then -x_ else x_) = m := ⟨_, rfl⟩
      have HM := Aside0.mk hm_
      have m0 : 0 ≤ m_ := by rw [← hm_]; split <;> omega
      have m1 : m_ ≤ 1000000000000000 := by rw [← hm_]; split <;> omega
      clear hm_
      go_upto_region 11 with (first | ((with_reducible refine gate_dst (N := 35) rfl ?_); refine ev_load rfl 22 (.tmp 34) rfl ⟨gK, 2, none⟩ rfl (.slice (some ad) la2.length ca2) ((blk_cell (HS.out.blk 7 rfl) 2).trans rfl) (by kernel_rfl) ?_))
      obtain ⟨gs, eA, xS, fS⟩ := HS.out.at 3 rfl i (by have := HLS.out; omega)
      subst eA
      have xO : wr.cell? ⟨gO, 1, none⟩ = some (.slice (some ⟨gs, 0, none⟩) s.length c1) := (blk_cell (HS.out.blk 2 rfl) 1).trans rfl
      have xK : wr.cell? ⟨gK, 2, none⟩ = some (.slice (some ad) la2.length ca2) := (blk_cell (HS.out.blk 7 rfl) 2).trans rfl
      have y1 : wr.cell? (ad.add i) = some (.int .i64 x_) := (C_at (Kd.C_below Ha2.out HS.out.below) i hlt).trans (by rw [HX.out])
      have hzr := HRS.out _ (rd_mem' s i (by have := HLS.out; omega))
      obtain ⟨z_, hz_⟩ : ∃ z, rd s (i : Int) = z := ⟨_, rfl⟩
      rw [hz_] at xS hzr
      have HZ := Aside0.mk hz_
      clear hz_ fS
      have hw : IntKind.i64.wrap (z_ - m_) = z_ - m_ := IntWalk.i64_in _ (by omega)
      have p0 : 0 ≤ (i : Int) := by omega
      have p1 : (i : Int) < (s.length : Int) := by have := HLS.out; omega
      have p2 : (i : Int) < (la2.length : Int) := by omega
      go_region_held3 (fun w' => w'.cell? ⟨gO, 1, none⟩ = some (.slice (some ⟨gs, 0, none⟩) s.length c1) ∧ w'.cell? ⟨gK, 2, none⟩ = some (.slice (some ad) la2.length ca2) ∧ w'.cell? (ad.add i) = some (.int .i64 x_) ∧ w'.cell? ⟨gs, i, none⟩ = some (.int .i64 z_)) ((exact ⟨(blk_cell (Sx.blkM (by repeat (first | (with_reducible exact HS.out) | (with_reducible apply Sx.drew) | (with_reducible apply Sx.drewN) | (with_reducible apply Sx.alloc))) (g := gO) (cs := #[.bool b, .slice (some ⟨gs, 0, none⟩) s.length c1, .slice A2 lb2.length c2]) (t := 28) (by simp)) 1).trans rfl, (blk_cell (Sx.blkM (by repeat (first | (with_reducible exact HS.out) | (with_reducible apply Sx.drew) | (with_reducible apply Sx.drewN) | (with_reducible apply Sx.alloc))) (g := gK) (cs := #[.bool a, .slice Aa1 la1.length ca1, .slice (some ad) la2.length ca2]) (t := 28) (by simp)) 2).trans rfl, (C_at (Kd.C_below Ha2.out (Sx.below (show Sx w _ _ from (by repeat (first | (with_reducible exact HS.out) | (with_reducible apply Sx.drew) | (with_reducible apply Sx.drewN) | (with_reducible apply Sx.alloc)))))) i hlt).trans (by rw [HX.out]), (Sx.atM (by repeat (first | (with_reducible exact HS.out) | (with_reducible apply Sx.drew) | (with_reducible apply Sx.drewN) | (with_reducible apply Sx.alloc))) (g := gs) (n := s.length) (c := c1) (xs := s) (by simp) i (by have := HLS.out; omega)).trans (by rw [HZ.out])⟩)) (first | (go_at_call 96; refine (spec_l5Abs.calls x_ m_ _ ((l5Abs_eq x_ hx_.1 hx_.2).trans (by rw [HM.out]))).mono ?_; rintro e wu1 ⟨rfl, hdu1⟩; have hbu1 := Drawn0.below hdu1; clear hdu1; have nS : Aside0 (Sx w wu1 [(.row (.slice B2 i d2) (dropL s la2 i)), (.row (.slice B1 i d1) ((stDrop la2).take i)), (.blk gO #[.bool b, .slice (some ⟨gs, 0, none⟩) s.length c1, .slice A2 lb2.length c2] 28), (.row (.slice (some ⟨gs, 0, none⟩) s.length c1) s), (.row (.slice A2 lb2.length c2) lb2), (.blk gR #[.bool false, .slice none 0 0, .slice none 0 0] 28), (.blk gB #[.bool b, .slice Ab1 lb1.length cb1, .slice Ab2 lb2.length cb2] 28), (.blk gK #[.bool a, .slice Aa1 la1.length ca1, .slice (some ad) la2.length ca2] 28)]) := Aside0.mk ((show Sx w _ [(.row (.slice B2 i d2) (dropL s la2 i)), (.row (.slice B1 i d1) ((stDrop la2).take i)), (.blk gO #[.bool b, .slice (some ⟨gs, 0, none⟩) s.length c1, .slice A2 lb2.length c2] 28), (.row (.slice (some ⟨gs, 0, none⟩) s.length c1) s), (.row (.slice A2 lb2.length c2) lb2), (.blk gR #[.bool false, .slice none 0 0, .slice none 0 0] 28), (.blk gB #[.bool b, .slice Ab1 lb1.length cb1, .slice Ab2 lb2.length cb2] 28), (.blk gK #[.bool a, .slice Aa1 la1.length ca1, .slice (some ad) la2.length ca2] 28)] from (by repeat (first | (with_reducible exact HS.out) | (with_reducible apply Sx.drew) | (with_reducible apply Sx.drewN) | (with_reducible apply Sx.alloc)))).step hbu1); clear HS; have HS := nS; clear nS hbu1))
      clear hw
      have hmx := mx0_bounds z_ m_ hzr.1 hzr.2 m0
      by_cases hl : z_ - m_ < 0
      · by_cases hx : 0 < x_
        · go_wp2_with (first | ((with_reducible refine gate_dst (N := 57) rfl ?_); refine Sx.appendN HS.out 0 rfl i (dropL_len s la2 i) rfl (.tmp 54) (.tmp 56) rfl rfl (by kernel_rfl) (0) rfl rfl (by omega) ?_; intro ESh eSh wv2 n2; have nS : Aside0 (Sx w wv2 [(.row (.slice ESh (i + 1) eSh) ((dropL s la2 i) ++ [0])), (.row (.slice B1 i d1) ((stDrop la2).take i)), (.blk gO #[.bool b, .slice (some ⟨gs, 0, none⟩) s.length c1, .slice A2 lb2.length c2] 28), (.row (.slice (some ⟨gs, 0, none⟩) s.length c1) s), (.row (.slice A2 lb2.length c2) lb2), (.blk gR #[.bool false, .slice none 0 0, .slice none 0 0] 28), (.blk gB #[.bool b, .slice Ab1 lb1.length cb1, .slice Ab2 lb2.length cb2] 28), (.blk gK #[.bool a, .slice Aa1 la1.length ca1, .slice (some ad) la2.length ca2] 28)]) := Aside0.mk n2; clear HS n2; have HS := nS; clear nS) | ((with_reducible refine gate_dst (N := 59) rfl ?_); refine ev_load rfl 22 (.tmp 58) rfl ⟨gK, 2, none⟩ rfl (.slice (some ad) la2.length ca2) ((blk_cell (HS.out.blk 7 rfl) 2).trans rfl) (by kernel_rfl) ?_) | ((with_reducible refine gate_dst (N := 62) rfl ?_); refine ev_load rfl 3 (.tmp 61) rfl (ad.add i) rfl (.int .i64 x_) ((C_at (Kd.C_below Ha2.out (show Sx w _ [(.row (.slice ESh (i + 1) eSh) ((dropL s la2 i) ++ [0])), (.row (.slice B1 i d1) ((stDrop la2).take i)), (.blk gO #[.bool b, .slice (some ⟨gs, 0, none⟩) s.length c1, .slice A2 lb2.length c2] 28), (.row (.slice (some ⟨gs, 0, none⟩) s.length c1) s), (.row (.slice A2 lb2.length c2) lb2), (.blk gR #[.bool false, .slice none 0 0, .slice none 0 0] 28), (.blk gB #[.bool b, .slice Ab1 lb1.length cb1, .slice Ab2 lb2.length cb2] 28), (.blk gK #[.bool a, .slice Aa1 la1.length ca1, .slice (some ad) la2.length ca2] 28)] from (by repeat (first | (with_reducible exact HS.out) | (with_reducible apply Sx.drew) | (with_reducible apply Sx.drewN) | (with_reducible apply Sx.alloc)))).below) i hlt).trans (by rw [HX.out])) (by kernel_rfl) ?_) | ((with_reducible refine gate_dst (N := 66) rfl ?_); refine ev_load rfl 22 (.tmp 65) rfl ⟨gK, 2, none⟩ rfl (.slice (some ad) la2.length ca2) ((blk_cell (HS.out.blk 7 rfl) 2).trans rfl) (by kernel_rfl) ?_) | ((with_reducible refine gate_dst (N := 69) rfl ?_); refine ev_load rfl 3 (.tmp 68) rfl (ad.add i) rfl (.int .i64 x_) ((C_at (Kd.C_below Ha2.out (show Sx w _ [(.row (.slice ESh (i + 1) eSh) ((dropL s la2 i) ++ [0])), (.row (.slice B1 i d1) ((stDrop la2).take i)), (.blk gO #[.bool b, .slice (some ⟨gs, 0, none⟩) s.length c1, .slice A2 lb2.length c2] 28), (.row (.slice (some ⟨gs, 0, none⟩) s.length c1) s), (.row (.slice A2 lb2.length c2) lb2), (.blk gR #[.bool false, .slice none 0 0, .slice none 0 0] 28), (.blk gB #[.bool b, .slice Ab1 lb1.length cb1, .slice Ab2 lb2.length cb2] 28), (.blk gK #[.bool a, .slice Aa1 la1.length ca1, .slice (some ad) la2.length ca2] 28)] from (by repeat (first | (with_reducible exact HS.out) | (with_reducible apply Sx.drew) | (with_reducible apply Sx.drewN) | (with_reducible apply Sx.alloc)))).below) i hlt).trans (by rw [HX.out])) (by kernel_rfl) ?_) | ((with_reducible refine gate_dst (N := 71) rfl ?_); refine Sx.appendN HS.out 1 rfl i (by rw [List.length_take, stDrop_len]; omega) rfl (.tmp 64) (.tmp 70) rfl rfl (by kernel_rfl) (x_) rfl rfl (by omega) ?_; intro ESt eSt wv3 n2; have nS : Aside0 (Sx w wv3 [(.row (.slice ESh (i + 1) eSh) ((dropL s la2 i) ++ [0])), (.row (.slice ESt (i + 1) eSt) (((stDrop la2).take i) ++ [x_])), (.blk gO #[.bool b, .slice (some ⟨gs, 0, none⟩) s.length c1, .slice A2 lb2.length c2] 28), (.row (.slice (some ⟨gs, 0, none⟩) s.length c1) s), (.row (.slice A2 lb2.length c2) lb2), (.blk gR #[.bool false, .slice none 0 0, .slice none 0 0] 28), (.blk gB #[.bool b, .slice Ab1 lb1.length cb1, .slice Ab2 lb2.length cb2] 28), (.blk gK #[.bool a, .slice Aa1 la1.length ca1, .slice (some ad) la2.length ca2] 28)]) := Aside0.mk n2; clear HS n2; have HS := nS; clear nS))
          go_roundw
          case rel =>
            refine ⟨i + 1, ESt, eSt, ESh, eSh, rfl, rfl, by push_cast; rfl, ⟨by omega⟩, ⟨?_⟩⟩
            rw [dropL_succ, take_snocI (stDrop la2) i (by rw [stDrop_len]; exact hlt), HX.out, HZ.out, HM.out, show mx 0 (z_ - m_) = 0 from by unfold mx; split <;> omega, show rd (stDrop la2) (i : Int) = x_ from by rw [stDrop_rd _ _ hlt, HX.out]; unfold mx; split <;> omega]
            exact HS.out
          case measure => simp [intOf]; omega
        · go_wp2_with (first | ((with_reducible refine gate_dst (N := 57) rfl ?_); refine Sx.appendN HS.out 0 rfl i (dropL_len s la2 i) rfl (.tmp 54) (.tmp 56) rfl rfl (by kernel_rfl) (0) rfl rfl (by omega) ?_; intro ESh eSh wv2 n2; have nS : Aside0 (Sx w wv2 [(.row (.slice ESh (i + 1) eSh) ((dropL s la2 i) ++ [0])), (.row (.slice B1 i d1) ((stDrop la2).take i)), (.blk gO #[.bool b, .slice (some ⟨gs, 0, none⟩) s.length c1, .slice A2 lb2.length c2] 28), (.row (.slice (some ⟨gs, 0, none⟩) s.length c1) s), (.row (.slice A2 lb2.length c2) lb2), (.blk gR #[.bool false, .slice none 0 0, .slice none 0 0] 28), (.blk gB #[.bool b, .slice Ab1 lb1.length cb1, .slice Ab2 lb2.length cb2] 28), (.blk gK #[.bool a, .slice Aa1 la1.length ca1, .slice (some ad) la2.length ca2] 28)]) := Aside0.mk n2; clear HS n2; have HS := nS; clear nS) | ((with_reducible refine gate_dst (N := 59) rfl ?_); refine ev_load rfl 22 (.tmp 58) rfl ⟨gK, 2, none⟩ rfl (.slice (some ad) la2.length ca2) ((blk_cell (HS.out.blk 7 rfl) 2).trans rfl) (by kernel_rfl) ?_) | ((with_reducible refine gate_dst (N := 62) rfl ?_); refine ev_load rfl 3 (.tmp 61) rfl (ad.add i) rfl (.int .i64 x_) ((C_at (Kd.C_below Ha2.out (show Sx w _ [(.row (.slice ESh (i + 1) eSh) ((dropL s la2 i) ++ [0])), (.row (.slice B1 i d1) ((stDrop la2).take i)), (.blk gO #[.bool b, .slice (some ⟨gs, 0, none⟩) s.length c1, .slice A2 lb2.length c2] 28), (.row (.slice (some ⟨gs, 0, none⟩) s.length c1) s), (.row (.slice A2 lb2.length c2) lb2), (.blk gR #[.bool false, .slice none 0 0, .slice none 0 0] 28), (.blk gB #[.bool b, .slice Ab1 lb1.length cb1, .slice Ab2 lb2.length cb2] 28), (.blk gK #[.bool a, .slice Aa1 la1.length ca1, .slice (some ad) la2.length ca2] 28)] from (by repeat (first | (with_reducible exact HS.out) | (with_reducible apply Sx.drew) | (with_reducible apply Sx.drewN) | (with_reducible apply Sx.alloc)))).below) i hlt).trans (by rw [HX.out])) (by kernel_rfl) ?_) | ((with_reducible refine gate_dst (N := 74) rfl ?_); refine Sx.appendN HS.out 1 rfl i (by rw [List.length_take, stDrop_len]; omega) rfl (.tmp 72) (.tmp 73) rfl rfl (by kernel_rfl) (0) rfl rfl (by omega) ?_; intro ESt eSt wv3 n2; have nS : Aside0 (Sx w wv3 [(.row (.slice ESh (i + 1) eSh) ((dropL s la2 i) ++ [0])), (.row (.slice ESt (i + 1) eSt) (((stDrop la2).take i) ++ [0])), (.blk gO #[.bool b, .slice (some ⟨gs, 0, none⟩) s.length c1, .slice A2 lb2.length c2] 28), (.row (.slice (some ⟨gs, 0, none⟩) s.length c1) s), (.row (.slice A2 lb2.length c2) lb2), (.blk gR #[.bool false, .slice none 0 0, .slice none 0 0] 28), (.blk gB #[.bool b, .slice Ab1 lb1.length cb1, .slice Ab2 lb2.length cb2] 28), (.blk gK #[.bool a, .slice Aa1 la1.length ca1, .slice (some ad) la2.length ca2] 28)]) := Aside0.mk n2; clear HS n2; have HS := nS; clear nS))
          go_roundw
          case rel =>
            refine ⟨i + 1, ESt, eSt, ESh, eSh, rfl, rfl, by push_cast; rfl, ⟨by omega⟩, ⟨?_⟩⟩
            rw [dropL_succ, take_snocI (stDrop la2) i (by rw [stDrop_len]; exact hlt), HX.out, HZ.out, HM.out, show mx 0 (z_ - m_) = 0 from by unfold mx; split <;> omega, show rd (stDrop la2) (i : Int) = 0 from by rw [stDrop_rd _ _ hlt, HX.out]; unfold mx; split <;> omega]
            exact HS.out
          case measure => simp [intOf]; omega
      · by_cases hx : 0 < x_
        · go_wp2_with (first | ((with_reducible refine gate_dst (N := 57) rfl ?_); refine Sx.appendN HS.out 0 rfl i (dropL_len s la2 i) rfl (.tmp 54) (.tmp 56) rfl rfl (by kernel_rfl) (z_ - m_) rfl rfl (by omega) ?_; intro ESh eSh wv2 n2; have nS : Aside0 (Sx w wv2 [(.row (.slice ESh (i + 1) eSh) ((dropL s la2 i) ++ [z_ - m_])), (.row (.slice B1 i d1) ((stDrop la2).take i)), (.blk gO #[.bool b, .slice (some ⟨gs, 0, none⟩) s.length c1, .slice A2 lb2.length c2] 28), (.row (.slice (some ⟨gs, 0, none⟩) s.length c1) s), (.row (.slice A2 lb2.length c2) lb2), (.blk gR #[.bool false, .slice none 0 0, .slice none 0 0] 28), (.blk gB #[.bool b, .slice Ab1 lb1.length cb1, .slice Ab2 lb2.length cb2] 28), (.blk gK #[.bool a, .slice Aa1 la1.length ca1, .slice (some ad) la2.length ca2] 28)]) := Aside0.mk n2; clear HS n2; have HS := nS; clear nS) | ((with_reducible refine gate_dst (N := 59) rfl ?_); refine ev_load rfl 22 (.tmp 58) rfl ⟨gK, 2, none⟩ rfl (.slice (some ad) la2.length ca2) ((blk_cell (HS.out.blk 7 rfl) 2).trans rfl) (by kernel_rfl) ?_) | ((with_reducible refine gate_dst (N := 62) rfl ?_); refine ev_load rfl 3 (.tmp 61) rfl (ad.add i) rfl (.int .i64 x_) ((C_at (Kd.C_below Ha2.out (show Sx w _ [(.row (.slice ESh (i + 1) eSh) ((dropL s la2 i) ++ [z_ - m_])), (.row (.slice B1 i d1) ((stDrop la2).take i)), (.blk gO #[.bool b, .slice (some ⟨gs, 0, none⟩) s.length c1, .slice A2 lb2.length c2] 28), (.row (.slice (some ⟨gs, 0, none⟩) s.length c1) s), (.row (.slice A2 lb2.length c2) lb2), (.blk gR #[.bool false, .slice none 0 0, .slice none 0 0] 28), (.blk gB #[.bool b, .slice Ab1 lb1.length cb1, .slice Ab2 lb2.length cb2] 28), (.blk gK #[.bool a, .slice Aa1 la1.length ca1, .slice (some ad) la2.length ca2] 28)] from (by repeat (first | (with_reducible exact HS.out) | (with_reducible apply Sx.drew) | (with_reducible apply Sx.drewN) | (with_reducible apply Sx.alloc)))).below) i hlt).trans (by rw [HX.out])) (by kernel_rfl) ?_) | ((with_reducible refine gate_dst (N := 66) rfl ?_); refine ev_load rfl 22 (.tmp 65) rfl ⟨gK, 2, none⟩ rfl (.slice (some ad) la2.length ca2) ((blk_cell (HS.out.blk 7 rfl) 2).trans rfl) (by kernel_rfl) ?_) | ((with_reducible refine gate_dst (N := 69) rfl ?_); refine ev_load rfl 3 (.tmp 68) rfl (ad.add i) rfl (.int .i64 x_) ((C_at (Kd.C_below Ha2.out (show Sx w _ [(.row (.slice ESh (i + 1) eSh) ((dropL s la2 i) ++ [z_ - m_])), (.row (.slice B1 i d1) ((stDrop la2).take i)), (.blk gO #[.bool b, .slice (some ⟨gs, 0, none⟩) s.length c1, .slice A2 lb2.length c2] 28), (.row (.slice (some ⟨gs, 0, none⟩) s.length c1) s), (.row (.slice A2 lb2.length c2) lb2), (.blk gR #[.bool false, .slice none 0 0, .slice none 0 0] 28), (.blk gB #[.bool b, .slice Ab1 lb1.length cb1, .slice Ab2 lb2.length cb2] 28), (.blk gK #[.bool a, .slice Aa1 la1.length ca1, .slice (some ad) la2.length ca2] 28)] from (by repeat (first | (with_reducible exact HS.out) | (with_reducible apply Sx.drew) | (with_reducible apply Sx.drewN) | (with_reducible apply Sx.alloc)))).below) i hlt).trans (by rw [HX.out])) (by kernel_rfl) ?_) | ((with_reducible refine gate_dst (N := 71) rfl ?_); refine Sx.appendN HS.out 1 rfl i (by rw [List.length_take, stDrop_len]; omega) rfl (.tmp 64) (.tmp 70) rfl rfl (by kernel_rfl) (x_) rfl rfl (by omega) ?_; intro ESt eSt wv3 n2; have nS : Aside0 (Sx w wv3 [(.row (.slice ESh (i + 1) eSh) ((dropL s la2 i) ++ [z_ - m_])), (.row (.slice ESt (i + 1) eSt) (((stDrop la2).take i) ++ [x_])), (.blk gO #[.bool b, .slice (some ⟨gs, 0, none⟩) s.length c1, .slice A2 lb2.length c2] 28), (.row (.slice (some ⟨gs, 0, none⟩) s.length c1) s), (.row (.slice A2 lb2.length c2) lb2), (.blk gR #[.bool false, .slice none 0 0, .slice none 0 0] 28), (.blk gB #[.bool b, .slice Ab1 lb1.length cb1, .slice Ab2 lb2.length cb2] 28), (.blk gK #[.bool a, .slice Aa1 la1.length ca1, .slice (some ad) la2.length ca2] 28)]) := Aside0.mk n2; clear HS n2; have HS := nS; clear nS))
          go_roundw
          case rel =>
            refine ⟨i + 1, ESt, eSt, ESh, eSh, rfl, rfl, by push_cast; rfl, ⟨by omega⟩, ⟨?_⟩⟩
            rw [dropL_succ, take_snocI (stDrop la2) i (by rw [stDrop_len]; exact hlt), HX.out, HZ.out, HM.out, show mx 0 (z_ - m_) = z_ - m_ from by unfold mx; split <;> omega, show rd (stDrop la2) (i : Int) = x_ from by rw [stDrop_rd _ _ hlt, HX.out]; unfold mx; split <;> omega]
            exact HS.out
          case measure => simp [intOf]; omega
        · go_wp2_with (first | ((with_reducible refine gate_dst (N := 57) rfl ?_); refine Sx.appendN HS.out 0 rfl i (dropL_len s la2 i) rfl (.tmp 54) (.tmp 56) rfl rfl (by kernel_rfl) (z_ - m_) rfl rfl (by omega) ?_; intro ESh eSh wv2 n2; have nS : Aside0 (Sx w wv2 [(.row (.slice ESh (i + 1) eSh) ((dropL s la2 i) ++ [z_ - m_])), (.row (.slice B1 i d1) ((stDrop la2).take i)), (.blk gO #[.bool b, .slice (some ⟨gs, 0, none⟩) s.length c1, .slice A2 lb2.length c2] 28), (.row (.slice (some ⟨gs, 0, none⟩) s.length c1) s), (.row (.slice A2 lb2.length c2) lb2), (.blk gR #[.bool false, .slice none 0 0, .slice none 0 0] 28), (.blk gB #[.bool b, .slice Ab1 lb1.length cb1, .slice Ab2 lb2.length cb2] 28), (.blk gK #[.bool a, .slice Aa1 la1.length ca1, .slice (some ad) la2.length ca2] 28)]) := Aside0.mk n2; clear HS n2; have HS := nS; clear nS) | ((with_reducible refine gate_dst (N := 59) rfl ?_); refine ev_load rfl 22 (.tmp 58) rfl ⟨gK, 2, none⟩ rfl (.slice (some ad) la2.length ca2) ((blk_cell (HS.out.blk 7 rfl) 2).trans rfl) (by kernel_rfl) ?_) | ((with_reducible refine gate_dst (N := 62) rfl ?_); refine ev_load rfl 3 (.tmp 61) rfl (ad.add i) rfl (.int .i64 x_) ((C_at (Kd.C_below Ha2.out (show Sx w _ [(.row (.slice ESh (i + 1) eSh) ((dropL s la2 i) ++ [z_ - m_])), (.row (.slice B1 i d1) ((stDrop la2).take i)), (.blk gO #[.bool b, .slice (some ⟨gs, 0, none⟩) s.length c1, .slice A2 lb2.length c2] 28), (.row (.slice (some ⟨gs, 0, none⟩) s.length c1) s), (.row (.slice A2 lb2.length c2) lb2), (.blk gR #[.bool false, .slice none 0 0, .slice none 0 0] 28), (.blk gB #[.bool b, .slice Ab1 lb1.length cb1, .slice Ab2 lb2.length cb2] 28), (.blk gK #[.bool a, .slice Aa1 la1.length ca1, .slice (some ad) la2.length ca2] 28)] from (by repeat (first | (with_reducible exact HS.out) | (with_reducible apply Sx.drew) | (with_reducible apply Sx.drewN) | (with_reducible apply Sx.alloc)))).below) i hlt).trans (by rw [HX.out])) (by kernel_rfl) ?_) | ((with_reducible refine gate_dst (N := 74) rfl ?_); refine Sx.appendN HS.out 1 rfl i (by rw [List.length_take, stDrop_len]; omega) rfl (.tmp 72) (.tmp 73) rfl rfl (by kernel_rfl) (0) rfl rfl (by omega) ?_; intro ESt eSt wv3 n2; have nS : Aside0 (Sx w wv3 [(.row (.slice ESh (i + 1) eSh) ((dropL s la2 i) ++ [z_ - m_])), (.row (.slice ESt (i + 1) eSt) (((stDrop la2).take i) ++ [0])), (.blk gO #[.bool b, .slice (some ⟨gs, 0, none⟩) s.length c1, .slice A2 lb2.length c2] 28), (.row (.slice (some ⟨gs, 0, none⟩) s.length c1) s), (.row (.slice A2 lb2.length c2) lb2), (.blk gR #[.bool false, .slice none 0 0, .slice none 0 0] 28), (.blk gB #[.bool b, .slice Ab1 lb1.length cb1, .slice Ab2 lb2.length cb2] 28), (.blk gK #[.bool a, .slice Aa1 la1.length ca1, .slice (some ad) la2.length ca2] 28)]) := Aside0.mk n2; clear HS n2; have HS := nS; clear nS))
          go_roundw
          case rel =>
            refine ⟨i + 1, ESt, eSt, ESh, eSh, rfl, rfl, by push_cast; rfl, ⟨by omega⟩, ⟨?_⟩⟩
            rw [dropL_succ, take_snocI (stDrop la2) i (by rw [stDrop_len]; exact hlt), HX.out, HZ.out, HM.out, show mx 0 (z_ - m_) = z_ - m_ from by unfold mx; split <;> omega, show rd (stDrop la2) (i : Int) = 0 from by rw [stDrop_rd _ _ hlt, HX.out]; unfold mx; split <;> omega]
            exact HS.out
          case measure => simp [intOf]; omega
    · have hie : i = la2.length := by have := hi.out; omega
      subst hie
      rw [List.take_of_length_le (Nat.le_of_eq (stDrop_len la2))] at HS
      obtain ⟨kc, hkc⟩ := (l3Count_ev (dropL s la2 la2.length) (by rw [dropL_len]; have := H5.out; omega)).rounds
      rw [cnt_of HOK.out] at hkc
      have HKC := Aside0.mk hkc
      clear hkc
      go_wp2_with (first | ((with_reducible refine gate_dst (N := 35) rfl ?_); refine ev_load rfl 22 (.tmp 34) rfl ⟨gK, 2, none⟩ rfl (.slice Aa2 la2.length ca2) ((blk_cell (HS.out.blk 7 rfl) 2).trans rfl) (by kernel_rfl) ?_) | ((with_reducible refine gate_dst (N := 75) rfl ?_); refine wpList_load_row rfl 28 (.tmp 6) rfl gO rfl 28 #[.bool b, .slice A1 s.length c1, .slice A2 lb2.length c2] (0, 0) _ (HS.out.blk 2 rfl) Try.underlying28 rfl (by kernel_rfl) ?_) | (go_at_call 97; refine (l5Window_n kc la2.length b A1 c1 s A2 c2 lb2 B1 d1 (stDrop la2) B2 d2 (dropL s la2 la2.length) _ (HS.out.C 3 rfl) (HS.out.cap 3 rfl) (HS.out.C 4 rfl) (HS.out.cap 4 rfl) (HS.out.C 1 rfl) (HS.out.cap 1 rfl) (HS.out.C 0 rfl) (HS.out.cap 0 rfl) HLS.out (stDrop_len la2) (dropL_len s la2 la2.length) H5.out HOK.out HKC.out HRS.out HST.out HPS.out HN2.out).mono ?_; rintro e wz1 ⟨vv, rfl, hrz1, hbz1⟩; obtain ⟨nv, Av, cv, rfl⟩ : ∃ nv Av cv, vv = .slice Av nv cv := (by obtain ⟨A_, c_, h_⟩ := Kd.R_slice hrz1; exact ⟨_, A_, c_, h_⟩); have nS : Aside0 (Sx w wz1 [(.row (.slice Av nv cv) (winL b s lb2 (dropL s la2 la2.length) (stDrop la2) (prod (dropL s la2 la2.length)).toNat)), (.row (.slice B2 la2.length d2) (dropL s la2 la2.length)), (.row (.slice B1 la2.length d1) (stDrop la2)), (.blk gO #[.bool b, .slice A1 s.length c1, .slice A2 lb2.length c2] 28), (.row (.slice A1 s.length c1) s), (.row (.slice A2 lb2.length c2) lb2), (.blk gR #[.bool false, .slice none 0 0, .slice none 0 0] 28), (.blk gB #[.bool b, .slice Ab1 lb1.length cb1, .slice Ab2 lb2.length cb2] 28), (.blk gK #[.bool a, .slice Aa1 la1.length ca1, .slice Aa2 la2.length ca2] 28)]) := Aside0.mk (HS.out.addRow hbz1 hrz1); clear HS; have HS := nS; clear nS hbz1 hrz1) | ((with_reducible refine gate_store rfl ?_); refine store_named rfl 28 (.tmp 4) (.tmp 78) rfl gR #[.bool b, .slice B2 la2.length d2, .slice Av nv cv] rfl rfl 28 #[.bool false, .slice none 0 0, .slice none 0 0] (HS.out.blk 6 rfl) (by kernel_rfl) rfl (by simp [Value.oneCell']) ?_; intro wz2 hxz2 hbz2; have nS : Aside0 (Sx w wz2 [(.row (.slice Av nv cv) (winL b s lb2 (dropL s la2 la2.length) (stDrop la2) (prod (dropL s la2 la2.length)).toNat)), (.row (.slice B2 la2.length d2) (dropL s la2 la2.length)), (.row (.slice B1 la2.length d1) (stDrop la2)), (.blk gO #[.bool b, .slice A1 s.length c1, .slice A2 lb2.length c2] 28), (.row (.slice A1 s.length c1) s), (.row (.slice A2 lb2.length c2) lb2), (.blk gR #[.bool b, .slice B2 la2.length d2, .slice Av nv cv] 28), (.blk gB #[.bool b, .slice Ab1 lb1.length cb1, .slice Ab2 lb2.length cb2] 28), (.blk gK #[.bool a, .slice Aa1 la1.length ca1, .slice Aa2 la2.length ca2] 28)]) := Aside0.mk (HS.out.put 6 rfl hxz2 hbz2); clear HS; have HS := nS; clear nS hxz2 hbz2))
      refine bodyPost_ret (results_ct rfl _ _ gR 28 #[.bool b, .slice B2 la2.length d2, .slice Av nv cv] (0, 0) _ rfl (HS.out.blk 6 rfl) Try.underlying28 rfl (by kernel_rfl)) rfl ?_
      exact ⟨_, _, rfl, (HS.out.two 1 0 (by decide) rfl rfl).1, (HS.out.two 1 0 (by decide) rfl rfl).2, HS.out.below⟩
end Go.Proofs.Ytehfcnndjhjkoaa.PA

namespace Go.Proofs.Ytehfcnndjhjkoaa.PA
open Go.RowKit Go.Proofs.YtehfcnndjhjkoaaW.PrintWords Go.Proofs.YtehfcnndjhjkoaaW.PrintLast Go.Proofs.YtehfcnndjhjkoaaW.PrintMore
set_option linter.unusedVariables false
set_option linter.unusedSimpArgs false
set_option maxHeartbeats 2000000 in
set_option maxRecDepth 100000 in
theorem Drop_no (k0 : Nat) (v : Int) (a : Bool) (Aa1 : Option Addr) (ca1 : Nat) (la1 : List Int) (Aa2 : Option Addr) (ca2 : Nat) (la2 : List Int) (b : Bool) (Ab1 : Option Addr) (cb1 : Nat) (lb1 : List Int) (Ab2 : Option Addr) (cb2 : Nat) (lb2 : List Int) (w : World) (ha1 : Kd.C (Kd.int .i64) w Aa1 la1.length la1) (ka1 : la1.length ≤ ca1) (ha2 : Kd.C (Kd.int .i64) w Aa2 la2.length la2) (ka2 : la2.length ≤ ca2) (hb1 : Kd.C (Kd.int .i64) w Ab1 lb1.length lb1) (kb1 : lb1.length ≤ cb1) (hb2 : Kd.C (Kd.int .i64) w Ab2 lb2.length lb2) (kb2 : lb2.length ≤ cb2) (hv : impl_valid.f k0 [⟨a, la1, la2⟩, ⟨b, lb1, lb2⟩] = some v) (hv0 : v ≠ 0) :
    Calls Try.prog 41 #[.agg #[.bool a, .slice Aa1 la1.length ca1, .slice Aa2 la2.length ca2], .agg #[.bool b, .slice Ab1 lb1.length cb1, .slice Ab2 lb2.length cb2]] w fun e w' => ∃ v1_ v2_ : Value, e = .returned (.tuple #[.agg #[.bool false, v1_, v2_], .int .i64 v]) ∧ Kd.R (Kd.int .i64) 3 w' w.heap.size (fun k_ => some k_ ≠ (v2_ : Value).ownBlock) v1_ [] ∧ Kd.R (Kd.int .i64) 3 w' w.heap.size (fun k_ => some k_ ≠ (v1_ : Value).ownBlock) v2_ [] ∧ Below w.heap.size w w' := by
  have HA1 := Aside0.mk ha1
  have HA2 := Aside0.mk ha2
  have KA1 := Aside0.mk ka1
  have KA2 := Aside0.mk ka2
  have HB1 := Aside0.mk hb1
  have HB2 := Aside0.mk hb2
  have KB1 := Aside0.mk kb1
  have KB2 := Aside0.mk kb2
  have HV := Aside0.mk hv
  have HB := Aside0.mk (Below.refl w.heap.size w)
  clear ha1 ha2 ka1 ka2 hb1 hb2 kb1 kb2 hv
  have c0 : (v == 0) = false := beq_eq_false_iff_ne.mpr hv0
  have c1 : (v != 0) = true := bne_iff_ne.mpr hv0
  clear hv0
  go_enter Try.func41, Try.ntmps41
  go_wp2_with (first | ((with_reducible refine gate_dst (N := 2) rfl ?_); refine box_event ?hg (N := 2) ?hd (cs := #[.bool a, .slice Aa1 la1.length ca1, .slice Aa2 la2.length ca2]) (t := 28) ?hr ?_; (case hd => rfl); (case hg => rfl); (case hr => first | (go_simp; done) | (go_simp; rfl)); intro g1 hg1 w1 hb1 hB1; have GEHB_g1 := Aside0.mk (show w.heap.size ≤ g1 from hg1 ▸ HB.out.size); have BK1 := Aside0.mk hb1; clear hg1 hb1; have nHB := Aside0.mk (below_step HB.out hB1); clear HB; have HB := nHB; clear nHB; clear hB1) | ((with_reducible refine gate_dst (N := 3) rfl ?_); refine box_event ?hg (N := 3) ?hd (cs := #[.bool b, .slice Ab1 lb1.length cb1, .slice Ab2 lb2.length cb2]) (t := 28) ?hr ?_; (case hd => rfl); (case hg => rfl); (case hr => first | (go_simp; done) | (go_simp; rfl)); intro g2 hg2 w2 hb2 hB2; have GEHB_g2 := Aside0.mk (show w.heap.size ≤ g2 from hg2 ▸ HB.out.size); have NEg1_g2 := Aside0.mk (show g1 ≠ g2 from Nat.ne_of_lt (hg2 ▸ blk_lt BK1.out)); have BK2 := Aside0.mk hb2; clear hg2 hb2; have nBK1 := Aside0.mk (blk_below (g := g1) (o := .cells #[.bool a, .slice Aa1 la1.length ca1, .slice Aa2 la2.length ca2] 28 (0, 0)) BK1.out hB2); have nHB := Aside0.mk (below_step HB.out hB2); clear BK1 HB; have BK1 := nBK1; have HB := nHB; clear nBK1 nHB; clear hB2) | ((with_reducible refine gate_dst (N := 4) rfl ?_); refine box_event ?hg (N := 4) ?hd (cs := #[.bool false, .slice none 0 0, .slice none 0 0]) (t := 28) ?hr ?_; (case hd => rfl); (case hg => rfl); (case hr => first | (go_simp; done) | (go_simp; rfl)); intro g3 hg3 w3 hb3 hB3; have GEHB_g3 := Aside0.mk (show w.heap.size ≤ g3 from hg3 ▸ HB.out.size); have NEg1_g3 := Aside0.mk (show g1 ≠ g3 from Nat.ne_of_lt (hg3 ▸ blk_lt BK1.out)); have NEg2_g3 := Aside0.mk (show g2 ≠ g3 from Nat.ne_of_lt (hg3 ▸ blk_lt BK2.out)); have BK3 := Aside0.mk hb3; clear hg3 hb3; have nBK1 := Aside0.mk (blk_below (g := g1) (o := .cells #[.bool a, .slice Aa1 la1.length ca1, .slice Aa2 la2.length ca2] 28 (0, 0)) BK1.out hB3); have nBK2 := Aside0.mk (blk_below (g := g2) (o := .cells #[.bool b, .slice Ab1 lb1.length cb1, .slice Ab2 lb2.length cb2] 28 (0, 0)) BK2.out hB3); have nHB := Aside0.mk (below_step HB.out hB3); clear BK1 BK2 HB; have BK1 := nBK1; have BK2 := nBK2; have HB := nHB; clear nBK1 nBK2 nHB; clear hB3) | ((with_reducible refine gate_dst (N := 9) rfl ?_); refine wpList_load_row rfl 28 (.tmp 2) rfl g1 rfl 28 #[.bool a, .slice Aa1 la1.length ca1, .slice Aa2 la2.length ca2] (0, 0) _ BK1.out Try.underlying28 rfl (by kernel_rfl) ?_) | ((with_reducible refine gate_dst (N := 10) rfl ?_); refine wpList_load_row rfl 28 (.tmp 3) rfl g2 rfl 28 #[.bool b, .slice Ab1 lb1.length cb1, .slice Ab2 lb2.length cb2] (0, 0) _ BK2.out Try.underlying28 rfl (by kernel_rfl) ?_) | ((with_reducible refine gate_dst (N := 11) rfl ?_); refine lit_event ?hg (N := 11) ?hd (cs := #[.bool a, .slice Aa1 la1.length ca1, .slice Aa2 la2.length ca2, .bool b, .slice Ab1 lb1.length cb1, .slice Ab2 lb2.length cb2]) (t := 28) (n := 2) ?hr ?_; (case hd => rfl); (case hg => rfl); (case hr => first | (go_simp; done) | (go_simp; rfl)); intro g4 hg4 w4 hb4 hB4; have GEHB_g4 := Aside0.mk (show w.heap.size ≤ g4 from hg4 ▸ HB.out.size); have NEg1_g4 := Aside0.mk (show g1 ≠ g4 from Nat.ne_of_lt (hg4 ▸ blk_lt BK1.out)); have NEg2_g4 := Aside0.mk (show g2 ≠ g4 from Nat.ne_of_lt (hg4 ▸ blk_lt BK2.out)); have NEg3_g4 := Aside0.mk (show g3 ≠ g4 from Nat.ne_of_lt (hg4 ▸ blk_lt BK3.out)); have BK4 := Aside0.mk hb4; clear hg4 hb4; have nBK1 := Aside0.mk (blk_below (g := g1) (o := .cells #[.bool a, .slice Aa1 la1.length ca1, .slice Aa2 la2.length ca2] 28 (0, 0)) BK1.out hB4); have nBK2 := Aside0.mk (blk_below (g := g2) (o := .cells #[.bool b, .slice Ab1 lb1.length cb1, .slice Ab2 lb2.length cb2] 28 (0, 0)) BK2.out hB4); have nBK3 := Aside0.mk (blk_below (g := g3) (o := .cells #[.bool false, .slice none 0 0, .slice none 0 0] 28 (0, 0)) BK3.out hB4); have nHB := Aside0.mk (below_step HB.out hB4); clear BK1 BK2 BK3 HB; have BK1 := nBK1; have BK2 := nBK2; have BK3 := nBK3; have HB := nHB; clear nBK1 nBK2 nBK3 nHB; clear hB4) | (go_at_call 58; refine (impl_valid.calls k0 _ 2 [⟨a, la1, la2⟩, ⟨b, lb1, lb2⟩] v _ (pair_C BK4.out (Kd.C_below HA1.out HB.out) KA1.out (Kd.C_below HA2.out HB.out) KA2.out (Kd.C_below HB1.out HB.out) KB1.out (Kd.C_below HB2.out HB.out) KB2.out) (Nat.le_refl _) HV.out).mono ?_; rintro e w5 ⟨rfl, hB5⟩; have nBK1 := Aside0.mk (blk_below (g := g1) (o := .cells #[.bool a, .slice Aa1 la1.length ca1, .slice Aa2 la2.length ca2] 28 (0, 0)) BK1.out hB5); have nBK2 := Aside0.mk (blk_below (g := g2) (o := .cells #[.bool b, .slice Ab1 lb1.length cb1, .slice Ab2 lb2.length cb2] 28 (0, 0)) BK2.out hB5); have nBK3 := Aside0.mk (blk_below (g := g3) (o := .cells #[.bool false, .slice none 0 0, .slice none 0 0] 28 (0, 0)) BK3.out hB5); have nBK4 := Aside0.mk (blk_below (g := g4) (o := .cells #[.bool a, .slice Aa1 la1.length ca1, .slice Aa2 la2.length ca2, .bool b, .slice Ab1 lb1.length cb1, .slice Ab2 lb2.length cb2] 28 (0, 0)) BK4.out hB5); have nHB := Aside0.mk (below_step HB.out hB5); clear BK1 BK2 BK3 BK4 HB; have BK1 := nBK1; have BK2 := nBK2; have BK3 := nBK3; have BK4 := nBK4; have HB := nHB; clear nBK1 nBK2 nBK3 nBK4 nHB; clear hB5) | ((with_reducible refine gate_store rfl ?_); refine store_named rfl 28 (.tmp 4) (.tmp 15) rfl g3 #[.bool false, .slice none 0 0, .slice none 0 0] rfl rfl 28 #[.bool false, .slice none 0 0, .slice none 0 0] BK3.out (by kernel_rfl) rfl (by simp [Value.oneCell']) ?_; intro w6 hs6 hb6; have nBK1 := Aside0.mk (hb6.blk BK1.out NEg1_g3.out); have nBK2 := Aside0.mk (hb6.blk BK2.out NEg2_g3.out); have nBK4 := Aside0.mk (hb6.blk BK4.out (fun e => NEg3_g4.out e.symm)); have nHB := Aside0.mk (HB.out.trans (hb6.below _ GEHB_g3.out)); clear BK1 BK2 BK4 HB; clear BK3 hb6; have BK3 := Aside0.mk hs6; clear hs6; have BK1 := nBK1; have BK2 := nBK2; have BK4 := nBK4; have HB := nHB; clear nBK1 nBK2 nBK4 nHB))
  refine bodyPost_ret (results_ct rfl _ _ g3 28 #[.bool false, .slice none 0 0, .slice none 0 0] (0, 0) _ rfl BK3.out Try.underlying28 rfl (by kernel_rfl)) rfl ?_
  exact ⟨_, _, rfl, Kd.R_nil _ _ _ _ _, Kd.R_nil _ _ _ _ _, HB.out⟩
set_option maxHeartbeats 2000000 in
set_option maxRecDepth 100000 in
theorem Drop_yes (k0 k1 : Nat) (a : Bool) (Aa1 : Option Addr) (ca1 : Nat) (la1 : List Int) (Aa2 : Option Addr) (ca2 : Nat) (la2 : List Int) (b : Bool) (Ab1 : Option Addr) (cb1 : Nat) (lb1 : List Int) (Ab2 : Option Addr) (cb2 : Nat) (lb2 : List Int) (w : World) (ha1 : Kd.C (Kd.int .i64) w Aa1 la1.length la1) (ka1 : la1.length ≤ ca1) (ha2 : Kd.C (Kd.int .i64) w Aa2 la2.length la2) (ka2 : la2.length ≤ ca2) (hb1 : Kd.C (Kd.int .i64) w Ab1 lb1.length lb1) (kb1 : lb1.length ≤ cb1) (hb2 : Kd.C (Kd.int .i64) w Ab2 lb2.length lb2) (kb2 : lb2.length ≤ cb2) (hv : impl_valid.f k0 [⟨a, la1, la2⟩, ⟨b, lb1, lb2⟩] = some 0) (sh fr : List Int) (cd : Int) (r1 : Bool) (r2 r3 : List Int) (r4 : Int)
    (hm : ∀ W, Below w.heap.size w W → Calls Try.prog 98 #[.agg #[.bool a, .slice Aa1 la1.length ca1, .slice Aa2 la2.length ca2], .agg #[.bool b, .slice Ab1 lb1.length cb1, .slice Ab2 lb2.length cb2]] W fun e w' => ∃ A1 c1 A2 c2, e = .returned (.tuple #[.agg #[.slice A1 sh.length c1, .slice A2 fr.length c2], .int .i64 cd]) ∧ Kd.C (Kd.int .i64) w' A1 sh.length sh ∧ sh.length ≤ c1 ∧ Kd.C (Kd.int .i64) w' A2 fr.length fr ∧ fr.length ≤ c2 ∧ Below W.heap.size W w')
    (hk : impl_made.f k1 b lb1 lb2 sh fr cd = some (r1, r2, r3, r4)) :
    Calls Try.prog 41 #[.agg #[.bool a, .slice Aa1 la1.length ca1, .slice Aa2 la2.length ca2], .agg #[.bool b, .slice Ab1 lb1.length cb1, .slice Ab2 lb2.length cb2]] w fun e w' => ∃ v1_ v2_ : Value, e = .returned (.tuple #[.agg #[.bool r1, v1_, v2_], .int .i64 r4]) ∧ Kd.R (Kd.int .i64) 3 w' w.heap.size (fun k_ => some k_ ≠ (v2_ : Value).ownBlock) v1_ r2 ∧ Kd.R (Kd.int .i64) 3 w' w.heap.size (fun k_ => some k_ ≠ (v1_ : Value).ownBlock) v2_ r3 ∧ Below w.heap.size w w' := by
  have HA1 := Aside0.mk ha1
  have HA2 := Aside0.mk ha2
  have KA1 := Aside0.mk ka1
  have KA2 := Aside0.mk ka2
  have HB1 := Aside0.mk hb1
  have HB2 := Aside0.mk hb2
  have KB1 := Aside0.mk kb1
  have KB2 := Aside0.mk kb2
  have HV := Aside0.mk hv
  have HB := Aside0.mk (Below.refl w.heap.size w)
  clear ha1 ha2 ka1 ka2 hb1 hb2 kb1 kb2 hv
  have HM := Aside0.mk hm
  have HK := Aside0.mk hk
  clear hm hk
  go_enter Try.func41, Try.ntmps41
  go_wp2_with (first | ((with_reducible refine gate_dst (N := 2) rfl ?_); refine box_event ?hg (N := 2) ?hd (cs := #[.bool a, .slice Aa1 la1.length ca1, .slice Aa2 la2.length ca2]) (t := 28) ?hr ?_; (case hd => rfl); (case hg => rfl); (case hr => first | (go_simp; done) | (go_simp; rfl)); intro g1 hg1 w1 hb1 hB1; have GEHB_g1 := Aside0.mk (show w.heap.size ≤ g1 from hg1 ▸ HB.out.size); have BK1 := Aside0.mk hb1; clear hg1 hb1; have nHB := Aside0.mk (below_step HB.out hB1); clear HB; have HB := nHB; clear nHB; clear hB1) | ((with_reducible refine gate_dst (N := 3) rfl ?_); refine box_event ?hg (N := 3) ?hd (cs := #[.bool b, .slice Ab1 lb1.length cb1, .slice Ab2 lb2.length cb2]) (t := 28) ?hr ?_; (case hd => rfl); (case hg => rfl); (case hr => first | (go_simp; done) | (go_simp; rfl)); intro g2 hg2 w2 hb2 hB2; have GEHB_g2 := Aside0.mk (show w.heap.size ≤ g2 from hg2 ▸ HB.out.size); have NEg1_g2 := Aside0.mk (show g1 ≠ g2 from Nat.ne_of_lt (hg2 ▸ blk_lt BK1.out)); have BK2 := Aside0.mk hb2; clear hg2 hb2; have nBK1 := Aside0.mk (blk_below (g := g1) (o := .cells #[.bool a, .slice Aa1 la1.length ca1, .slice Aa2 la2.length ca2] 28 (0, 0)) BK1.out hB2); have nHB := Aside0.mk (below_step HB.out hB2); clear BK1 HB; have BK1 := nBK1; have HB := nHB; clear nBK1 nHB; clear hB2) | ((with_reducible refine gate_dst (N := 4) rfl ?_); refine box_event ?hg (N := 4) ?hd (cs := #[.bool false, .slice none 0 0, .slice none 0 0]) (t := 28) ?hr ?_; (case hd => rfl); (case hg => rfl); (case hr => first | (go_simp; done) | (go_simp; rfl)); intro g3 hg3 w3 hb3 hB3; have GEHB_g3 := Aside0.mk (show w.heap.size ≤ g3 from hg3 ▸ HB.out.size); have NEg1_g3 := Aside0.mk (show g1 ≠ g3 from Nat.ne_of_lt (hg3 ▸ blk_lt BK1.out)); have NEg2_g3 := Aside0.mk (show g2 ≠ g3 from Nat.ne_of_lt (hg3 ▸ blk_lt BK2.out)); have BK3 := Aside0.mk hb3; clear hg3 hb3; have nBK1 := Aside0.mk (blk_below (g := g1) (o := .cells #[.bool a, .slice Aa1 la1.length ca1, .slice Aa2 la2.length ca2] 28 (0, 0)) BK1.out hB3); have nBK2 := Aside0.mk (blk_below (g := g2) (o := .cells #[.bool b, .slice Ab1 lb1.length cb1, .slice Ab2 lb2.length cb2] 28 (0, 0)) BK2.out hB3); have nHB := Aside0.mk (below_step HB.out hB3); clear BK1 BK2 HB; have BK1 := nBK1; have BK2 := nBK2; have HB := nHB; clear nBK1 nBK2 nHB; clear hB3) | ((with_reducible refine gate_dst (N := 9) rfl ?_); refine wpList_load_row rfl 28 (.tmp 2) rfl g1 rfl 28 #[.bool a, .slice Aa1 la1.length ca1, .slice Aa2 la2.length ca2] (0, 0) _ BK1.out Try.underlying28 rfl (by kernel_rfl) ?_) | ((with_reducible refine gate_dst (N := 10) rfl ?_); refine wpList_load_row rfl 28 (.tmp 3) rfl g2 rfl 28 #[.bool b, .slice Ab1 lb1.length cb1, .slice Ab2 lb2.length cb2] (0, 0) _ BK2.out Try.underlying28 rfl (by kernel_rfl) ?_) | ((with_reducible refine gate_dst (N := 11) rfl ?_); refine lit_event ?hg (N := 11) ?hd (cs := #[.bool a, .slice Aa1 la1.length ca1, .slice Aa2 la2.length ca2, .bool b, .slice Ab1 lb1.length cb1, .slice Ab2 lb2.length cb2]) (t := 28) (n := 2) ?hr ?_; (case hd => rfl); (case hg => rfl); (case hr => first | (go_simp; done) | (go_simp; rfl)); intro g4 hg4 w4 hb4 hB4; have GEHB_g4 := Aside0.mk (show w.heap.size ≤ g4 from hg4 ▸ HB.out.size); have NEg1_g4 := Aside0.mk (show g1 ≠ g4 from Nat.ne_of_lt (hg4 ▸ blk_lt BK1.out)); have NEg2_g4 := Aside0.mk (show g2 ≠ g4 from Nat.ne_of_lt (hg4 ▸ blk_lt BK2.out)); have NEg3_g4 := Aside0.mk (show g3 ≠ g4 from Nat.ne_of_lt (hg4 ▸ blk_lt BK3.out)); have BK4 := Aside0.mk hb4; clear hg4 hb4; have nBK1 := Aside0.mk (blk_below (g := g1) (o := .cells #[.bool a, .slice Aa1 la1.length ca1, .slice Aa2 la2.length ca2] 28 (0, 0)) BK1.out hB4); have nBK2 := Aside0.mk (blk_below (g := g2) (o := .cells #[.bool b, .slice Ab1 lb1.length cb1, .slice Ab2 lb2.length cb2] 28 (0, 0)) BK2.out hB4); have nBK3 := Aside0.mk (blk_below (g := g3) (o := .cells #[.bool false, .slice none 0 0, .slice none 0 0] 28 (0, 0)) BK3.out hB4); have nHB := Aside0.mk (below_step HB.out hB4); clear BK1 BK2 BK3 HB; have BK1 := nBK1; have BK2 := nBK2; have BK3 := nBK3; have HB := nHB; clear nBK1 nBK2 nBK3 nHB; clear hB4) | (go_at_call 58; refine (impl_valid.calls k0 _ 2 [⟨a, la1, la2⟩, ⟨b, lb1, lb2⟩] 0 _ (pair_C BK4.out (Kd.C_below HA1.out HB.out) KA1.out (Kd.C_below HA2.out HB.out) KA2.out (Kd.C_below HB1.out HB.out) KB1.out (Kd.C_below HB2.out HB.out) KB2.out) (Nat.le_refl _) HV.out).mono ?_; rintro e w5 ⟨rfl, hB5⟩; have nBK1 := Aside0.mk (blk_below (g := g1) (o := .cells #[.bool a, .slice Aa1 la1.length ca1, .slice Aa2 la2.length ca2] 28 (0, 0)) BK1.out hB5); have nBK2 := Aside0.mk (blk_below (g := g2) (o := .cells #[.bool b, .slice Ab1 lb1.length cb1, .slice Ab2 lb2.length cb2] 28 (0, 0)) BK2.out hB5); have nBK3 := Aside0.mk (blk_below (g := g3) (o := .cells #[.bool false, .slice none 0 0, .slice none 0 0] 28 (0, 0)) BK3.out hB5); have nBK4 := Aside0.mk (blk_below (g := g4) (o := .cells #[.bool a, .slice Aa1 la1.length ca1, .slice Aa2 la2.length ca2, .bool b, .slice Ab1 lb1.length cb1, .slice Ab2 lb2.length cb2] 28 (0, 0)) BK4.out hB5); have nHB := Aside0.mk (below_step HB.out hB5); clear BK1 BK2 BK3 BK4 HB; have BK1 := nBK1; have BK2 := nBK2; have BK3 := nBK3; have BK4 := nBK4; have HB := nHB; clear nBK1 nBK2 nBK3 nBK4 nHB; clear hB5) | ((with_reducible refine gate_dst (N := 18) rfl ?_); refine wpList_load_row rfl 28 (.tmp 2) rfl g1 rfl 28 #[.bool a, .slice Aa1 la1.length ca1, .slice Aa2 la2.length ca2] (0, 0) _ BK1.out Try.underlying28 rfl (by kernel_rfl) ?_) | ((with_reducible refine gate_dst (N := 19) rfl ?_); refine wpList_load_row rfl 28 (.tmp 3) rfl g2 rfl 28 #[.bool b, .slice Ab1 lb1.length cb1, .slice Ab2 lb2.length cb2] (0, 0) _ BK2.out Try.underlying28 rfl (by kernel_rfl) ?_) | (go_at_call 98; refine (HM.out _ HB.out).mono ?_; rintro e w6 ⟨Am1, cm1, Am2, cm2, rfl, hm1, km1, hm2, km2, hB6⟩; have HM1 := Aside0.mk hm1; have KM1 := Aside0.mk km1; have HM2 := Aside0.mk hm2; have KM2 := Aside0.mk km2; clear hm1 km1 hm2 km2; have nBK1 := Aside0.mk (blk_below (g := g1) (o := .cells #[.bool a, .slice Aa1 la1.length ca1, .slice Aa2 la2.length ca2] 28 (0, 0)) BK1.out hB6); have nBK2 := Aside0.mk (blk_below (g := g2) (o := .cells #[.bool b, .slice Ab1 lb1.length cb1, .slice Ab2 lb2.length cb2] 28 (0, 0)) BK2.out hB6); have nBK3 := Aside0.mk (blk_below (g := g3) (o := .cells #[.bool false, .slice none 0 0, .slice none 0 0] 28 (0, 0)) BK3.out hB6); have nBK4 := Aside0.mk (blk_below (g := g4) (o := .cells #[.bool a, .slice Aa1 la1.length ca1, .slice Aa2 la2.length ca2, .bool b, .slice Ab1 lb1.length cb1, .slice Ab2 lb2.length cb2] 28 (0, 0)) BK4.out hB6); have nHB := Aside0.mk (below_step HB.out hB6); clear BK1 BK2 BK3 BK4 HB; have BK1 := nBK1; have BK2 := nBK2; have BK3 := nBK3; have BK4 := nBK4; have HB := nHB; clear nBK1 nBK2 nBK3 nBK4 nHB; clear hB6; have HBm := Aside0.mk (Below.refl w6.heap.size w6)) | ((with_reducible refine gate_dst (N := 7) rfl ?_); refine box_event ?hg (N := 7) ?hd (cs := #[.slice none 0 0, .slice none 0 0]) (t := 70) ?hr ?_; (case hd => rfl); (case hg => rfl); (case hr => first | (go_simp; done) | (go_simp; rfl)); intro g7 hg7 w7 hb7 hB7; have GEHB_g7 := Aside0.mk (show w.heap.size ≤ g7 from hg7 ▸ HB.out.size); have GEHBm_g7 := Aside0.mk (show w6.heap.size ≤ g7 from hg7 ▸ HBm.out.size); have NEg1_g7 := Aside0.mk (show g1 ≠ g7 from Nat.ne_of_lt (hg7 ▸ blk_lt BK1.out)); have NEg2_g7 := Aside0.mk (show g2 ≠ g7 from Nat.ne_of_lt (hg7 ▸ blk_lt BK2.out)); have NEg3_g7 := Aside0.mk (show g3 ≠ g7 from Nat.ne_of_lt (hg7 ▸ blk_lt BK3.out)); have NEg4_g7 := Aside0.mk (show g4 ≠ g7 from Nat.ne_of_lt (hg7 ▸ blk_lt BK4.out)); have BK7 := Aside0.mk hb7; clear hg7 hb7; have nBK1 := Aside0.mk (blk_below (g := g1) (o := .cells #[.bool a, .slice Aa1 la1.length ca1, .slice Aa2 la2.length ca2] 28 (0, 0)) BK1.out hB7); have nBK2 := Aside0.mk (blk_below (g := g2) (o := .cells #[.bool b, .slice Ab1 lb1.length cb1, .slice Ab2 lb2.length cb2] 28 (0, 0)) BK2.out hB7); have nBK3 := Aside0.mk (blk_below (g := g3) (o := .cells #[.bool false, .slice none 0 0, .slice none 0 0] 28 (0, 0)) BK3.out hB7); have nBK4 := Aside0.mk (blk_below (g := g4) (o := .cells #[.bool a, .slice Aa1 la1.length ca1, .slice Aa2 la2.length ca2, .bool b, .slice Ab1 lb1.length cb1, .slice Ab2 lb2.length cb2] 28 (0, 0)) BK4.out hB7); have nHB := Aside0.mk (below_step HB.out hB7); have nHBm := Aside0.mk (below_step HBm.out hB7); clear BK1 BK2 BK3 BK4 HB HBm; have BK1 := nBK1; have BK2 := nBK2; have BK3 := nBK3; have BK4 := nBK4; have HB := nHB; have HBm := nHBm; clear nBK1 nBK2 nBK3 nBK4 nHB nHBm; clear hB7) | ((with_reducible refine gate_store rfl ?_); refine store_named rfl 70 (.tmp 7) (.tmp 21) rfl g7 #[.slice Am1 sh.length cm1, .slice Am2 fr.length cm2] rfl rfl 70 #[.slice none 0 0, .slice none 0 0] BK7.out (by kernel_rfl) rfl (by simp [Value.oneCell']) ?_; intro w8 hs8 hb8; have nBK1 := Aside0.mk (hb8.blk BK1.out NEg1_g7.out); have nBK2 := Aside0.mk (hb8.blk BK2.out NEg2_g7.out); have nBK3 := Aside0.mk (hb8.blk BK3.out NEg3_g7.out); have nBK4 := Aside0.mk (hb8.blk BK4.out NEg4_g7.out); have nHB := Aside0.mk (HB.out.trans (hb8.below _ GEHB_g7.out)); have nHBm := Aside0.mk (HBm.out.trans (hb8.below _ GEHBm_g7.out)); clear BK1 BK2 BK3 BK4 HB HBm; clear BK7 hb8; have BK7 := Aside0.mk hs8; clear hs8; have BK1 := nBK1; have BK2 := nBK2; have BK3 := nBK3; have BK4 := nBK4; have HB := nHB; have HBm := nHBm; clear nBK1 nBK2 nBK3 nBK4 nHB nHBm) | ((with_reducible refine gate_dst (N := 23) rfl ?_); refine wpList_load_row rfl 28 (.tmp 3) rfl g2 rfl 28 #[.bool b, .slice Ab1 lb1.length cb1, .slice Ab2 lb2.length cb2] (0, 0) _ BK2.out Try.underlying28 rfl (by kernel_rfl) ?_) | ((with_reducible refine gate_dst (N := 24) rfl ?_); refine wpList_load_row rfl 70 (.tmp 7) rfl g7 rfl 70 #[.slice Am1 sh.length cm1, .slice Am2 fr.length cm2] (0, 0) _ BK7.out Try.underlying70 rfl (by kernel_rfl) ?_) | (go_at_call 70; refine (impl_made.calls k1 b Ab1 cb1 lb1 Ab2 cb2 lb2 Am1 cm1 sh Am2 cm2 fr cd r1 r2 r3 r4 _ (Kd.C_below HB1.out HB.out) KB1.out (Kd.C_below HB2.out HB.out) KB2.out (Kd.C_below HM1.out HBm.out) KM1.out (Kd.C_below HM2.out HBm.out) KM2.out HK.out).mono ?_; rintro e w9 ⟨v1, v2, rfl, ho1, ho2, hB9⟩; obtain ⟨Ax, cx, rfl⟩ := Kd.R_slice ho1; obtain ⟨Ay, cy, rfl⟩ := Kd.R_slice ho2; have HO1 := Aside0.mk (Kd.R_lower ho1 (below_size HB.out)); have HO2 := Aside0.mk (Kd.R_lower ho2 (below_size HB.out)); clear ho1 ho2; have nBK1 := Aside0.mk (blk_below (g := g1) (o := .cells #[.bool a, .slice Aa1 la1.length ca1, .slice Aa2 la2.length ca2] 28 (0, 0)) BK1.out hB9); have nBK2 := Aside0.mk (blk_below (g := g2) (o := .cells #[.bool b, .slice Ab1 lb1.length cb1, .slice Ab2 lb2.length cb2] 28 (0, 0)) BK2.out hB9); have nBK3 := Aside0.mk (blk_below (g := g3) (o := .cells #[.bool false, .slice none 0 0, .slice none 0 0] 28 (0, 0)) BK3.out hB9); have nBK4 := Aside0.mk (blk_below (g := g4) (o := .cells #[.bool a, .slice Aa1 la1.length ca1, .slice Aa2 la2.length ca2, .bool b, .slice Ab1 lb1.length cb1, .slice Ab2 lb2.length cb2] 28 (0, 0)) BK4.out hB9); have nBK7 := Aside0.mk (blk_below (g := g7) (o := .cells #[.slice Am1 sh.length cm1, .slice Am2 fr.length cm2] 70 (0, 0)) BK7.out hB9); have nHB := Aside0.mk (below_step HB.out hB9); have nHBm := Aside0.mk (below_step HBm.out hB9); clear BK1 BK2 BK3 BK4 BK7 HB HBm; have BK1 := nBK1; have BK2 := nBK2; have BK3 := nBK3; have BK4 := nBK4; have BK7 := nBK7; have HB := nHB; have HBm := nHBm; clear nBK1 nBK2 nBK3 nBK4 nBK7 nHB nHBm; clear hB9) | ((with_reducible refine gate_store rfl ?_); refine store_named rfl 28 (.tmp 4) (.tmp 27) rfl g3 #[.bool r1, .slice Ax r2.length cx, .slice Ay r3.length cy] rfl rfl 28 #[.bool false, .slice none 0 0, .slice none 0 0] BK3.out (by kernel_rfl) rfl (by simp [Value.oneCell']) ?_; intro w10 hs10 hb10; have nBK1 := Aside0.mk (hb10.blk BK1.out NEg1_g3.out); have nBK2 := Aside0.mk (hb10.blk BK2.out NEg2_g3.out); have nBK4 := Aside0.mk (hb10.blk BK4.out (fun e => NEg3_g4.out e.symm)); have nBK7 := Aside0.mk (hb10.blk BK7.out (fun e => NEg3_g7.out e.symm)); have nHB := Aside0.mk (HB.out.trans (hb10.below _ GEHB_g3.out)); have nHO1 := Aside0.mk (hb10.row HO1.out BK3.out (by decide)); have nHO2 := Aside0.mk (hb10.row HO2.out BK3.out (by decide)); clear BK1 BK2 BK4 BK7 HB HO1 HO2; clear BK3 hb10; have BK3 := Aside0.mk hs10; clear hs10; have BK1 := nBK1; have BK2 := nBK2; have BK4 := nBK4; have BK7 := nBK7; have HB := nHB; have HO1 := nHO1; have HO2 := nHO2; clear nBK1 nBK2 nBK4 nBK7 nHB nHO1 nHO2))
  refine bodyPost_ret (results_ct rfl _ _ g3 28 #[.bool r1, .slice Ax r2.length cx, .slice Ay r3.length cy] (0, 0) _ rfl BK3.out Try.underlying28 rfl (by kernel_rfl)) rfl ?_
  exact ⟨_, _, rfl, HO1.out, HO2.out, HB.out⟩
end Go.Proofs.Ytehfcnndjhjkoaa.PA

-- By a program (prt.py, over the print of the kit), for this claim. Not trusted: Lean checks it.
namespace Go.Proofs.Ytehfcnndjhjkoaa.PA
open Go.RowKit Go.Proofs.YtehfcnndjhjkoaaW.PrintWords Go.Proofs.YtehfcnndjhjkoaaW.PrintLast Go.Proofs.YtehfcnndjhjkoaaW.PrintMore
attribute [local go_sem] max2_int min2_int max_two min_two max_three min_three max_four min_four   -- for this text's walks alone
set_option linter.unusedVariables false
set_option linter.unusedSimpArgs false

/-! ### impl_permutation: function 124 -/
def impl_permutation.l0 : Nat → List Int → List Bool → List Int → Int → Int → Option (Bool)
  | 0, _, _, _, _, _ => none
  | k + 1, x0, x3, x9, x10, x11 => if x11 < x10 then (if 0 ≤ x11 then (if x11 < (x9.length : Int) then ((impl_within.f (rd x9 x11) 1 (x0.length : Int)).bind fun t105 => (if t105 = true then (if 0 ≤ (wrap64 ((rd x9 x11) - 1)) then (if (wrap64 ((rd x9 x11) - 1)) < (x3.length : Int) then (if rdOf false x3 (wrap64 ((rd x9 x11) - 1)) = true then (some false) else (impl_permutation.l0 k x0 (x3.set ((wrap64 ((rd x9 x11) - 1)) : Int).toNat true) x9 x10 (wrap64 (x11 + 1)))) else (none)) else (none)) else (some false))) else (none)) else (none)) else (some true)
def impl_permutation.f (k : Nat) (l0 : List Int) : Option (Bool) := if 0 ≤ (l0.length : Int) then (if ((l0.length : Int) : Int).toNat ≤ 281474976710656 then (impl_permutation.l0 k l0 (List.replicate ((l0.length : Int) : Int).toNat false) l0 (l0.length : Int) 0) else (none)) else (none)
theorem impl_permutation.mono_l : ∀ k, (∀ y0 y1 y2 y3 y4, LeO (impl_permutation.l0 k y0 y1 y2 y3 y4) (impl_permutation.l0 (k + 1) y0 y1 y2 y3 y4))
  | 0 => fun _ _ _ _ _ r h => by simp [impl_permutation.l0] at h
  | k + 1 => by
    have ih0 := impl_permutation.mono_l k
    · intro y0 y1 y2 y3 y4
      unfold impl_permutation.l0
      repeat' first
      | (with_reducible exact ih0 _ _ _ _ _)
      | (with_reducible exact LeO.refl _)
      | (with_reducible exact LeO.none _)
      | (with_reducible refine LeO.ite ?_ ?_)
      | (with_reducible refine LeO.bind ?_ (fun _ => ?_))
      | exact ih0 _ _ _ _ _
      | exact LeO.none _
      | refine LeO.ite ?_ ?_
      | refine LeO.bind ?_ (fun _ => ?_)
theorem impl_permutation.mono : ∀ a0 k, LeO (impl_permutation.f k a0) (impl_permutation.f (k + 1) a0) := by
  intro a0 k
  have ih0 := impl_permutation.mono_l k
  unfold impl_permutation.f
  repeat' first
      | (with_reducible exact ih0 _ _ _ _ _)
      | (with_reducible exact LeO.refl _)
      | (with_reducible exact LeO.none _)
      | (with_reducible refine LeO.ite ?_ ?_)
      | (with_reducible refine LeO.bind ?_ (fun _ => ?_))
      | exact ih0 _ _ _ _ _
      | exact LeO.none _
      | refine LeO.ite ?_ ?_
      | refine LeO.bind ?_ (fun _ => ?_)

end Go.Proofs.Ytehfcnndjhjkoaa.PA

namespace Go.Proofs.Ytehfcnndjhjkoaa.PA
open Go.RowKit Go.Proofs.YtehfcnndjhjkoaaW.PrintWords Go.Proofs.YtehfcnndjhjkoaaW.PrintLast Go.Proofs.YtehfcnndjhjkoaaW.PrintMore
set_option linter.unusedVariables false
set_option linter.unusedSimpArgs false
def permGo (n : Nat) : List Bool → List Int → Bool
  | _, [] => true
  | seen, a :: t => if 1 ≤ a ∧ a ≤ (n : Int) then (if rdOf false seen (a - 1) = true then false else permGo n (seen.set (a - 1).toNat true) t) else false
def permB (p : List Int) : Bool := permGo p.length (List.replicate p.length false) p
/-- The list l put at the places that p names. -/
def turnS (l : List Int) : List Int → Nat → List Int → List Int
  | S, _, [] => S
  | S, i, n :: t => turnS l (S.set (n - 1).toNat (rd l (i : Int))) (i + 1) t
end Go.Proofs.Ytehfcnndjhjkoaa.PA

-- By a program (prt.py, over the print of the kit), for this claim. Not trusted: Lean checks it.
namespace Go.Proofs.Ytehfcnndjhjkoaa.PA
open Go.RowKit Go.Proofs.YtehfcnndjhjkoaaW.PrintWords Go.Proofs.YtehfcnndjhjkoaaW.PrintLast Go.Proofs.YtehfcnndjhjkoaaW.PrintMore
attribute [local go_sem] max2_int min2_int max_two min_two max_three min_three max_four min_four   -- for this text's walks alone
set_option linter.unusedVariables false
set_option linter.unusedSimpArgs false

/-! ### impl_firstAxis: function 102 -/
def impl_firstAxis.f (a0_0 : Bool) (l0_1 : List Int) (l0_2 : List Int) (a1 : Bool) : Option (Int) := if a1 = true then (some 0) else ((impl_Array_rank.f a0_0 l0_1 l0_2).bind fun t102 => (some (wrap64 (t102 - 1))))

end Go.Proofs.Ytehfcnndjhjkoaa.PA

namespace Go.Proofs.Ytehfcnndjhjkoaa.PA
open Go.RowKit Go.Proofs.YtehfcnndjhjkoaaW.PrintWords Go.Proofs.YtehfcnndjhjkoaaW.PrintLast Go.Proofs.YtehfcnndjhjkoaaW.PrintMore
set_option linter.unusedVariables false
set_option linter.unusedSimpArgs false
attribute [local go_sem] Oper.semAt_some
open Go.Shelf
def trSh (p s : List Int) : List Int := turnS s (List.replicate p.length 0) 0 p
def trOne (p s cur : List Int) : Int := numGo s 0 0 (p.map fun n => rd cur (n - 1))
def trL (p s : List Int) (N : Nat) : List Int := (List.range N).map fun t => trOne p s (idxL (trSh p s) t)
end Go.Proofs.Ytehfcnndjhjkoaa.PA

-- By a program (prt.py, over the print of the kit), for this claim. Not trusted: Lean checks it.
namespace Go.Proofs.Ytehfcnndjhjkoaa.PA
open Go.RowKit Go.Proofs.YtehfcnndjhjkoaaW.PrintWords Go.Proofs.YtehfcnndjhjkoaaW.PrintLast Go.Proofs.YtehfcnndjhjkoaaW.PrintMore
attribute [local go_sem] max2_int min2_int max_two min_two max_three min_three max_four min_four   -- for this text's walks alone
set_option linter.unusedVariables false
set_option linter.unusedSimpArgs false

/-! ### spec_Transpose: function 33 -/
mutual
def spec_Transpose.j0 : Nat → Bool → Bool → List Int → List Int → Bool → List Int → List Int → Option (Bool × List Int × List Int × Int)
  | 0, _, _, _, _, _, _, _ => none
  | k + 1, x23, x102000, x102001, x102002, x103000, x103001, x103002 => if x23 = true then ((spec_l4None.f).bind fun bt106 => (some (bt106.1, bt106.2.1, bt106.2.2, 3))) else ((spec_l5List.f x102000 x102001 x102002).bind fun t113 => (if t113 = 0 then (if (x102002.length : Int) = (x103001.length : Int) then (if 0 ≤ (x103001.length : Int) then (if ((x103001.length : Int) : Int).toNat ≤ 35184372088832 then (if ((x103001.length : Int) : Int).toNat ≤ 281474976710656 then (spec_Transpose.l0 k (x103001.length : Int) (List.replicate ((x103001.length : Int) : Int).toNat false) 0 x102000 x102001 x102002 x103000 x103001 x103002 x103000 (List.replicate ((x103001.length : Int) : Int).toNat 0) (([] : List Int))) else (none)) else (none)) else (none)) else ((spec_l4None.f).bind fun bt121 => (some (bt121.1, bt121.2.1, bt121.2.2, 5)))) else ((spec_l4None.f).bind fun bt114 => (some (bt114.1, bt114.2.1, bt114.2.2, t113)))))
def spec_Transpose.l0 : Nat → Int → List Bool → Int → Bool → List Int → List Int → Bool → List Int → List Int → Bool → List Int → List Int → Option (Bool × List Int × List Int × Int)
  | 0, _, _, _, _, _, _, _, _, _, _, _, _ => none
  | k + 1, x7, x9, x10, x102000, x102001, x102002, x103000, x103001, x103002, x135000, x135001, x135002 => if x10 < x7 then (if 0 ≤ x10 then (if x10 < (x102002.length : Int) then (if (wrap64 ((rd x102002 x10) - 1)) < 0 then ((spec_l4None.f).bind fun bt139 => (some (bt139.1, bt139.2.1, bt139.2.2, 3))) else (if (wrap64 ((rd x102002 x10) - 1)) ≥ x7 then ((spec_l4None.f).bind fun bt146 => (some (bt146.1, bt146.2.1, bt146.2.2, 3))) else (if 0 ≤ (wrap64 ((rd x102002 x10) - 1)) then (if (wrap64 ((rd x102002 x10) - 1)) < (x9.length : Int) then (if rdOf false x9 (wrap64 ((rd x102002 x10) - 1)) = true then ((spec_l4None.f).bind fun bt154 => (some (bt154.1, bt154.2.1, bt154.2.2, 3))) else (if x10 < (x103001.length : Int) then (if (wrap64 ((rd x102002 x10) - 1)) < (x135001.length : Int) then (spec_Transpose.l0 k x7 (x9.set ((wrap64 ((rd x102002 x10) - 1)) : Int).toNat true) (wrap64 (x10 + 1)) x102000 x102001 x102002 x103000 x103001 x103002 x135000 (x135001.set ((wrap64 ((rd x102002 x10) - 1)) : Int).toNat (rd x103001 x10)) x135002) else (none)) else (none))) else (none)) else (none)))) else (none)) else (none)) else (spec_Transpose.l1 k x7 0 x102000 x102001 x102002 x103000 x103001 x103002 x135000 x135001 x135002)
def spec_Transpose.l1 : Nat → Int → Int → Bool → List Int → List Int → Bool → List Int → List Int → Bool → List Int → List Int → Option (Bool × List Int × List Int × Int)
  | 0, _, _, _, _, _, _, _, _, _, _, _ => none
  | k + 1, x7, x12, x102000, x102001, x102002, x103000, x103001, x103002, x135000, x135001, x135002 => if x12 < (x103002.length : Int) then ((spec_l5Index.f k x135001 x12).bind fun t164 => (if 0 ≤ x7 then (if (x7 : Int).toNat ≤ 35184372088832 then (spec_Transpose.l2 k x7 x12 t164 (List.replicate (x7 : Int).toNat 0) 0 x102000 x102001 x102002 x103000 x103001 x103002 x135000 x135001 x135002) else (none)) else (none))) else (some (x135000, x135001, x135002, 0))
def spec_Transpose.l2 : Nat → Int → Int → List Int → List Int → Int → Bool → List Int → List Int → Bool → List Int → List Int → Bool → List Int → List Int → Option (Bool × List Int × List Int × Int)
  | 0, _, _, _, _, _, _, _, _, _, _, _, _, _, _ => none
  | k + 1, x7, x12, x13, x14, x15, x102000, x102001, x102002, x103000, x103001, x103002, x135000, x135001, x135002 => if x15 < x7 then (if 0 ≤ x15 then (if x15 < (x102002.length : Int) then (if 0 ≤ (wrap64 ((rd x102002 x15) - 1)) then (if (wrap64 ((rd x102002 x15) - 1)) < (x13.length : Int) then (if x15 < (x14.length : Int) then (spec_Transpose.l2 k x7 x12 x13 (x14.set (x15 : Int).toNat (rd x13 (wrap64 ((rd x102002 x15) - 1)))) (wrap64 (x15 + 1)) x102000 x102001 x102002 x103000 x103001 x103002 x135000 x135001 x135002) else (none)) else (none)) else (none)) else (none)) else (none)) else ((spec_l5At.f k x103001 x14).bind fun t173 => (if 0 ≤ t173 then (if t173 < (x103002.length : Int) then (if x135002.length < 17592186044416 then (spec_Transpose.l1 k x7 (wrap64 (x12 + 1)) x102000 x102001 x102002 x103000 x103001 x103002 x135000 x135001 (x135002 ++ [rd x103002 t173])) else (none)) else (none)) else (none)))
end
def spec_Transpose.f (k : Nat) (a0_0 : Bool) (l0_1 : List Int) (l0_2 : List Int) (a1_0 : Bool) (l1_1 : List Int) (l1_2 : List Int) : Option (Bool × List Int × List Int × Int) := (spec_ArrayOk.f k a0_0 l0_1 l0_2).bind fun t104 => (if t104 = true then ((spec_ArrayOk.f k a1_0 l1_1 l1_2).bind fun t105 => (spec_Transpose.j0 k (!t105) a0_0 l0_1 l0_2 a1_0 l1_1 l1_2)) else (spec_Transpose.j0 k true a0_0 l0_1 l0_2 a1_0 l1_1 l1_2))
theorem spec_Transpose.mono_l : ∀ k, (∀ y0 y1 y2 y3 y4 y5 y6, LeO (spec_Transpose.j0 k y0 y1 y2 y3 y4 y5 y6) (spec_Transpose.j0 (k + 1) y0 y1 y2 y3 y4 y5 y6)) ∧ (∀ y0 y1 y2 y3 y4 y5 y6 y7 y8 y9 y10 y11, LeO (spec_Transpose.l0 k y0 y1 y2 y3 y4 y5 y6 y7 y8 y9 y10 y11) (spec_Transpose.l0 (k + 1) y0 y1 y2 y3 y4 y5 y6 y7 y8 y9 y10 y11)) ∧ (∀ y0 y1 y2 y3 y4 y5 y6 y7 y8 y9 y10, LeO (spec_Transpose.l1 k y0 y1 y2 y3 y4 y5 y6 y7 y8 y9 y10) (spec_Transpose.l1 (k + 1) y0 y1 y2 y3 y4 y5 y6 y7 y8 y9 y10)) ∧ (∀ y0 y1 y2 y3 y4 y5 y6 y7 y8 y9 y10 y11 y12 y13, LeO (spec_Transpose.l2 k y0 y1 y2 y3 y4 y5 y6 y7 y8 y9 y10 y11 y12 y13) (spec_Transpose.l2 (k + 1) y0 y1 y2 y3 y4 y5 y6 y7 y8 y9 y10 y11 y12 y13))
  | 0 => ⟨fun _ _ _ _ _ _ _ r h => by simp [spec_Transpose.j0] at h, fun _ _ _ _ _ _ _ _ _ _ _ _ r h => by simp [spec_Transpose.l0] at h, fun _ _ _ _ _ _ _ _ _ _ _ r h => by simp [spec_Transpose.l1] at h, fun _ _ _ _ _ _ _ _ _ _ _ _ _ _ r h => by simp [spec_Transpose.l2] at h⟩
  | k + 1 => by
    obtain ⟨ih0, ih1, ih2, ih3⟩ := spec_Transpose.mono_l k
    refine ⟨?_, ?_, ?_, ?_⟩
    · intro y0 y1 y2 y3 y4 y5 y6
      unfold spec_Transpose.j0
      repeat' first
      | (with_reducible exact ih0 _ _ _ _ _ _ _)
      | (with_reducible exact ih1 _ _ _ _ _ _ _ _ _ _ _ _)
      | (with_reducible exact ih2 _ _ _ _ _ _ _ _ _ _ _)
      | (with_reducible exact ih3 _ _ _ _ _ _ _ _ _ _ _ _ _ _)
      | (with_reducible exact spec_ArrayOk.mono _ _ _ _)
      | (with_reducible exact spec_l5At.mono _ _ _)
      | (with_reducible exact spec_l5Index.mono _ _ _)
      | (with_reducible exact LeO.refl _)
      | (with_reducible exact LeO.none _)
      | (with_reducible refine LeO.ite ?_ ?_)
      | (with_reducible refine LeO.bind ?_ (fun _ => ?_))
      | exact ih0 _ _ _ _ _ _ _
      | exact ih1 _ _ _ _ _ _ _ _ _ _ _ _
      | exact ih2 _ _ _ _ _ _ _ _ _ _ _
      | exact ih3 _ _ _ _ _ _ _ _ _ _ _ _ _ _
      | exact spec_ArrayOk.mono _ _ _ _
      | exact spec_l5At.mono _ _ _
      | exact spec_l5Index.mono _ _ _
      | exact LeO.none _
      | refine LeO.ite ?_ ?_
      | refine LeO.bind ?_ (fun _ => ?_)
    · intro y0 y1 y2 y3 y4 y5 y6 y7 y8 y9 y10 y11
      unfold spec_Transpose.l0
      repeat' first
      | (with_reducible exact ih0 _ _ _ _ _ _ _)
      | (with_reducible exact ih1 _ _ _ _ _ _ _ _ _ _ _ _)
      | (with_reducible exact ih2 _ _ _ _ _ _ _ _ _ _ _)
      | (with_reducible exact ih3 _ _ _ _ _ _ _ _ _ _ _ _ _ _)
      | (with_reducible exact spec_ArrayOk.mono _ _ _ _)
      | (with_reducible exact spec_l5At.mono _ _ _)
      | (with_reducible exact spec_l5Index.mono _ _ _)
      | (with_reducible exact LeO.refl _)
      | (with_reducible exact LeO.none _)
      | (with_reducible refine LeO.ite ?_ ?_)
      | (with_reducible refine LeO.bind ?_ (fun _ => ?_))
      | exact ih0 _ _ _ _ _ _ _
      | exact ih1 _ _ _ _ _ _ _ _ _ _ _ _
      | exact ih2 _ _ _ _ _ _ _ _ _ _ _
      | exact ih3 _ _ _ _ _ _ _ _ _ _ _ _ _ _
      | exact spec_ArrayOk.mono _ _ _ _
      | exact spec_l5At.mono _ _ _
      | exact spec_l5Index.mono _ _ _
      | exact LeO.none _
      | refine LeO.ite ?_ ?_
      | refine LeO.bind ?_ (fun _ => ?_)
    · intro y0 y1 y2 y3 y4 y5 y6 y7 y8 y9 y10
      unfold spec_Transpose.l1
      repeat' first
      | (with_reducible exact ih0 _ _ _ _ _ _ _)
      | (with_reducible exact ih1 _ _ _ _ _ _ _ _ _ _ _ _)
      | (with_reducible exact ih2 _ _ _ _ _ _ _ _ _ _ _)
      | (with_reducible exact ih3 _ _ _ _ _ _ _ _ _ _ _ _ _ _)
      | (with_reducible exact spec_ArrayOk.mono _ _ _ _)
      | (with_reducible exact spec_l5At.mono _ _ _)
      | (with_reducible exact spec_l5Index.mono _ _ _)
      | (with_reducible exact LeO.refl _)
      | (with_reducible exact LeO.none _)
      | (with_reducible refine LeO.ite ?_ ?_)
      | (with_reducible refine LeO.bind ?_ (fun _ => ?_))
      | exact ih0 _ _ _ _ _ _ _
      | exact ih1 _ _ _ _ _ _ _ _ _ _ _ _
      | exact ih2 _ _ _ _ _ _ _ _ _ _ _
      | exact ih3 _ _ _ _ _ _ _ _ _ _ _ _ _ _
      | exact spec_ArrayOk.mono _ _ _ _
      | exact spec_l5At.mono _ _ _
      | exact spec_l5Index.mono _ _ _
      | exact LeO.none _
      | refine LeO.ite ?_ ?_
      | refine LeO.bind ?_ (fun _ => ?_)
    · intro y0 y1 y2 y3 y4 y5 y6 y7 y8 y9 y10 y11 y12 y13
      unfold spec_Transpose.l2
      repeat' first
      | (with_reducible exact ih0 _ _ _ _ _ _ _)
      | (with_reducible exact ih1 _ _ _ _ _ _ _ _ _ _ _ _)
      | (with_reducible exact ih2 _ _ _ _ _ _ _ _ _ _ _)
      | (with_reducible exact ih3 _ _ _ _ _ _ _ _ _ _ _ _ _ _)
      | (with_reducible exact spec_ArrayOk.mono _ _ _ _)
      | (with_reducible exact spec_l5At.mono _ _ _)
      | (with_reducible exact spec_l5Index.mono _ _ _)
      | (with_reducible exact LeO.refl _)
      | (with_reducible exact LeO.none _)
      | (with_reducible refine LeO.ite ?_ ?_)
      | (with_reducible refine LeO.bind ?_ (fun _ => ?_))
      | exact ih0 _ _ _ _ _ _ _
      | exact ih1 _ _ _ _ _ _ _ _ _ _ _ _
      | exact ih2 _ _ _ _ _ _ _ _ _ _ _
      | exact ih3 _ _ _ _ _ _ _ _ _ _ _ _ _ _
      | exact spec_ArrayOk.mono _ _ _ _
      | exact spec_l5At.mono _ _ _
      | exact spec_l5Index.mono _ _ _
      | exact LeO.none _
      | refine LeO.ite ?_ ?_
      | refine LeO.bind ?_ (fun _ => ?_)
theorem spec_Transpose.mono : ∀ a0 a1 a2 a3 a4 a5 k, LeO (spec_Transpose.f k a0 a1 a2 a3 a4 a5) (spec_Transpose.f (k + 1) a0 a1 a2 a3 a4 a5) := by
  intro a0 a1 a2 a3 a4 a5 k
  obtain ⟨ih0, ih1, ih2, ih3⟩ := spec_Transpose.mono_l k
  unfold spec_Transpose.f
  repeat' first
      | (with_reducible exact ih0 _ _ _ _ _ _ _)
      | (with_reducible exact ih1 _ _ _ _ _ _ _ _ _ _ _ _)
      | (with_reducible exact ih2 _ _ _ _ _ _ _ _ _ _ _)
      | (with_reducible exact ih3 _ _ _ _ _ _ _ _ _ _ _ _ _ _)
      | (with_reducible exact spec_ArrayOk.mono _ _ _ _)
      | (with_reducible exact spec_l5At.mono _ _ _)
      | (with_reducible exact spec_l5Index.mono _ _ _)
      | (with_reducible exact LeO.refl _)
      | (with_reducible exact LeO.none _)
      | (with_reducible refine LeO.ite ?_ ?_)
      | (with_reducible refine LeO.bind ?_ (fun _ => ?_))
      | exact ih0 _ _ _ _ _ _ _
      | exact ih1 _ _ _ _ _ _ _ _ _ _ _ _
      | exact ih2 _ _ _ _ _ _ _ _ _ _ _
      | exact ih3 _ _ _ _ _ _ _ _ _ _ _ _ _ _
      | exact spec_ArrayOk.mono _ _ _ _
      | exact spec_l5At.mono _ _ _
      | exact spec_l5Index.mono _ _ _
      | exact LeO.none _
      | refine LeO.ite ?_ ?_
      | refine LeO.bind ?_ (fun _ => ?_)

end Go.Proofs.Ytehfcnndjhjkoaa.PA

namespace Go.Proofs.Ytehfcnndjhjkoaa.PA
open Go.RowKit Go.Proofs.YtehfcnndjhjkoaaW.PrintWords Go.Proofs.YtehfcnndjhjkoaaW.PrintLast Go.Proofs.YtehfcnndjhjkoaaW.PrintMore
set_option linter.unusedVariables false
set_option linter.unusedSimpArgs false
def transposeV (b : Bool) (l1 l2 : List Int) (c : Bool) (m1 m2 : List Int) : ArrAns :=
  if arrOk b l1 l2 && arrOk c m1 m2 then
    (if listC b l1 = 0 then (if l2.length = m1.length then (if permB l2 = true then (c, trSh l2 m1, ofL c m2 (trL l2 m1 (prod (trSh l2 m1)).toNat), 0) else noArr 3) else noArr 5) else noArr (listC b l1))
  else noArr 3
theorem hrg_tr {s : List Int} (hs : shOk s = true) : ∀ (t : Nat), t < (prod s).toNat → ∀ k : Nat, k < s.length → 0 ≤ rd (idxL s t) (k : Int) ∧ rd (idxL s t) (k : Int) < rd s (k : Int) := by
  intro t ht k hk
  have hr := shOk_range hs
  rw [idxL_of hr (by omega)]
  exact digs_range s.length s t rfl (pos_of_prod (fun x hx => (hr x hx).1) (by omega)) (by omega) k hk
section
variable (b : Bool) (l1 l2 : List Int) (c : Bool) (m1 m2 : List Int) (hl : l2.length = m1.length) (h5 : l2.length ≤ 5) (hce : ∀ x ∈ l2, -1000000000000000 ≤ x ∧ x ≤ 1000000000000000)
include hl h5 hce
end
section
variable (b : Bool) (l1 l2 : List Int) (c : Bool) (m1 m2 : List Int) (hl : l2.length = m1.length) (h5 : l2.length ≤ 5)
include hl h5
end
def impl_Transpose.f (b : Bool) (l1 l2 : List Int) (c : Bool) (m1 m2 : List Int) : Option ArrAns := if okLens l1 l2 m1 m2 then some (transposeV b l1 l2 c m1 m2) else none
end Go.Proofs.Ytehfcnndjhjkoaa.PA

namespace Go.Proofs.Ytehfcnndjhjkoaa.PA
open Go.RowKit Go.Proofs.YtehfcnndjhjkoaaW.PrintWords Go.Proofs.YtehfcnndjhjkoaaW.PrintLast Go.Proofs.YtehfcnndjhjkoaaW.PrintMore
set_option linter.unusedVariables false
set_option linter.unusedSimpArgs false
/-- The shape that the numbers are held against. -/
def sOf (l2 m1 : List Int) : List Int := if m1.length = 0 then List.replicate l2.length 1 else m1
/-- The code of the numbers. -/
def cntC (a : Bool) (l1 l2 m1 : List Int) : Int := if listC a l1 = 0 then (if m1.length = 0 then (if l2.length ≤ 5 then 0 else 7) else if l2.length = m1.length then 0 else 5) else listC a l1
def takeV (a : Bool) (l1 l2 : List Int) (b : Bool) (m1 m2 : List Int) : ArrAns :=
  if (arrOk a l1 l2 && arrOk b m1 m2) = true then (if cntC a l1 l2 m1 = 0 then (if shOk (absL l2) = true then (b, absL l2, winL b (sOf l2 m1) m2 (absL l2) (stTake (sOf l2 m1) l2) (prod (absL l2)).toNat, 0) else noArr 7) else noArr (cntC a l1 l2 m1)) else noArr 3
theorem counted_bad (a : Bool) (Aa1 : Option Addr) (ca1 : Nat) (la1 : List Int) (Aa2 : Option Addr) (ca2 : Nat) (la2 : List Int) (b : Bool) (Ab1 : Option Addr) (cb1 : Nat) (lb1 : List Int) (Ab2 : Option Addr) (cb2 : Nat) (lb2 : List Int) (w : World) (ha1 : Kd.C (Kd.int .i64) w Aa1 la1.length la1) (ka1 : la1.length ≤ ca1) (ha2 : Kd.C (Kd.int .i64) w Aa2 la2.length la2) (ka2 : la2.length ≤ ca2) (hb1 : Kd.C (Kd.int .i64) w Ab1 lb1.length lb1) (kb1 : lb1.length ≤ cb1) (hb2 : Kd.C (Kd.int .i64) w Ab2 lb2.length lb2) (kb2 : lb2.length ≤ cb2) (hb1' : lb1.length ≤ 1000000) (hb2' : lb2.length ≤ 1000000) (hc : cntC a la1 la2 lb1 ≠ 0) :
    Calls Try.prog 95 #[.agg #[.bool a, .slice Aa1 la1.length ca1, .slice Aa2 la2.length ca2], .agg #[.bool b, .slice Ab1 lb1.length cb1, .slice Ab2 lb2.length cb2]] w fun e w' => e = .returned (.tuple #[.agg #[.bool b, .slice Ab1 lb1.length cb1, .slice Ab2 lb2.length cb2], .int .i64 (cntC a la1 la2 lb1)]) ∧ Below w.heap.size w w' := by
  have hl := l5List_eq a la1 la2
  unfold cntC at hc ⊢
  by_cases h0 : listC a la1 = 0
  · rw [if_pos h0] at hc ⊢
    rw [h0] at hl
    by_cases hz : lb1.length = 0
    · rw [if_pos hz] at hc ⊢
      by_cases h5 : la2.length ≤ 5
      · rw [if_pos h5] at hc; exact absurd rfl hc
      · rw [if_neg h5]
        exact counted_deep a Aa1 ca1 la1 Aa2 ca2 la2 b Ab1 cb1 lb1 Ab2 cb2 lb2 w ha1 ka1 ha2 ka2 hb1 kb1 hb2 kb2 hb1' hb2' hl hz (by omega)
    · rw [if_neg hz] at hc ⊢
      by_cases hn : la2.length = lb1.length
      · rw [if_pos hn] at hc; exact absurd rfl hc
      · rw [if_neg hn]
        exact counted_len a Aa1 ca1 la1 Aa2 ca2 la2 b Ab1 cb1 lb1 Ab2 cb2 lb2 w ha1 ka1 ha2 ka2 hb1 kb1 hb2 kb2 hb1' hb2' hl hz hn
  · rw [if_neg h0]
    exact counted_list a Aa1 ca1 la1 Aa2 ca2 la2 b Ab1 cb1 lb1 Ab2 cb2 lb2 w ha1 ka1 ha2 ka2 hb1 kb1 hb2 kb2 (listC a la1) hl h0
theorem counted_good (a : Bool) (Aa1 : Option Addr) (ca1 : Nat) (la1 : List Int) (Aa2 : Option Addr) (ca2 : Nat) (la2 : List Int) (b : Bool) (Ab1 : Option Addr) (cb1 : Nat) (lb1 : List Int) (Ab2 : Option Addr) (cb2 : Nat) (lb2 : List Int) (w : World) (ha1 : Kd.C (Kd.int .i64) w Aa1 la1.length la1) (ka1 : la1.length ≤ ca1) (ha2 : Kd.C (Kd.int .i64) w Aa2 la2.length la2) (ka2 : la2.length ≤ ca2) (hb1 : Kd.C (Kd.int .i64) w Ab1 lb1.length lb1) (kb1 : lb1.length ≤ cb1) (hb2 : Kd.C (Kd.int .i64) w Ab2 lb2.length lb2) (kb2 : lb2.length ≤ cb2) (hb1' : lb1.length ≤ 1000000) (hb2' : lb2.length ≤ 1000000) (hc : cntC a la1 la2 lb1 = 0) :
    Calls Try.prog 95 #[.agg #[.bool a, .slice Aa1 la1.length ca1, .slice Aa2 la2.length ca2], .agg #[.bool b, .slice Ab1 lb1.length cb1, .slice Ab2 lb2.length cb2]] w fun e w' => ∃ A1 c1 A2 c2, e = .returned (.tuple #[.agg #[.bool b, .slice A1 (sOf la2 lb1).length c1, .slice A2 lb2.length c2], .int .i64 0]) ∧ Kd.R (Kd.int .i64) 3 w' w.heap.size (fun k => some k ≠ (Value.slice A2 lb2.length c2).ownBlock) (.slice A1 (sOf la2 lb1).length c1) (sOf la2 lb1) ∧ Kd.R (Kd.int .i64) 3 w' w.heap.size (fun k => some k ≠ (Value.slice A1 (sOf la2 lb1).length c1).ownBlock) (.slice A2 lb2.length c2) lb2 ∧ Below w.heap.size w w' := by
  have hl := l5List_eq a la1 la2
  unfold cntC at hc
  by_cases h0 : listC a la1 = 0
  · rw [if_pos h0] at hc
    rw [h0] at hl
    by_cases hz : lb1.length = 0
    · rw [if_pos hz] at hc
      have h5 : la2.length ≤ 5 := by by_cases h : la2.length ≤ 5; · exact h
                                     · rw [if_neg h] at hc; exact absurd hc (by decide)
      have := counted_ones a Aa1 ca1 la1 Aa2 ca2 la2 b Ab1 cb1 lb1 Ab2 cb2 lb2 w ha1 ka1 ha2 ka2 hb1 kb1 hb2 kb2 hb1' hb2' hl hz h5
      simp only [sOf, if_pos hz, List.length_replicate]
      exact this
    · rw [if_neg hz] at hc
      have hn : la2.length = lb1.length := by by_cases h : la2.length = lb1.length; · exact h
                                              · rw [if_neg h] at hc; exact absurd hc (by decide)
      have := counted_same a Aa1 ca1 la1 Aa2 ca2 la2 b Ab1 cb1 lb1 Ab2 cb2 lb2 w ha1 ka1 ha2 ka2 hb1 kb1 hb2 kb2 hb1' hb2' hl hz hn
      simp only [sOf, if_neg hz]
      exact this
  · rw [if_neg h0] at hc; exact absurd hc h0
theorem sOf_len {a : Bool} {l1 l2 m1 : List Int} (h : cntC a l1 l2 m1 = 0) : (sOf l2 m1).length = l2.length := by
  unfold cntC at h; unfold sOf
  by_cases h0 : listC a l1 = 0
  · rw [if_pos h0] at h
    by_cases hz : m1.length = 0
    · rw [if_pos hz, List.length_replicate]
    · rw [if_neg hz] at h ⊢
      by_cases hn : l2.length = m1.length
      · omega
      · rw [if_neg hn] at h; exact absurd h (by decide)
  · rw [if_neg h0] at h; exact absurd h h0
theorem cnt_five {a : Bool} {l1 l2 m1 : List Int} (h : cntC a l1 l2 m1 = 0) (h5 : m1.length ≤ 5) : l2.length ≤ 5 := by
  unfold cntC at h
  by_cases h0 : listC a l1 = 0
  · rw [if_pos h0] at h
    by_cases hz : m1.length = 0
    · rw [if_pos hz] at h
      by_cases h6 : l2.length ≤ 5
      · exact h6
      · rw [if_neg h6] at h; exact absurd h (by decide)
    · rw [if_neg hz] at h
      by_cases hn : l2.length = m1.length
      · omega
      · rw [if_neg hn] at h; exact absurd h (by decide)
  · rw [if_neg h0] at h; exact absurd h h0
theorem sOf_range {l2 m1 : List Int} (h : ∀ x ∈ m1, 0 ≤ x ∧ x ≤ 10000) : ∀ x ∈ sOf l2 m1, 0 ≤ x ∧ x ≤ 10000 := by
  unfold sOf
  split
  · intro x hx; have := List.eq_of_mem_replicate hx; omega
  · exact h
theorem prod_ones (n : Nat) : prod (List.replicate n 1) = 1 := by
  induction n with
  | zero => rfl
  | succ n ih => rw [List.replicate_succ]; simp [prod, ih]
theorem sOf_prod {a : Bool} {l1 l2 m1 : List Int} {N : Int} (h : cntC a l1 l2 m1 = 0) (hp : prod m1 = N) : prod (sOf l2 m1) = N := by
  unfold sOf
  split
  · rename_i hz
    rw [prod_ones, ← hp, List.eq_nil_of_length_eq_zero hz]; rfl
  · exact hp
def spec_Take.f (k : Nat) (a : Bool) (l1 l2 : List Int) (b : Bool) (m1 m2 : List Int) : Option ArrAns := if okLens l1 l2 m1 m2 then some (takeV a l1 l2 b m1 m2) else none
theorem one_lt {m1 m2 ls lt : List Int} (hl : m1.length = ls.length) (hs : ∀ x ∈ m1, 0 ≤ x ∧ x ≤ 10000) (hp : prod m1 = m2.length) (hn : m2.length ≤ 10000) (N : Nat) : ∀ x ∈ fromL m1 ls (winF lt) N, x < m2.length := by
  induction N with
  | zero => intro x hx; simp [fromL] at hx
  | succ t ih =>
    intro x hx
    simp only [fromL, List.mem_append, List.mem_singleton] at hx
    rcases hx with hx | rfl
    · exact ih x hx
    · unfold fromOne
      split
      · rename_i h
        have := one_range m1 (idxL ls t) (winF lt) (by rw [idxL_len, hl]) hs (by omega) h
        omega
      · omega
theorem axes_bad (a : Bool) (Aa1 : Option Addr) (ca1 : Nat) (la1 : List Int) (Aa2 : Option Addr) (ca2 : Nat) (la2 : List Int) (b : Bool) (Ab1 : Option Addr) (cb1 : Nat) (lb1 : List Int) (Ab2 : Option Addr) (cb2 : Nat) (lb2 : List Int) (w : World) (ha1 : Kd.C (Kd.int .i64) w Aa1 la1.length la1) (ka1 : la1.length ≤ ca1) (ha2 : Kd.C (Kd.int .i64) w Aa2 la2.length la2) (ka2 : la2.length ≤ ca2) (hb1 : Kd.C (Kd.int .i64) w Ab1 lb1.length lb1) (kb1 : lb1.length ≤ cb1) (hb2 : Kd.C (Kd.int .i64) w Ab2 lb2.length lb2) (kb2 : lb2.length ≤ cb2) (hc : cntC a la1 la2 lb1 ≠ 0) :
    Calls Try.prog 128 #[.agg #[.bool a, .slice Aa1 la1.length ca1, .slice Aa2 la2.length ca2], .agg #[.bool b, .slice Ab1 lb1.length cb1, .slice Ab2 lb2.length cb2]] w fun e w' => e = .returned (.tuple #[.agg #[.bool b, .slice Ab1 lb1.length cb1, .slice Ab2 lb2.length cb2], .int .i64 (cntC a la1 la2 lb1)]) ∧ Below w.heap.size w w' := by
  have hl := listOk_eq a la1 la2
  unfold cntC at hc ⊢
  by_cases h0 : listC a la1 = 0
  · rw [if_pos h0] at hc ⊢
    rw [h0] at hl
    by_cases hz : lb1.length = 0
    · rw [if_pos hz] at hc ⊢
      by_cases h5 : la2.length ≤ 5
      · rw [if_pos h5] at hc; exact absurd rfl hc
      · rw [if_neg h5]
        exact axesFor_deep a Aa1 ca1 la1 Aa2 ca2 la2 b Ab1 cb1 lb1 Ab2 cb2 lb2 w ha1 ka1 ha2 ka2 hb1 kb1 hb2 kb2 hl hz (by omega)
    · rw [if_neg hz] at hc ⊢
      by_cases hn : la2.length = lb1.length
      · rw [if_pos hn] at hc; exact absurd rfl hc
      · rw [if_neg hn]
        exact axesFor_len a Aa1 ca1 la1 Aa2 ca2 la2 b Ab1 cb1 lb1 Ab2 cb2 lb2 w ha1 ka1 ha2 ka2 hb1 kb1 hb2 kb2 hl hz hn
  · rw [if_neg h0]
    exact axesFor_list a Aa1 ca1 la1 Aa2 ca2 la2 b Ab1 cb1 lb1 Ab2 cb2 lb2 w ha1 ka1 ha2 ka2 hb1 kb1 hb2 kb2 (listC a la1) hl h0
def impl_Take.f (a : Bool) (l1 l2 : List Int) (b : Bool) (m1 m2 : List Int) : Option ArrAns := if okLens l1 l2 m1 m2 then some (takeV a l1 l2 b m1 m2) else none
end Go.Proofs.Ytehfcnndjhjkoaa.PA

namespace Go.Proofs.Ytehfcnndjhjkoaa.PA
open Go.RowKit Go.Proofs.YtehfcnndjhjkoaaW.PrintWords Go.Proofs.YtehfcnndjhjkoaaW.PrintLast Go.Proofs.YtehfcnndjhjkoaaW.PrintMore
set_option linter.unusedVariables false
set_option linter.unusedSimpArgs false
def dropV (a : Bool) (l1 l2 : List Int) (b : Bool) (m1 m2 : List Int) : ArrAns :=
  if (arrOk a l1 l2 && arrOk b m1 m2) = true then (if cntC a l1 l2 m1 = 0 then (b, dropL (sOf l2 m1) l2 l2.length, winL b (sOf l2 m1) m2 (dropL (sOf l2 m1) l2 l2.length) (stDrop l2) (prod (dropL (sOf l2 m1) l2 l2.length)).toNat, 0) else noArr (cntC a l1 l2 m1)) else noArr 3
theorem shOk_ones : ∀ (n : Nat), shGo 1 (List.replicate n 1) = true
  | 0 => rfl
  | n + 1 => by rw [List.replicate_succ]; simp [shGo, shOk_ones n]
theorem sOf_ok {a : Bool} {l1 l2 m1 : List Int} (h : cntC a l1 l2 m1 = 0) (hs : shOk m1 = true) : shOk (sOf l2 m1) = true := by
  have h5 := cnt_five h (shOk_len hs)
  unfold sOf
  split
  · simp only [shOk, List.length_replicate, Bool.and_eq_true, decide_eq_true_eq]
    exact ⟨h5, shOk_ones _⟩
  · exact hs
def spec_Drop.f (k : Nat) (a : Bool) (l1 l2 : List Int) (b : Bool) (m1 m2 : List Int) : Option ArrAns := if okLens l1 l2 m1 m2 then some (dropV a l1 l2 b m1 m2) else none
theorem spec_Drop.calls (k : Nat) (a : Bool) (Aa1 : Option Addr) (ca1 : Nat) (la1 : List Int) (Aa2 : Option Addr) (ca2 : Nat) (la2 : List Int) (b : Bool) (Ab1 : Option Addr) (cb1 : Nat) (lb1 : List Int) (Ab2 : Option Addr) (cb2 : Nat) (lb2 : List Int) (r1 : Bool) (r2 r3 : List Int) (r4 : Int) (w : World) (ha1 : Kd.C (Kd.int .i64) w Aa1 la1.length la1) (ka1 : la1.length ≤ ca1) (ha2 : Kd.C (Kd.int .i64) w Aa2 la2.length la2) (ka2 : la2.length ≤ ca2) (hb1 : Kd.C (Kd.int .i64) w Ab1 lb1.length lb1) (kb1 : lb1.length ≤ cb1) (hb2 : Kd.C (Kd.int .i64) w Ab2 lb2.length lb2) (kb2 : lb2.length ≤ cb2) (h : spec_Drop.f k a la1 la2 b lb1 lb2 = some (r1, r2, r3, r4)) :
    Calls Try.prog 40 #[.agg #[.bool a, .slice Aa1 la1.length ca1, .slice Aa2 la2.length ca2], .agg #[.bool b, .slice Ab1 lb1.length cb1, .slice Ab2 lb2.length cb2]] w fun e w' => ∃ v1_ v2_ : Value, e = .returned (.tuple #[.agg #[.bool r1, v1_, v2_], .int .i64 r4]) ∧ Kd.R (Kd.int .i64) 3 w' w.heap.size (fun k_ => some k_ ≠ (v2_ : Value).ownBlock) v1_ r2 ∧ Kd.R (Kd.int .i64) 3 w' w.heap.size (fun k_ => some k_ ≠ (v1_ : Value).ownBlock) v2_ r3 ∧ Below w.heap.size w w' := by
  unfold spec_Drop.f at h
  split at h
  · rename_i hl
    have h := Option.some.inj h
    simp only [okLens, Bool.and_eq_true, decide_eq_true_eq] at hl
    obtain ⟨ka, hka⟩ := (specArrayOk_ev a la1 la2 (by omega) (by omega)).rounds
    obtain ⟨kb, hkb⟩ := (specArrayOk_ev b lb1 lb2 (by omega) (by omega)).rounds
    unfold dropV at h
    cases hA : arrOk a la1 la2 with
    | false =>
      rw [hA] at hka
      rw [hA, if_neg (by simp)] at h
      cases h
      exact specDrop_no1 a Aa1 ca1 la1 Aa2 ca2 la2 b Ab1 cb1 lb1 Ab2 cb2 lb2 w ha1 ka1 ha2 ka2 hb1 kb1 hb2 kb2 ka hka
    | true =>
      rw [hA] at hka
      cases hB : arrOk b lb1 lb2 with
      | false =>
        rw [hB] at hkb
        rw [hA, hB, if_neg (by simp)] at h
        cases h
        exact specDrop_no2 a Aa1 ca1 la1 Aa2 ca2 la2 b Ab1 cb1 lb1 Ab2 cb2 lb2 w ha1 ka1 ha2 ka2 hb1 kb1 hb2 kb2 ka hka kb hkb
      | true =>
        rw [hB] at hkb
        rw [hA, hB, if_pos (by rfl)] at h
        have n1 := arrOk_len hA
        have n2 := arrOk_len hB
        by_cases hc : cntC a la1 la2 lb1 = 0
        · rw [if_pos hc] at h
          simp only [Prod.mk.injEq] at h
          obtain ⟨rfl, rfl, rfl, rfl⟩ := h
          exact specDrop_ok a Aa1 ca1 la1 Aa2 ca2 la2 b Ab1 cb1 lb1 Ab2 cb2 lb2 w ha1 ka1 ha2 ka2 hb1 kb1 hb2 kb2 ka hka kb hkb (sOf la2 lb1) (sOf_len hc) (cnt_five hc n2.1) (sOf_ok hc (arrOk_sh hB)) (arrOk_cells hA) (sOf_prod hc (arrOk_prod hB)) n2.2 (fun W hW => counted_good a Aa1 ca1 la1 Aa2 ca2 la2 b Ab1 cb1 lb1 Ab2 cb2 lb2 W (Kd.C_below ha1 hW) ka1 (Kd.C_below ha2 hW) ka2 (Kd.C_below hb1 hW) kb1 (Kd.C_below hb2 hW) kb2 (by omega) (by omega) hc)
        · rw [if_neg hc] at h
          cases h
          exact specDrop_code a Aa1 ca1 la1 Aa2 ca2 la2 b Ab1 cb1 lb1 Ab2 cb2 lb2 w ha1 ka1 ha2 ka2 hb1 kb1 hb2 kb2 ka hka kb hkb (cntC a la1 la2 lb1) hc (fun W hW => counted_bad a Aa1 ca1 la1 Aa2 ca2 la2 b Ab1 cb1 lb1 Ab2 cb2 lb2 W (Kd.C_below ha1 hW) ka1 (Kd.C_below ha2 hW) ka2 (Kd.C_below hb1 hW) kb1 (Kd.C_below hb2 hW) kb2 (by omega) (by omega) hc)
  · cases h
theorem specDrop_ev (a : Bool) (l1 l2 : List Int) (b : Bool) (m1 m2 : List Int) (h1 : l1.length ≤ 35184372088832) (h2 : l2.length ≤ 35184372088832) (h3 : m1.length ≤ 35184372088832) (h4 : m2.length ≤ 35184372088832) : Ev (fun k => spec_Drop.f k a l1 l2 b m1 m2) (dropV a l1 l2 b m1 m2) := by
  simp only [spec_Drop.f, if_pos (okLens_of h1 h2 h3 h4)]
  exact Ev.now _
theorem dropV_len (b : Bool) (l1 l2 : List Int) (c : Bool) (m1 m2 : List Int) : (dropV b l1 l2 c m1 m2).2.1.length ≤ 10000 ∧ (dropV b l1 l2 c m1 m2).2.2.1.length ≤ 10000 := by
  unfold dropV noArr
  split
  · rename_i h
    simp only [Bool.and_eq_true] at h
    have k1 := arrOk_len h.1
    split
    · rename_i hc
      have := shOk_prod (dropL_ok (sOf l2 m1) l2 l2.length (sOf_len hc) (sOf_ok hc (arrOk_sh h.2)))
      simp only [winL_len, dropL_len]; omega
    · simp
  · simp
def impl_Drop.f (a : Bool) (l1 l2 : List Int) (b : Bool) (m1 m2 : List Int) : Option ArrAns := if okLens l1 l2 m1 m2 then some (dropV a l1 l2 b m1 m2) else none
theorem impl_Drop.calls (a : Bool) (Aa1 : Option Addr) (ca1 : Nat) (la1 : List Int) (Aa2 : Option Addr) (ca2 : Nat) (la2 : List Int) (b : Bool) (Ab1 : Option Addr) (cb1 : Nat) (lb1 : List Int) (Ab2 : Option Addr) (cb2 : Nat) (lb2 : List Int) (r1 : Bool) (r2 r3 : List Int) (r4 : Int) (w : World) (ha1 : Kd.C (Kd.int .i64) w Aa1 la1.length la1) (ka1 : la1.length ≤ ca1) (ha2 : Kd.C (Kd.int .i64) w Aa2 la2.length la2) (ka2 : la2.length ≤ ca2) (hb1 : Kd.C (Kd.int .i64) w Ab1 lb1.length lb1) (kb1 : lb1.length ≤ cb1) (hb2 : Kd.C (Kd.int .i64) w Ab2 lb2.length lb2) (kb2 : lb2.length ≤ cb2) (h : impl_Drop.f a la1 la2 b lb1 lb2 = some (r1, r2, r3, r4)) :
    Calls Try.prog 41 #[.agg #[.bool a, .slice Aa1 la1.length ca1, .slice Aa2 la2.length ca2], .agg #[.bool b, .slice Ab1 lb1.length cb1, .slice Ab2 lb2.length cb2]] w fun e w' => ∃ v1_ v2_ : Value, e = .returned (.tuple #[.agg #[.bool r1, v1_, v2_], .int .i64 r4]) ∧ Kd.R (Kd.int .i64) 3 w' w.heap.size (fun k_ => some k_ ≠ (v2_ : Value).ownBlock) v1_ r2 ∧ Kd.R (Kd.int .i64) 3 w' w.heap.size (fun k_ => some k_ ≠ (v1_ : Value).ownBlock) v2_ r3 ∧ Below w.heap.size w w' := by
  unfold impl_Drop.f at h
  split at h
  · rename_i hl
    have h := Option.some.inj h
    simp only [okLens, Bool.and_eq_true, decide_eq_true_eq] at hl
    obtain ⟨k0, hk0⟩ := (valid_ev2 a la1 la2 b lb1 lb2 (by omega) (by omega)).rounds
    unfold dropV at h
    by_cases hv : (arrOk a la1 la2 && arrOk b lb1 lb2) = true
    · rw [if_pos hv] at hk0 h
      have hv' := hv
      simp only [Bool.and_eq_true] at hv'
      have n1 := arrOk_len hv'.1
      have n2 := arrOk_len hv'.2
      have hs := shOk_range (arrOk_sh hv'.2)
      have hcl := arrOk_cells hv'.1
      have hlo := listOk_eq a la1 la2
      by_cases hc : cntC a la1 la2 lb1 = 0
      · rw [if_pos hc] at h
        have c1 := sOf_len hc
        have c2 := cnt_five hc n2.1
        have c3 := sOf_range (l2 := la2) hs
        have c4 := sOf_prod hc (arrOk_prod hv'.2)
        have h0 : listC a la1 = 0 := by
          by_cases h0 : listC a la1 = 0
          · exact h0
          · unfold cntC at hc; rw [if_neg h0] at hc; exact absurd hc h0
        rw [h0] at hlo
        have hok := dropL_ok (sOf la2 lb1) la2 la2.length c1 (sOf_ok hc (arrOk_sh hv'.2))
        obtain ⟨ks, hks⟩ := (shapeOk_yes hok).rounds
        have hpr := shOk_prod hok
        obtain ⟨k1, hk1⟩ := (made_ev b lb1 lb2 (dropL (sOf la2 lb1) la2 la2.length) (fromL (sOf la2 lb1) (dropL (sOf la2 lb1) la2 la2.length) (winF (stDrop la2)) (prod (dropL (sOf la2 lb1) la2 la2.length)).toNat) (by rw [dropL_len]; omega) (by rw [fromL_len]; omega) (one_lt (by rw [c1, dropL_len]) c3 c4 n2.2 _)).rounds
        rw [show ((b, dropL (sOf la2 lb1) la2 la2.length, ofL b lb2 (fromL (sOf la2 lb1) (dropL (sOf la2 lb1) la2 la2.length) (winF (stDrop la2)) (prod (dropL (sOf la2 lb1) la2 la2.length)).toNat), 0) : ArrAns) = (r1, r2, r3, r4) from h] at hk1
        refine Drop_yes k0 k1 a Aa1 ca1 la1 Aa2 ca2 la2 b Ab1 cb1 lb1 Ab2 cb2 lb2 w ha1 ka1 ha2 ka2 hb1 kb1 hb2 kb2 hk0 (dropL (sOf la2 lb1) la2 la2.length) (fromL (sOf la2 lb1) (dropL (sOf la2 lb1) la2 la2.length) (winF (stDrop la2)) (prod (dropL (sOf la2 lb1) la2 la2.length)).toNat) 0 r1 r2 r3 r4 (fun W hW => ?_) hk1
        by_cases hz : lb1.length = 0
        · have e : sOf la2 lb1 = List.replicate la2.length 1 := if_pos hz
          rw [e] at c1 c3 hok hks hpr ⊢
          exact dropMove_ones a Aa1 ca1 la1 Aa2 ca2 la2 b Ab1 cb1 lb1 Ab2 cb2 lb2 W (Kd.C_below ha1 hW) ka1 (Kd.C_below ha2 hW) ka2 (Kd.C_below hb1 hW) kb1 (Kd.C_below hb2 hW) kb2 (fun W' hW' => axesFor_one a Aa1 ca1 la1 Aa2 ca2 la2 b Ab1 cb1 lb1 Ab2 cb2 lb2 W' (Kd.C_below (Kd.C_below ha1 hW) hW') ka1 (Kd.C_below (Kd.C_below ha2 hW) hW') ka2 (Kd.C_below (Kd.C_below hb1 hW) hW') kb1 (Kd.C_below (Kd.C_below hb2 hW) hW') kb2 hlo hz c2) hcl (by omega) ks hks c1 c2 hpr c3 (hrg_tr hok)
        · have e : sOf la2 lb1 = lb1 := if_neg hz
          rw [e] at c1 c3 hok hks hpr ⊢
          exact dropMove_same a Aa1 ca1 la1 Aa2 ca2 la2 b Ab1 cb1 lb1 Ab2 cb2 lb2 W (Kd.C_below ha1 hW) ka1 (Kd.C_below ha2 hW) ka2 (Kd.C_below hb1 hW) kb1 (Kd.C_below hb2 hW) kb2 (fun W' hW' => axesFor_same a Aa1 ca1 la1 Aa2 ca2 la2 b Ab1 cb1 lb1 Ab2 cb2 lb2 W' (Kd.C_below (Kd.C_below ha1 hW) hW') ka1 (Kd.C_below (Kd.C_below ha2 hW) hW') ka2 (Kd.C_below (Kd.C_below hb1 hW) hW') kb1 (Kd.C_below (Kd.C_below hb2 hW) hW') kb2 hlo hz c1.symm) hcl (by omega) ks hks c1 c2 hpr c3 (hrg_tr hok)
      · rw [if_neg hc] at h
        obtain ⟨k1, hk1⟩ := (made_no b lb1 lb2 [] [] _ hc).rounds
        rw [show ((false, [], [], cntC a la1 la2 lb1) : ArrAns) = noArr (cntC a la1 la2 lb1) from rfl, h] at hk1
        exact Drop_yes k0 k1 a Aa1 ca1 la1 Aa2 ca2 la2 b Ab1 cb1 lb1 Ab2 cb2 lb2 w ha1 ka1 ha2 ka2 hb1 kb1 hb2 kb2 hk0 [] [] (cntC a la1 la2 lb1) r1 r2 r3 r4 (fun W hW => dropMove_bad a Aa1 ca1 la1 Aa2 ca2 la2 b Ab1 cb1 lb1 Ab2 cb2 lb2 W (Kd.C_below ha1 hW) ka1 (Kd.C_below ha2 hW) ka2 (Kd.C_below hb1 hW) kb1 (Kd.C_below hb2 hW) kb2 (cntC a la1 la2 lb1) hc (fun W' hW' => axes_bad a Aa1 ca1 la1 Aa2 ca2 la2 b Ab1 cb1 lb1 Ab2 cb2 lb2 W' (Kd.C_below (Kd.C_below ha1 hW) hW') ka1 (Kd.C_below (Kd.C_below ha2 hW) hW') ka2 (Kd.C_below (Kd.C_below hb1 hW) hW') kb1 (Kd.C_below (Kd.C_below hb2 hW) hW') kb2 hc)) hk1
    · rw [if_neg hv] at hk0 h
      simp only [noArr, Prod.mk.injEq] at h
      obtain ⟨rfl, rfl, rfl, rfl⟩ := h
      exact Drop_no k0 3 a Aa1 ca1 la1 Aa2 ca2 la2 b Ab1 cb1 lb1 Ab2 cb2 lb2 w ha1 ka1 ha2 ka2 hb1 kb1 hb2 kb2 hk0 (by decide)
  · cases h
end Go.Proofs.Ytehfcnndjhjkoaa.PA

namespace Go.Proofs.Ytehfcnndjhjkoaa.PA
open Go.RowKit Go.Proofs.YtehfcnndjhjkoaaW.PrintWords Go.Proofs.YtehfcnndjhjkoaaW.PrintLast Go.Proofs.YtehfcnndjhjkoaaW.PrintMore
set_option linter.unusedVariables false
set_option linter.unusedSimpArgs false
/-- A pair of rows of numbers, made between two sizes of the heap. -/
structure PrD where
  lo : Nat
  hi : Nat
  v1 : Value
  v2 : Value
  l1 : List Int
  l2 : List Int
def Pr (W : World) (d : PrD) : Prop := Kd.R (Kd.int .i64) 3 W d.lo (fun k => k < d.hi ∧ some k ≠ d.v2.ownBlock) d.v1 d.l1 ∧ Kd.R (Kd.int .i64) 3 W d.lo (fun k => k < d.hi ∧ some k ≠ d.v1.ownBlock) d.v2 d.l2
abbrev Bk := Nat × Array Value × TypeId
structure St (w W : World) (bl : List Bk) (ps : List PrD) : Prop where
  below : Below w.heap.size w W
  blk : ∀ p ∈ bl, W.heap[p.1]? = some (.cells p.2.1 p.2.2 (0, 0)) ∧ w.heap.size ≤ p.1 ∧ p.2.2 ≠ 3
  nod : bl.Pairwise (fun p q => p.1 ≠ q.1)
  pr : ∀ d ∈ ps, Pr W d ∧ w.heap.size ≤ d.lo ∧ d.hi ≤ W.heap.size
  far : ps.Pairwise (fun d e => e.hi ≤ d.lo)
theorem St.start (w : World) : St w w [] [] := ⟨Below.refl _ _, (fun _ h => nomatch h), .nil, (fun _ h => nomatch h), .nil⟩
theorem Pr.step {W W' : World} {d : PrD} (h : Pr W d) (hb : Below W.heap.size W W') : Pr W' d := ⟨Kd.R_below h.1 hb, Kd.R_below h.2 hb⟩
theorem St.step {w W W' : World} {bl : List Bk} {ps : List PrD} (h : St w W bl ps) (hb : Below W.heap.size W W') : St w W' bl ps :=
  ⟨below_step h.below hb, fun p hp => ⟨blk_below (h.blk p hp).1 hb, (h.blk p hp).2⟩, h.nod, fun d hd => ⟨(h.pr d hd).1.step hb, (h.pr d hd).2.1, Nat.le_trans (h.pr d hd).2.2 hb.size⟩, h.far⟩
theorem St.at {w W : World} {bl : List Bk} {ps : List PrD} (h : St w W bl ps) {g : Nat} {cs : Array Value} {t : TypeId} (hm : (g, cs, t) ∈ bl) : W.heap[g]? = some (.cells cs t (0, 0)) := (h.blk _ hm).1
theorem St.box {w W W' : World} {bl : List Bk} {ps : List PrD} (h : St w W bl ps) {g : Nat} {cs : Array Value} {t : TypeId} (hg : g = W.heap.size) (hB : W'.heap[g]? = some (.cells cs t (0, 0))) (hb : Below W.heap.size W W') (ht : t ≠ 3) : St w W' ((g, cs, t) :: bl) ps := by
  have h' := h.step hb
  refine ⟨h'.below, fun p hp => ?_, .cons (fun p hp e => ?_) h.nod, h'.pr, h.far⟩
  · rcases List.mem_cons.1 hp with rfl | hp
    · exact ⟨hB, hg ▸ h.below.size, ht⟩
    · exact h'.blk p hp
  · have := blk_lt (h.blk p hp).1
    simp only at e; omega
theorem St.alloc {w W : World} {bl : List Bk} {ps : List PrD} (h : St w W bl ps) (cs : Array Value) (t : TypeId) (ht : t ≠ 3) : St w (W.alloc (.cells cs t)) ((W.heap.size, cs, t) :: bl) ps := h.box rfl (blk_new W _) (below_alloc (Below.refl _ _) _) ht
theorem St.drew {w W : World} {bl : List Bk} {ps : List PrD} (h : St w W bl ps) : St w W.drew bl ps := h.step (below_drew (Below.refl _ _))
theorem St.drewN {w W : World} {bl : List Bk} {ps : List PrD} (h : St w W bl ps) (n : Nat) : St w (W.drewN n) bl ps := h.step (pw_below_drewN (Below.refl _ _) n)
theorem St.put {w W w1 : World} {bl : List Bk} {ps : List PrD} (h : St w W bl ps) (i : Nat) {g : Nat} {cs cs1 : Array Value} {t : TypeId} (hi : bl[i]? = some (g, cs, t)) (hs : w1.heap[g]? = some (.cells cs1 t (0, 0))) (hk : But1 g W w1) : St w w1 (bl.set i (g, cs1, t)) ps := by
  obtain ⟨hlt, hie⟩ := List.getElem?_eq_some_iff.1 hi
  have hm : (g, cs, t) ∈ bl := List.mem_of_getElem? hi
  have hg := h.blk _ hm
  have hnod := List.pairwise_iff_getElem.1 h.nod
  have hoth : ∀ (j : Nat) (hj : j < bl.length), j ≠ i → (bl[j]).1 ≠ g := fun j hj hne => by
    rcases Nat.lt_or_gt_of_ne hne with hl | hl
    · have := hnod j i hj hlt hl; rw [hie] at this; exact this
    · have := hnod i j hlt hj hl; rw [hie] at this; exact fun e => this e.symm
  refine ⟨h.below.trans (hk.below _ hg.2.1), fun p hp => ?_, ?_, fun d hd => ⟨?_, (h.pr d hd).2.1, ?_⟩, h.far⟩
  · obtain ⟨j, hj, e⟩ := List.getElem_of_mem hp
    rw [List.length_set] at hj
    rw [List.getElem_set] at e
    split at e
    · subst e; exact ⟨hs, hg.2⟩
    · rename_i hne
      have hp' := h.blk p (e ▸ List.getElem_mem hj)
      exact ⟨hk.blk hp'.1 (e ▸ hoth j hj (fun e => hne e.symm)), hp'.2⟩
  · refine List.pairwise_iff_getElem.2 fun a b ha hb hab => ?_
    rw [List.length_set] at ha hb
    rw [List.getElem_set, List.getElem_set]
    split
    · rename_i e1
      split
      · rename_i e2; omega
      · rename_i e2; exact fun e => hoth b hb (fun e => e2 e.symm) e.symm
    · rename_i e1
      split
      · exact hoth a ha (fun e => e1 e.symm)
      · exact hnod a b ha hb hab
  · exact ⟨hk.row (h.pr d hd).1.1 hg.1 (fun e => hg.2.2 e.symm), hk.row (h.pr d hd).1.2 hg.1 (fun e => hg.2.2 e.symm)⟩
  · exact Nat.le_trans (h.pr d hd).2.2 (hk.below _ hg.2.1).size
theorem Pr.ne {W : World} {d : PrD} (h : Pr W d) : ∀ k, some k = d.v1.ownBlock → ¬ some k = d.v2.ownBlock := fun k hk => (h.1.1 k hk.symm).2
theorem Pr.in1 {W : World} {d : PrD} (h : Pr W d) : ∀ k, some k = d.v1.ownBlock → d.lo ≤ k ∧ k < d.hi := fun k hk => ⟨Kd.R_base h.1 k hk.symm, (h.1.1 k hk.symm).1⟩
theorem Pr.in2 {W : World} {d : PrD} (h : Pr W d) : ∀ k, some k = d.v2.ownBlock → d.lo ≤ k ∧ k < d.hi := fun k hk => ⟨Kd.R_base h.2 k hk.symm, (h.2.1 k hk.symm).1⟩
theorem St.add {w W W' : World} {bl : List Bk} {ps : List PrD} (h : St w W bl ps) (hb : Below W.heap.size W W') {B : Nat} (hle : W.heap.size ≤ B) {v1 v2 : Value} {l1 l2 : List Int} {ok2 : Nat → Prop}
    (R1 : Kd.R (Kd.int .i64) 3 W' B (fun k => some k ≠ v2.ownBlock) v1 l1) (R2 : Kd.R (Kd.int .i64) 3 W' B ok2 v2 l2) : St w W' bl (⟨W.heap.size, W'.heap.size, v1, v2, l1, l2⟩ :: ps) := by
  have h' := h.step hb
  refine ⟨h'.below, h'.blk, h'.nod, fun d hd => ?_, .cons (fun d hd => (h.pr d hd).2.2) h.far⟩
  rcases List.mem_cons.1 hd with rfl | hd
  · refine ⟨⟨Kd.R_reok rfl (Kd.R_lower R1 hle) (fun k hk => ⟨Kd.R_lt R1 k hk, R1.1 k hk⟩), Kd.R_reok rfl (Kd.R_lower R2 hle) (fun k hk => ⟨Kd.R_lt R2 k hk, fun e => R1.1 k e.symm hk.symm⟩)⟩, h.below.size, Nat.le_refl _⟩
  · exact h'.pr d hd
theorem St.prAt {w W : World} {bl : List Bk} {ps : List PrD} (h : St w W bl ps) {d : PrD} (hd : d ∈ ps) : Pr W d := (h.pr d hd).1
theorem St.idx {w W : World} {bl : List Bk} {ps : List PrD} (h : St w W bl ps) (i : Nat) {g : Nat} {cs : Array Value} {t : TypeId} (hi : bl[i]? = some (g, cs, t)) : W.heap[g]? = some (.cells cs t (0, 0)) := (h.blk _ (List.mem_of_getElem? hi)).1
theorem St.nth {w W : World} {bl : List Bk} {ps : List PrD} (h : St w W bl ps) (j : Nat) {d : PrD} (hj : ps[j]? = some d) : Pr W d := h.prAt (List.mem_of_getElem? hj)
theorem St.sub {w W : World} {bl : List Bk} {ps ps' : List PrD} (h : St w W bl ps) (hs : ps'.Sublist ps) : St w W bl ps' := ⟨h.below, h.blk, h.nod, fun d hd => h.pr d (hs.subset hd), h.far.sublist hs⟩
theorem Pr.c1 {W : World} {lo hi n c : Nat} {A : Option Addr} {v2 : Value} {l1 l2 : List Int} (h : Pr W ⟨lo, hi, .slice A n c, v2, l1, l2⟩) : n = l1.length ∧ Kd.C (Kd.int .i64) W A l1.length l1 ∧ l1.length ≤ c :=
  by obtain ⟨e, k, c⟩ := Kd.R_reads' h.1; exact ⟨e, c, e ▸ k⟩
theorem Pr.c2 {W : World} {lo hi n c : Nat} {A : Option Addr} {v1 : Value} {l1 l2 : List Int} (h : Pr W ⟨lo, hi, v1, .slice A n c, l1, l2⟩) : n = l2.length ∧ Kd.C (Kd.int .i64) W A l2.length l2 ∧ l2.length ≤ c :=
  by obtain ⟨e, k, c⟩ := Kd.R_reads' h.2; exact ⟨e, c, e ▸ k⟩
theorem St.mark {w W W' : World} {bl : List Bk} {ps : List PrD} (h : St w W bl ps) (i : Nat) {d : PrD} (hi : ps[i]? = some d) {m1 m2 : List Int} {ok1 ok2 : Nat → Prop} (hk : Kept W W' (fun k => some k = d.v1.ownBlock ∨ some k = d.v2.ownBlock))
    (R1 : Kd.R (Kd.int .i64) 3 W' w.heap.size ok1 d.v1 m1) (R2 : Kd.R (Kd.int .i64) 3 W' w.heap.size ok2 d.v2 m2) (hb : Below w.heap.size w W') : St w W' bl (ps.set i ⟨d.lo, d.hi, d.v1, d.v2, m1, m2⟩) := by
  obtain ⟨hlt, hie⟩ := List.getElem?_eq_some_iff.1 hi
  have hd : d ∈ ps := List.mem_of_getElem? hi
  have hp := h.pr d hd
  have hfar := List.pairwise_iff_getElem.1 h.far
  have hin : ∀ k, (some k = d.v1.ownBlock ∨ some k = d.v2.ownBlock) → d.lo ≤ k ∧ k < d.hi := fun k hk => by
    rcases hk with hk | hk
    · exact hp.1.in1 k hk
    · exact hp.1.in2 k hk
  refine ⟨hb, fun p hp' => ⟨?_, (h.blk p hp').2⟩, h.nod, fun e he => ?_, ?_⟩
  · refine blk_kept (h.blk p hp').1 hk fun hs => ?_
    have hb' := (h.blk p hp').1
    rcases hs with hs | hs
    · obtain ⟨cells, hc⟩ := own_typed (Kd.own_of_R hp.1.1) p.1 hs.symm
      rw [hc] at hb'; injection hb' with hb'; injection hb' with _ hb'; exact (h.blk p hp').2.2 hb'.symm
    · obtain ⟨cells, hc⟩ := own_typed (Kd.own_of_R hp.1.2) p.1 hs.symm
      rw [hc] at hb'; injection hb' with hb'; injection hb' with _ hb'; exact (h.blk p hp').2.2 hb'.symm
  · obtain ⟨j, hj, ej⟩ := List.getElem_of_mem he
    rw [List.length_set] at hj
    rw [List.getElem_set] at ej
    split at ej
    · subst ej
      refine ⟨⟨?_, ?_⟩, hp.2.1, Nat.le_trans hp.2.2 hk.1⟩
      · exact Kd.R_of_own (Kd.own_raise (Kd.own_of_R R1) (fun k hk => (hp.1.in1 k hk.symm).1)) (fun k hk => ⟨(hp.1.in1 k hk.symm).2, hp.1.ne k hk.symm⟩)
      · exact Kd.R_of_own (Kd.own_raise (Kd.own_of_R R2) (fun k hk => (hp.1.in2 k hk.symm).1)) (fun k hk => ⟨(hp.1.in2 k hk.symm).2, fun e => hp.1.ne k e hk.symm⟩)
    · rename_i hne
      have he' : e ∈ ps := ej ▸ List.getElem_mem hj
      have hq := h.pr e he'
      have hdis : ∀ k, e.lo ≤ k → k < e.hi → ¬ (some k = d.v1.ownBlock ∨ some k = d.v2.ownBlock) := fun k h1 h2 hs => by
        have h3 := hin k hs
        rcases Nat.lt_or_gt_of_ne hne with hl | hl
        · have := hfar i j hlt hj hl; rw [hie, ej] at this; omega
        · have := hfar j i hj hlt hl; rw [hie, ej] at this; omega
      refine ⟨⟨?_, ?_⟩, hq.2.1, Nat.le_trans hq.2.2 hk.1⟩
      · exact Kd.R_mono (Kd.R_step (Kd.R_bound hq.1.1) (fun k hok hlt' => hk.2 k hlt' (hdis k hok.2.1 hok.1.1))) (fun k hok => hok.1)
      · exact Kd.R_mono (Kd.R_step (Kd.R_bound hq.1.2) (fun k hok hlt' => hk.2 k hlt' (hdis k hok.2.1 hok.1.1))) (fun k hok => hok.1)
  · refine List.pairwise_iff_getElem.2 fun a b ha hb' hab => ?_
    rw [List.length_set] at ha hb'
    have hab' := hfar a b ha hb' hab
    have ea : ((ps.set i ⟨d.lo, d.hi, d.v1, d.v2, m1, m2⟩)[a]'(by rw [List.length_set]; exact ha)).lo = (ps[a]).lo := by
      rw [List.getElem_set]; split
      · rename_i e; subst e; rw [hie]
      · rfl
    have eb : ((ps.set i ⟨d.lo, d.hi, d.v1, d.v2, m1, m2⟩)[b]'(by rw [List.length_set]; exact hb')).hi = (ps[b]).hi := by
      rw [List.getElem_set]; split
      · rename_i e; subst e; rw [hie]
      · rfl
    rw [ea, eb]; exact hab'
theorem cells3 {W : World} {g : Nat} {t : TypeId} {x y z : Value} (h : W.heap[g]? = some (.cells #[x, y, z] t (0, 0))) : W.cell? ⟨g, 0, none⟩ = some x ∧ W.cell? ⟨g, 1, none⟩ = some y ∧ W.cell? ⟨g, 2, none⟩ = some z :=
  ⟨(blk_cell h 0).trans rfl, (blk_cell h 1).trans rfl, (blk_cell h 2).trans rfl⟩
theorem St.cells2 {w W : World} {bl : List Bk} {ps : List PrD} {g1 g2 : Nat} {x1 y1 z1 x2 y2 z2 : Value} {t1 t2 : TypeId} (h : St w W bl ps) (m1 : (g1, #[x1, y1, z1], t1) ∈ bl) (m2 : (g2, #[x2, y2, z2], t2) ∈ bl) :
    W.cell? ⟨g1, 0, none⟩ = some x1 ∧ W.cell? ⟨g1, 1, none⟩ = some y1 ∧ W.cell? ⟨g1, 2, none⟩ = some z1 ∧ W.cell? ⟨g2, 0, none⟩ = some x2 ∧ W.cell? ⟨g2, 1, none⟩ = some y2 ∧ W.cell? ⟨g2, 2, none⟩ = some z2 :=
  ⟨(cells3 (h.at m1)).1, (cells3 (h.at m1)).2.1, (cells3 (h.at m1)).2.2, cells3 (h.at m2)⟩
theorem But1.set3 {W : World} {g : Nat} (x y z : Value) : But1 g W (((W.setCell ⟨g, 0, none⟩ x).setCell ⟨g, 1, none⟩ y).setCell ⟨g, 2, none⟩ z) :=
  ⟨fun k hk => (Below.heap_setCell _ _ _ k hk).trans ((Below.heap_setCell _ _ _ k hk).trans (Below.heap_setCell _ _ _ k hk)), fun B hB => (((Below.refl B W).setCell (p := ⟨g, 0, none⟩) hB x).setCell (p := ⟨g, 1, none⟩) hB y).setCell (p := ⟨g, 2, none⟩) hB z⟩
theorem St.set3 {w W : World} {bl : List Bk} {ps : List PrD} {g : Nat} {a b c : Value} {t : TypeId} (h : St w W ((g, #[a, b, c], t) :: bl) ps) (x y z : Value) :
    St w (((W.setCell ⟨g, 0, none⟩ x).setCell ⟨g, 1, none⟩ y).setCell ⟨g, 2, none⟩ z) ((g, #[x, y, z], t) :: bl) ps := by
  have s := blk_set (blk_set (blk_set (h.at (g := g) (cs := #[a, b, c]) (t := t) List.mem_cons_self) 0 x) 1 y) 2 z
  exact h.put 0 rfl (by simpa using s) (But1.set3 x y z)
/-- What a call that gives an array and a code leaves, its answer laid in a box. -/
def Got (w : World) (bl : List Bk) (ps : List PrD) (t : TypeId) (b : Bool) (l1 l2 : List Int) (cd : Int) (v6 v7 : Value) (W : World) : Prop :=
  ∃ g A1 c1 A2 c2 lo hi, v6 = .pointer (some ⟨g, 0, none⟩) ∧ v7 = .int .i64 cd ∧ St w W ((g, #[.bool b, .slice A1 l1.length c1, .slice A2 l2.length c2], t) :: bl) (⟨lo, hi, .slice A1 l1.length c1, .slice A2 l2.length c2, l1, l2⟩ :: ps)
theorem gotA {w W : World} {bl : List Bk} {ps ps' : List PrD} {t : TypeId} {b : Bool} {l1 l2 : List Int} {cd : Int} {A1 A2 : Option Addr} {c1 c2 lo hi : Nat} (h : St w W bl (⟨lo, hi, .slice A1 l1.length c1, .slice A2 l2.length c2, l1, l2⟩ :: ps')) (hs : ps.Sublist ps') (ht : t ≠ 3) :
    Got w bl ps t b l1 l2 cd (.pointer (some ⟨W.heap.size, 0, none⟩)) (.int .i64 cd) (W.alloc (.cells #[.bool b, .slice A1 l1.length c1, .slice A2 l2.length c2] t)) :=
  ⟨_, A1, c1, A2, c2, lo, hi, rfl, rfl, (h.alloc _ t ht).sub (hs.cons_cons _)⟩
theorem gotB {w W : World} {bl : List Bk} {ps ps' : List PrD} {t : TypeId} {b : Bool} {l1 l2 : List Int} {cd : Int} {A1 A2 : Option Addr} {c1 c2 lo hi g : Nat} {x y z : Value} (h : St w W ((g, #[x, y, z], t) :: bl) (⟨lo, hi, .slice A1 l1.length c1, .slice A2 l2.length c2, l1, l2⟩ :: ps')) (hs : ps.Sublist ps') :
    Got w bl ps t b l1 l2 cd (.pointer (some ⟨g, 0, none⟩)) (.int .i64 cd) (((W.setCell ⟨g, 0, none⟩ (.bool b)).setCell ⟨g, 1, none⟩ (.slice A1 l1.length c1)).setCell ⟨g, 2, none⟩ (.slice A2 l2.length c2)) :=
  ⟨g, A1, c1, A2, c2, lo, hi, rfl, rfl, (h.set3 _ _ _).sub (hs.cons_cons _)⟩
theorem Got.drew {w W : World} {bl : List Bk} {ps : List PrD} {t : TypeId} {b : Bool} {l1 l2 : List Int} {cd : Int} {v6 v7 : Value} (h : Got w bl ps t b l1 l2 cd v6 v7 W) : Got w bl ps t b l1 l2 cd v6 v7 W.drew := by
  obtain ⟨g, A1, c1, A2, c2, lo, hi, e1, e2, hs⟩ := h
  exact ⟨g, A1, c1, A2, c2, lo, hi, e1, e2, hs.drew⟩
/-- A pair that is marked: what the law's function asks. -/
theorem St.ready {w W : World} {bl : List Bk} {ps : List PrD} (h : St w W bl ps) {d : PrD} (hd : d ∈ ps) :
    Kd.R (Kd.int .i64) 3 W w.heap.size (fun k => some k = d.v1.ownBlock) d.v1 d.l1 ∧ (∀ k, some k = d.v1.ownBlock → ¬ some k = d.v2.ownBlock) ∧ Kd.R (Kd.int .i64) 3 W w.heap.size (fun k => some k = d.v2.ownBlock) d.v2 d.l2 ∧ (∀ k, some k = d.v2.ownBlock → ¬ some k = d.v1.ownBlock) :=
  ⟨Kd.R_tight rfl (Kd.R_lower (h.prAt hd).1 (h.pr d hd).2.1), (h.prAt hd).ne, Kd.R_tight rfl (Kd.R_lower (h.prAt hd).2 (h.pr d hd).2.1), fun k h2 h1 => (h.prAt hd).ne k h1 h2⟩
theorem St.ready' {w W : World} {bl : List Bk} {ps : List PrD} (h : St w W bl ps) (j : Nat) {d : PrD} (hj : ps[j]? = some d) :
    Kd.R (Kd.int .i64) 3 W w.heap.size (fun k => some k = d.v1.ownBlock) d.v1 d.l1 ∧ (∀ k, some k = d.v1.ownBlock → ¬ some k = d.v2.ownBlock) ∧ Kd.R (Kd.int .i64) 3 W w.heap.size (fun k => some k = d.v2.ownBlock) d.v2 d.l2 ∧ (∀ k, some k = d.v2.ownBlock → ¬ some k = d.v1.ownBlock) := h.ready (List.mem_of_getElem? hj)
/-- 'held' at rows whose lengths are written another way. -/
theorem held_n (k : Nat) (b : Bool) (A1 A2 : Option Addr) (n1 n2 c1 c2 : Nat) (l1 l2 : List Int) (a r : Int) (w : World) (e1 : n1 = l1.length) (e2 : n2 = l2.length) (h1 : Kd.C (Kd.int .i64) w A1 l1.length l1) (k1 : l1.length ≤ c1) (h2 : Kd.C (Kd.int .i64) w A2 l2.length l2) (k2 : l2.length ≤ c2)
    (h : laws_heldArray.f k b l1 l2 a = some r) : Calls Try.prog 25 #[.agg #[.bool b, .slice A1 n1 c1, .slice A2 n2 c2], .int .i64 a] w fun e w' => e = .returned (.int .i64 r) ∧ Below w.heap.size w w' := by
  subst e1 e2
  exact laws_heldArray.calls k b A1 c1 l1 A2 c2 l2 a r w h1 k1 h2 k2 h
end Go.Proofs.Ytehfcnndjhjkoaa.PA
