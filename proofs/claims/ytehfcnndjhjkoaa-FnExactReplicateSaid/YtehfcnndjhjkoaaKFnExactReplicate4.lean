import Derived.Test.YtehfcnndjhjkoaaKFnExactReplicate3
import Derived.Deep.CutRange

namespace Go.Proofs.Ytehfcnndjhjkoaa.PA
open Go.RowKit Go.Proofs.YtehfcnndjhjkoaaW.PrintWords Go.Proofs.YtehfcnndjhjkoaaW.PrintLast Go.Proofs.YtehfcnndjhjkoaaW.PrintMore
set_option linter.unusedVariables false
set_option linter.unusedSimpArgs false

def repF (src : List Int) (t : Nat) (k : Nat) (i : Int) : Int := if k = t then rd src i else i
theorem rep_far (k i : Int) (t : Nat) (g8 g4 : Nat) (hk : k ≠ (t : Int)) (W : World) (h8 : W.heap[g8]? = some (.cells #[.int .i64 (t : Int)] 3 (0, 0))) :
    Calls Try.prog 106 #[.int .i64 k, .int .i64 i, .pointer (some ⟨g8, 0, none⟩), .pointer (some ⟨g4, 0, none⟩)] W fun e w' => e = .returned (.int .i64 i) ∧ ∃ q, w' = W.drewN q := by
  have c0 : (k == (t : Int)) = false := beq_eq_false_iff_ne.mpr hk
  have c1 : ¬ k = (t : Int) := hk
  have x8 : W.cell? ⟨g8, 0, none⟩ = some (.int .i64 (t : Int)) := (blk_cell h8 0).trans rfl
  clear h8 hk
  go_enter Try.func106, Try.ntmps106
  go_wp2
  go_ret
  exact ⟨rfl, 0, rfl⟩
theorem rep_near (i : Int) (t : Nat) (g8 g4 : Nat) (A : Option Addr) (c : Nat) (src : List Int) (W : World) (h8 : W.heap[g8]? = some (.cells #[.int .i64 (t : Int)] 3 (0, 0)))
    (h4 : W.heap[g4]? = some (.cells #[.slice A src.length c] 22 (0, 0))) (hc : Kd.C (Kd.int .i64) W A src.length src) (i0 : 0 ≤ i) (i1 : i < (src.length : Int)) :
    Calls Try.prog 106 #[.int .i64 (t : Int), .int .i64 i, .pointer (some ⟨g8, 0, none⟩), .pointer (some ⟨g4, 0, none⟩)] W fun e w' => e = .returned (.int .i64 (rd src i)) ∧ ∃ q, w' = W.drewN q := by
  have x8 : W.cell? ⟨g8, 0, none⟩ = some (.int .i64 (t : Int)) := (blk_cell h8 0).trans rfl
  have x4 : W.cell? ⟨g4, 0, none⟩ = some (.slice A src.length c) := (blk_cell h4 0).trans rfl
  obtain ⟨ad1, rfl, y1⟩ := Kd.at_int hc i i0 i1
  obtain ⟨n, hn⟩ : ∃ n, rd src i = n := ⟨_, rfl⟩
  rw [hn] at y1 ⊢
  clear h8 h4 hc hn
  go_enter Try.func106, Try.ntmps106
  go_wp2
  go_ret
  exact ⟨rfl, 0, rfl⟩
theorem rep_gives (t : Nat) (g8 g4 : Nat) (A : Option Addr) (c : Nat) (src : List Int) (S : List Int) (hS : rd S (t : Int) = (src.length : Int)) (W : World) (h8 : W.heap[g8]? = some (.cells #[.int .i64 (t : Int)] 3 (0, 0)))
    (h4 : W.heap[g4]? = some (.cells #[.slice A src.length c] 22 (0, 0))) (hc : Kd.C (Kd.int .i64) W A src.length src) :
    Gives2 106 #[.pointer (some ⟨g8, 0, none⟩), .pointer (some ⟨g4, 0, none⟩)] (repF src t) S W := by
  intro W' k i hb hk i0 i1
  by_cases e : k = t
  · subst e
    have := rep_near i k g8 g4 A c src W' (blk_below h8 hb) (blk_below h4 hb) (Kd.C_below hc hb) i0 (by rw [hS] at i1; exact i1)
    unfold repF; rw [if_pos rfl]; exact this
  · have := rep_far (k : Int) i t g8 g4 (by omega) W' (blk_below h8 hb)
    unfold repF; rw [if_neg e]; exact this
theorem axis_n (n : Nat) (b : Bool) (A1 : Option Addr) (c1 : Nat) (l1 : List Int) (A2 : Option Addr) (c2 : Nat) (l2 : List Int) (As : Option Addr) (cs : Nat) (s : List Int) (hn : s.length = n) (g : Nat) (lb : Array Value) (f : Nat → Int → Int) (eg : ∀ args w, (callFunc g args).run Try.prog w = .ok (.enter g args) w) (w : World)
    (h1 : Kd.C (Kd.int .i64) w A1 l1.length l1) (k1 : l1.length ≤ c1) (hs : Kd.C (Kd.int .i64) w As s.length s) (ks : s.length ≤ cs) (hl : l1.length = s.length) (h5 : s.length ≤ 5) (hp : 0 ≤ prod s ∧ prod s ≤ 10000) (k : Nat) (hk : impl_shapeOk.f k s = some (prod s, true)) (hf : Gives2 g lb f s w) (hrg : ∀ (t : Nat), t < (prod s).toNat → ∀ k : Nat, k < s.length → 0 ≤ rd (idxL s t) (k : Int) ∧ rd (idxL s t) (k : Int) < rd s (k : Int)) :
    Calls Try.prog 105 #[.agg #[.bool b, .slice A1 l1.length c1, .slice A2 l2.length c2], .slice As n cs, .func (.func g) #[] lb] w fun e w' => ∃ v, e = .returned (.agg #[.slice As n cs, v]) ∧ Kd.R (Kd.int .i64) 3 w' w.heap.size (fun _ => True) v (fromL l1 s f (prod s).toNat) ∧ Below w.heap.size w w' := by
  subst hn
  exact callsIn_wide.1 (axis_in b A1 c1 l1 A2 c2 l2 As cs s g lb f eg w h1 k1 hs ks hl h5 hp k hk hf hrg)
theorem of_n (n : Nat) (k : Nat) (A0_0 : Option Addr) (c0_0 : Nat) (l0_0 : List Int) (A0_1 : Option Addr) (c0_1 : Nat) (l0_1 : List Int) (a1_0 : Bool) (A1_1 : Option Addr) (c1_1 : Nat) (l1_1 : List Int) (A1_2 : Option Addr) (c1_2 : Nat) (l1_2 : List Int) (r1 : Bool) (r2 : List Int) (r3 : List Int) (w : World) (hn : l0_0.length = n) (h1 : Kd.C (Kd.int .i64) w A0_0 l0_0.length l0_0) (k1 : l0_0.length ≤ c0_0) (h2 : Kd.C (Kd.int .i64) w A0_1 l0_1.length l0_1) (k2 : l0_1.length ≤ c0_1) (h3 : Kd.C (Kd.int .i64) w A1_1 l1_1.length l1_1) (k3 : l1_1.length ≤ c1_1) (h4 : Kd.C (Kd.int .i64) w A1_2 l1_2.length l1_2) (k4 : l1_2.length ≤ c1_2) (h : impl_move_of.f k l0_0 l0_1 a1_0 l1_1 l1_2 = some (r1, r2, r3)) :
    Calls Try.prog 107 #[.agg #[.slice A0_0 n c0_0, .slice A0_1 l0_1.length c0_1], .agg #[.bool a1_0, .slice A1_1 l1_1.length c1_1, .slice A1_2 l1_2.length c1_2]] w fun e w' => ∃ v1_ v2_ : Value, e = .returned (.agg #[.bool r1, v1_, v2_]) ∧ Kd.R (Kd.int .i64) 3 w' w.heap.size (fun k_ => some k_ ≠ (v2_ : Value).ownBlock) v1_ r2 ∧ Kd.R (Kd.int .i64) 3 w' w.heap.size (fun k_ => some k_ ≠ (v1_ : Value).ownBlock) v2_ r3 ∧ Below w.heap.size w w' := by
  subst hn
  exact impl_move_of.calls k A0_0 c0_0 l0_0 A0_1 c0_1 l0_1 a1_0 A1_1 c1_1 l1_1 A1_2 c1_2 l1_2 r1 r2 r3 w h1 k1 h2 k2 h3 k3 h4 k4 h
/-- What is known of a call of times. -/
def TimesOk (args : Array Value) (L : List Int) (cd : Int) (w : World) : Prop := ∀ W, Below w.heap.size w W → Calls Try.prog 103 args W fun e w' => ∃ A c, e = .returned (.tuple #[.slice A L.length c, .int .i64 cd]) ∧ Kd.C (Kd.int .i64) w' A L.length L ∧ L.length ≤ c ∧ Below W.heap.size W w'
theorem TimesOk.go {args : Array Value} {L : List Int} {cd : Int} {w : World} (h : TimesOk args L cd w) (W : World) (hb : Below w.heap.size w W) : Calls Try.prog 103 args W fun e w' => ∃ A c, e = .returned (.tuple #[.slice A L.length c, .int .i64 cd]) ∧ Kd.C (Kd.int .i64) w' A L.length L ∧ L.length ≤ c ∧ Below W.heap.size W w' := h W hb
/-- The number of elements, bounded. -/
def totU (L : List Int) : Nat → Int
  | 0 => 0
  | j + 1 => if 10001 < totU L j + rd L (j : Int) then 10001 else totU L j + rd L (j : Int)
theorem rd_memR (l : List Int) (i : Nat) (h : i < l.length) : rd l (i : Int) ∈ l := by
  simp only [rd, Int.toNat_natCast, List.getD_eq_getElem?_getD, List.getElem?_eq_getElem h, Option.getD_some]; exact List.getElem_mem h
theorem rep_enters : ∀ (args : Array Value) (w : World), (callFunc 106 args).run Try.prog w = .ok (.enter 106 args) w := enters_of Try.func106 (by kernel_rfl) rfl
def srcL (n : Nat) (L : List Int) : Nat → List Int
  | 0 => []
  | j + 1 => srcL n L j ++ List.replicate (rd L (j : Int)).toNat (if (n : Int) - 1 < (j : Int) then (n : Int) - 1 else (j : Int))
set_option maxHeartbeats 2000000 in
set_option maxRecDepth 100000 in
theorem rep_no (k0 : Nat) (a : Bool) (Aa1 : Option Addr) (ca1 : Nat) (la1 : List Int) (Aa2 : Option Addr) (ca2 : Nat) (la2 : List Int) (b : Bool) (Ab1 : Option Addr) (cb1 : Nat) (lb1 : List Int) (Ab2 : Option Addr) (cb2 : Nat) (lb2 : List Int) (first : Bool) (w : World) (ha1 : Kd.C (Kd.int .i64) w Aa1 la1.length la1) (ka1 : la1.length ≤ ca1) (ha2 : Kd.C (Kd.int .i64) w Aa2 la2.length la2) (ka2 : la2.length ≤ ca2) (hb1 : Kd.C (Kd.int .i64) w Ab1 lb1.length lb1) (kb1 : lb1.length ≤ cb1) (hb2 : Kd.C (Kd.int .i64) w Ab2 lb2.length lb2) (kb2 : lb2.length ≤ cb2) (v : Int) (hv : impl_valid.f k0 [⟨a, la1, la2⟩, ⟨b, lb1, lb2⟩] = some v) (hc0 : v ≠ 0) :
    Calls Try.prog 43 #[.agg #[.bool a, .slice Aa1 la1.length ca1, .slice Aa2 la2.length ca2], .agg #[.bool b, .slice Ab1 lb1.length cb1, .slice Ab2 lb2.length cb2], .bool first] w fun e w' => ∃ v1_ v2_ : Value, e = .returned (.tuple #[.agg #[.bool false, v1_, v2_], .int .i64 v]) ∧ Kd.R (Kd.int .i64) 3 w' w.heap.size (fun k_ => some k_ ≠ (v2_ : Value).ownBlock) v1_ [] ∧ Kd.R (Kd.int .i64) 3 w' w.heap.size (fun k_ => some k_ ≠ (v1_ : Value).ownBlock) v2_ [] ∧ Below w.heap.size w w' := by
  have Ha1 := Aside0.mk ha1
  have Ka1 := Aside0.mk ka1
  clear ha1 ka1
  have Ha2 := Aside0.mk ha2
  have Ka2 := Aside0.mk ka2
  clear ha2 ka2
  have Hb1 := Aside0.mk hb1
  have Kb1 := Aside0.mk kb1
  clear hb1 kb1
  have Hb2 := Aside0.mk hb2
  have Kb2 := Aside0.mk kb2
  clear hb2 kb2
  have HV := Aside0.mk hv
  clear hv
  have c0 : (v == 0) = false := beq_eq_false_iff_ne.mpr hc0
  have c1 : (v != 0) = true := bne_iff_ne.mpr hc0
  clear hc0
  have HS := Aside0.mk (Sx.start w)
  go_enter Try.func43, Try.ntmps43
  go_wp2_with (first | ((with_reducible refine gate_dst (N := 3) rfl ?_); refine box_event ?hg (N := 3) ?hd (cs := #[.bool a, .slice Aa1 la1.length ca1, .slice Aa2 la2.length ca2]) (t := 28) ?hr ?_; (case hd => rfl); (case hg => rfl); (case hr => first | (go_simp; done) | (go_simp; rfl)); intro gK hg1 w1 hx1 hb1; have nS : Aside0 (Sx w w1 [(.blk gK #[.bool a, .slice Aa1 la1.length ca1, .slice Aa2 la2.length ca2] 28)]) := Aside0.mk (HS.out.box hg1 hx1 hb1); clear HS; have HS := nS; clear nS hg1 hx1 hb1) | ((with_reducible refine gate_dst (N := 4) rfl ?_); refine box_event ?hg (N := 4) ?hd (cs := #[.bool b, .slice Ab1 lb1.length cb1, .slice Ab2 lb2.length cb2]) (t := 28) ?hr ?_; (case hd => rfl); (case hg => rfl); (case hr => first | (go_simp; done) | (go_simp; rfl)); intro gB hg2 w2 hx2 hb2; have nS : Aside0 (Sx w w2 [(.blk gB #[.bool b, .slice Ab1 lb1.length cb1, .slice Ab2 lb2.length cb2] 28), (.blk gK #[.bool a, .slice Aa1 la1.length ca1, .slice Aa2 la2.length ca2] 28)]) := Aside0.mk (HS.out.box hg2 hx2 hb2); clear HS; have HS := nS; clear nS hg2 hx2 hb2) | ((with_reducible refine gate_dst (N := 6) rfl ?_); refine box_event ?hg (N := 6) ?hd (cs := #[.bool false, .slice none 0 0, .slice none 0 0]) (t := 28) ?hr ?_; (case hd => rfl); (case hg => rfl); (case hr => first | (go_simp; done) | (go_simp; rfl)); intro gR hg3 w3 hx3 hb3; have nS : Aside0 (Sx w w3 [(.blk gR #[.bool false, .slice none 0 0, .slice none 0 0] 28), (.blk gB #[.bool b, .slice Ab1 lb1.length cb1, .slice Ab2 lb2.length cb2] 28), (.blk gK #[.bool a, .slice Aa1 la1.length ca1, .slice Aa2 la2.length ca2] 28)]) := Aside0.mk (HS.out.box hg3 hx3 hb3); clear HS; have HS := nS; clear nS hg3 hx3 hb3) | ((with_reducible refine gate_dst (N := 23) rfl ?_); refine wpList_load_row rfl 28 (.tmp 3) rfl gK rfl 28 #[.bool a, .slice Aa1 la1.length ca1, .slice Aa2 la2.length ca2] (0, 0) _ (HS.out.blk 2 rfl) Try.underlying28 rfl (by kernel_rfl) ?_) | ((with_reducible refine gate_dst (N := 24) rfl ?_); refine wpList_load_row rfl 28 (.tmp 4) rfl gB rfl 28 #[.bool b, .slice Ab1 lb1.length cb1, .slice Ab2 lb2.length cb2] (0, 0) _ (HS.out.blk 1 rfl) Try.underlying28 rfl (by kernel_rfl) ?_) | ((with_reducible refine gate_dst (N := 25) rfl ?_); refine lit_event ?hg (N := 25) ?hd (cs := #[.bool a, .slice Aa1 la1.length ca1, .slice Aa2 la2.length ca2, .bool b, .slice Ab1 lb1.length cb1, .slice Ab2 lb2.length cb2]) (t := 28) (n := 2) ?hr ?_; (case hd => rfl); (case hg => rfl); (case hr => first | (go_simp; done) | (go_simp; rfl)); intro gV hg4 w4 hx4 hb4; have nS : Aside0 (Sx w w4 [(.blk gV #[.bool a, .slice Aa1 la1.length ca1, .slice Aa2 la2.length ca2, .bool b, .slice Ab1 lb1.length cb1, .slice Ab2 lb2.length cb2] 28), (.blk gR #[.bool false, .slice none 0 0, .slice none 0 0] 28), (.blk gB #[.bool b, .slice Ab1 lb1.length cb1, .slice Ab2 lb2.length cb2] 28), (.blk gK #[.bool a, .slice Aa1 la1.length ca1, .slice Aa2 la2.length ca2] 28)]) := Aside0.mk (HS.out.box hg4 hx4 hb4); clear HS; have HS := nS; clear nS hg4 hx4 hb4) | (go_at_call 58; refine (impl_valid.calls k0 _ 2 [⟨a, la1, la2⟩, ⟨b, lb1, lb2⟩] v _ (pair_C (HS.out.blk 0 rfl) (Kd.C_below Ha1.out HS.out.below) Ka1.out (Kd.C_below Ha2.out HS.out.below) Ka2.out (Kd.C_below Hb1.out HS.out.below) Kb1.out (Kd.C_below Hb2.out HS.out.below) Kb2.out) (Nat.le_refl _) HV.out).mono ?_; rintro e w5 ⟨rfl, hb5⟩; have nS : Aside0 (Sx w w5 [(.blk gV #[.bool a, .slice Aa1 la1.length ca1, .slice Aa2 la2.length ca2, .bool b, .slice Ab1 lb1.length cb1, .slice Ab2 lb2.length cb2] 28), (.blk gR #[.bool false, .slice none 0 0, .slice none 0 0] 28), (.blk gB #[.bool b, .slice Ab1 lb1.length cb1, .slice Ab2 lb2.length cb2] 28), (.blk gK #[.bool a, .slice Aa1 la1.length ca1, .slice Aa2 la2.length ca2] 28)]) := Aside0.mk (HS.out.step hb5); clear HS; have HS := nS; clear nS hb5) | ((with_reducible refine gate_store rfl ?_); refine store_named rfl 28 (.tmp 6) (.tmp 29) rfl gR #[.bool false, .slice none 0 0, .slice none 0 0] rfl rfl 28 #[.bool false, .slice none 0 0, .slice none 0 0] (HS.out.blk 1 rfl) (by kernel_rfl) rfl (by simp [Value.oneCell']) ?_; intro w6 hx6 hb6; have nS : Aside0 (Sx w w6 [(.blk gV #[.bool a, .slice Aa1 la1.length ca1, .slice Aa2 la2.length ca2, .bool b, .slice Ab1 lb1.length cb1, .slice Ab2 lb2.length cb2] 28), (.blk gR #[.bool false, .slice none 0 0, .slice none 0 0] 28), (.blk gB #[.bool b, .slice Ab1 lb1.length cb1, .slice Ab2 lb2.length cb2] 28), (.blk gK #[.bool a, .slice Aa1 la1.length ca1, .slice Aa2 la2.length ca2] 28)]) := Aside0.mk (HS.out.put 1 rfl hx6 hb6); clear HS; have HS := nS; clear nS hx6 hb6))
  refine bodyPost_ret (results_ct rfl _ _ gR 28 #[.bool false, .slice none 0 0, .slice none 0 0] (0, 0) _ rfl (HS.out.blk 1 rfl) Try.underlying28 rfl (by kernel_rfl)) rfl ?_
  exact ⟨_, _, rfl, Kd.R_nil _ _ _ _ _, Kd.R_nil _ _ _ _ _, HS.out.below⟩
set_option maxHeartbeats 2000000 in
set_option maxRecDepth 100000 in
theorem rep_list (k0 : Nat) (a : Bool) (Aa1 : Option Addr) (ca1 : Nat) (la1 : List Int) (Aa2 : Option Addr) (ca2 : Nat) (la2 : List Int) (b : Bool) (Ab1 : Option Addr) (cb1 : Nat) (lb1 : List Int) (Ab2 : Option Addr) (cb2 : Nat) (lb2 : List Int) (first : Bool) (w : World) (ha1 : Kd.C (Kd.int .i64) w Aa1 la1.length la1) (ka1 : la1.length ≤ ca1) (ha2 : Kd.C (Kd.int .i64) w Aa2 la2.length la2) (ka2 : la2.length ≤ ca2) (hb1 : Kd.C (Kd.int .i64) w Ab1 lb1.length lb1) (kb1 : lb1.length ≤ cb1) (hb2 : Kd.C (Kd.int .i64) w Ab2 lb2.length lb2) (kb2 : lb2.length ≤ cb2) (hv : impl_valid.f k0 [⟨a, la1, la2⟩, ⟨b, lb1, lb2⟩] = some 0) (v : Int) (hlo : impl_listOk.f a la1 la2 = some v) (hc0 : v ≠ 0) :
    Calls Try.prog 43 #[.agg #[.bool a, .slice Aa1 la1.length ca1, .slice Aa2 la2.length ca2], .agg #[.bool b, .slice Ab1 lb1.length cb1, .slice Ab2 lb2.length cb2], .bool first] w fun e w' => ∃ v1_ v2_ : Value, e = .returned (.tuple #[.agg #[.bool false, v1_, v2_], .int .i64 v]) ∧ Kd.R (Kd.int .i64) 3 w' w.heap.size (fun k_ => some k_ ≠ (v2_ : Value).ownBlock) v1_ [] ∧ Kd.R (Kd.int .i64) 3 w' w.heap.size (fun k_ => some k_ ≠ (v1_ : Value).ownBlock) v2_ [] ∧ Below w.heap.size w w' := by
  have Ha1 := Aside0.mk ha1
  have Ka1 := Aside0.mk ka1
  clear ha1 ka1
  have Ha2 := Aside0.mk ha2
  have Ka2 := Aside0.mk ka2
  clear ha2 ka2
  have Hb1 := Aside0.mk hb1
  have Kb1 := Aside0.mk kb1
  clear hb1 kb1
  have Hb2 := Aside0.mk hb2
  have Kb2 := Aside0.mk kb2
  clear hb2 kb2
  have HV := Aside0.mk hv
  clear hv
  have HLO := Aside0.mk hlo
  clear hlo
  have c0 : (v == 0) = false := beq_eq_false_iff_ne.mpr hc0
  have c1 : (v != 0) = true := bne_iff_ne.mpr hc0
  clear hc0
  have HS := Aside0.mk (Sx.start w)
  go_enter Try.func43, Try.ntmps43
  go_wp2_with (first | ((with_reducible refine gate_dst (N := 3) rfl ?_); refine box_event ?hg (N := 3) ?hd (cs := #[.bool a, .slice Aa1 la1.length ca1, .slice Aa2 la2.length ca2]) (t := 28) ?hr ?_; (case hd => rfl); (case hg => rfl); (case hr => first | (go_simp; done) | (go_simp; rfl)); intro gK hg1 w1 hx1 hb1; have nS : Aside0 (Sx w w1 [(.blk gK #[.bool a, .slice Aa1 la1.length ca1, .slice Aa2 la2.length ca2] 28)]) := Aside0.mk (HS.out.box hg1 hx1 hb1); clear HS; have HS := nS; clear nS hg1 hx1 hb1) | ((with_reducible refine gate_dst (N := 4) rfl ?_); refine box_event ?hg (N := 4) ?hd (cs := #[.bool b, .slice Ab1 lb1.length cb1, .slice Ab2 lb2.length cb2]) (t := 28) ?hr ?_; (case hd => rfl); (case hg => rfl); (case hr => first | (go_simp; done) | (go_simp; rfl)); intro gB hg2 w2 hx2 hb2; have nS : Aside0 (Sx w w2 [(.blk gB #[.bool b, .slice Ab1 lb1.length cb1, .slice Ab2 lb2.length cb2] 28), (.blk gK #[.bool a, .slice Aa1 la1.length ca1, .slice Aa2 la2.length ca2] 28)]) := Aside0.mk (HS.out.box hg2 hx2 hb2); clear HS; have HS := nS; clear nS hg2 hx2 hb2) | ((with_reducible refine gate_dst (N := 6) rfl ?_); refine box_event ?hg (N := 6) ?hd (cs := #[.bool false, .slice none 0 0, .slice none 0 0]) (t := 28) ?hr ?_; (case hd => rfl); (case hg => rfl); (case hr => first | (go_simp; done) | (go_simp; rfl)); intro gR hg3 w3 hx3 hb3; have nS : Aside0 (Sx w w3 [(.blk gR #[.bool false, .slice none 0 0, .slice none 0 0] 28), (.blk gB #[.bool b, .slice Ab1 lb1.length cb1, .slice Ab2 lb2.length cb2] 28), (.blk gK #[.bool a, .slice Aa1 la1.length ca1, .slice Aa2 la2.length ca2] 28)]) := Aside0.mk (HS.out.box hg3 hx3 hb3); clear HS; have HS := nS; clear nS hg3 hx3 hb3) | ((with_reducible refine gate_dst (N := 23) rfl ?_); refine wpList_load_row rfl 28 (.tmp 3) rfl gK rfl 28 #[.bool a, .slice Aa1 la1.length ca1, .slice Aa2 la2.length ca2] (0, 0) _ (HS.out.blk 2 rfl) Try.underlying28 rfl (by kernel_rfl) ?_) | ((with_reducible refine gate_dst (N := 24) rfl ?_); refine wpList_load_row rfl 28 (.tmp 4) rfl gB rfl 28 #[.bool b, .slice Ab1 lb1.length cb1, .slice Ab2 lb2.length cb2] (0, 0) _ (HS.out.blk 1 rfl) Try.underlying28 rfl (by kernel_rfl) ?_) | ((with_reducible refine gate_dst (N := 25) rfl ?_); refine lit_event ?hg (N := 25) ?hd (cs := #[.bool a, .slice Aa1 la1.length ca1, .slice Aa2 la2.length ca2, .bool b, .slice Ab1 lb1.length cb1, .slice Ab2 lb2.length cb2]) (t := 28) (n := 2) ?hr ?_; (case hd => rfl); (case hg => rfl); (case hr => first | (go_simp; done) | (go_simp; rfl)); intro gV hg4 w4 hx4 hb4; have nS : Aside0 (Sx w w4 [(.blk gV #[.bool a, .slice Aa1 la1.length ca1, .slice Aa2 la2.length ca2, .bool b, .slice Ab1 lb1.length cb1, .slice Ab2 lb2.length cb2] 28), (.blk gR #[.bool false, .slice none 0 0, .slice none 0 0] 28), (.blk gB #[.bool b, .slice Ab1 lb1.length cb1, .slice Ab2 lb2.length cb2] 28), (.blk gK #[.bool a, .slice Aa1 la1.length ca1, .slice Aa2 la2.length ca2] 28)]) := Aside0.mk (HS.out.box hg4 hx4 hb4); clear HS; have HS := nS; clear nS hg4 hx4 hb4) | (go_at_call 58; refine (impl_valid.calls k0 _ 2 [⟨a, la1, la2⟩, ⟨b, lb1, lb2⟩] 0 _ (pair_C (HS.out.blk 0 rfl) (Kd.C_below Ha1.out HS.out.below) Ka1.out (Kd.C_below Ha2.out HS.out.below) Ka2.out (Kd.C_below Hb1.out HS.out.below) Kb1.out (Kd.C_below Hb2.out HS.out.below) Kb2.out) (Nat.le_refl _) HV.out).mono ?_; rintro e w5 ⟨rfl, hb5⟩; have nS : Aside0 (Sx w w5 [(.blk gV #[.bool a, .slice Aa1 la1.length ca1, .slice Aa2 la2.length ca2, .bool b, .slice Ab1 lb1.length cb1, .slice Ab2 lb2.length cb2] 28), (.blk gR #[.bool false, .slice none 0 0, .slice none 0 0] 28), (.blk gB #[.bool b, .slice Ab1 lb1.length cb1, .slice Ab2 lb2.length cb2] 28), (.blk gK #[.bool a, .slice Aa1 la1.length ca1, .slice Aa2 la2.length ca2] 28)]) := Aside0.mk (HS.out.step hb5); clear HS; have HS := nS; clear nS hb5) | ((with_reducible refine gate_dst (N := 31) rfl ?_); refine wpList_load_row rfl 28 (.tmp 3) rfl gK rfl 28 #[.bool a, .slice Aa1 la1.length ca1, .slice Aa2 la2.length ca2] (0, 0) _ (HS.out.blk 3 rfl) Try.underlying28 rfl (by kernel_rfl) ?_) | (go_at_call 99; refine (impl_listOk.calls a Aa1 ca1 la1 Aa2 ca2 la2 v _ (Kd.C_below Ha1.out HS.out.below) Ka1.out (Kd.C_below Ha2.out HS.out.below) Ka2.out HLO.out).mono ?_; rintro e w6 ⟨rfl, hb6⟩; have nS : Aside0 (Sx w w6 [(.blk gV #[.bool a, .slice Aa1 la1.length ca1, .slice Aa2 la2.length ca2, .bool b, .slice Ab1 lb1.length cb1, .slice Ab2 lb2.length cb2] 28), (.blk gR #[.bool false, .slice none 0 0, .slice none 0 0] 28), (.blk gB #[.bool b, .slice Ab1 lb1.length cb1, .slice Ab2 lb2.length cb2] 28), (.blk gK #[.bool a, .slice Aa1 la1.length ca1, .slice Aa2 la2.length ca2] 28)]) := Aside0.mk (HS.out.step hb6); clear HS; have HS := nS; clear nS hb6) | ((with_reducible refine gate_store rfl ?_); refine store_named rfl 28 (.tmp 6) (.tmp 35) rfl gR #[.bool false, .slice none 0 0, .slice none 0 0] rfl rfl 28 #[.bool false, .slice none 0 0, .slice none 0 0] (HS.out.blk 1 rfl) (by kernel_rfl) rfl (by simp [Value.oneCell']) ?_; intro w7 hx7 hb7; have nS : Aside0 (Sx w w7 [(.blk gV #[.bool a, .slice Aa1 la1.length ca1, .slice Aa2 la2.length ca2, .bool b, .slice Ab1 lb1.length cb1, .slice Ab2 lb2.length cb2] 28), (.blk gR #[.bool false, .slice none 0 0, .slice none 0 0] 28), (.blk gB #[.bool b, .slice Ab1 lb1.length cb1, .slice Ab2 lb2.length cb2] 28), (.blk gK #[.bool a, .slice Aa1 la1.length ca1, .slice Aa2 la2.length ca2] 28)]) := Aside0.mk (HS.out.put 1 rfl hx7 hb7); clear HS; have HS := nS; clear nS hx7 hb7))
  refine bodyPost_ret (results_ct rfl _ _ gR 28 #[.bool false, .slice none 0 0, .slice none 0 0] (0, 0) _ rfl (HS.out.blk 1 rfl) Try.underlying28 rfl (by kernel_rfl)) rfl ?_
  exact ⟨_, _, rfl, Kd.R_nil _ _ _ _ _, Kd.R_nil _ _ _ _ _, HS.out.below⟩
set_option maxHeartbeats 2000000 in
set_option maxRecDepth 100000 in
theorem rep_code (k0 : Nat) (a : Bool) (Aa1 : Option Addr) (ca1 : Nat) (la1 : List Int) (Aa2 : Option Addr) (ca2 : Nat) (la2 : List Int) (b : Bool) (Ab1 : Option Addr) (cb1 : Nat) (lb1 : List Int) (Ab2 : Option Addr) (cb2 : Nat) (lb2 : List Int) (first : Bool) (w : World) (ha1 : Kd.C (Kd.int .i64) w Aa1 la1.length la1) (ka1 : la1.length ≤ ca1) (ha2 : Kd.C (Kd.int .i64) w Aa2 la2.length la2) (ka2 : la2.length ≤ ca2) (hb1 : Kd.C (Kd.int .i64) w Ab1 lb1.length lb1) (kb1 : lb1.length ≤ cb1) (hb2 : Kd.C (Kd.int .i64) w Ab2 lb2.length lb2) (kb2 : lb2.length ≤ cb2) (hv : impl_valid.f k0 [⟨a, la1, la2⟩, ⟨b, lb1, lb2⟩] = some 0) (hlo : impl_listOk.f a la1 la2 = some 0) (L1 : List Int) (hL1 : L1 = if lb1.length = 0 then [(lb2.length : Int)] else lb1) (zq : Bool) (hzq : zq = decide (lb1.length = 0)) (t n : Nat) (htl : t < L1.length) (hfa : impl_firstAxis.f b L1 lb2 first = some (t : Int)) (hn : rd L1 (t : Int) = (n : Int)) (L : List Int) (cd : Int) (ht : TimesOk #[.agg #[.bool a, .slice Aa1 la1.length ca1, .slice Aa2 la2.length ca2], .int .i64 (n : Int)] L cd w) (hc0 : cd ≠ 0) :
    Calls Try.prog 43 #[.agg #[.bool a, .slice Aa1 la1.length ca1, .slice Aa2 la2.length ca2], .agg #[.bool b, .slice Ab1 lb1.length cb1, .slice Ab2 lb2.length cb2], .bool first] w fun e w' => ∃ v1_ v2_ : Value, e = .returned (.tuple #[.agg #[.bool false, v1_, v2_], .int .i64 cd]) ∧ Kd.R (Kd.int .i64) 3 w' w.heap.size (fun k_ => some k_ ≠ (v2_ : Value).ownBlock) v1_ [] ∧ Kd.R (Kd.int .i64) 3 w' w.heap.size (fun k_ => some k_ ≠ (v1_ : Value).ownBlock) v2_ [] ∧ Below w.heap.size w w' := by
  have Ha1 := Aside0.mk ha1
  have Ka1 := Aside0.mk ka1
  clear ha1 ka1
  have Ha2 := Aside0.mk ha2
  have Ka2 := Aside0.mk ka2
  clear ha2 ka2
  have Hb1 := Aside0.mk hb1
  have Kb1 := Aside0.mk kb1
  clear hb1 kb1
  have Hb2 := Aside0.mk hb2
  have Kb2 := Aside0.mk kb2
  clear hb2 kb2
  have HV := Aside0.mk hv
  clear hv
  have HLO := Aside0.mk hlo
  clear hlo
  have HL1 := Aside0.mk hL1
  have HZQ := Aside0.mk hzq
  have HTL := Aside0.mk htl
  have HFA := Aside0.mk hfa
  have HN := Aside0.mk hn
  have HT := Aside0.mk ht
  clear hL1 hzq htl hfa hn ht
  have c0 : (cd == 0) = false := beq_eq_false_iff_ne.mpr hc0
  have c1 : (cd != 0) = true := bne_iff_ne.mpr hc0
  clear hc0
  have HS := Aside0.mk (Sx.start w)
  go_enter Try.func43, Try.ntmps43
  go_upto_region 7 with (first | ((with_reducible refine gate_dst (N := 3) rfl ?_); refine box_event ?hg (N := 3) ?hd (cs := #[.bool a, .slice Aa1 la1.length ca1, .slice Aa2 la2.length ca2]) (t := 28) ?hr ?_; (case hd => rfl); (case hg => rfl); (case hr => first | (go_simp; done) | (go_simp; rfl)); intro gK hg1 w1 hx1 hb1; have nS : Aside0 (Sx w w1 [(.blk gK #[.bool a, .slice Aa1 la1.length ca1, .slice Aa2 la2.length ca2] 28)]) := Aside0.mk (HS.out.box hg1 hx1 hb1); clear HS; have HS := nS; clear nS hg1 hx1 hb1) | ((with_reducible refine gate_dst (N := 4) rfl ?_); refine box_event ?hg (N := 4) ?hd (cs := #[.bool b, .slice Ab1 lb1.length cb1, .slice Ab2 lb2.length cb2]) (t := 28) ?hr ?_; (case hd => rfl); (case hg => rfl); (case hr => first | (go_simp; done) | (go_simp; rfl)); intro gB hg2 w2 hx2 hb2; have nS : Aside0 (Sx w w2 [(.blk gB #[.bool b, .slice Ab1 lb1.length cb1, .slice Ab2 lb2.length cb2] 28), (.blk gK #[.bool a, .slice Aa1 la1.length ca1, .slice Aa2 la2.length ca2] 28)]) := Aside0.mk (HS.out.box hg2 hx2 hb2); clear HS; have HS := nS; clear nS hg2 hx2 hb2) | ((with_reducible refine gate_dst (N := 6) rfl ?_); refine box_event ?hg (N := 6) ?hd (cs := #[.bool false, .slice none 0 0, .slice none 0 0]) (t := 28) ?hr ?_; (case hd => rfl); (case hg => rfl); (case hr => first | (go_simp; done) | (go_simp; rfl)); intro gR hg3 w3 hx3 hb3; have nS : Aside0 (Sx w w3 [(.blk gR #[.bool false, .slice none 0 0, .slice none 0 0] 28), (.blk gB #[.bool b, .slice Ab1 lb1.length cb1, .slice Ab2 lb2.length cb2] 28), (.blk gK #[.bool a, .slice Aa1 la1.length ca1, .slice Aa2 la2.length ca2] 28)]) := Aside0.mk (HS.out.box hg3 hx3 hb3); clear HS; have HS := nS; clear nS hg3 hx3 hb3) | ((with_reducible refine gate_dst (N := 23) rfl ?_); refine wpList_load_row rfl 28 (.tmp 3) rfl gK rfl 28 #[.bool a, .slice Aa1 la1.length ca1, .slice Aa2 la2.length ca2] (0, 0) _ (HS.out.blk 2 rfl) Try.underlying28 rfl (by kernel_rfl) ?_) | ((with_reducible refine gate_dst (N := 24) rfl ?_); refine wpList_load_row rfl 28 (.tmp 4) rfl gB rfl 28 #[.bool b, .slice Ab1 lb1.length cb1, .slice Ab2 lb2.length cb2] (0, 0) _ (HS.out.blk 1 rfl) Try.underlying28 rfl (by kernel_rfl) ?_) | ((with_reducible refine gate_dst (N := 25) rfl ?_); refine lit_event ?hg (N := 25) ?hd (cs := #[.bool a, .slice Aa1 la1.length ca1, .slice Aa2 la2.length ca2, .bool b, .slice Ab1 lb1.length cb1, .slice Ab2 lb2.length cb2]) (t := 28) (n := 2) ?hr ?_; (case hd => rfl); (case hg => rfl); (case hr => first | (go_simp; done) | (go_simp; rfl)); intro gV hg4 w4 hx4 hb4; have nS : Aside0 (Sx w w4 [(.blk gV #[.bool a, .slice Aa1 la1.length ca1, .slice Aa2 la2.length ca2, .bool b, .slice Ab1 lb1.length cb1, .slice Ab2 lb2.length cb2] 28), (.blk gR #[.bool false, .slice none 0 0, .slice none 0 0] 28), (.blk gB #[.bool b, .slice Ab1 lb1.length cb1, .slice Ab2 lb2.length cb2] 28), (.blk gK #[.bool a, .slice Aa1 la1.length ca1, .slice Aa2 la2.length ca2] 28)]) := Aside0.mk (HS.out.box hg4 hx4 hb4); clear HS; have HS := nS; clear nS hg4 hx4 hb4) | (go_at_call 58; refine (impl_valid.calls k0 _ 2 [⟨a, la1, la2⟩, ⟨b, lb1, lb2⟩] 0 _ (pair_C (HS.out.blk 0 rfl) (Kd.C_below Ha1.out HS.out.below) Ka1.out (Kd.C_below Ha2.out HS.out.below) Ka2.out (Kd.C_below Hb1.out HS.out.below) Kb1.out (Kd.C_below Hb2.out HS.out.below) Kb2.out) (Nat.le_refl _) HV.out).mono ?_; rintro e w5 ⟨rfl, hb5⟩; have nS : Aside0 (Sx w w5 [(.blk gV #[.bool a, .slice Aa1 la1.length ca1, .slice Aa2 la2.length ca2, .bool b, .slice Ab1 lb1.length cb1, .slice Ab2 lb2.length cb2] 28), (.blk gR #[.bool false, .slice none 0 0, .slice none 0 0] 28), (.blk gB #[.bool b, .slice Ab1 lb1.length cb1, .slice Ab2 lb2.length cb2] 28), (.blk gK #[.bool a, .slice Aa1 la1.length ca1, .slice Aa2 la2.length ca2] 28)]) := Aside0.mk (HS.out.step hb5); clear HS; have HS := nS; clear nS hb5) | ((with_reducible refine gate_dst (N := 31) rfl ?_); refine wpList_load_row rfl 28 (.tmp 3) rfl gK rfl 28 #[.bool a, .slice Aa1 la1.length ca1, .slice Aa2 la2.length ca2] (0, 0) _ (HS.out.blk 3 rfl) Try.underlying28 rfl (by kernel_rfl) ?_) | (go_at_call 99; refine (impl_listOk.calls a Aa1 ca1 la1 Aa2 ca2 la2 0 _ (Kd.C_below Ha1.out HS.out.below) Ka1.out (Kd.C_below Ha2.out HS.out.below) Ka2.out HLO.out).mono ?_; rintro e w6 ⟨rfl, hb6⟩; have nS : Aside0 (Sx w w6 [(.blk gV #[.bool a, .slice Aa1 la1.length ca1, .slice Aa2 la2.length ca2, .bool b, .slice Ab1 lb1.length cb1, .slice Ab2 lb2.length cb2] 28), (.blk gR #[.bool false, .slice none 0 0, .slice none 0 0] 28), (.blk gB #[.bool b, .slice Ab1 lb1.length cb1, .slice Ab2 lb2.length cb2] 28), (.blk gK #[.bool a, .slice Aa1 la1.length ca1, .slice Aa2 la2.length ca2] 28)]) := Aside0.mk (HS.out.step hb6); clear HS; have HS := nS; clear nS hb6) | ((with_reducible refine gate_dst (N := 37) rfl ?_); refine wpList_load_row rfl 28 (.tmp 4) rfl gB rfl 28 #[.bool b, .slice Ab1 lb1.length cb1, .slice Ab2 lb2.length cb2] (0, 0) _ (HS.out.blk 2 rfl) Try.underlying28 rfl (by kernel_rfl) ?_) | (go_at_call 90; refine (impl_Array_rank.calls b Ab1 cb1 lb1 Ab2 cb2 lb2 (lb1.length : Int) _ (Kd.C_below Hb1.out HS.out.below) Kb1.out (Kd.C_below Hb2.out HS.out.below) Kb2.out rfl).mono ?_; rintro e w7 ⟨rfl, hb7⟩; have nS : Aside0 (Sx w w7 [(.blk gV #[.bool a, .slice Aa1 la1.length ca1, .slice Aa2 la2.length ca2, .bool b, .slice Ab1 lb1.length cb1, .slice Ab2 lb2.length cb2] 28), (.blk gR #[.bool false, .slice none 0 0, .slice none 0 0] 28), (.blk gB #[.bool b, .slice Ab1 lb1.length cb1, .slice Ab2 lb2.length cb2] 28), (.blk gK #[.bool a, .slice Aa1 la1.length ca1, .slice Aa2 la2.length ca2] 28)]) := Aside0.mk (HS.out.step hb7); clear HS; have HS := nS; clear nS hb7))
  go_cut [39] from 37 to 39 (fun s39 wx => s39 = .bool zq ∧ Aside0 (Sx w wx [(.blk gV #[.bool a, .slice Aa1 la1.length ca1, .slice Aa2 la2.length ca2, .bool b, .slice Ab1 lb1.length cb1, .slice Ab2 lb2.length cb2] 28), (.blk gR #[.bool false, .slice none 0 0, .slice none 0 0] 28), (.blk gB #[.bool b, .slice Ab1 lb1.length cb1, .slice Ab2 lb2.length cb2] 28), (.blk gK #[.bool a, .slice Aa1 la1.length ca1, .slice Aa2 la2.length ca2] 28)]))
  case first =>
    by_cases y1 : lb1.length = 0
    · have E39 := Aside0.mk (show zq = true by rw [HZQ.out, decide_eq_true y1])
      have t1 : ((lb1.length : Int) == 0) = true := beq_iff_eq.mpr (by omega)
      have u1_ : (lb1.length == 0) = true := beq_iff_eq.mpr y1
      have u1_d : decide (lb1.length = 0) = true := decide_eq_true y1
      clear y1
      go_wp2_with (first | ((with_reducible refine gate_dst (N := 3) rfl ?_); refine box_event ?hg (N := 3) ?hd (cs := #[.bool a, .slice Aa1 la1.length ca1, .slice Aa2 la2.length ca2]) (t := 28) ?hr ?_; (case hd => rfl); (case hg => rfl); (case hr => first | (go_simp; done) | (go_simp; rfl)); intro gK hg1 w1 hx1 hb1; have nS : Aside0 (Sx w w1 [(.blk gK #[.bool a, .slice Aa1 la1.length ca1, .slice Aa2 la2.length ca2] 28)]) := Aside0.mk (HS.out.box hg1 hx1 hb1); clear HS; have HS := nS; clear nS hg1 hx1 hb1) | ((with_reducible refine gate_dst (N := 4) rfl ?_); refine box_event ?hg (N := 4) ?hd (cs := #[.bool b, .slice Ab1 lb1.length cb1, .slice Ab2 lb2.length cb2]) (t := 28) ?hr ?_; (case hd => rfl); (case hg => rfl); (case hr => first | (go_simp; done) | (go_simp; rfl)); intro gB hg2 w2 hx2 hb2; have nS : Aside0 (Sx w w2 [(.blk gB #[.bool b, .slice Ab1 lb1.length cb1, .slice Ab2 lb2.length cb2] 28), (.blk gK #[.bool a, .slice Aa1 la1.length ca1, .slice Aa2 la2.length ca2] 28)]) := Aside0.mk (HS.out.box hg2 hx2 hb2); clear HS; have HS := nS; clear nS hg2 hx2 hb2) | ((with_reducible refine gate_dst (N := 6) rfl ?_); refine box_event ?hg (N := 6) ?hd (cs := #[.bool false, .slice none 0 0, .slice none 0 0]) (t := 28) ?hr ?_; (case hd => rfl); (case hg => rfl); (case hr => first | (go_simp; done) | (go_simp; rfl)); intro gR hg3 w3 hx3 hb3; have nS : Aside0 (Sx w w3 [(.blk gR #[.bool false, .slice none 0 0, .slice none 0 0] 28), (.blk gB #[.bool b, .slice Ab1 lb1.length cb1, .slice Ab2 lb2.length cb2] 28), (.blk gK #[.bool a, .slice Aa1 la1.length ca1, .slice Aa2 la2.length ca2] 28)]) := Aside0.mk (HS.out.box hg3 hx3 hb3); clear HS; have HS := nS; clear nS hg3 hx3 hb3) | ((with_reducible refine gate_dst (N := 23) rfl ?_); refine wpList_load_row rfl 28 (.tmp 3) rfl gK rfl 28 #[.bool a, .slice Aa1 la1.length ca1, .slice Aa2 la2.length ca2] (0, 0) _ (HS.out.blk 2 rfl) Try.underlying28 rfl (by kernel_rfl) ?_) | ((with_reducible refine gate_dst (N := 24) rfl ?_); refine wpList_load_row rfl 28 (.tmp 4) rfl gB rfl 28 #[.bool b, .slice Ab1 lb1.length cb1, .slice Ab2 lb2.length cb2] (0, 0) _ (HS.out.blk 1 rfl) Try.underlying28 rfl (by kernel_rfl) ?_) | ((with_reducible refine gate_dst (N := 25) rfl ?_); refine lit_event ?hg (N := 25) ?hd (cs := #[.bool a, .slice Aa1 la1.length ca1, .slice Aa2 la2.length ca2, .bool b, .slice Ab1 lb1.length cb1, .slice Ab2 lb2.length cb2]) (t := 28) (n := 2) ?hr ?_; (case hd => rfl); (case hg => rfl); (case hr => first | (go_simp; done) | (go_simp; rfl)); intro gV hg4 w4 hx4 hb4; have nS : Aside0 (Sx w w4 [(.blk gV #[.bool a, .slice Aa1 la1.length ca1, .slice Aa2 la2.length ca2, .bool b, .slice Ab1 lb1.length cb1, .slice Ab2 lb2.length cb2] 28), (.blk gR #[.bool false, .slice none 0 0, .slice none 0 0] 28), (.blk gB #[.bool b, .slice Ab1 lb1.length cb1, .slice Ab2 lb2.length cb2] 28), (.blk gK #[.bool a, .slice Aa1 la1.length ca1, .slice Aa2 la2.length ca2] 28)]) := Aside0.mk (HS.out.box hg4 hx4 hb4); clear HS; have HS := nS; clear nS hg4 hx4 hb4) | (go_at_call 58; refine (impl_valid.calls k0 _ 2 [⟨a, la1, la2⟩, ⟨b, lb1, lb2⟩] 0 _ (pair_C (HS.out.blk 0 rfl) (Kd.C_below Ha1.out HS.out.below) Ka1.out (Kd.C_below Ha2.out HS.out.below) Ka2.out (Kd.C_below Hb1.out HS.out.below) Kb1.out (Kd.C_below Hb2.out HS.out.below) Kb2.out) (Nat.le_refl _) HV.out).mono ?_; rintro e w5 ⟨rfl, hb5⟩; have nS : Aside0 (Sx w w5 [(.blk gV #[.bool a, .slice Aa1 la1.length ca1, .slice Aa2 la2.length ca2, .bool b, .slice Ab1 lb1.length cb1, .slice Ab2 lb2.length cb2] 28), (.blk gR #[.bool false, .slice none 0 0, .slice none 0 0] 28), (.blk gB #[.bool b, .slice Ab1 lb1.length cb1, .slice Ab2 lb2.length cb2] 28), (.blk gK #[.bool a, .slice Aa1 la1.length ca1, .slice Aa2 la2.length ca2] 28)]) := Aside0.mk (HS.out.step hb5); clear HS; have HS := nS; clear nS hb5) | ((with_reducible refine gate_dst (N := 31) rfl ?_); refine wpList_load_row rfl 28 (.tmp 3) rfl gK rfl 28 #[.bool a, .slice Aa1 la1.length ca1, .slice Aa2 la2.length ca2] (0, 0) _ (HS.out.blk 3 rfl) Try.underlying28 rfl (by kernel_rfl) ?_) | (go_at_call 99; refine (impl_listOk.calls a Aa1 ca1 la1 Aa2 ca2 la2 0 _ (Kd.C_below Ha1.out HS.out.below) Ka1.out (Kd.C_below Ha2.out HS.out.below) Ka2.out HLO.out).mono ?_; rintro e w6 ⟨rfl, hb6⟩; have nS : Aside0 (Sx w w6 [(.blk gV #[.bool a, .slice Aa1 la1.length ca1, .slice Aa2 la2.length ca2, .bool b, .slice Ab1 lb1.length cb1, .slice Ab2 lb2.length cb2] 28), (.blk gR #[.bool false, .slice none 0 0, .slice none 0 0] 28), (.blk gB #[.bool b, .slice Ab1 lb1.length cb1, .slice Ab2 lb2.length cb2] 28), (.blk gK #[.bool a, .slice Aa1 la1.length ca1, .slice Aa2 la2.length ca2] 28)]) := Aside0.mk (HS.out.step hb6); clear HS; have HS := nS; clear nS hb6) | ((with_reducible refine gate_dst (N := 37) rfl ?_); refine wpList_load_row rfl 28 (.tmp 4) rfl gB rfl 28 #[.bool b, .slice Ab1 lb1.length cb1, .slice Ab2 lb2.length cb2] (0, 0) _ (HS.out.blk 2 rfl) Try.underlying28 rfl (by kernel_rfl) ?_) | (go_at_call 90; refine (impl_Array_rank.calls b Ab1 cb1 lb1 Ab2 cb2 lb2 (lb1.length : Int) _ (Kd.C_below Hb1.out HS.out.below) Kb1.out (Kd.C_below Hb2.out HS.out.below) Kb2.out rfl).mono ?_; rintro e w7 ⟨rfl, hb7⟩; have nS : Aside0 (Sx w w7 [(.blk gV #[.bool a, .slice Aa1 la1.length ca1, .slice Aa2 la2.length ca2, .bool b, .slice Ab1 lb1.length cb1, .slice Ab2 lb2.length cb2] 28), (.blk gR #[.bool false, .slice none 0 0, .slice none 0 0] 28), (.blk gB #[.bool b, .slice Ab1 lb1.length cb1, .slice Ab2 lb2.length cb2] 28), (.blk gK #[.bool a, .slice Aa1 la1.length ca1, .slice Aa2 la2.length ca2] 28)]) := Aside0.mk (HS.out.step hb7); clear HS; have HS := nS; clear nS hb7))
      go_meet
      case rel => exact ⟨by first | (rw [E39.out]; done) | (rw [E39.out, u1_d]), HS⟩
    · have E39 := Aside0.mk (show zq = false by rw [HZQ.out, decide_eq_false y1])
      have t1 : ((lb1.length : Int) == 0) = false := beq_eq_false_iff_ne.mpr (by omega)
      have u1_ : (lb1.length == 0) = false := beq_eq_false_iff_ne.mpr y1
      have u1_d : decide (lb1.length = 0) = false := decide_eq_false y1
      have u1_p : ¬ lb1.length = 0 := y1
      clear y1
      go_wp2_with (first | ((with_reducible refine gate_dst (N := 3) rfl ?_); refine box_event ?hg (N := 3) ?hd (cs := #[.bool a, .slice Aa1 la1.length ca1, .slice Aa2 la2.length ca2]) (t := 28) ?hr ?_; (case hd => rfl); (case hg => rfl); (case hr => first | (go_simp; done) | (go_simp; rfl)); intro gK hg1 w1 hx1 hb1; have nS : Aside0 (Sx w w1 [(.blk gK #[.bool a, .slice Aa1 la1.length ca1, .slice Aa2 la2.length ca2] 28)]) := Aside0.mk (HS.out.box hg1 hx1 hb1); clear HS; have HS := nS; clear nS hg1 hx1 hb1) | ((with_reducible refine gate_dst (N := 4) rfl ?_); refine box_event ?hg (N := 4) ?hd (cs := #[.bool b, .slice Ab1 lb1.length cb1, .slice Ab2 lb2.length cb2]) (t := 28) ?hr ?_; (case hd => rfl); (case hg => rfl); (case hr => first | (go_simp; done) | (go_simp; rfl)); intro gB hg2 w2 hx2 hb2; have nS : Aside0 (Sx w w2 [(.blk gB #[.bool b, .slice Ab1 lb1.length cb1, .slice Ab2 lb2.length cb2] 28), (.blk gK #[.bool a, .slice Aa1 la1.length ca1, .slice Aa2 la2.length ca2] 28)]) := Aside0.mk (HS.out.box hg2 hx2 hb2); clear HS; have HS := nS; clear nS hg2 hx2 hb2) | ((with_reducible refine gate_dst (N := 6) rfl ?_); refine box_event ?hg (N := 6) ?hd (cs := #[.bool false, .slice none 0 0, .slice none 0 0]) (t := 28) ?hr ?_; (case hd => rfl); (case hg => rfl); (case hr => first | (go_simp; done) | (go_simp; rfl)); intro gR hg3 w3 hx3 hb3; have nS : Aside0 (Sx w w3 [(.blk gR #[.bool false, .slice none 0 0, .slice none 0 0] 28), (.blk gB #[.bool b, .slice Ab1 lb1.length cb1, .slice Ab2 lb2.length cb2] 28), (.blk gK #[.bool a, .slice Aa1 la1.length ca1, .slice Aa2 la2.length ca2] 28)]) := Aside0.mk (HS.out.box hg3 hx3 hb3); clear HS; have HS := nS; clear nS hg3 hx3 hb3) | ((with_reducible refine gate_dst (N := 23) rfl ?_); refine wpList_load_row rfl 28 (.tmp 3) rfl gK rfl 28 #[.bool a, .slice Aa1 la1.length ca1, .slice Aa2 la2.length ca2] (0, 0) _ (HS.out.blk 2 rfl) Try.underlying28 rfl (by kernel_rfl) ?_) | ((with_reducible refine gate_dst (N := 24) rfl ?_); refine wpList_load_row rfl 28 (.tmp 4) rfl gB rfl 28 #[.bool b, .slice Ab1 lb1.length cb1, .slice Ab2 lb2.length cb2] (0, 0) _ (HS.out.blk 1 rfl) Try.underlying28 rfl (by kernel_rfl) ?_) | ((with_reducible refine gate_dst (N := 25) rfl ?_); refine lit_event ?hg (N := 25) ?hd (cs := #[.bool a, .slice Aa1 la1.length ca1, .slice Aa2 la2.length ca2, .bool b, .slice Ab1 lb1.length cb1, .slice Ab2 lb2.length cb2]) (t := 28) (n := 2) ?hr ?_; (case hd => rfl); (case hg => rfl); (case hr => first | (go_simp; done) | (go_simp; rfl)); intro gV hg4 w4 hx4 hb4; have nS : Aside0 (Sx w w4 [(.blk gV #[.bool a, .slice Aa1 la1.length ca1, .slice Aa2 la2.length ca2, .bool b, .slice Ab1 lb1.length cb1, .slice Ab2 lb2.length cb2] 28), (.blk gR #[.bool false, .slice none 0 0, .slice none 0 0] 28), (.blk gB #[.bool b, .slice Ab1 lb1.length cb1, .slice Ab2 lb2.length cb2] 28), (.blk gK #[.bool a, .slice Aa1 la1.length ca1, .slice Aa2 la2.length ca2] 28)]) := Aside0.mk (HS.out.box hg4 hx4 hb4); clear HS; have HS := nS; clear nS hg4 hx4 hb4) | (go_at_call 58; refine (impl_valid.calls k0 _ 2 [⟨a, la1, la2⟩, ⟨b, lb1, lb2⟩] 0 _ (pair_C (HS.out.blk 0 rfl) (Kd.C_below Ha1.out HS.out.below) Ka1.out (Kd.C_below Ha2.out HS.out.below) Ka2.out (Kd.C_below Hb1.out HS.out.below) Kb1.out (Kd.C_below Hb2.out HS.out.below) Kb2.out) (Nat.le_refl _) HV.out).mono ?_; rintro e w5 ⟨rfl, hb5⟩; have nS : Aside0 (Sx w w5 [(.blk gV #[.bool a, .slice Aa1 la1.length ca1, .slice Aa2 la2.length ca2, .bool b, .slice Ab1 lb1.length cb1, .slice Ab2 lb2.length cb2] 28), (.blk gR #[.bool false, .slice none 0 0, .slice none 0 0] 28), (.blk gB #[.bool b, .slice Ab1 lb1.length cb1, .slice Ab2 lb2.length cb2] 28), (.blk gK #[.bool a, .slice Aa1 la1.length ca1, .slice Aa2 la2.length ca2] 28)]) := Aside0.mk (HS.out.step hb5); clear HS; have HS := nS; clear nS hb5) | ((with_reducible refine gate_dst (N := 31) rfl ?_); refine wpList_load_row rfl 28 (.tmp 3) rfl gK rfl 28 #[.bool a, .slice Aa1 la1.length ca1, .slice Aa2 la2.length ca2] (0, 0) _ (HS.out.blk 3 rfl) Try.underlying28 rfl (by kernel_rfl) ?_) | (go_at_call 99; refine (impl_listOk.calls a Aa1 ca1 la1 Aa2 ca2 la2 0 _ (Kd.C_below Ha1.out HS.out.below) Ka1.out (Kd.C_below Ha2.out HS.out.below) Ka2.out HLO.out).mono ?_; rintro e w6 ⟨rfl, hb6⟩; have nS : Aside0 (Sx w w6 [(.blk gV #[.bool a, .slice Aa1 la1.length ca1, .slice Aa2 la2.length ca2, .bool b, .slice Ab1 lb1.length cb1, .slice Ab2 lb2.length cb2] 28), (.blk gR #[.bool false, .slice none 0 0, .slice none 0 0] 28), (.blk gB #[.bool b, .slice Ab1 lb1.length cb1, .slice Ab2 lb2.length cb2] 28), (.blk gK #[.bool a, .slice Aa1 la1.length ca1, .slice Aa2 la2.length ca2] 28)]) := Aside0.mk (HS.out.step hb6); clear HS; have HS := nS; clear nS hb6) | ((with_reducible refine gate_dst (N := 37) rfl ?_); refine wpList_load_row rfl 28 (.tmp 4) rfl gB rfl 28 #[.bool b, .slice Ab1 lb1.length cb1, .slice Ab2 lb2.length cb2] (0, 0) _ (HS.out.blk 2 rfl) Try.underlying28 rfl (by kernel_rfl) ?_) | (go_at_call 90; refine (impl_Array_rank.calls b Ab1 cb1 lb1 Ab2 cb2 lb2 (lb1.length : Int) _ (Kd.C_below Hb1.out HS.out.below) Kb1.out (Kd.C_below Hb2.out HS.out.below) Kb2.out rfl).mono ?_; rintro e w7 ⟨rfl, hb7⟩; have nS : Aside0 (Sx w w7 [(.blk gV #[.bool a, .slice Aa1 la1.length ca1, .slice Aa2 la2.length ca2, .bool b, .slice Ab1 lb1.length cb1, .slice Ab2 lb2.length cb2] 28), (.blk gR #[.bool false, .slice none 0 0, .slice none 0 0] 28), (.blk gB #[.bool b, .slice Ab1 lb1.length cb1, .slice Ab2 lb2.length cb2] 28), (.blk gK #[.bool a, .slice Aa1 la1.length ca1, .slice Aa2 la2.length ca2] 28)]) := Aside0.mk (HS.out.step hb7); clear HS; have HS := nS; clear nS hb7))
      go_meet
      case rel => exact ⟨by first | (rw [E39.out]; done) | (rw [E39.out, u1_d]), HS⟩
  clear HS
  obtain ⟨e39, HS⟩ := hcut
  subst e39
  go_upto_if 39 with fail
  go_cut [] from 40 to 45 (fun wx => ∃ Bs ds, Kd.C (Kd.int .i64) wx Bs L1.length L1 ∧ L1.length ≤ ds ∧ Aside0 (Sx w wx [(.blk gR #[.bool false, .slice none 0 0, .slice none 0 0] 28), (.blk gB #[.bool b, .slice Bs L1.length ds, .slice Ab2 lb2.length cb2] 28), (.blk gK #[.bool a, .slice Aa1 la1.length ca1, .slice Aa2 la2.length ca2] 28)]))
  case first =>
    by_cases y1 : lb1.length = 0
    · have eq_ : zq = true := by rw [HZQ.out, decide_eq_true y1]
      clear HZQ
      subst eq_
      have e_ : L1 = [(lb2.length : Int)] := by rw [HL1.out, if_pos y1]
      subst L1
      clear HL1 y1
      go_upto_region 8 with fail
      have nS := Aside0.mk HS.out.drew
      clear HS
      have HS := nS
      clear nS
      refine start_ (n := 7) (S := (fun w' => w'.cell? ⟨gB, 2, none⟩ = some (.slice Ab2 lb2.length cb2) ∧ w'.cell? ⟨gB, 0, none⟩ = some (.bool b))) (ds := [6]) #[false, false, false, false, false, false, false] (by kernel_rfl) rfl rfl ⟨(blk_cell (HS.out.blk 2 rfl) 2).trans rfl, (blk_cell (HS.out.blk 2 rfl) 0).trans rfl⟩ (fun hHeld => ?_)
      refine pure_ (i := 0) (N := (some 40)) (v := ?_) (a' := ?_) #[true, false, false, false, false, false, false] rfl rfl (by kernel_rfl) (fun _ _ _ h => h) (Or.inl ⟨by rfl, ?_⟩) ?_ ?_
      rotate_left
      · intro w'
        go_simp
        with_reducible rfl
      rotate_left
      · simp only [Act.put, List.setIfInBounds_toArray, List.set_cons_zero, List.set_cons_succ]
        rfl
      refine take_ (i := 1) (N := (some 41)) (v := ?_) (a' := ?_) #[true, true, false, false, false, false, false] rfl rfl (by kernel_rfl) (fun _ _ _ h => h) (Or.inl ⟨by rfl, ?_⟩) hHeld ?_ ?_
      rotate_left
      · rintro w' ⟨s0, s1⟩
        go_simp
        with_reducible rfl
      rotate_left
      · simp only [Act.put, List.setIfInBounds_toArray, List.set_cons_zero, List.set_cons_succ]
        rfl
      refine pure_ (i := 3) (N := (some 43)) (v := ?_) (a' := ?_) #[true, true, false, true, false, false, false] rfl rfl (by kernel_rfl) (fun _ _ _ h => h) (Or.inl ⟨by rfl, ?_⟩) ?_ ?_
      rotate_left
      · intro w'
        go_simp
        with_reducible rfl
      rotate_left
      · simp only [Act.put, List.setIfInBounds_toArray, List.set_cons_zero, List.set_cons_succ]
        rfl
      refine take_ (i := 4) (N := (some 44)) (v := ?_) (a' := ?_) #[true, true, false, true, true, false, false] rfl rfl (by kernel_rfl) (fun _ _ _ h => h) (Or.inl ⟨by rfl, ?_⟩) hHeld ?_ ?_
      rotate_left
      · rintro w' ⟨s0, s1⟩
        go_simp
        with_reducible rfl
      rotate_left
      · simp only [Act.put, List.setIfInBounds_toArray, List.set_cons_zero, List.set_cons_succ]
        rfl
      refine one_ (i := 2) (N := (some 42)) #[true, true, true, true, true, false, false] rfl rfl (by kernel_rfl) (by decide) (fun K hK => ?_)
      refine goes_ Try.func100 (by kernel_rfl) rfl #[.slice Ab2 lb2.length cb2] (by rfl) rfl rfl (by (try simp only [List.map_toArray, List.map_cons, List.map_nil]); first | done | rfl) ?_
      with_reducible refine (vec_any Ab2 lb2.length cb2 _).mono ?_
      rintro e wp8 ⟨gO, rfl, hcp8, hgp8, hbp8⟩
      have nS : Aside0 (Sx w wp8 [(.blk gO #[.int .i64 (lb2.length : Int)] 3), (.blk gV #[.bool a, .slice Aa1 la1.length ca1, .slice Aa2 la2.length ca2, .bool b, .slice Ab1 lb1.length cb1, .slice Ab2 lb2.length cb2] 28), (.blk gR #[.bool false, .slice none 0 0, .slice none 0 0] 28), (.blk gB #[.bool b, .slice Ab1 lb1.length cb1, .slice Ab2 lb2.length cb2] 28), (.blk gK #[.bool a, .slice Aa1 la1.length ca1, .slice Aa2 la2.length ca2] 28)]) := Aside0.mk (HS.out.vecAdd hcp8 hgp8 hbp8)
      clear HS
      have HS := nS
      clear nS
      refine ⟨_, rfl, ?_⟩
      refine hK.out _ _ ⟨(blk_cell (HS.out.blk 3 rfl) 2).trans rfl, (blk_cell (HS.out.blk 3 rfl) 0).trans rfl⟩ (fun hHeld => ?_)
      clear hK K
      refine norm_ (a' := ?_) ?_ ?_
      rotate_left
      · show Act.put _ (some 42) _ = _
        simp only [Act.put, List.setIfInBounds_toArray, List.set_cons_zero, List.set_cons_succ]
        rfl
      refine one_ (i := 5) (N := (some 45)) #[true, true, true, true, true, true, false] rfl rfl (by kernel_rfl) (by decide) (fun K hK => ?_)
      refine goes_ Try.func101 (by kernel_rfl) rfl #[.agg #[.bool false, .slice (some ⟨gO, 0, none⟩) 1 1, .slice Ab2 lb2.length cb2], .bool b] (by rfl) rfl rfl (by (try simp only [List.map_toArray, List.map_cons, List.map_nil]); first | done | rfl) ?_
      with_reducible refine (as_any false b (some ⟨gO, 0, none⟩) 1 1 Ab2 lb2.length cb2 _).mono ?_
      rintro e wp9 ⟨rfl, hbp9⟩
      have nS : Aside0 (Sx w wp9 [(.blk gO #[.int .i64 (lb2.length : Int)] 3), (.blk gV #[.bool a, .slice Aa1 la1.length ca1, .slice Aa2 la2.length ca2, .bool b, .slice Ab1 lb1.length cb1, .slice Ab2 lb2.length cb2] 28), (.blk gR #[.bool false, .slice none 0 0, .slice none 0 0] 28), (.blk gB #[.bool b, .slice Ab1 lb1.length cb1, .slice Ab2 lb2.length cb2] 28), (.blk gK #[.bool a, .slice Aa1 la1.length ca1, .slice Aa2 la2.length ca2] 28)]) := Aside0.mk (HS.out.step hbp9)
      clear HS
      have HS := nS
      clear nS
      refine ⟨_, rfl, ?_⟩
      refine hK.out _ _ ⟨(blk_cell (HS.out.blk 3 rfl) 2).trans rfl, (blk_cell (HS.out.blk 3 rfl) 0).trans rfl⟩ (fun hHeld => ?_)
      clear hK K
      refine norm_ (a' := ?_) ?_ ?_
      rotate_left
      · show Act.put _ (some 45) _ = _
        simp only [Act.put, List.setIfInBounds_toArray, List.set_cons_zero, List.set_cons_succ]
        rfl
      refine last_ (i := 6) (N := none) #[true, true, true, true, true, true, true] rfl rfl (by kernel_rfl) (by decide) (fun K hK => ?_)
      refine store_named_step (by rfl) 28 (.tmp 4) (.tmp 45) rfl gB #[.bool b, .slice (some ⟨gO, 0, none⟩) 1 1, .slice Ab2 lb2.length cb2] rfl rfl 28 #[.bool b, .slice Ab1 lb1.length cb1, .slice Ab2 lb2.length cb2] (HS.out.blk 3 rfl) (by kernel_rfl) rfl (by simp [Value.oneCell']) ?_
      intro wz hxz hbz
      have nS : Aside0 (Sx w wz [(.blk gO #[.int .i64 (lb2.length : Int)] 3), (.blk gV #[.bool a, .slice Aa1 la1.length ca1, .slice Aa2 la2.length ca2, .bool b, .slice Ab1 lb1.length cb1, .slice Ab2 lb2.length cb2] 28), (.blk gR #[.bool false, .slice none 0 0, .slice none 0 0] 28), (.blk gB #[.bool b, .slice (some ⟨gO, 0, none⟩) 1 1, .slice Ab2 lb2.length cb2] 28), (.blk gK #[.bool a, .slice Aa1 la1.length ca1, .slice Aa2 la2.length ca2] 28)]) := Aside0.mk (HS.out.put 3 rfl hxz hbz)
      clear HS hxz hbz
      have HS := nS
      clear nS
      refine hK.out _ _ ?_
      clear hK K
      refine done_ (by kernel_rfl) ?_
      go_simp
      go_wp2
      go_meet
      case rel => exact ⟨some ⟨gO, 0, none⟩, 1, rowI_C (l := [(lb2.length : Int)]) (HS.out.blk 0 rfl) (by simp), Nat.le_refl _, Aside0.mk (HS.out.sub (by first | exact (List.Sublist.cons _ (.cons _ (List.Sublist.refl _))) | (repeat (first | exact List.Sublist.refl _ | apply List.Sublist.cons₂ | apply List.Sublist.cons))))⟩
    · have eq_ : zq = false := by rw [HZQ.out, decide_eq_false y1]
      clear HZQ
      subst eq_
      have e_ : L1 = lb1 := by rw [HL1.out, if_neg y1]
      subst L1
      clear HL1 y1
      go_wp2
      go_meet
      case rel => exact ⟨Ab1, cb1, (Kd.C_below Hb1.out HS.out.below), Kb1.out, Aside0.mk (HS.out.sub (by first | exact (List.Sublist.cons _ (List.Sublist.refl _)) | exact List.Sublist.refl _))⟩
  clear HS
  obtain ⟨Bs, ds, hCB1, hKB1, HS⟩ := hcut
  generalize wc = wz7 at *
  have CB1 := Aside0.mk hCB1
  have KB1 := Aside0.mk hKB1
  clear hCB1 hKB1
  have HB0 := Aside0.mk HS.out.below
  have HGR := Aside0.mk (HS.out.get 0 rfl).2
  obtain ⟨ad, rfl, y_⟩ := Kd.at_int CB1.out (t : Int) (by omega) (by have := HTL.out; omega)
  clear y_
  have p0 : 0 ≤ (t : Int) := by omega
  have p1 : (t : Int) < (L1.length : Int) := by have := HTL.out; omega
  have HRB := Aside0.mk (HS.out.blk 0 rfl)
  have HBB := Aside0.mk (HS.out.blk 1 rfl)
  have HKB := Aside0.mk (HS.out.blk 2 rfl)
  have HGL := Aside0.mk (blk_lt HRB.out)
  have CA1 := Aside0.mk (Kd.C_below Ha1.out HB0.out)
  have CA2 := Aside0.mk (Kd.C_below Ha2.out HB0.out)
  have CB2 := Aside0.mk (Kd.C_below Hb2.out HB0.out)
  clear HS
  have HS := Aside0.mk (Sx.start wz7)
  go_wp2_with (first | ((with_reducible refine gate_dst (N := 46) rfl ?_); refine wpList_load_row rfl 28 (.tmp 4) rfl gB rfl 28 #[.bool b, .slice (some ad) L1.length ds, .slice Ab2 lb2.length cb2] (0, 0) _ (blk_below HBB.out HS.out.below) Try.underlying28 rfl (by kernel_rfl) ?_) | (go_at_call 102; refine (impl_firstAxis.calls b (some ad) ds L1 Ab2 cb2 lb2 first (t : Int) _ (Kd.C_below CB1.out HS.out.below) KB1.out (Kd.C_below CB2.out HS.out.below) Kb2.out HFA.out).mono ?_; rintro e we1 ⟨rfl, hbe1⟩; have nS : Aside0 (Sx wz7 we1 []) := Aside0.mk (HS.out.step hbe1); clear HS; have HS := nS; clear nS hbe1) | ((with_reducible refine gate_dst (N := 10) rfl ?_); refine box_event ?hg (N := 10) ?hd (cs := #[.int .i64 0]) (t := 3) ?hr ?_; (case hd => rfl); (case hg => rfl); (case hr => first | (go_simp; done) | (go_simp; rfl)); intro gT hge2 we2 hxe2 hbe2; have nS : Aside0 (Sx wz7 we2 [(.blk gT #[.int .i64 0] 3)]) := Aside0.mk (HS.out.box hge2 hxe2 hbe2); clear HS; have HS := nS; clear nS hge2 hxe2 hbe2) | ((with_reducible refine gate_store rfl ?_); refine ev_store rfl 3 (.tmp 10) (.tmp 48) rfl gT 0 rfl (.int .i64 (t : Int)) rfl #[.int .i64 0] 3 (HS.out.blk 0 rfl) (show 0 < 1 from by decide) rfl (by kernel_rfl) ?_; intro we3 hxe3 hbe3; have nS : Aside0 (Sx wz7 we3 [(.blk gT #[.int .i64 (t : Int)] 3)]) := Aside0.mk (HS.out.put 0 rfl hxe3 hbe3); clear HS; have HS := nS; clear nS hxe3 hbe3) | ((with_reducible refine gate_dst (N := 50) rfl ?_); refine ev_load rfl 22 (.tmp 49) rfl ⟨gB, 1, none⟩ rfl (.slice (some ad) L1.length ds) ((blk_cell (blk_below HBB.out HS.out.below) 1).trans rfl) (by kernel_rfl) ?_) | ((with_reducible refine gate_dst (N := 51) rfl ?_); refine ev_load rfl 3 (.tmp 10) rfl ⟨gT, 0, none⟩ rfl (.int .i64 (t : Int)) ((blk_cell (HS.out.blk 0 rfl) 0).trans rfl) (by kernel_rfl) ?_) | ((with_reducible refine gate_dst (N := 53) rfl ?_); refine ev_load rfl 3 (.tmp 52) rfl (ad.add t) rfl (.int .i64 (n : Int)) ((C_at (Kd.C_below CB1.out HS.out.below) t HTL.out).trans (by rw [HN.out])) (by kernel_rfl) ?_) | ((with_reducible refine gate_dst (N := 55) rfl ?_); refine wpList_load_row rfl 28 (.tmp 3) rfl gK rfl 28 #[.bool a, .slice Aa1 la1.length ca1, .slice Aa2 la2.length ca2] (0, 0) _ (blk_below HKB.out HS.out.below) Try.underlying28 rfl (by kernel_rfl) ?_) | (go_at_call 103; refine (HT.out.go _ (below_step HB0.out HS.out.below)).mono ?_; rintro e we4 ⟨At, ct, rfl, hCT, hKT, hbe4⟩; have nS : Aside0 (Sx wz7 we4 [(.blk gT #[.int .i64 (t : Int)] 3)]) := Aside0.mk (HS.out.step hbe4); clear HS; have HS := nS; clear nS hbe4) | ((with_reducible refine gate_store rfl ?_); refine store_named rfl 28 (.tmp 6) (.tmp 62) rfl gR #[.bool false, .slice none 0 0, .slice none 0 0] rfl rfl 28 #[.bool false, .slice none 0 0, .slice none 0 0] (blk_below HRB.out HS.out.below) (by kernel_rfl) rfl (by simp [Value.oneCell']) ?_; intro wF hxF hbF; have HXF := Aside0.mk hxF; have HBF := Aside0.mk hbF; clear hxF hbF))
  refine bodyPost_ret (results_ct rfl _ _ gR 28 #[.bool false, .slice none 0 0, .slice none 0 0] (0, 0) _ rfl HXF.out Try.underlying28 rfl (by kernel_rfl)) rfl ?_
  exact ⟨_, _, rfl, Kd.R_nil _ _ _ _ _, Kd.R_nil _ _ _ _ _, (below_step HB0.out HS.out.below).trans (HBF.out.below _ HGR.out)⟩
theorem totU_le (L : List Int) (h : ∀ x ∈ L, 0 ≤ x ∧ x ≤ 1000000000000000) : ∀ j, j ≤ L.length → 0 ≤ totU L j ∧ totU L j ≤ 10001
  | 0, _ => by simp [totU]
  | j + 1, hj => by
    have ih := totU_le L h j (by omega)
    have hx := h _ (rd_memR L j (by omega))
    simp only [totU]
    split <;> omega
set_option maxHeartbeats 2000000 in
set_option maxRecDepth 100000 in
theorem rep_on (k0 : Nat) (a : Bool) (Aa1 : Option Addr) (ca1 : Nat) (la1 : List Int) (Aa2 : Option Addr) (ca2 : Nat) (la2 : List Int) (b : Bool) (Ab1 : Option Addr) (cb1 : Nat) (lb1 : List Int) (Ab2 : Option Addr) (cb2 : Nat) (lb2 : List Int) (first : Bool) (w : World) (ha1 : Kd.C (Kd.int .i64) w Aa1 la1.length la1) (ka1 : la1.length ≤ ca1) (ha2 : Kd.C (Kd.int .i64) w Aa2 la2.length la2) (ka2 : la2.length ≤ ca2) (hb1 : Kd.C (Kd.int .i64) w Ab1 lb1.length lb1) (kb1 : lb1.length ≤ cb1) (hb2 : Kd.C (Kd.int .i64) w Ab2 lb2.length lb2) (kb2 : lb2.length ≤ cb2) (hv : impl_valid.f k0 [⟨a, la1, la2⟩, ⟨b, lb1, lb2⟩] = some 0) (hlo : impl_listOk.f a la1 la2 = some 0) (L1 : List Int) (hL1 : L1 = if lb1.length = 0 then [(lb2.length : Int)] else lb1) (zq : Bool) (hzq : zq = decide (lb1.length = 0)) (t n : Nat) (htl : t < L1.length) (hfa : impl_firstAxis.f b L1 lb2 first = some (t : Int)) (hn : rd L1 (t : Int) = (n : Int)) (L : List Int) (ht : TimesOk #[.agg #[.bool a, .slice Aa1 la1.length ca1, .slice Aa2 la2.length ca2], .int .i64 (n : Int)] L 0 w) (h5 : L1.length ≤ 5) (hll : L.length ≤ 10000) (hlr : ∀ x ∈ L, 0 ≤ x ∧ x ≤ 1000000000000000) (hn1 : ∀ j, j < L.length → n ≤ 10000) (tot : Int) (htot : totU L L.length = tot) (S2 : List Int) (hS2 : L1.set t tot = S2) (hSL : S2.length = L1.length) (k1 : Nat) (zN : Int) (zok : Bool) (hsh : impl_shapeOk.f k1 S2 = some (zN, zok)) (SRC : List Int) (hsrc : srcL n L L.length = SRC) (FR : List Int) (hFR : fromL L1 S2 (repF SRC t) (prod S2).toNat = FR) (k5 : Nat) (DATA : List Int) (hgo : zok = true → (0 ≤ prod S2 ∧ prod S2 ≤ 10000) ∧ impl_shapeOk.f k1 S2 = some (prod S2, true) ∧ rd S2 (t : Int) = (SRC.length : Int) ∧ (∀ j, j ≤ L.length → (srcL n L j).length ≤ 10000) ∧ (∀ (u : Nat), u < (prod S2).toNat → ∀ k : Nat, k < S2.length → 0 ≤ rd (idxL S2 u) (k : Int) ∧ rd (idxL S2 u) (k : Int) < rd S2 (k : Int)) ∧ impl_move_of.f k5 S2 FR b L1 lb2 = some (b, S2, DATA)) (K_ : Bool) (S1_ S2_ : List Int) (cd_ : Int) (h7 : zok = false → K_ = false ∧ S1_ = [] ∧ S2_ = [] ∧ cd_ = 7) (h0 : zok = true → K_ = b ∧ S1_ = S2 ∧ S2_ = DATA ∧ cd_ = 0) :
    Calls Try.prog 43 #[.agg #[.bool a, .slice Aa1 la1.length ca1, .slice Aa2 la2.length ca2], .agg #[.bool b, .slice Ab1 lb1.length cb1, .slice Ab2 lb2.length cb2], .bool first] w fun e w' => ∃ v1_ v2_ : Value, e = .returned (.tuple #[.agg #[.bool K_, v1_, v2_], .int .i64 cd_]) ∧ Kd.R (Kd.int .i64) 3 w' w.heap.size (fun k_ => some k_ ≠ (v2_ : Value).ownBlock) v1_ S1_ ∧ Kd.R (Kd.int .i64) 3 w' w.heap.size (fun k_ => some k_ ≠ (v1_ : Value).ownBlock) v2_ S2_ ∧ Below w.heap.size w w' := by
  have Ha1 := Aside0.mk ha1
  have Ka1 := Aside0.mk ka1
  clear ha1 ka1
  have Ha2 := Aside0.mk ha2
  have Ka2 := Aside0.mk ka2
  clear ha2 ka2
  have Hb1 := Aside0.mk hb1
  have Kb1 := Aside0.mk kb1
  clear hb1 kb1
  have Hb2 := Aside0.mk hb2
  have Kb2 := Aside0.mk kb2
  clear hb2 kb2
  have HV := Aside0.mk hv
  clear hv
  have HLO := Aside0.mk hlo
  clear hlo
  have HL1 := Aside0.mk hL1
  have HZQ := Aside0.mk hzq
  have HTL := Aside0.mk htl
  have HFA := Aside0.mk hfa
  have HN := Aside0.mk hn
  have HT := Aside0.mk ht
  clear hL1 hzq htl hfa hn ht
  have H5 := Aside0.mk h5
  clear h5
  have HLL := Aside0.mk hll
  clear hll
  have HLR := Aside0.mk hlr
  clear hlr
  have HN1 := Aside0.mk hn1
  clear hn1
  have HTOT := Aside0.mk htot
  clear htot
  have HS2 := Aside0.mk hS2
  clear hS2
  have HSL := Aside0.mk hSL
  clear hSL
  have HSH := Aside0.mk hsh
  clear hsh
  have HSRC := Aside0.mk hsrc
  clear hsrc
  have HFR := Aside0.mk hFR
  clear hFR
  have HGO := Aside0.mk hgo
  clear hgo
  have H7 := Aside0.mk h7
  clear h7
  have H0 := Aside0.mk h0
  clear h0
  have HS := Aside0.mk (Sx.start w)
  go_enter Try.func43, Try.ntmps43
  go_upto_region 7 with (first | ((with_reducible refine gate_dst (N := 3) rfl ?_); refine box_event ?hg (N := 3) ?hd (cs := #[.bool a, .slice Aa1 la1.length ca1, .slice Aa2 la2.length ca2]) (t := 28) ?hr ?_; (case hd => rfl); (case hg => rfl); (case hr => first | (go_simp; done) | (go_simp; rfl)); intro gK hg1 w1 hx1 hb1; have nS : Aside0 (Sx w w1 [(.blk gK #[.bool a, .slice Aa1 la1.length ca1, .slice Aa2 la2.length ca2] 28)]) := Aside0.mk (HS.out.box hg1 hx1 hb1); clear HS; have HS := nS; clear nS hg1 hx1 hb1) | ((with_reducible refine gate_dst (N := 4) rfl ?_); refine box_event ?hg (N := 4) ?hd (cs := #[.bool b, .slice Ab1 lb1.length cb1, .slice Ab2 lb2.length cb2]) (t := 28) ?hr ?_; (case hd => rfl); (case hg => rfl); (case hr => first | (go_simp; done) | (go_simp; rfl)); intro gB hg2 w2 hx2 hb2; have nS : Aside0 (Sx w w2 [(.blk gB #[.bool b, .slice Ab1 lb1.length cb1, .slice Ab2 lb2.length cb2] 28), (.blk gK #[.bool a, .slice Aa1 la1.length ca1, .slice Aa2 la2.length ca2] 28)]) := Aside0.mk (HS.out.box hg2 hx2 hb2); clear HS; have HS := nS; clear nS hg2 hx2 hb2) | ((with_reducible refine gate_dst (N := 6) rfl ?_); refine box_event ?hg (N := 6) ?hd (cs := #[.bool false, .slice none 0 0, .slice none 0 0]) (t := 28) ?hr ?_; (case hd => rfl); (case hg => rfl); (case hr => first | (go_simp; done) | (go_simp; rfl)); intro gR hg3 w3 hx3 hb3; have nS : Aside0 (Sx w w3 [(.blk gR #[.bool false, .slice none 0 0, .slice none 0 0] 28), (.blk gB #[.bool b, .slice Ab1 lb1.length cb1, .slice Ab2 lb2.length cb2] 28), (.blk gK #[.bool a, .slice Aa1 la1.length ca1, .slice Aa2 la2.length ca2] 28)]) := Aside0.mk (HS.out.box hg3 hx3 hb3); clear HS; have HS := nS; clear nS hg3 hx3 hb3) | ((with_reducible refine gate_dst (N := 23) rfl ?_); refine wpList_load_row rfl 28 (.tmp 3) rfl gK rfl 28 #[.bool a, .slice Aa1 la1.length ca1, .slice Aa2 la2.length ca2] (0, 0) _ (HS.out.blk 2 rfl) Try.underlying28 rfl (by kernel_rfl) ?_) | ((with_reducible refine gate_dst (N := 24) rfl ?_); refine wpList_load_row rfl 28 (.tmp 4) rfl gB rfl 28 #[.bool b, .slice Ab1 lb1.length cb1, .slice Ab2 lb2.length cb2] (0, 0) _ (HS.out.blk 1 rfl) Try.underlying28 rfl (by kernel_rfl) ?_) | ((with_reducible refine gate_dst (N := 25) rfl ?_); refine lit_event ?hg (N := 25) ?hd (cs := #[.bool a, .slice Aa1 la1.length ca1, .slice Aa2 la2.length ca2, .bool b, .slice Ab1 lb1.length cb1, .slice Ab2 lb2.length cb2]) (t := 28) (n := 2) ?hr ?_; (case hd => rfl); (case hg => rfl); (case hr => first | (go_simp; done) | (go_simp; rfl)); intro gV hg4 w4 hx4 hb4; have nS : Aside0 (Sx w w4 [(.blk gV #[.bool a, .slice Aa1 la1.length ca1, .slice Aa2 la2.length ca2, .bool b, .slice Ab1 lb1.length cb1, .slice Ab2 lb2.length cb2] 28), (.blk gR #[.bool false, .slice none 0 0, .slice none 0 0] 28), (.blk gB #[.bool b, .slice Ab1 lb1.length cb1, .slice Ab2 lb2.length cb2] 28), (.blk gK #[.bool a, .slice Aa1 la1.length ca1, .slice Aa2 la2.length ca2] 28)]) := Aside0.mk (HS.out.box hg4 hx4 hb4); clear HS; have HS := nS; clear nS hg4 hx4 hb4) | (go_at_call 58; refine (impl_valid.calls k0 _ 2 [⟨a, la1, la2⟩, ⟨b, lb1, lb2⟩] 0 _ (pair_C (HS.out.blk 0 rfl) (Kd.C_below Ha1.out HS.out.below) Ka1.out (Kd.C_below Ha2.out HS.out.below) Ka2.out (Kd.C_below Hb1.out HS.out.below) Kb1.out (Kd.C_below Hb2.out HS.out.below) Kb2.out) (Nat.le_refl _) HV.out).mono ?_; rintro e w5 ⟨rfl, hb5⟩; have nS : Aside0 (Sx w w5 [(.blk gV #[.bool a, .slice Aa1 la1.length ca1, .slice Aa2 la2.length ca2, .bool b, .slice Ab1 lb1.length cb1, .slice Ab2 lb2.length cb2] 28), (.blk gR #[.bool false, .slice none 0 0, .slice none 0 0] 28), (.blk gB #[.bool b, .slice Ab1 lb1.length cb1, .slice Ab2 lb2.length cb2] 28), (.blk gK #[.bool a, .slice Aa1 la1.length ca1, .slice Aa2 la2.length ca2] 28)]) := Aside0.mk (HS.out.step hb5); clear HS; have HS := nS; clear nS hb5) | ((with_reducible refine gate_dst (N := 31) rfl ?_); refine wpList_load_row rfl 28 (.tmp 3) rfl gK rfl 28 #[.bool a, .slice Aa1 la1.length ca1, .slice Aa2 la2.length ca2] (0, 0) _ (HS.out.blk 3 rfl) Try.underlying28 rfl (by kernel_rfl) ?_) | (go_at_call 99; refine (impl_listOk.calls a Aa1 ca1 la1 Aa2 ca2 la2 0 _ (Kd.C_below Ha1.out HS.out.below) Ka1.out (Kd.C_below Ha2.out HS.out.below) Ka2.out HLO.out).mono ?_; rintro e w6 ⟨rfl, hb6⟩; have nS : Aside0 (Sx w w6 [(.blk gV #[.bool a, .slice Aa1 la1.length ca1, .slice Aa2 la2.length ca2, .bool b, .slice Ab1 lb1.length cb1, .slice Ab2 lb2.length cb2] 28), (.blk gR #[.bool false, .slice none 0 0, .slice none 0 0] 28), (.blk gB #[.bool b, .slice Ab1 lb1.length cb1, .slice Ab2 lb2.length cb2] 28), (.blk gK #[.bool a, .slice Aa1 la1.length ca1, .slice Aa2 la2.length ca2] 28)]) := Aside0.mk (HS.out.step hb6); clear HS; have HS := nS; clear nS hb6) | ((with_reducible refine gate_dst (N := 37) rfl ?_); refine wpList_load_row rfl 28 (.tmp 4) rfl gB rfl 28 #[.bool b, .slice Ab1 lb1.length cb1, .slice Ab2 lb2.length cb2] (0, 0) _ (HS.out.blk 2 rfl) Try.underlying28 rfl (by kernel_rfl) ?_) | (go_at_call 90; refine (impl_Array_rank.calls b Ab1 cb1 lb1 Ab2 cb2 lb2 (lb1.length : Int) _ (Kd.C_below Hb1.out HS.out.below) Kb1.out (Kd.C_below Hb2.out HS.out.below) Kb2.out rfl).mono ?_; rintro e w7 ⟨rfl, hb7⟩; have nS : Aside0 (Sx w w7 [(.blk gV #[.bool a, .slice Aa1 la1.length ca1, .slice Aa2 la2.length ca2, .bool b, .slice Ab1 lb1.length cb1, .slice Ab2 lb2.length cb2] 28), (.blk gR #[.bool false, .slice none 0 0, .slice none 0 0] 28), (.blk gB #[.bool b, .slice Ab1 lb1.length cb1, .slice Ab2 lb2.length cb2] 28), (.blk gK #[.bool a, .slice Aa1 la1.length ca1, .slice Aa2 la2.length ca2] 28)]) := Aside0.mk (HS.out.step hb7); clear HS; have HS := nS; clear nS hb7))
  go_cut [39] from 37 to 39 (fun s39 wx => s39 = .bool zq ∧ Aside0 (Sx w wx [(.blk gV #[.bool a, .slice Aa1 la1.length ca1, .slice Aa2 la2.length ca2, .bool b, .slice Ab1 lb1.length cb1, .slice Ab2 lb2.length cb2] 28), (.blk gR #[.bool false, .slice none 0 0, .slice none 0 0] 28), (.blk gB #[.bool b, .slice Ab1 lb1.length cb1, .slice Ab2 lb2.length cb2] 28), (.blk gK #[.bool a, .slice Aa1 la1.length ca1, .slice Aa2 la2.length ca2] 28)]))
  case first =>
    by_cases y1 : lb1.length = 0
    · have E39 := Aside0.mk (show zq = true by rw [HZQ.out, decide_eq_true y1])
      have t1 : ((lb1.length : Int) == 0) = true := beq_iff_eq.mpr (by omega)
      have u1_ : (lb1.length == 0) = true := beq_iff_eq.mpr y1
      have u1_d : decide (lb1.length = 0) = true := decide_eq_true y1
      clear y1
      go_wp2_with (first | ((with_reducible refine gate_dst (N := 3) rfl ?_); refine box_event ?hg (N := 3) ?hd (cs := #[.bool a, .slice Aa1 la1.length ca1, .slice Aa2 la2.length ca2]) (t := 28) ?hr ?_; (case hd => rfl); (case hg => rfl); (case hr => first | (go_simp; done) | (go_simp; rfl)); intro gK hg1 w1 hx1 hb1; have nS : Aside0 (Sx w w1 [(.blk gK #[.bool a, .slice Aa1 la1.length ca1, .slice Aa2 la2.length ca2] 28)]) := Aside0.mk (HS.out.box hg1 hx1 hb1); clear HS; have HS := nS; clear nS hg1 hx1 hb1) | ((with_reducible refine gate_dst (N := 4) rfl ?_); refine box_event ?hg (N := 4) ?hd (cs := #[.bool b, .slice Ab1 lb1.length cb1, .slice Ab2 lb2.length cb2]) (t := 28) ?hr ?_; (case hd => rfl); (case hg => rfl); (case hr => first | (go_simp; done) | (go_simp; rfl)); intro gB hg2 w2 hx2 hb2; have nS : Aside0 (Sx w w2 [(.blk gB #[.bool b, .slice Ab1 lb1.length cb1, .slice Ab2 lb2.length cb2] 28), (.blk gK #[.bool a, .slice Aa1 la1.length ca1, .slice Aa2 la2.length ca2] 28)]) := Aside0.mk (HS.out.box hg2 hx2 hb2); clear HS; have HS := nS; clear nS hg2 hx2 hb2) | ((with_reducible refine gate_dst (N := 6) rfl ?_); refine box_event ?hg (N := 6) ?hd (cs := #[.bool false, .slice none 0 0, .slice none 0 0]) (t := 28) ?hr ?_; (case hd => rfl); (case hg => rfl); (case hr => first | (go_simp; done) | (go_simp; rfl)); intro gR hg3 w3 hx3 hb3; have nS : Aside0 (Sx w w3 [(.blk gR #[.bool false, .slice none 0 0, .slice none 0 0] 28), (.blk gB #[.bool b, .slice Ab1 lb1.length cb1, .slice Ab2 lb2.length cb2] 28), (.blk gK #[.bool a, .slice Aa1 la1.length ca1, .slice Aa2 la2.length ca2] 28)]) := Aside0.mk (HS.out.box hg3 hx3 hb3); clear HS; have HS := nS; clear nS hg3 hx3 hb3) | ((with_reducible refine gate_dst (N := 23) rfl ?_); refine wpList_load_row rfl 28 (.tmp 3) rfl gK rfl 28 #[.bool a, .slice Aa1 la1.length ca1, .slice Aa2 la2.length ca2] (0, 0) _ (HS.out.blk 2 rfl) Try.underlying28 rfl (by kernel_rfl) ?_) | ((with_reducible refine gate_dst (N := 24) rfl ?_); refine wpList_load_row rfl 28 (.tmp 4) rfl gB rfl 28 #[.bool b, .slice Ab1 lb1.length cb1, .slice Ab2 lb2.length cb2] (0, 0) _ (HS.out.blk 1 rfl) Try.underlying28 rfl (by kernel_rfl) ?_) | ((with_reducible refine gate_dst (N := 25) rfl ?_); refine lit_event ?hg (N := 25) ?hd (cs := #[.bool a, .slice Aa1 la1.length ca1, .slice Aa2 la2.length ca2, .bool b, .slice Ab1 lb1.length cb1, .slice Ab2 lb2.length cb2]) (t := 28) (n := 2) ?hr ?_; (case hd => rfl); (case hg => rfl); (case hr => first | (go_simp; done) | (go_simp; rfl)); intro gV hg4 w4 hx4 hb4; have nS : Aside0 (Sx w w4 [(.blk gV #[.bool a, .slice Aa1 la1.length ca1, .slice Aa2 la2.length ca2, .bool b, .slice Ab1 lb1.length cb1, .slice Ab2 lb2.length cb2] 28), (.blk gR #[.bool false, .slice none 0 0, .slice none 0 0] 28), (.blk gB #[.bool b, .slice Ab1 lb1.length cb1, .slice Ab2 lb2.length cb2] 28), (.blk gK #[.bool a, .slice Aa1 la1.length ca1, .slice Aa2 la2.length ca2] 28)]) := Aside0.mk (HS.out.box hg4 hx4 hb4); clear HS; have HS := nS; clear nS hg4 hx4 hb4) | (go_at_call 58; refine (impl_valid.calls k0 _ 2 [⟨a, la1, la2⟩, ⟨b, lb1, lb2⟩] 0 _ (pair_C (HS.out.blk 0 rfl) (Kd.C_below Ha1.out HS.out.below) Ka1.out (Kd.C_below Ha2.out HS.out.below) Ka2.out (Kd.C_below Hb1.out HS.out.below) Kb1.out (Kd.C_below Hb2.out HS.out.below) Kb2.out) (Nat.le_refl _) HV.out).mono ?_; rintro e w5 ⟨rfl, hb5⟩; have nS : Aside0 (Sx w w5 [(.blk gV #[.bool a, .slice Aa1 la1.length ca1, .slice Aa2 la2.length ca2, .bool b, .slice Ab1 lb1.length cb1, .slice Ab2 lb2.length cb2] 28), (.blk gR #[.bool false, .slice none 0 0, .slice none 0 0] 28), (.blk gB #[.bool b, .slice Ab1 lb1.length cb1, .slice Ab2 lb2.length cb2] 28), (.blk gK #[.bool a, .slice Aa1 la1.length ca1, .slice Aa2 la2.length ca2] 28)]) := Aside0.mk (HS.out.step hb5); clear HS; have HS := nS; clear nS hb5) | ((with_reducible refine gate_dst (N := 31) rfl ?_); refine wpList_load_row rfl 28 (.tmp 3) rfl gK rfl 28 #[.bool a, .slice Aa1 la1.length ca1, .slice Aa2 la2.length ca2] (0, 0) _ (HS.out.blk 3 rfl) Try.underlying28 rfl (by kernel_rfl) ?_) | (go_at_call 99; refine (impl_listOk.calls a Aa1 ca1 la1 Aa2 ca2 la2 0 _ (Kd.C_below Ha1.out HS.out.below) Ka1.out (Kd.C_below Ha2.out HS.out.below) Ka2.out HLO.out).mono ?_; rintro e w6 ⟨rfl, hb6⟩; have nS : Aside0 (Sx w w6 [(.blk gV #[.bool a, .slice Aa1 la1.length ca1, .slice Aa2 la2.length ca2, .bool b, .slice Ab1 lb1.length cb1, .slice Ab2 lb2.length cb2] 28), (.blk gR #[.bool false, .slice none 0 0, .slice none 0 0] 28), (.blk gB #[.bool b, .slice Ab1 lb1.length cb1, .slice Ab2 lb2.length cb2] 28), (.blk gK #[.bool a, .slice Aa1 la1.length ca1, .slice Aa2 la2.length ca2] 28)]) := Aside0.mk (HS.out.step hb6); clear HS; have HS := nS; clear nS hb6) | ((with_reducible refine gate_dst (N := 37) rfl ?_); refine wpList_load_row rfl 28 (.tmp 4) rfl gB rfl 28 #[.bool b, .slice Ab1 lb1.length cb1, .slice Ab2 lb2.length cb2] (0, 0) _ (HS.out.blk 2 rfl) Try.underlying28 rfl (by kernel_rfl) ?_) | (go_at_call 90; refine (impl_Array_rank.calls b Ab1 cb1 lb1 Ab2 cb2 lb2 (lb1.length : Int) _ (Kd.C_below Hb1.out HS.out.below) Kb1.out (Kd.C_below Hb2.out HS.out.below) Kb2.out rfl).mono ?_; rintro e w7 ⟨rfl, hb7⟩; have nS : Aside0 (Sx w w7 [(.blk gV #[.bool a, .slice Aa1 la1.length ca1, .slice Aa2 la2.length ca2, .bool b, .slice Ab1 lb1.length cb1, .slice Ab2 lb2.length cb2] 28), (.blk gR #[.bool false, .slice none 0 0, .slice none 0 0] 28), (.blk gB #[.bool b, .slice Ab1 lb1.length cb1, .slice Ab2 lb2.length cb2] 28), (.blk gK #[.bool a, .slice Aa1 la1.length ca1, .slice Aa2 la2.length ca2] 28)]) := Aside0.mk (HS.out.step hb7); clear HS; have HS := nS; clear nS hb7))
      go_meet
      case rel => exact ⟨by first | (rw [E39.out]; done) | (rw [E39.out, u1_d]), HS⟩
    · have E39 := Aside0.mk (show zq = false by rw [HZQ.out, decide_eq_false y1])
      have t1 : ((lb1.length : Int) == 0) = false := beq_eq_false_iff_ne.mpr (by omega)
      have u1_ : (lb1.length == 0) = false := beq_eq_false_iff_ne.mpr y1
      have u1_d : decide (lb1.length = 0) = false := decide_eq_false y1
      have u1_p : ¬ lb1.length = 0 := y1
      clear y1
      go_wp2_with (first | ((with_reducible refine gate_dst (N := 3) rfl ?_); refine box_event ?hg (N := 3) ?hd (cs := #[.bool a, .slice Aa1 la1.length ca1, .slice Aa2 la2.length ca2]) (t := 28) ?hr ?_; (case hd => rfl); (case hg => rfl); (case hr => first | (go_simp; done) | (go_simp; rfl)); intro gK hg1 w1 hx1 hb1; have nS : Aside0 (Sx w w1 [(.blk gK #[.bool a, .slice Aa1 la1.length ca1, .slice Aa2 la2.length ca2] 28)]) := Aside0.mk (HS.out.box hg1 hx1 hb1); clear HS; have HS := nS; clear nS hg1 hx1 hb1) | ((with_reducible refine gate_dst (N := 4) rfl ?_); refine box_event ?hg (N := 4) ?hd (cs := #[.bool b, .slice Ab1 lb1.length cb1, .slice Ab2 lb2.length cb2]) (t := 28) ?hr ?_; (case hd => rfl); (case hg => rfl); (case hr => first | (go_simp; done) | (go_simp; rfl)); intro gB hg2 w2 hx2 hb2; have nS : Aside0 (Sx w w2 [(.blk gB #[.bool b, .slice Ab1 lb1.length cb1, .slice Ab2 lb2.length cb2] 28), (.blk gK #[.bool a, .slice Aa1 la1.length ca1, .slice Aa2 la2.length ca2] 28)]) := Aside0.mk (HS.out.box hg2 hx2 hb2); clear HS; have HS := nS; clear nS hg2 hx2 hb2) | ((with_reducible refine gate_dst (N := 6) rfl ?_); refine box_event ?hg (N := 6) ?hd (cs := #[.bool false, .slice none 0 0, .slice none 0 0]) (t := 28) ?hr ?_; (case hd => rfl); (case hg => rfl); (case hr => first | (go_simp; done) | (go_simp; rfl)); intro gR hg3 w3 hx3 hb3; have nS : Aside0 (Sx w w3 [(.blk gR #[.bool false, .slice none 0 0, .slice none 0 0] 28), (.blk gB #[.bool b, .slice Ab1 lb1.length cb1, .slice Ab2 lb2.length cb2] 28), (.blk gK #[.bool a, .slice Aa1 la1.length ca1, .slice Aa2 la2.length ca2] 28)]) := Aside0.mk (HS.out.box hg3 hx3 hb3); clear HS; have HS := nS; clear nS hg3 hx3 hb3) | ((with_reducible refine gate_dst (N := 23) rfl ?_); refine wpList_load_row rfl 28 (.tmp 3) rfl gK rfl 28 #[.bool a, .slice Aa1 la1.length ca1, .slice Aa2 la2.length ca2] (0, 0) _ (HS.out.blk 2 rfl) Try.underlying28 rfl (by kernel_rfl) ?_) | ((with_reducible refine gate_dst (N := 24) rfl ?_); refine wpList_load_row rfl 28 (.tmp 4) rfl gB rfl 28 #[.bool b, .slice Ab1 lb1.length cb1, .slice Ab2 lb2.length cb2] (0, 0) _ (HS.out.blk 1 rfl) Try.underlying28 rfl (by kernel_rfl) ?_) | ((with_reducible refine gate_dst (N := 25) rfl ?_); refine lit_event ?hg (N := 25) ?hd (cs := #[.bool a, .slice Aa1 la1.length ca1, .slice Aa2 la2.length ca2, .bool b, .slice Ab1 lb1.length cb1, .slice Ab2 lb2.length cb2]) (t := 28) (n := 2) ?hr ?_; (case hd => rfl); (case hg => rfl); (case hr => first | (go_simp; done) | (go_simp; rfl)); intro gV hg4 w4 hx4 hb4; have nS : Aside0 (Sx w w4 [(.blk gV #[.bool a, .slice Aa1 la1.length ca1, .slice Aa2 la2.length ca2, .bool b, .slice Ab1 lb1.length cb1, .slice Ab2 lb2.length cb2] 28), (.blk gR #[.bool false, .slice none 0 0, .slice none 0 0] 28), (.blk gB #[.bool b, .slice Ab1 lb1.length cb1, .slice Ab2 lb2.length cb2] 28), (.blk gK #[.bool a, .slice Aa1 la1.length ca1, .slice Aa2 la2.length ca2] 28)]) := Aside0.mk (HS.out.box hg4 hx4 hb4); clear HS; have HS := nS; clear nS hg4 hx4 hb4) | (go_at_call 58; refine (impl_valid.calls k0 _ 2 [⟨a, la1, la2⟩, ⟨b, lb1, lb2⟩] 0 _ (pair_C (HS.out.blk 0 rfl) (Kd.C_below Ha1.out HS.out.below) Ka1.out (Kd.C_below Ha2.out HS.out.below) Ka2.out (Kd.C_below Hb1.out HS.out.below) Kb1.out (Kd.C_below Hb2.out HS.out.below) Kb2.out) (Nat.le_refl _) HV.out).mono ?_; rintro e w5 ⟨rfl, hb5⟩; have nS : Aside0 (Sx w w5 [(.blk gV #[.bool a, .slice Aa1 la1.length ca1, .slice Aa2 la2.length ca2, .bool b, .slice Ab1 lb1.length cb1, .slice Ab2 lb2.length cb2] 28), (.blk gR #[.bool false, .slice none 0 0, .slice none 0 0] 28), (.blk gB #[.bool b, .slice Ab1 lb1.length cb1, .slice Ab2 lb2.length cb2] 28), (.blk gK #[.bool a, .slice Aa1 la1.length ca1, .slice Aa2 la2.length ca2] 28)]) := Aside0.mk (HS.out.step hb5); clear HS; have HS := nS; clear nS hb5) | ((with_reducible refine gate_dst (N := 31) rfl ?_); refine wpList_load_row rfl 28 (.tmp 3) rfl gK rfl 28 #[.bool a, .slice Aa1 la1.length ca1, .slice Aa2 la2.length ca2] (0, 0) _ (HS.out.blk 3 rfl) Try.underlying28 rfl (by kernel_rfl) ?_) | (go_at_call 99; refine (impl_listOk.calls a Aa1 ca1 la1 Aa2 ca2 la2 0 _ (Kd.C_below Ha1.out HS.out.below) Ka1.out (Kd.C_below Ha2.out HS.out.below) Ka2.out HLO.out).mono ?_; rintro e w6 ⟨rfl, hb6⟩; have nS : Aside0 (Sx w w6 [(.blk gV #[.bool a, .slice Aa1 la1.length ca1, .slice Aa2 la2.length ca2, .bool b, .slice Ab1 lb1.length cb1, .slice Ab2 lb2.length cb2] 28), (.blk gR #[.bool false, .slice none 0 0, .slice none 0 0] 28), (.blk gB #[.bool b, .slice Ab1 lb1.length cb1, .slice Ab2 lb2.length cb2] 28), (.blk gK #[.bool a, .slice Aa1 la1.length ca1, .slice Aa2 la2.length ca2] 28)]) := Aside0.mk (HS.out.step hb6); clear HS; have HS := nS; clear nS hb6) | ((with_reducible refine gate_dst (N := 37) rfl ?_); refine wpList_load_row rfl 28 (.tmp 4) rfl gB rfl 28 #[.bool b, .slice Ab1 lb1.length cb1, .slice Ab2 lb2.length cb2] (0, 0) _ (HS.out.blk 2 rfl) Try.underlying28 rfl (by kernel_rfl) ?_) | (go_at_call 90; refine (impl_Array_rank.calls b Ab1 cb1 lb1 Ab2 cb2 lb2 (lb1.length : Int) _ (Kd.C_below Hb1.out HS.out.below) Kb1.out (Kd.C_below Hb2.out HS.out.below) Kb2.out rfl).mono ?_; rintro e w7 ⟨rfl, hb7⟩; have nS : Aside0 (Sx w w7 [(.blk gV #[.bool a, .slice Aa1 la1.length ca1, .slice Aa2 la2.length ca2, .bool b, .slice Ab1 lb1.length cb1, .slice Ab2 lb2.length cb2] 28), (.blk gR #[.bool false, .slice none 0 0, .slice none 0 0] 28), (.blk gB #[.bool b, .slice Ab1 lb1.length cb1, .slice Ab2 lb2.length cb2] 28), (.blk gK #[.bool a, .slice Aa1 la1.length ca1, .slice Aa2 la2.length ca2] 28)]) := Aside0.mk (HS.out.step hb7); clear HS; have HS := nS; clear nS hb7))
      go_meet
      case rel => exact ⟨by first | (rw [E39.out]; done) | (rw [E39.out, u1_d]), HS⟩
  clear HS
  obtain ⟨e39, HS⟩ := hcut
  subst e39
  go_upto_if 39 with fail
  go_cut [] from 40 to 45 (fun wx => ∃ Bs ds, Kd.C (Kd.int .i64) wx Bs L1.length L1 ∧ L1.length ≤ ds ∧ Aside0 (Sx w wx [(.blk gR #[.bool false, .slice none 0 0, .slice none 0 0] 28), (.blk gB #[.bool b, .slice Bs L1.length ds, .slice Ab2 lb2.length cb2] 28), (.blk gK #[.bool a, .slice Aa1 la1.length ca1, .slice Aa2 la2.length ca2] 28)]))
  case first =>
    by_cases y1 : lb1.length = 0
    · have eq_ : zq = true := by rw [HZQ.out, decide_eq_true y1]
      clear HZQ
      subst eq_
      have e_ : L1 = [(lb2.length : Int)] := by rw [HL1.out, if_pos y1]
      subst L1
      clear HL1 y1
      go_upto_region 8 with fail
      have nS := Aside0.mk HS.out.drew
      clear HS
      have HS := nS
      clear nS
      refine start_ (n := 7) (S := (fun w' => w'.cell? ⟨gB, 2, none⟩ = some (.slice Ab2 lb2.length cb2) ∧ w'.cell? ⟨gB, 0, none⟩ = some (.bool b))) (ds := [6]) #[false, false, false, false, false, false, false] (by kernel_rfl) rfl rfl ⟨(blk_cell (HS.out.blk 2 rfl) 2).trans rfl, (blk_cell (HS.out.blk 2 rfl) 0).trans rfl⟩ (fun hHeld => ?_)
      refine pure_ (i := 0) (N := (some 40)) (v := ?_) (a' := ?_) #[true, false, false, false, false, false, false] rfl rfl (by kernel_rfl) (fun _ _ _ h => h) (Or.inl ⟨by rfl, ?_⟩) ?_ ?_
      rotate_left
      · intro w'
        go_simp
        with_reducible rfl
      rotate_left
      · simp only [Act.put, List.setIfInBounds_toArray, List.set_cons_zero, List.set_cons_succ]
        rfl
      refine take_ (i := 1) (N := (some 41)) (v := ?_) (a' := ?_) #[true, true, false, false, false, false, false] rfl rfl (by kernel_rfl) (fun _ _ _ h => h) (Or.inl ⟨by rfl, ?_⟩) hHeld ?_ ?_
      rotate_left
      · rintro w' ⟨s0, s1⟩
        go_simp
        with_reducible rfl
      rotate_left
      · simp only [Act.put, List.setIfInBounds_toArray, List.set_cons_zero, List.set_cons_succ]
        rfl
      refine pure_ (i := 3) (N := (some 43)) (v := ?_) (a' := ?_) #[true, true, false, true, false, false, false] rfl rfl (by kernel_rfl) (fun _ _ _ h => h) (Or.inl ⟨by rfl, ?_⟩) ?_ ?_
      rotate_left
      · intro w'
        go_simp
        with_reducible rfl
      rotate_left
      · simp only [Act.put, List.setIfInBounds_toArray, List.set_cons_zero, List.set_cons_succ]
        rfl
      refine take_ (i := 4) (N := (some 44)) (v := ?_) (a' := ?_) #[true, true, false, true, true, false, false] rfl rfl (by kernel_rfl) (fun _ _ _ h => h) (Or.inl ⟨by rfl, ?_⟩) hHeld ?_ ?_
      rotate_left
      · rintro w' ⟨s0, s1⟩
        go_simp
        with_reducible rfl
      rotate_left
      · simp only [Act.put, List.setIfInBounds_toArray, List.set_cons_zero, List.set_cons_succ]
        rfl
      refine one_ (i := 2) (N := (some 42)) #[true, true, true, true, true, false, false] rfl rfl (by kernel_rfl) (by decide) (fun K hK => ?_)
      refine goes_ Try.func100 (by kernel_rfl) rfl #[.slice Ab2 lb2.length cb2] (by rfl) rfl rfl (by (try simp only [List.map_toArray, List.map_cons, List.map_nil]); first | done | rfl) ?_
      with_reducible refine (vec_any Ab2 lb2.length cb2 _).mono ?_
      rintro e wp8 ⟨gO, rfl, hcp8, hgp8, hbp8⟩
      have nS : Aside0 (Sx w wp8 [(.blk gO #[.int .i64 (lb2.length : Int)] 3), (.blk gV #[.bool a, .slice Aa1 la1.length ca1, .slice Aa2 la2.length ca2, .bool b, .slice Ab1 lb1.length cb1, .slice Ab2 lb2.length cb2] 28), (.blk gR #[.bool false, .slice none 0 0, .slice none 0 0] 28), (.blk gB #[.bool b, .slice Ab1 lb1.length cb1, .slice Ab2 lb2.length cb2] 28), (.blk gK #[.bool a, .slice Aa1 la1.length ca1, .slice Aa2 la2.length ca2] 28)]) := Aside0.mk (HS.out.vecAdd hcp8 hgp8 hbp8)
      clear HS
      have HS := nS
      clear nS
      refine ⟨_, rfl, ?_⟩
      refine hK.out _ _ ⟨(blk_cell (HS.out.blk 3 rfl) 2).trans rfl, (blk_cell (HS.out.blk 3 rfl) 0).trans rfl⟩ (fun hHeld => ?_)
      clear hK K
      refine norm_ (a' := ?_) ?_ ?_
      rotate_left
      · show Act.put _ (some 42) _ = _
        simp only [Act.put, List.setIfInBounds_toArray, List.set_cons_zero, List.set_cons_succ]
        rfl
      refine one_ (i := 5) (N := (some 45)) #[true, true, true, true, true, true, false] rfl rfl (by kernel_rfl) (by decide) (fun K hK => ?_)
      refine goes_ Try.func101 (by kernel_rfl) rfl #[.agg #[.bool false, .slice (some ⟨gO, 0, none⟩) 1 1, .slice Ab2 lb2.length cb2], .bool b] (by rfl) rfl rfl (by (try simp only [List.map_toArray, List.map_cons, List.map_nil]); first | done | rfl) ?_
      with_reducible refine (as_any false b (some ⟨gO, 0, none⟩) 1 1 Ab2 lb2.length cb2 _).mono ?_
      rintro e wp9 ⟨rfl, hbp9⟩
      have nS : Aside0 (Sx w wp9 [(.blk gO #[.int .i64 (lb2.length : Int)] 3), (.blk gV #[.bool a, .slice Aa1 la1.length ca1, .slice Aa2 la2.length ca2, .bool b, .slice Ab1 lb1.length cb1, .slice Ab2 lb2.length cb2] 28), (.blk gR #[.bool false, .slice none 0 0, .slice none 0 0] 28), (.blk gB #[.bool b, .slice Ab1 lb1.length cb1, .slice Ab2 lb2.length cb2] 28), (.blk gK #[.bool a, .slice Aa1 la1.length ca1, .slice Aa2 la2.length ca2] 28)]) := Aside0.mk (HS.out.step hbp9)
      clear HS
      have HS := nS
      clear nS
      refine ⟨_, rfl, ?_⟩
      refine hK.out _ _ ⟨(blk_cell (HS.out.blk 3 rfl) 2).trans rfl, (blk_cell (HS.out.blk 3 rfl) 0).trans rfl⟩ (fun hHeld => ?_)
      clear hK K
      refine norm_ (a' := ?_) ?_ ?_
      rotate_left
      · show Act.put _ (some 45) _ = _
        simp only [Act.put, List.setIfInBounds_toArray, List.set_cons_zero, List.set_cons_succ]
        rfl
      refine last_ (i := 6) (N := none) #[true, true, true, true, true, true, true] rfl rfl (by kernel_rfl) (by decide) (fun K hK => ?_)
      refine store_named_step (by rfl) 28 (.tmp 4) (.tmp 45) rfl gB #[.bool b, .slice (some ⟨gO, 0, none⟩) 1 1, .slice Ab2 lb2.length cb2] rfl rfl 28 #[.bool b, .slice Ab1 lb1.length cb1, .slice Ab2 lb2.length cb2] (HS.out.blk 3 rfl) (by kernel_rfl) rfl (by simp [Value.oneCell']) ?_
      intro wz hxz hbz
      have nS : Aside0 (Sx w wz [(.blk gO #[.int .i64 (lb2.length : Int)] 3), (.blk gV #[.bool a, .slice Aa1 la1.length ca1, .slice Aa2 la2.length ca2, .bool b, .slice Ab1 lb1.length cb1, .slice Ab2 lb2.length cb2] 28), (.blk gR #[.bool false, .slice none 0 0, .slice none 0 0] 28), (.blk gB #[.bool b, .slice (some ⟨gO, 0, none⟩) 1 1, .slice Ab2 lb2.length cb2] 28), (.blk gK #[.bool a, .slice Aa1 la1.length ca1, .slice Aa2 la2.length ca2] 28)]) := Aside0.mk (HS.out.put 3 rfl hxz hbz)
      clear HS hxz hbz
      have HS := nS
      clear nS
      refine hK.out _ _ ?_
      clear hK K
      refine done_ (by kernel_rfl) ?_
      go_simp
      go_wp2
      go_meet
      case rel => exact ⟨some ⟨gO, 0, none⟩, 1, rowI_C (l := [(lb2.length : Int)]) (HS.out.blk 0 rfl) (by simp), Nat.le_refl _, Aside0.mk (HS.out.sub (by first | exact (List.Sublist.cons _ (.cons _ (List.Sublist.refl _))) | (repeat (first | exact List.Sublist.refl _ | apply List.Sublist.cons₂ | apply List.Sublist.cons))))⟩
    · have eq_ : zq = false := by rw [HZQ.out, decide_eq_false y1]
      clear HZQ
      subst eq_
      have e_ : L1 = lb1 := by rw [HL1.out, if_neg y1]
      subst L1
      clear HL1 y1
      go_wp2
      go_meet
      case rel => exact ⟨Ab1, cb1, (Kd.C_below Hb1.out HS.out.below), Kb1.out, Aside0.mk (HS.out.sub (by first | exact (List.Sublist.cons _ (List.Sublist.refl _)) | exact List.Sublist.refl _))⟩
  clear HS
  obtain ⟨Bs, ds, hCB1, hKB1, HS⟩ := hcut
  generalize wc = wz7 at *
  have CB1 := Aside0.mk hCB1
  have KB1 := Aside0.mk hKB1
  clear hCB1 hKB1
  have HB0 := Aside0.mk HS.out.below
  have HGR := Aside0.mk (HS.out.get 0 rfl).2
  obtain ⟨ad, rfl, y_⟩ := Kd.at_int CB1.out (t : Int) (by omega) (by have := HTL.out; omega)
  clear y_
  have p0 : 0 ≤ (t : Int) := by omega
  have p1 : (t : Int) < (L1.length : Int) := by have := HTL.out; omega
  have HRB := Aside0.mk (HS.out.blk 0 rfl)
  have HBB := Aside0.mk (HS.out.blk 1 rfl)
  have HKB := Aside0.mk (HS.out.blk 2 rfl)
  have HGL := Aside0.mk (blk_lt HRB.out)
  have CA1 := Aside0.mk (Kd.C_below Ha1.out HB0.out)
  have CA2 := Aside0.mk (Kd.C_below Ha2.out HB0.out)
  have CB2 := Aside0.mk (Kd.C_below Hb2.out HB0.out)
  clear HS
  have HS := Aside0.mk (Sx.start wz7)
  go_upto_region 12 with (first | ((with_reducible refine gate_dst (N := 46) rfl ?_); refine wpList_load_row rfl 28 (.tmp 4) rfl gB rfl 28 #[.bool b, .slice (some ad) L1.length ds, .slice Ab2 lb2.length cb2] (0, 0) _ (blk_below HBB.out HS.out.below) Try.underlying28 rfl (by kernel_rfl) ?_) | (go_at_call 102; refine (impl_firstAxis.calls b (some ad) ds L1 Ab2 cb2 lb2 first (t : Int) _ (Kd.C_below CB1.out HS.out.below) KB1.out (Kd.C_below CB2.out HS.out.below) Kb2.out HFA.out).mono ?_; rintro e we1 ⟨rfl, hbe1⟩; have nS : Aside0 (Sx wz7 we1 []) := Aside0.mk (HS.out.step hbe1); clear HS; have HS := nS; clear nS hbe1) | ((with_reducible refine gate_dst (N := 10) rfl ?_); refine box_event ?hg (N := 10) ?hd (cs := #[.int .i64 0]) (t := 3) ?hr ?_; (case hd => rfl); (case hg => rfl); (case hr => first | (go_simp; done) | (go_simp; rfl)); intro gT hge2 we2 hxe2 hbe2; have nS : Aside0 (Sx wz7 we2 [(.blk gT #[.int .i64 0] 3)]) := Aside0.mk (HS.out.box hge2 hxe2 hbe2); clear HS; have HS := nS; clear nS hge2 hxe2 hbe2) | ((with_reducible refine gate_store rfl ?_); refine ev_store rfl 3 (.tmp 10) (.tmp 48) rfl gT 0 rfl (.int .i64 (t : Int)) rfl #[.int .i64 0] 3 (HS.out.blk 0 rfl) (show 0 < 1 from by decide) rfl (by kernel_rfl) ?_; intro we3 hxe3 hbe3; have nS : Aside0 (Sx wz7 we3 [(.blk gT #[.int .i64 (t : Int)] 3)]) := Aside0.mk (HS.out.put 0 rfl hxe3 hbe3); clear HS; have HS := nS; clear nS hxe3 hbe3) | ((with_reducible refine gate_dst (N := 50) rfl ?_); refine ev_load rfl 22 (.tmp 49) rfl ⟨gB, 1, none⟩ rfl (.slice (some ad) L1.length ds) ((blk_cell (blk_below HBB.out HS.out.below) 1).trans rfl) (by kernel_rfl) ?_) | ((with_reducible refine gate_dst (N := 51) rfl ?_); refine ev_load rfl 3 (.tmp 10) rfl ⟨gT, 0, none⟩ rfl (.int .i64 (t : Int)) ((blk_cell (HS.out.blk 0 rfl) 0).trans rfl) (by kernel_rfl) ?_) | ((with_reducible refine gate_dst (N := 53) rfl ?_); refine ev_load rfl 3 (.tmp 52) rfl (ad.add t) rfl (.int .i64 (n : Int)) ((C_at (Kd.C_below CB1.out HS.out.below) t HTL.out).trans (by rw [HN.out])) (by kernel_rfl) ?_) | ((with_reducible refine gate_dst (N := 55) rfl ?_); refine wpList_load_row rfl 28 (.tmp 3) rfl gK rfl 28 #[.bool a, .slice Aa1 la1.length ca1, .slice Aa2 la2.length ca2] (0, 0) _ (blk_below HKB.out HS.out.below) Try.underlying28 rfl (by kernel_rfl) ?_) | (go_at_call 103; refine (HT.out.go _ (below_step HB0.out HS.out.below)).mono ?_; rintro e we4 ⟨At, ct, rfl, hCT, hKT, hbe4⟩; have nS : Aside0 (Sx wz7 we4 [(.blk gT #[.int .i64 (t : Int)] 3)]) := Aside0.mk (HS.out.step hbe4); clear HS; have HS := nS; clear nS hbe4))
  generalize we4 = wz8 at *
  have CT := Aside0.mk hCT
  have KT := Aside0.mk hKT
  clear hCT hKT
  have HB8 := Aside0.mk (below_step HB0.out HS.out.below)
  have HK8 := Aside0.mk (blk_below HKB.out HS.out.below)
  have HBB8 := Aside0.mk (blk_below HBB.out HS.out.below)
  have HR8 := Aside0.mk (blk_below HRB.out HS.out.below)
  have HT8 := Aside0.mk (HS.out.blk 0 rfl)
  have CB18 := Aside0.mk (Kd.C_below CB1.out HS.out.below)
  have CB28 := Aside0.mk (Kd.C_below CB2.out HS.out.below)
  have HGL8 := Aside0.mk (blk_lt HR8.out)
  clear HS HKB HBB HRB CB1 CB2 HGL CA1 CA2
  have HS := Aside0.mk (Sx.start wz8)
  go_wp2
  go_loopw [14, 16, 66] (fun tt _ zz wr => ∃ j : Nat, zz = .int .i64 (j : Int) ∧ tt = .int .i64 (totU L j) ∧ Aside0 (j ≤ L.length) ∧ Aside0 (Sx wz8 wr [])) (fun _ _ zz _ => L.length - (intOf zz).toNat)
  case atStart => exact ⟨0, rfl, rfl, ⟨Nat.zero_le _⟩, HS⟩
  case round =>
    clear HS
    obtain ⟨j, rfl, rfl, hj, HS⟩ := hrel
    by_cases hlt : j < L.length
    · have h5_ := HLL.out
      obtain ⟨ad2, rfl, y1⟩ := Kd.at_int CT.out (j : Int) (by omega) (by omega)
      clear y1
      have hx_ := HLR.out _ (rd_memR L j hlt)
      obtain ⟨x_, hX⟩ : ∃ x, rd L (j : Int) = x := ⟨_, rfl⟩
      have HX := Aside0.mk hX
      rw [hX] at hx_
      clear hX
      have p3 : (j : Int) < (L.length : Int) := by omega
      have p2 : 0 ≤ (j : Int) := by omega
      have w1 : IntKind.i64.wrap ((j : Int) + 1) = ((j + 1 : Nat) : Int) := by rw [IntWalk.i64_in _ (by omega)]; omega
      have yy : wr.cell? (ad2.add j) = some (.int .i64 x_) := (C_at (Kd.C_below CT.out HS.out.below) j hlt).trans (by rw [HX.out])
      clear h5_
      have hu_ := totU_le L HLR.out j hj.out
      obtain ⟨u_, hU⟩ : ∃ u, totU L j = u := ⟨_, rfl⟩
      have HU := Aside0.mk hU
      rw [hU] at hu_ ⊢
      clear hU
      have wt : IntKind.i64.wrap (u_ + x_) = u_ + x_ := IntWalk.i64_in _ (by omega)
      have HUX := Aside0.mk (And.intro hu_ hx_)
      clear hu_ hx_
      go_wp2
      go_roundw
      case rel => exact ⟨j + 1, by first | rfl | (push_cast; rfl), by rw [totU, HU.out, HX.out], ⟨by omega⟩, HS⟩
      case measure => simp [intOf]; omega
    · have er : j = L.length := by have := hj.out; omega
      subst er
      rw [HTOT.out]
      have p3 : ¬ (L.length : Int) < (L.length : Int) := by omega
      clear hlt hj
      go_upto_region 23 with (first | ((with_reducible refine gate_dst (N := 76) rfl ?_); refine ev_load rfl 22 (.tmp 75) rfl ⟨gB, 1, none⟩ rfl (.slice (some ad) L1.length ds) ((blk_cell (blk_below HBB8.out HS.out.below) 1).trans rfl) (by kernel_rfl) ?_) | (go_at_call 104; refine (slices_Clone_int_int.calls (some ad) ds L1 L1 _ (Kd.C_below CB18.out HS.out.below) KB1.out (by simp only [slices_Clone_int_int.f]; rw [if_pos (by have := H5.out; omega)])).mono ?_; rintro e w1 ⟨v0, rfl, hr1, hb1⟩; obtain ⟨gs, cs_, e_, -, -, -⟩ := Kd.R_form hr1 (by have := HTL.out; omega); subst e_; have nS : Aside0 (Sx wz8 w1 [(.row (.slice (some ⟨gs, 0, none⟩) L1.length cs_) L1)]) := Aside0.mk (HS.out.addRow hb1 hr1); clear HS; have HS := nS; clear nS hb1 hr1) | ((with_reducible refine gate_dst (N := 79) rfl ?_); refine ev_load rfl 3 (.tmp 10) rfl ⟨gT, 0, none⟩ rfl (.int .i64 (t : Int)) ((blk_cell (blk_below HT8.out HS.out.below) 0).trans rfl) (by kernel_rfl) ?_) | ((with_reducible refine gate_store rfl ?_); refine HS.out.storeAt 0 rfl rfl 3 _ _ rfl t HTL.out rfl tot rfl (by kernel_rfl) ?_; intro wz n_ hbz; rw [HS2.out] at n_; have nS : Aside0 (Sx wz8 wz [(.row (.slice (some ⟨gs, 0, none⟩) L1.length cs_) S2)]) := Aside0.mk n_; clear HS n_ hbz; have HS := nS; clear nS) | (go_at_call 94; refine (shapeOk_len k1 L1.length (some ⟨gs, 0, none⟩) cs_ S2 (zN, zok) _ (HS.out.C 0 rfl) (HS.out.cap 0 rfl) HSL.out HSH.out).mono ?_; rintro e w2 ⟨rfl, hb2⟩; have nS : Aside0 (Sx wz8 w2 [(.row (.slice (some ⟨gs, 0, none⟩) L1.length cs_) S2)]) := Aside0.mk (HS.out.step hb2); clear HS; have HS := nS; clear nS hb2))
      cases zok
      · obtain ⟨e1_, e2_, e3_, e4_⟩ := H7.out (by first | trivial | rfl)
        subst e1_ e2_ e3_ e4_
        clear H7 H0
        go_wp2_with ((with_reducible refine gate_store rfl ?_); refine store_named rfl 28 (.tmp 6) (.tmp 89) rfl gR #[.bool false, .slice none 0 0, .slice none 0 0] rfl rfl 28 #[.bool false, .slice none 0 0, .slice none 0 0] (blk_below HR8.out HS.out.below) (by kernel_rfl) rfl (by simp [Value.oneCell']) ?_; intro wF hxF hbF; have HXF := Aside0.mk hxF; have HBF := Aside0.mk hbF; clear hxF hbF)
        refine bodyPost_ret (results_ct rfl _ _ gR 28 #[.bool false, .slice none 0 0, .slice none 0 0] (0, 0) _ rfl HXF.out Try.underlying28 rfl (by kernel_rfl)) rfl ?_
        exact ⟨_, _, rfl, Kd.R_nil _ _ _ _ _, Kd.R_nil _ _ _ _ _, (below_step HB8.out HS.out.below).trans (HBF.out.below _ HGR.out)⟩
      · obtain ⟨e1_, e2_, e3_, e4_⟩ := H0.out (by first | trivial | rfl)
        subst K_
        subst S1_
        subst S2_
        subst cd_
        clear H7 H0
        obtain ⟨hp_, hk_, hr_, hb_, hg_, hm_⟩ := HGO.out (by first | trivial | rfl)
        clear HGO
        have HP := Aside0.mk hp_
        clear hp_
        have HKS := Aside0.mk hk_
        clear hk_
        have HRS := Aside0.mk hr_
        clear hr_
        have HBD := Aside0.mk hb_
        clear hb_
        have HRG := Aside0.mk hg_
        clear hg_
        have HMO := Aside0.mk hm_
        clear hm_
        go_wp2_with (first | ((with_reducible refine gate_dst (N := 20) rfl ?_); refine box_event ?hg (N := 20) ?hd (cs := #[.slice none 0 0]) (t := 22) ?hr ?_; (case hd => rfl); (case hg => rfl); (case hr => first | (go_simp; done) | (go_simp; rfl)); intro gSrc hg3 w3 hx3 hb3; have nS : Aside0 (Sx wz8 w3 [(.blk gSrc #[.slice none 0 0] 22), (.row (.slice (some ⟨gs, 0, none⟩) L1.length cs_) S2)]) := Aside0.mk (HS.out.box hg3 hx3 hb3); clear HS; have HS := nS; clear nS hg3 hx3 hb3))
        have nS : Aside0 (Sx wz8 _ [(.row (.slice none 0 0) []), (.blk gSrc #[.slice none 0 0] 22), (.row (.slice (some ⟨gs, 0, none⟩) L1.length cs_) S2)]) := Aside0.mk (HS.out.nilRow 0 (Nat.zero_le _))
        clear HS 
        have HS := nS
        clear nS
        go_loopw [21, 22, 92] (fun _ _ zz wr => ∃ (j : Nat) (A : Option Addr) (n_ c : Nat), zz = .int .i64 (j : Int) ∧ Aside0 (j ≤ L.length) ∧ Aside0 ((srcL n L j).length = n_) ∧ Aside0 (Sx wz8 wr [(.row (.slice A n_ c) (srcL n L j)), (.blk gSrc #[.slice A n_ c] 22), (.row (.slice (some ⟨gs, 0, none⟩) L1.length cs_) S2)])) (fun _ _ zz _ => L.length - (intOf zz).toNat)
        case atStart => exact ⟨0, none, 0, 0, rfl, ⟨Nat.zero_le _⟩, ⟨rfl⟩, HS⟩
        case round =>
          clear HS
          obtain ⟨j, A, n_, c, rfl, hj, HN_, HS⟩ := hrel
          by_cases hlt : j < L.length
          · have h5_ := HLL.out
            obtain ⟨ad2, rfl, y1⟩ := Kd.at_int CT.out (j : Int) (by omega) (by omega)
            clear y1
            have hx_ := HLR.out _ (rd_memR L j hlt)
            obtain ⟨x_, hX⟩ : ∃ x, rd L (j : Int) = x := ⟨_, rfl⟩
            have HX := Aside0.mk hX
            rw [hX] at hx_
            clear hX
            have p3 : (j : Int) < (L.length : Int) := by omega
            have p2 : 0 ≤ (j : Int) := by omega
            have w1 : IntKind.i64.wrap ((j : Int) + 1) = ((j + 1 : Nat) : Int) := by rw [IntWalk.i64_in _ (by omega)]; omega
            have yy : wr.cell? (ad2.add j) = some (.int .i64 x_) := (C_at (Kd.C_below CT.out HS.out.below) j hlt).trans (by rw [HX.out])
            clear h5_
            obtain ⟨m, hm⟩ : ∃ m : Nat, x_ = (m : Int) := ⟨x_.toNat, by omega⟩
            subst hm
            clear hx_
            obtain ⟨v_, hv⟩ : ∃ v, (if (n : Int) - 1 < (j : Int) then (n : Int) - 1 else (j : Int)) = v := ⟨_, rfl⟩
            have HV_ := Aside0.mk hv
            clear hv
            have hn1 := HN1.out j hlt
            have wn : IntKind.i64.wrap ((n : Int) - 1) = (n : Int) - 1 := IntWalk.i64_in _ (by omega)
            have HN1_ := Aside0.mk hn1
            clear hn1
            have hbd := HBD.out (j + 1) hlt
            rw [srcL, List.length_append, List.length_replicate, HX.out, Int.toNat_natCast, HN_.out] at hbd
            have HBD1 := Aside0.mk hbd
            clear hbd
            go_wp2
            go_loopw [98] (fun zz wr => ∃ (q : Nat) (A : Option Addr) (n2 c : Nat), zz = .int .i64 (q : Int) ∧ Aside0 (q ≤ m) ∧ Aside0 (n_ + q = n2) ∧ Aside0 (Sx wz8 wr [(.row (.slice A n2 c) (srcL n L j ++ List.replicate q v_)), (.blk gSrc #[.slice A n2 c] 22), (.row (.slice (some ⟨gs, 0, none⟩) L1.length cs_) S2)])) (fun zz _ => m - (intOf zz).toNat)
            case atStart => exact ⟨0, A, n_, c, rfl, ⟨Nat.zero_le _⟩, ⟨rfl⟩, ⟨by rw [List.replicate_zero, List.append_nil]; exact HS.out⟩⟩
            case round =>
              clear HS
              obtain ⟨q, A, n2, c, rfl, hq, HN2, HS⟩ := hrel
              by_cases hqm : q < m
              · have HQM := Aside0.mk hqm
                have p5 : (q : Int) < (m : Int) := by omega
                have w2 : IntKind.i64.wrap ((q : Int) + 1) = ((q + 1 : Nat) : Int) := by rw [IntWalk.i64_in _ (by have := HBD1.out; omega)]; omega
                have hvv := HV_.out
                go_wp2_with (first | ((with_reducible refine gate_dst (N := 100) rfl ?_); refine ev_load rfl 22 (.tmp 20) rfl ⟨gSrc, 0, none⟩ rfl (.slice A n2 c) ((blk_cell (HS.out.blk 1 rfl) 0).trans rfl) (by kernel_rfl) ?_) | ((with_reducible refine gate_dst (N := 105) rfl ?_); refine lit_event ?hg (N := 105) ?hd (cs := #[.int .i64 v_]) (t := 3) (n := 1) ?hr ?_; (case hd => rfl); (case hg => rfl); (case hr => first | (go_simp; done) | (go_simp; rfl)); intro gM hgi4 wi4 hxi4 hbi4; have nS : Aside0 (Sx wz8 wi4 [(.blk gM #[.int .i64 v_] 3), (.row (.slice A n2 c) (srcL n L j ++ List.replicate q v_)), (.blk gSrc #[.slice A n2 c] 22), (.row (.slice (some ⟨gs, 0, none⟩) L1.length cs_) S2)]) := Aside0.mk (HS.out.box hgi4 hxi4 hbi4); clear HS; have HS := nS; clear nS hgi4 hxi4 hbi4) | ((with_reducible refine gate_dst (N := 106) rfl ?_); refine HS.out.appendRows 1 rfl n2 (n2 + 1) (by rw [List.length_append, List.length_replicate, HN_.out, HN2.out]) rfl (.tmp 100) (.tmp 105) rfl Try.underlying22 info3 (some ⟨gM, 0, none⟩) 1 1 [v_] _ rfl rfl rfl (rowI_C (l := [v_]) (HS.out.blk 0 rfl) (by simp)) rfl rfl (by have := HBD1.out; have := HN2.out; have := HQM.out; omega) ?_; intro A2 c2 wJ nJ; have nS : Aside0 (Sx wz8 wJ [(.blk gM #[.int .i64 v_] 3), (.row (.slice A2 (n2 + 1) c2) ((srcL n L j ++ List.replicate q v_) ++ [v_])), (.blk gSrc #[.slice A n2 c] 22), (.row (.slice (some ⟨gs, 0, none⟩) L1.length cs_) S2)]) := Aside0.mk nJ; clear HS nJ; have HS := nS; clear nS) | ((with_reducible refine gate_store rfl ?_); refine ev_store rfl 22 (.tmp 20) (.tmp 106) rfl gSrc 0 rfl (.slice A2 (n2 + 1) c2) rfl #[.slice A n2 c] 22 (HS.out.blk 2 rfl) (show 0 < 1 from by decide) rfl (by kernel_rfl) ?_; intro wi5 hxi5 hbi5; have nS : Aside0 (Sx wz8 wi5 [(.blk gM #[.int .i64 v_] 3), (.row (.slice A2 (n2 + 1) c2) ((srcL n L j ++ List.replicate q v_) ++ [v_])), (.blk gSrc #[.slice A2 (n2 + 1) c2] 22), (.row (.slice (some ⟨gs, 0, none⟩) L1.length cs_) S2)]) := Aside0.mk (HS.out.put 2 rfl hxi5 hbi5); clear HS; have HS := nS; clear nS hxi5 hbi5))
                clear hvv
                go_roundw
                case rel => exact ⟨q + 1, A2, n2 + 1, c2, by first | rfl | (push_cast; rfl), ⟨by omega⟩, ⟨by have := HN2.out; omega⟩, ⟨by rw [List.replicate_succ', ← List.append_assoc]; exact HS.out.sub (List.sublist_cons_self _ _)⟩⟩
                case measure => simp [intOf]; omega
              · have eq_ : q = m := by have := hq.out; omega
                subst eq_
                have p5 : ¬ (q : Int) < (q : Int) := by omega
                go_wp2
                go_roundw
                case rel => exact ⟨j + 1, A, n2, c, by first | rfl | (push_cast; rfl), ⟨by omega⟩, ⟨by rw [srcL, List.length_append, List.length_replicate, HX.out, Int.toNat_natCast, HN_.out]; exact HN2.out⟩, ⟨by rw [srcL, HX.out, Int.toNat_natCast, HV_.out]; exact HS.out⟩⟩
                case measure => simp [intOf]; omega
          · have er : j = L.length := by have := hj.out; omega
            subst er
            have hn_ := HN_.out
            rw [HSRC.out] at hn_ HS
            subst hn_
            clear HN_ hlt hj
            have p3 : ¬ (L.length : Int) < (L.length : Int) := by omega
            go_upto_region 34 with fail
            have nS := Aside0.mk HS.out.drew
            clear HS
            have HS := nS
            clear nS
            refine start_ (n := 8) (S := (fun w' => w'.cell? ⟨gB, 0, none⟩ = some (.bool b) ∧ w'.cell? ⟨gB, 1, none⟩ = some (.slice (some ad) L1.length ds) ∧ w'.cell? ⟨gB, 2, none⟩ = some (.slice Ab2 lb2.length cb2))) (ds := [6]) #[false, false, false, false, false, false, false, false] (by kernel_rfl) rfl rfl ⟨(blk_cell (blk_below HBB8.out HS.out.below) 0).trans rfl, (blk_cell (blk_below HBB8.out HS.out.below) 1).trans rfl, (blk_cell (blk_below HBB8.out HS.out.below) 2).trans rfl⟩ (fun hHeld => ?_)
            refine take_ (i := 0) (N := (some 109)) (v := ?_) (a' := ?_) #[true, false, false, false, false, false, false, false] rfl rfl (by kernel_rfl) (fun _ _ _ h => h) (Or.inl ⟨by rfl, ?_⟩) hHeld ?_ ?_
            rotate_left
            · rintro w' ⟨s0, s1, s2⟩
              go_simp
              with_reducible rfl
            rotate_left
            · simp only [Act.put, List.setIfInBounds_toArray, List.set_cons_zero, List.set_cons_succ]
              rfl
            refine pure_ (i := 1) (N := (some 110)) (v := ?_) (a' := ?_) #[true, true, false, false, false, false, false, false] rfl rfl (by kernel_rfl) (fun _ _ _ h => h) (Or.inl ⟨by rfl, ?_⟩) ?_ ?_
            rotate_left
            · intro w'
              go_simp
              with_reducible rfl
            rotate_left
            · simp only [Act.put, List.setIfInBounds_toArray, List.set_cons_zero, List.set_cons_succ]
              rfl
            refine pure_ (i := 2) (N := (some 111)) (v := ?_) (a' := ?_) #[true, true, true, false, false, false, false, false] rfl rfl (by kernel_rfl) (fun _ _ _ h => h) (Or.inl ⟨by rfl, ?_⟩) ?_ ?_
            rotate_left
            · intro w'
              go_simp
              with_reducible rfl
            rotate_left
            · simp only [Act.put, List.setIfInBounds_toArray, List.set_cons_zero, List.set_cons_succ]
              rfl
            refine take_ (i := 4) (N := (some 113)) (v := ?_) (a' := ?_) #[true, true, true, false, true, false, false, false] rfl rfl (by kernel_rfl) (fun _ _ _ h => h) (Or.inl ⟨by rfl, ?_⟩) hHeld ?_ ?_
            rotate_left
            · rintro w' ⟨s0, s1, s2⟩
              go_simp
              with_reducible rfl
            rotate_left
            · simp only [Act.put, List.setIfInBounds_toArray, List.set_cons_zero, List.set_cons_succ]
              rfl
            refine one_ (i := 3) (N := (some 112)) #[true, true, true, true, true, false, false, false] rfl rfl (by kernel_rfl) (by decide) (fun K hK => ?_)
            refine goes_ Try.func105 (by kernel_rfl) rfl #[.agg #[.bool b, .slice (some ad) L1.length ds, .slice Ab2 lb2.length cb2], .slice (some ⟨gs, 0, none⟩) L1.length cs_, .func (.func 106) #[] #[.pointer (some ⟨gT, 0, none⟩), .pointer (some ⟨gSrc, 0, none⟩)]] (by rfl) rfl rfl (by (try simp only [List.map_toArray, List.map_cons, List.map_nil]); first | done | rfl) ?_
            with_reducible refine (axis_n L1.length b (some ad) ds L1 Ab2 cb2 lb2 (some ⟨gs, 0, none⟩) cs_ S2 HSL.out 106 #[.pointer (some ⟨gT, 0, none⟩), .pointer (some ⟨gSrc, 0, none⟩)] (repF SRC t) rep_enters _ (Kd.C_below CB18.out HS.out.below) KB1.out (HS.out.C 2 rfl) (HS.out.cap 2 rfl) HSL.out.symm (by have := HSL.out; have := H5.out; omega) HP.out k1 HKS.out (rep_gives t gT gSrc A c SRC S2 HRS.out _ (blk_below HT8.out HS.out.below) (HS.out.blk 1 rfl) (HS.out.C 0 rfl)) HRG.out).mono ?_
            rintro e vm4 ⟨v_, rfl, hrm4, hbm4⟩
            rw [HFR.out] at hrm4
            obtain ⟨Av, cv, hv_⟩ := Kd.R_slice hrm4
            subst hv_
            have nS : Aside0 (Sx wz8 vm4 [(.row (.slice Av FR.length cv) FR), (.row (.slice A SRC.length c) SRC), (.blk gSrc #[.slice A SRC.length c] 22), (.row (.slice (some ⟨gs, 0, none⟩) L1.length cs_) S2)]) := Aside0.mk (HS.out.addRow hbm4 hrm4)
            clear HS hbm4
            have HS := nS
            clear nS
            refine ⟨_, rfl, ?_⟩
            refine hK.out _ _ ⟨(blk_cell (blk_below HBB8.out HS.out.below) 0).trans rfl, (blk_cell (blk_below HBB8.out HS.out.below) 1).trans rfl, (blk_cell (blk_below HBB8.out HS.out.below) 2).trans rfl⟩ (fun hHeld => ?_)
            clear hK K
            refine norm_ (a' := ?_) ?_ ?_
            rotate_left
            · show Act.put _ (some 112) _ = _
              simp only [Act.put, List.setIfInBounds_toArray, List.set_cons_zero, List.set_cons_succ]
              rfl
            refine one_ (i := 5) (N := (some 114)) #[true, true, true, true, true, true, false, false] rfl rfl (by kernel_rfl) (by decide) (fun K hK => ?_)
            refine goes_ Try.func107 (by kernel_rfl) rfl #[.agg #[.slice (some ⟨gs, 0, none⟩) L1.length cs_, .slice Av FR.length cv], .agg #[.bool b, .slice (some ad) L1.length ds, .slice Ab2 lb2.length cb2]] (by rfl) rfl rfl (by (try simp only [List.map_toArray, List.map_cons, List.map_nil]); first | done | rfl) ?_
            with_reducible refine (of_n L1.length k5 (some ⟨gs, 0, none⟩) cs_ S2 Av cv FR b (some ad) ds L1 Ab2 cb2 lb2 b S2 DATA _ HSL.out (HS.out.C 3 rfl) (HS.out.cap 3 rfl) (HS.out.C 0 rfl) (HS.out.cap 0 rfl) (Kd.C_below CB18.out HS.out.below) KB1.out (Kd.C_below CB28.out HS.out.below) Kb2.out HMO.out).mono ?_
            rintro e vm5 ⟨v1_, v2_, rfl, hr1m5, hr2m5, hbm5⟩
            obtain ⟨AS, cS, hv_⟩ := Kd.R_slice hr1m5
            subst hv_
            obtain ⟨AD, cD, hv_⟩ := Kd.R_slice hr2m5
            subst hv_
            have nS : Aside0 (Sx wz8 vm5 [(.row (.slice AS S2.length cS) S2), (.row (.slice AD DATA.length cD) DATA), (.row (.slice Av FR.length cv) FR), (.row (.slice A SRC.length c) SRC), (.blk gSrc #[.slice A SRC.length c] 22), (.row (.slice (some ⟨gs, 0, none⟩) L1.length cs_) S2)]) := Aside0.mk (HS.out.addRow2 hbm5 hr1m5 hr2m5)
            clear HS hbm5
            have HS := nS
            clear nS
            refine ⟨_, rfl, ?_⟩
            refine hK.out _ _ ⟨(blk_cell (blk_below HBB8.out HS.out.below) 0).trans rfl, (blk_cell (blk_below HBB8.out HS.out.below) 1).trans rfl, (blk_cell (blk_below HBB8.out HS.out.below) 2).trans rfl⟩ (fun hHeld => ?_)
            clear hK K
            refine norm_ (a' := ?_) ?_ ?_
            rotate_left
            · show Act.put _ (some 114) _ = _
              simp only [Act.put, List.setIfInBounds_toArray, List.set_cons_zero, List.set_cons_succ]
              rfl
            refine last_ (i := 6) (N := none) #[true, true, true, true, true, true, true, false] rfl rfl (by kernel_rfl) (by decide) (fun K hK => ?_)
            refine store_named_step (by rfl) 28 (.tmp 6) (.tmp 114) rfl gR #[.bool b, .slice AS S2.length cS, .slice AD DATA.length cD] rfl rfl 28 #[.bool false, .slice none 0 0, .slice none 0 0] (blk_below HR8.out HS.out.below) (by kernel_rfl) rfl (by simp [Value.oneCell']) ?_
            intro wF hxF hbF
            have HXF := Aside0.mk hxF
            have HBF := Aside0.mk hbF
            clear hxF hbF
            refine hK.out _ _ ?_
            clear hK K
            refine norm_ (a' := ?_) ?_ ?_
            rotate_left
            · show Act.put _ none _ = _
              simp only [Act.put, List.setIfInBounds_toArray, List.set_cons_zero, List.set_cons_succ]
              rfl
            refine pure_ (i := 7) (N := (some 7)) (v := ?_) (a' := ?_) #[true, true, true, true, true, true, true, true] rfl rfl (by kernel_rfl) (fun _ _ _ h => h) (Or.inl ⟨by rfl, ?_⟩) ?_ ?_
            rotate_left
            · intro w'
              go_simp
              with_reducible rfl
            rotate_left
            · simp only [Act.put, List.setIfInBounds_toArray, List.set_cons_zero, List.set_cons_succ]
              rfl
            refine done_ (by kernel_rfl) ?_
            go_simp
            go_wp2
            have R_ := HS.out.two_but 0 1 (by decide) rfl rfl HBF.out HGL8.out w.heap.size HB8.out.size
            refine bodyPost_ret (results_ct rfl _ _ gR 28 #[.bool b, .slice AS S2.length cS, .slice AD DATA.length cD] (0, 0) _ rfl HXF.out Try.underlying28 rfl (by kernel_rfl)) rfl ?_
            exact ⟨_, _, rfl, R_.1, R_.2, (below_step HB8.out HS.out.below).trans (HBF.out.below _ HGR.out)⟩
end Go.Proofs.Ytehfcnndjhjkoaa.PA

namespace Go.Proofs.Ytehfcnndjhjkoaa.PA
open Go.RowKit Go.Proofs.YtehfcnndjhjkoaaW.PrintWords Go.Proofs.YtehfcnndjhjkoaaW.PrintLast Go.Proofs.YtehfcnndjhjkoaaW.PrintMore
set_option linter.unusedVariables false
set_option linter.unusedSimpArgs false
set_option maxHeartbeats 2000000 in
set_option maxRecDepth 100000 in
theorem wider_any (a : Bool) (Aa1 : Option Addr) (ca1 : Nat) (la1 : List Int) (Aa2 : Option Addr) (ca2 : Nat) (la2 : List Int) (w : World) (ha1 : Kd.C (Kd.int .i64) w Aa1 la1.length la1) (ka1 : la1.length ≤ ca1) (ha2 : Kd.C (Kd.int .i64) w Aa2 la2.length la2) (ka2 : la2.length ≤ ca2) (hn5 : la1.length ≤ 5) :
    Calls Try.prog 85 #[.agg #[.bool a, .slice Aa1 la1.length ca1, .slice Aa2 la2.length ca2]] w fun e w' => ∃ As cs Ad cd, e = .returned (.agg #[.bool a, .slice As ((la1 ++ [1]) : List Int).length cs, .slice Ad (la2 : List Int).length cd]) ∧ Kd.C (Kd.int .i64) w' As ((la1 ++ [1]) : List Int).length (la1 ++ [1]) ∧ ((la1 ++ [1]) : List Int).length ≤ cs ∧ Kd.C (Kd.int .i64) w' Ad (la2 : List Int).length la2 ∧ (la2 : List Int).length ≤ cd ∧ Below w.heap.size w w' := by
  have Ha1 := Aside0.mk ha1
  have Ka1 := Aside0.mk ka1
  clear ha1 ka1
  have Ha2 := Aside0.mk ha2
  have Ka2 := Aside0.mk ka2
  clear ha2 ka2
  have HN5 := Aside0.mk hn5
  clear hn5
  have HS := Aside0.mk (Sx.start w)
  go_enter Try.func85, Try.ntmps85
  go_upto_region 1 with (first | ((with_reducible refine gate_dst (N := 1) rfl ?_); refine box_event ?hg (N := 1) ?hd (cs := #[.bool a, .slice Aa1 la1.length ca1, .slice Aa2 la2.length ca2]) (t := 28) ?hr ?_; (case hd => rfl); (case hg => rfl); (case hr => first | (go_simp; done) | (go_simp; rfl)); intro gK hg1 w1 hx1 hb1; have nS : Aside0 (Sx w w1 [(.blk gK #[.bool a, .slice Aa1 la1.length ca1, .slice Aa2 la2.length ca2] 28)]) := Aside0.mk (HS.out.box hg1 hx1 hb1); clear HS; have HS := nS; clear nS hg1 hx1 hb1) | ((with_reducible refine gate_dst (N := 2) rfl ?_); refine box_event ?hg (N := 2) ?hd (cs := #[.bool false, .slice none 0 0, .slice none 0 0]) (t := 28) ?hr ?_; (case hd => rfl); (case hg => rfl); (case hr => first | (go_simp; done) | (go_simp; rfl)); intro gR hg2 w2 hx2 hb2; have nS : Aside0 (Sx w w2 [(.blk gR #[.bool false, .slice none 0 0, .slice none 0 0] 28), (.blk gK #[.bool a, .slice Aa1 la1.length ca1, .slice Aa2 la2.length ca2] 28)]) := Aside0.mk (HS.out.box hg2 hx2 hb2); clear HS; have HS := nS; clear nS hg2 hx2 hb2))
  have nS := Aside0.mk HS.out.drew
  clear HS
  have HS := nS
  clear nS
  refine start_ (n := 11) (S := (fun w' => w'.cell? ⟨gK, 0, none⟩ = some (.bool a) ∧ w'.cell? ⟨gK, 1, none⟩ = some (.slice Aa1 la1.length ca1) ∧ w'.cell? ⟨gK, 2, none⟩ = some (.slice Aa2 la2.length ca2))) (ds := [10]) #[false, false, false, false, false, false, false, false, false, false, false] (by kernel_rfl) rfl rfl ⟨(blk_cell (HS.out.blk 1 rfl) 0).trans rfl, (blk_cell (HS.out.blk 1 rfl) 1).trans rfl, (blk_cell (HS.out.blk 1 rfl) 2).trans rfl⟩ (fun hHeld => ?_)
  refine pure_ (i := 0) (N := (some 3)) (v := ?_) (a' := ?_) #[true, false, false, false, false, false, false, false, false, false, false] rfl rfl (by kernel_rfl) (fun _ _ _ h => h) (Or.inl ⟨by rfl, ?_⟩) ?_ ?_
  rotate_left
  · intro w'
    go_simp
    with_reducible rfl
  rotate_left
  · simp only [Act.put, List.setIfInBounds_toArray, List.set_cons_zero, List.set_cons_succ]
    rfl
  refine take_ (i := 1) (N := (some 4)) (v := ?_) (a' := ?_) #[true, true, false, false, false, false, false, false, false, false, false] rfl rfl (by kernel_rfl) (fun _ _ _ h => h) (Or.inl ⟨by rfl, ?_⟩) hHeld ?_ ?_
  rotate_left
  · rintro w' ⟨s0, s1, s2⟩
    go_simp
    with_reducible rfl
  rotate_left
  · simp only [Act.put, List.setIfInBounds_toArray, List.set_cons_zero, List.set_cons_succ]
    rfl
  refine pure_ (i := 2) (N := (some 5)) (v := ?_) (a' := ?_) #[true, true, true, false, false, false, false, false, false, false, false] rfl rfl (by kernel_rfl) (fun _ _ _ h => h) (Or.inl ⟨by rfl, ?_⟩) ?_ ?_
  rotate_left
  · intro w'
    go_simp
    with_reducible rfl
  rotate_left
  · simp only [Act.put, List.setIfInBounds_toArray, List.set_cons_zero, List.set_cons_succ]
    rfl
  refine take_ (i := 3) (N := (some 6)) (v := ?_) (a' := ?_) #[true, true, true, true, false, false, false, false, false, false, false] rfl rfl (by kernel_rfl) (fun _ _ _ h => h) (Or.inl ⟨by rfl, ?_⟩) hHeld ?_ ?_
  rotate_left
  · rintro w' ⟨s0, s1, s2⟩
    go_simp
    with_reducible rfl
  rotate_left
  · simp only [Act.put, List.setIfInBounds_toArray, List.set_cons_zero, List.set_cons_succ]
    rfl
  refine pure_ (i := 7) (N := (some 10)) (v := ?_) (a' := ?_) #[true, true, true, true, false, false, false, true, false, false, false] rfl rfl (by kernel_rfl) (fun _ _ _ h => h) (Or.inl ⟨by rfl, ?_⟩) ?_ ?_
  rotate_left
  · intro w'
    go_simp
    with_reducible rfl
  rotate_left
  · simp only [Act.put, List.setIfInBounds_toArray, List.set_cons_zero, List.set_cons_succ]
    rfl
  refine take_ (i := 8) (N := (some 11)) (v := ?_) (a' := ?_) #[true, true, true, true, false, false, false, true, true, false, false] rfl rfl (by kernel_rfl) (fun _ _ _ h => h) (Or.inl ⟨by rfl, ?_⟩) hHeld ?_ ?_
  rotate_left
  · rintro w' ⟨s0, s1, s2⟩
    go_simp
    with_reducible rfl
  rotate_left
  · simp only [Act.put, List.setIfInBounds_toArray, List.set_cons_zero, List.set_cons_succ]
    rfl
  refine two_ (i := 4) (j := 5) (Ni := (some 7)) (Nj := (some 8)) #[true, true, true, true, true, false, false, true, true, false, false] #[true, true, true, true, false, true, false, true, true, false, false] rfl rfl rfl rfl (by kernel_rfl) (by decide) (by decide) (fun K hK => ?_) (fun K hK => ?_)
  · refine goes_ Try.func73 (by kernel_rfl) rfl #[.slice Aa1 la1.length ca1] (by rfl) rfl rfl (by (try simp only [List.map_toArray, List.map_cons, List.map_nil]); first | done | rfl) ?_
    with_reducible refine (spec_l3Ints.calls Aa1 ca1 la1 la1 _ (Kd.C_below Ha1.out HS.out.below) Ka1.out (l3Ints_eq la1 (by have := HN5.out; omega))).mono ?_
    rintro e w3 ⟨v0, rfl, hr3, hb3⟩
    obtain ⟨As, cs, hv_⟩ := Kd.R_slice hr3; subst hv_
    have nS : Aside0 (Sx w w3 [(.row (.slice As la1.length cs) la1), (.blk gR #[.bool false, .slice none 0 0, .slice none 0 0] 28), (.blk gK #[.bool a, .slice Aa1 la1.length ca1, .slice Aa2 la2.length ca2] 28)]) := Aside0.mk (HS.out.addRow hb3 hr3)
    clear HS
    have HS := nS
    clear nS
    refine ⟨_, rfl, ?_⟩
    refine hK.out _ _ ⟨(blk_cell (HS.out.blk 2 rfl) 0).trans rfl, (blk_cell (HS.out.blk 2 rfl) 1).trans rfl, (blk_cell (HS.out.blk 2 rfl) 2).trans rfl⟩ (fun hHeld => ?_)
    clear hK K
    refine norm_ (a' := ?_) ?_ ?_
    rotate_left
    · show Act.put _ (some 7) _ = _
      simp only [Act.put, List.setIfInBounds_toArray, List.set_cons_zero, List.set_cons_succ]
      rfl
    refine one_ (i := 5) (N := (some 8)) #[true, true, true, true, true, true, false, true, true, false, false] rfl rfl (by kernel_rfl) (by decide) (fun K hK => ?_)
    refine lit_step (by rfl) rfl #[.int .i64 1] 3 1 (by first | (go_simp; done) | (go_simp; rfl)) ?_
    intro gL wL hgL hxL hbL
    have nS : Aside0 (Sx w wL [(.blk gL #[.int .i64 1] 3), (.row (.slice As la1.length cs) la1), (.blk gR #[.bool false, .slice none 0 0, .slice none 0 0] 28), (.blk gK #[.bool a, .slice Aa1 la1.length ca1, .slice Aa2 la2.length ca2] 28)]) := Aside0.mk (HS.out.box hgL.symm hxL hbL)
    clear HS hgL hxL hbL
    have HS := nS
    clear nS
    refine hK.out _ _ ⟨(blk_cell (HS.out.blk 3 rfl) 0).trans rfl, (blk_cell (HS.out.blk 3 rfl) 1).trans rfl, (blk_cell (HS.out.blk 3 rfl) 2).trans rfl⟩ (fun hHeld => ?_)
    clear hK K
    refine norm_ (a' := ?_) ?_ ?_
    rotate_left
    · show Act.put _ (some 8) _ = _
      simp only [Act.put, List.setIfInBounds_toArray, List.set_cons_zero, List.set_cons_succ]
      rfl
    refine one_ (i := 6) (N := (some 9)) #[true, true, true, true, true, true, true, true, true, false, false] rfl rfl (by kernel_rfl) (by decide) (fun K hK => ?_)
    refine HS.out.appendRows_step 1 rfl la1.length (la1.length + 1) rfl (by rfl) (.tmp 7) (.tmp 8) rfl Try.underlying22 info3 (some ⟨gL, 0, none⟩) 1 1 [1] (la1 ++ [1]) rfl rfl rfl (rowI_C (l := [1]) (HS.out.blk 0 rfl) (by simp)) rfl rfl (by have := HN5.out; omega) ?_
    intro Aj cj wJ nJ
    have nS : Aside0 (Sx w wJ [(.blk gL #[.int .i64 1] 3), (.row (.slice Aj (la1.length + 1) cj) (la1 ++ [1])), (.blk gR #[.bool false, .slice none 0 0, .slice none 0 0] 28), (.blk gK #[.bool a, .slice Aa1 la1.length ca1, .slice Aa2 la2.length ca2] 28)]) := Aside0.mk nJ
    clear HS nJ
    have HS := nS
    clear nS
    refine hK.out _ _ ⟨(blk_cell (HS.out.blk 3 rfl) 0).trans rfl, (blk_cell (HS.out.blk 3 rfl) 1).trans rfl, (blk_cell (HS.out.blk 3 rfl) 2).trans rfl⟩ (fun hHeld => ?_)
    clear hK K
    refine norm_ (a' := ?_) ?_ ?_
    rotate_left
    · show Act.put _ (some 9) _ = _
      simp only [Act.put, List.setIfInBounds_toArray, List.set_cons_zero, List.set_cons_succ]
      rfl
    refine pure_ (i := 9) (N := (some 12)) (v := ?_) (a' := ?_) #[true, true, true, true, true, true, true, true, true, true, false] rfl rfl (by kernel_rfl) (fun _ _ _ h => h) (Or.inl ⟨by rfl, ?_⟩) ?_ ?_
    rotate_left
    · intro w'
      go_simp
      with_reducible rfl
    rotate_left
    · simp only [Act.put, List.setIfInBounds_toArray, List.set_cons_zero, List.set_cons_succ]
      rfl
    refine last_ (i := 10) (N := none) #[true, true, true, true, true, true, true, true, true, true, true] rfl rfl (by kernel_rfl) (by decide) (fun K hK => ?_)
    refine store_named_step (by rfl) 28 (.tmp 2) (.tmp 12) rfl gR #[.bool a, .slice Aj (la1.length + 1) cj, .slice Aa2 la2.length ca2] rfl rfl 28 #[.bool false, .slice none 0 0, .slice none 0 0] (HS.out.blk 2 rfl) (by kernel_rfl) rfl (by simp [Value.oneCell']) ?_
    intro wz hxz hbz
    have nS : Aside0 (Sx w wz [(.blk gL #[.int .i64 1] 3), (.row (.slice Aj (la1.length + 1) cj) (la1 ++ [1])), (.blk gR #[.bool a, .slice Aj (la1.length + 1) cj, .slice Aa2 la2.length ca2] 28), (.blk gK #[.bool a, .slice Aa1 la1.length ca1, .slice Aa2 la2.length ca2] 28)]) := Aside0.mk (HS.out.put 2 rfl hxz hbz)
    clear HS hxz hbz
    have HS := nS
    clear nS
    refine hK.out _ _ ?_
    clear hK K
    refine done_ (by kernel_rfl) ?_
    go_wp2
    refine bodyPost_ret (results_cell_row rfl _ _ gR 28 #[.bool a, .slice Aj (la1.length + 1) cj, .slice Aa2 la2.length ca2] (0, 0) _ rfl (HS.out.blk 2 rfl) Try.underlying28 rfl (by kernel_rfl)) rfl ?_
    exact ⟨Aj, cj, Aa2, ca2, (by rw [List.length_append, List.length_singleton]), HS.out.C 1 rfl, HS.out.cap 1 rfl, (Kd.C_below Ha2.out HS.out.below), Ka2.out, HS.out.below⟩
  · refine lit_step (by rfl) rfl #[.int .i64 1] 3 1 (by first | (go_simp; done) | (go_simp; rfl)) ?_
    intro gL wL hgL hxL hbL
    have nS : Aside0 (Sx w wL [(.blk gL #[.int .i64 1] 3), (.blk gR #[.bool false, .slice none 0 0, .slice none 0 0] 28), (.blk gK #[.bool a, .slice Aa1 la1.length ca1, .slice Aa2 la2.length ca2] 28)]) := Aside0.mk (HS.out.box hgL.symm hxL hbL)
    clear HS hgL hxL hbL
    have HS := nS
    clear nS
    refine hK.out _ _ ⟨(blk_cell (HS.out.blk 2 rfl) 0).trans rfl, (blk_cell (HS.out.blk 2 rfl) 1).trans rfl, (blk_cell (HS.out.blk 2 rfl) 2).trans rfl⟩ (fun hHeld => ?_)
    clear hK K
    refine norm_ (a' := ?_) ?_ ?_
    rotate_left
    · show Act.put _ (some 8) _ = _
      simp only [Act.put, List.setIfInBounds_toArray, List.set_cons_zero, List.set_cons_succ]
      rfl
    refine one_ (i := 4) (N := (some 7)) #[true, true, true, true, true, true, false, true, true, false, false] rfl rfl (by kernel_rfl) (by decide) (fun K hK => ?_)
    refine goes_ Try.func73 (by kernel_rfl) rfl #[.slice Aa1 la1.length ca1] (by rfl) rfl rfl (by (try simp only [List.map_toArray, List.map_cons, List.map_nil]); first | done | rfl) ?_
    with_reducible refine (spec_l3Ints.calls Aa1 ca1 la1 la1 _ (Kd.C_below Ha1.out HS.out.below) Ka1.out (l3Ints_eq la1 (by have := HN5.out; omega))).mono ?_
    rintro e w3 ⟨v0, rfl, hr3, hb3⟩
    obtain ⟨As, cs, hv_⟩ := Kd.R_slice hr3; subst hv_
    have nS : Aside0 (Sx w w3 [(.row (.slice As la1.length cs) la1), (.blk gL #[.int .i64 1] 3), (.blk gR #[.bool false, .slice none 0 0, .slice none 0 0] 28), (.blk gK #[.bool a, .slice Aa1 la1.length ca1, .slice Aa2 la2.length ca2] 28)]) := Aside0.mk (HS.out.addRow hb3 hr3)
    clear HS
    have HS := nS
    clear nS
    refine ⟨_, rfl, ?_⟩
    refine hK.out _ _ ⟨(blk_cell (HS.out.blk 3 rfl) 0).trans rfl, (blk_cell (HS.out.blk 3 rfl) 1).trans rfl, (blk_cell (HS.out.blk 3 rfl) 2).trans rfl⟩ (fun hHeld => ?_)
    clear hK K
    refine norm_ (a' := ?_) ?_ ?_
    rotate_left
    · show Act.put _ (some 7) _ = _
      simp only [Act.put, List.setIfInBounds_toArray, List.set_cons_zero, List.set_cons_succ]
      rfl
    refine one_ (i := 6) (N := (some 9)) #[true, true, true, true, true, true, true, true, true, false, false] rfl rfl (by kernel_rfl) (by decide) (fun K hK => ?_)
    refine HS.out.appendRows_step 0 rfl la1.length (la1.length + 1) rfl (by rfl) (.tmp 7) (.tmp 8) rfl Try.underlying22 info3 (some ⟨gL, 0, none⟩) 1 1 [1] (la1 ++ [1]) rfl rfl rfl (rowI_C (l := [1]) (HS.out.blk 1 rfl) (by simp)) rfl rfl (by have := HN5.out; omega) ?_
    intro Aj cj wJ nJ
    have nS : Aside0 (Sx w wJ [(.row (.slice Aj (la1.length + 1) cj) (la1 ++ [1])), (.blk gL #[.int .i64 1] 3), (.blk gR #[.bool false, .slice none 0 0, .slice none 0 0] 28), (.blk gK #[.bool a, .slice Aa1 la1.length ca1, .slice Aa2 la2.length ca2] 28)]) := Aside0.mk nJ
    clear HS nJ
    have HS := nS
    clear nS
    refine hK.out _ _ ⟨(blk_cell (HS.out.blk 3 rfl) 0).trans rfl, (blk_cell (HS.out.blk 3 rfl) 1).trans rfl, (blk_cell (HS.out.blk 3 rfl) 2).trans rfl⟩ (fun hHeld => ?_)
    clear hK K
    refine norm_ (a' := ?_) ?_ ?_
    rotate_left
    · show Act.put _ (some 9) _ = _
      simp only [Act.put, List.setIfInBounds_toArray, List.set_cons_zero, List.set_cons_succ]
      rfl
    refine pure_ (i := 9) (N := (some 12)) (v := ?_) (a' := ?_) #[true, true, true, true, true, true, true, true, true, true, false] rfl rfl (by kernel_rfl) (fun _ _ _ h => h) (Or.inl ⟨by rfl, ?_⟩) ?_ ?_
    rotate_left
    · intro w'
      go_simp
      with_reducible rfl
    rotate_left
    · simp only [Act.put, List.setIfInBounds_toArray, List.set_cons_zero, List.set_cons_succ]
      rfl
    refine last_ (i := 10) (N := none) #[true, true, true, true, true, true, true, true, true, true, true] rfl rfl (by kernel_rfl) (by decide) (fun K hK => ?_)
    refine store_named_step (by rfl) 28 (.tmp 2) (.tmp 12) rfl gR #[.bool a, .slice Aj (la1.length + 1) cj, .slice Aa2 la2.length ca2] rfl rfl 28 #[.bool false, .slice none 0 0, .slice none 0 0] (HS.out.blk 2 rfl) (by kernel_rfl) rfl (by simp [Value.oneCell']) ?_
    intro wz hxz hbz
    have nS : Aside0 (Sx w wz [(.row (.slice Aj (la1.length + 1) cj) (la1 ++ [1])), (.blk gL #[.int .i64 1] 3), (.blk gR #[.bool a, .slice Aj (la1.length + 1) cj, .slice Aa2 la2.length ca2] 28), (.blk gK #[.bool a, .slice Aa1 la1.length ca1, .slice Aa2 la2.length ca2] 28)]) := Aside0.mk (HS.out.put 2 rfl hxz hbz)
    clear HS hxz hbz
    have HS := nS
    clear nS
    refine hK.out _ _ ?_
    clear hK K
    refine done_ (by kernel_rfl) ?_
    go_wp2
    refine bodyPost_ret (results_cell_row rfl _ _ gR 28 #[.bool a, .slice Aj (la1.length + 1) cj, .slice Aa2 la2.length ca2] (0, 0) _ rfl (HS.out.blk 2 rfl) Try.underlying28 rfl (by kernel_rfl)) rfl ?_
    exact ⟨Aj, cj, Aa2, ca2, (by rw [List.length_append, List.length_singleton]), HS.out.C 0 rfl, HS.out.cap 0 rfl, (Kd.C_below Ha2.out HS.out.below), Ka2.out, HS.out.below⟩
end Go.Proofs.Ytehfcnndjhjkoaa.PA

-- By a program (prt.py, over the print of the kit), for this claim. Not trusted: Lean checks it.
namespace Go.Proofs.Ytehfcnndjhjkoaa.PA
open Go.RowKit Go.Proofs.YtehfcnndjhjkoaaW.PrintWords Go.Proofs.YtehfcnndjhjkoaaW.PrintLast Go.Proofs.YtehfcnndjhjkoaaW.PrintMore
attribute [local go_sem] max2_int min2_int max_two min_two max_three min_three max_four min_four   -- for this text's walks alone
set_option linter.unusedVariables false
set_option linter.unusedSimpArgs false

/-! ### spec_l4Without: function 88 -/
def spec_l4Without.f (l0 : List Int) (a1 : Bool) : Option (List Int) := if a1 = true then (if 1 ≤ (l0.length : Int) then ((spec_l3Ints.f (l0.drop 1)).bind fun t102 => (some t102)) else (none)) else (if 0 ≤ (wrap64 ((l0.length : Int) - 1)) then (if (wrap64 ((l0.length : Int) - 1)) ≤ (l0.length : Int) then ((spec_l3Ints.f (l0.take ((wrap64 ((l0.length : Int) - 1)) : Int).toNat)).bind fun t106 => (some t106)) else (none)) else (none))

end Go.Proofs.Ytehfcnndjhjkoaa.PA

namespace Go.Proofs.Ytehfcnndjhjkoaa.PA
open Go.RowKit Go.Proofs.YtehfcnndjhjkoaaW.PrintWords Go.Proofs.YtehfcnndjhjkoaaW.PrintLast Go.Proofs.YtehfcnndjhjkoaaW.PrintMore
set_option linter.unusedVariables false
set_option linter.unusedSimpArgs false
theorem Sx.rowed {w W : World} {Ts : List Th} (h : Sx w W Ts) (i : Nat) {g : Nat} {l : List Int} (hi : Ts[i]? = some (.blk g (rowI l) 3)) (hm : l.length ≤ 1000000) : Sx w W (Ts.set i (.row (.slice (some ⟨g, 0, none⟩) l.length l.length) l)) :=
  h.repl i hi (R_of_blk (h.blk i hi) (h.get i hi).2 hm) (fun _ _ _ => rfl) (fun k hk => .inl (by simp only [Th.on, Value.ownBlock] at hk ⊢; injection hk with e; exact e.symm)) h.below
end Go.Proofs.Ytehfcnndjhjkoaa.PA

namespace Go.Proofs.Ytehfcnndjhjkoaa.PA
open Go.RowKit Go.Proofs.YtehfcnndjhjkoaaW.PrintWords Go.Proofs.YtehfcnndjhjkoaaW.PrintLast Go.Proofs.YtehfcnndjhjkoaaW.PrintMore
set_option linter.unusedVariables false
set_option linter.unusedSimpArgs false
def WBesOk (args : Array Value) (a : Bool) (L1 L2 : List Int) (w : World) : Prop := ∀ W, Below w.heap.size w W → Calls Try.prog 85 args W fun e w' => ∃ As cs Ad cd, e = .returned (.agg #[.bool a, .slice As L1.length cs, .slice Ad L2.length cd]) ∧ Kd.C (Kd.int .i64) w' As L1.length L1 ∧ L1.length ≤ cs ∧ Kd.C (Kd.int .i64) w' Ad L2.length L2 ∧ L2.length ≤ cd ∧ Below W.heap.size W w'
theorem WBesOk.go {args : Array Value} {a : Bool} {L1 L2 : List Int} {w : World} (h : WBesOk args a L1 L2 w) (W : World) (hb : Below w.heap.size w W) : Calls Try.prog 85 args W fun e w' => ∃ As cs Ad cd, e = .returned (.agg #[.bool a, .slice As L1.length cs, .slice Ad L2.length cd]) ∧ Kd.C (Kd.int .i64) w' As L1.length L1 ∧ L1.length ≤ cs ∧ Kd.C (Kd.int .i64) w' Ad L2.length L2 ∧ L2.length ≤ cd ∧ Below W.heap.size W w' := h W hb
theorem wbesOk (a : Bool) (Aa1 : Option Addr) (ca1 : Nat) (la1 : List Int) (Aa2 : Option Addr) (ca2 : Nat) (la2 : List Int) (w : World) (ha1 : Kd.C (Kd.int .i64) w Aa1 la1.length la1) (ka1 : la1.length ≤ ca1) (ha2 : Kd.C (Kd.int .i64) w Aa2 la2.length la2) (ka2 : la2.length ≤ ca2) (hn5 : la1.length ≤ 5) : WBesOk #[.agg #[.bool a, .slice Aa1 la1.length ca1, .slice Aa2 la2.length ca2]] a (la1 ++ [1]) la2 w := fun W hb => wider_any a Aa1 ca1 la1 Aa2 ca2 la2 W (Kd.C_below ha1 hb) ka1 (Kd.C_below ha2 hb) ka2 hn5
theorem l3ShapeOk_n (k n : Nat) (A : Option Addr) (c : Nat) (l : List Int) (r : Bool) (w : World) (h : Kd.C (Kd.int .i64) w A l.length l) (hc : l.length ≤ c) (hn : l.length = n) (hf : spec_l3ShapeOk.f k l = some r) :
    Calls Try.prog 72 #[.slice A n c] w fun e w' => e = .returned (.bool r) ∧ Drawn0 w w' := by
  subst hn; exact spec_l3ShapeOk.calls k A c l r w h hc hf
end Go.Proofs.Ytehfcnndjhjkoaa.PA
