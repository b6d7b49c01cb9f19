import Derived.Test.YtehfcnndjhjkoaaKFnExactIndex4
import Derived.StillTailTactics
import Derived.Deep.RegionHeld3
import Derived.IntWalk
import Derived.Deep.DeepCutAuto
import Derived.ProofKit
import Derived.OpenShut
import Derived.ChangeOld
import Derived.Below
import Derived.SizedLaws
import Derived.Lib.SmallJoins
import Derived.Deep.Fields
import Derived.Deep.Slices
namespace Go.Proofs.Ytehfcnndjhjkoaa.PA
open Go.RowKit Go.Proofs.YtehfcnndjhjkoaaW.PrintWords Go.Proofs.YtehfcnndjhjkoaaW.PrintLast Go.Proofs.YtehfcnndjhjkoaaW.PrintMore
attribute [local go_sem] Oper.semAt_some
set_option linter.unusedSimpArgs false
set_option linter.unusedVariables false
theorem Sx.rowB {w W : World} {Ts : List Th} (h : Sx w W Ts) (i : Nat) {g : Nat} {l : List Int} (hi : Ts[i]? = some (.blk g (rowI l) 3)) (hm : l.length ≤ 1000000) : Sx w W (Ts.set i (.row (.slice (some ⟨g, 0, none⟩) l.length l.length) l)) :=
 h.repl i hi (R_of_blk (h.blk i hi) (h.get i hi).2 hm) (fun _ _ _ => rfl) (fun k hk => .inl (by simp only [Th.on, Value.ownBlock] at hk ⊢; injection hk with e; exact e.symm)) h.below
theorem Sx.permB {w W : World} {Ts Us : List Th} (h : Sx w W Ts) (p : Ts.Perm Us) : Sx w W Us :=
 ⟨h.below, fun T hT => h.ok T (p.mem_iff.2 hT), (p.pairwise_iff (fun h k hb ha => h k ha hb)).1 h.nod⟩
def ofT (c : Bool) (l fr : List Int) (t : Nat) : List Int := ofL c l (fr.take t) ++ List.replicate (fr.length - t) 0
theorem ofT_zero (c : Bool) (l fr : List Int) : ofT c l fr 0 = List.replicate fr.length 0 := by simp [ofT, ofL]
theorem ofT_all (c : Bool) (l fr : List Int) : ofT c l fr fr.length = ofL c l fr := by simp [ofT]
theorem ofT_len (c : Bool) (l fr : List Int) (t : Nat) (h : t ≤ fr.length) : (ofT c l fr t).length = fr.length := by simp [ofT, ofL]; omega
theorem ofT_set (c : Bool) (l fr : List Int) (t : Nat) (h : t < fr.length) (x y : Int) (hx : x = rd fr (t : Int)) (hy : y = ofV c l x) : (ofT c l fr t).set t y = ofT c l fr (t + 1) := by
 obtain ⟨m, hm⟩ : ∃ m, fr.length - t = m + 1 := ⟨fr.length - t - 1, by omega⟩
 have e1 : fr.take (t + 1) = fr.take t ++ [x] := by rw [List.take_succ_eq_append_getElem h, hx]; simp [rd, h]
 unfold ofT
 rw [e1, hm, show fr.length - (t + 1) = m by omega, List.replicate_succ, set_once _ _ _ _ _ (by simp [ofL]; omega)]
 simp [ofL, hy]
theorem ofT_fill (c : Bool) (l fr : List Int) (t : Nat) (h : t < fr.length) (z y : Int) : ((ofT c l fr t).set t z).set t y = (ofT c l fr t).set t y := by simp
theorem rd_memM (l : List Int) (i : Nat) (h : i < l.length) : rd l (i : Int) ∈ l := by simp only [rd, Int.toNat_natCast, List.getD_eq_getElem?_getD, List.getElem?_eq_getElem h, Option.getD_some]; exact List.getElem_mem h
set_option maxHeartbeats 2000000 in
set_option maxRecDepth 100000 in
theorem moveOf_any (A1 : Option Addr) (c1 : Nat) (sh : List Int) (A2 : Option Addr) (c2 : Nat) (fr : List Int) (a : Bool) (Aa1 : Option Addr) (ca1 : Nat) (la1 : List Int) (Aa2 : Option Addr) (ca2 : Nat) (la2 : List Int) (w : World) (h1 : Kd.C (Kd.int .i64) w A1 sh.length sh) (k1 : sh.length ≤ c1) (h2 : Kd.C (Kd.int .i64) w A2 fr.length fr) (k2 : fr.length ≤ c2) (ha1 : Kd.C (Kd.int .i64) w Aa1 la1.length la1) (ka1 : la1.length ≤ ca1) (ha2 : Kd.C (Kd.int .i64) w Aa2 la2.length la2) (ka2 : la2.length ≤ ca2) (hsl : sh.length < 17592186044416) (hfl : fr.length ≤ 1000000) (hx : ∀ x ∈ fr, x < la2.length) :
 Calls Try.prog 107 #[.agg #[.slice A1 sh.length c1, .slice A2 fr.length c2], .agg #[.bool a, .slice Aa1 la1.length ca1, .slice Aa2 la2.length ca2]] w fun e w' => ∃ v1_ v2_ : Value, e = .returned (.agg #[.bool a, v1_, v2_]) ∧ Kd.R (Kd.int .i64) 3 w' w.heap.size (fun k_ => some k_ ≠ (v2_ : Value).ownBlock) v1_ sh ∧ Kd.R (Kd.int .i64) 3 w' w.heap.size (fun k_ => some k_ ≠ (v1_ : Value).ownBlock) v2_ (ofL a la2 fr) ∧ Below w.heap.size w w' := by
 have Ha1 := Aside0.mk ha1
 have Ka1 := Aside0.mk ka1
 clear ha1 ka1
 have Ha2 := Aside0.mk ha2
 have Ka2 := Aside0.mk ka2
 clear ha2 ka2
 have H1 := Aside0.mk h1
 have K1 := Aside0.mk k1
 have H2 := Aside0.mk h2
 have K2 := Aside0.mk k2
 have HSL := Aside0.mk hsl
 have HFL := Aside0.mk hfl
 have HXB := Aside0.mk hx
 have hmk := make_rowN fr.length hfl
 clear h1 k1 h2 k2 hsl hfl hx
 have HS := Aside0.mk (Sx.start w)
 go_enter Try.func107, Try.ntmps107
 go_upto_region 1 with (first | ((with_reducible refine gate_dst (N := 2) rfl ?_); refine box_ev (cs := #[.slice A1 sh.length c1, .slice A2 fr.length c2]) (t := 70) ?_; intro gM hg1 w1 hx1 hb1; have nS : Aside0 (Sx w w1 [(.blk gM #[.slice A1 sh.length c1, .slice A2 fr.length c2] 70)]) := Aside0.mk (HS.out.box hg1 hx1 hb1); clear HS; have HS := nS; clear nS hg1 hx1 hb1) | ((with_reducible refine gate_dst (N := 3) rfl ?_); refine box_ev (cs := #[.bool a, .slice Aa1 la1.length ca1, .slice Aa2 la2.length ca2]) (t := 28) ?_; intro gA hg2 w2 hx2 hb2; have nS : Aside0 (Sx w w2 [(.blk gA #[.bool a, .slice Aa1 la1.length ca1, .slice Aa2 la2.length ca2] 28), (.blk gM #[.slice A1 sh.length c1, .slice A2 fr.length c2] 70)]) := Aside0.mk (HS.out.box hg2 hx2 hb2); clear HS; have HS := nS; clear nS hg2 hx2 hb2) | ((with_reducible refine gate_dst (N := 4) rfl ?_); refine box_ev (cs := #[.bool false, .slice none 0 0, .slice none 0 0]) (t := 28) ?_; intro gR hg3 w3 hx3 hb3; have nS : Aside0 (Sx w w3 [(.blk gR #[.bool false, .slice none 0 0, .slice none 0 0] 28), (.blk gA #[.bool a, .slice Aa1 la1.length ca1, .slice Aa2 la2.length ca2] 28), (.blk gM #[.slice A1 sh.length c1, .slice A2 fr.length c2] 70)]) := Aside0.mk (HS.out.box hg3 hx3 hb3); clear HS; have HS := nS; clear nS hg3 hx3 hb3))
 have nS := Aside0.mk HS.out.drew
 clear HS
 have HS := nS
 clear nS
 refine start_ (n := 12) (S := (fun w' => w'.cell? ⟨gA, 0, none⟩ = some (.bool a) ∧ w'.cell? ⟨gM, 0, none⟩ = some (.slice A1 sh.length c1) ∧ w'.cell? ⟨gM, 1, none⟩ = some (.slice A2 fr.length c2))) (ds := [11]) #[false, false, false, false, false, false, false, false, false, false, false, false] (by kernel_rfl) rfl rfl ⟨(blk_cell (HS.out.blk 1 rfl) 0).trans rfl, (blk_cell (HS.out.blk 2 rfl) 0).trans rfl, (blk_cell (HS.out.blk 2 rfl) 1).trans rfl⟩ (fun hHeld => ?_)
 refine pure_ (i := 0) (N := (some 8)) (v := ?_) (a' := ?_) #[true, false, false, false, false, false, false, false, false, false, false, false] rfl rfl (by kernel_rfl) (fun _ _ _ h => h) (Or.inl ⟨by rfl, ?_⟩) ?_ ?_
 rotate_left
 ·intro w'
  go_simp
  with_reducible rfl
 rotate_left
 ·simp only [Act.put, List.setIfInBounds_toArray, List.set_cons_zero, List.set_cons_succ]
  rfl
 refine take_ (i := 1) (N := (some 9)) (v := ?_) (a' := ?_) #[true, true, false, false, false, false, false, false, false, false, false, false] rfl rfl (by kernel_rfl) (fun _ _ _ h => h) (Or.inl ⟨by rfl, ?_⟩) hHeld ?_ ?_
 rotate_left
 ·rintro w' ⟨s0, s1, s2⟩
  go_simp
  with_reducible rfl
 rotate_left
 ·simp only [Act.put, List.setIfInBounds_toArray, List.set_cons_zero, List.set_cons_succ]
  rfl
 refine pure_ (i := 2) (N := (some 10)) (v := ?_) (a' := ?_) #[true, true, true, false, false, false, false, false, false, false, false, false] rfl rfl (by kernel_rfl) (fun _ _ _ h => h) (Or.inl ⟨by rfl, ?_⟩) ?_ ?_
 rotate_left
 ·intro w'
  go_simp
  with_reducible rfl
 rotate_left
 ·simp only [Act.put, List.setIfInBounds_toArray, List.set_cons_zero, List.set_cons_succ]
  rfl
 refine take_ (i := 3) (N := (some 11)) (v := ?_) (a' := ?_) #[true, true, true, true, false, false, false, false, false, false, false, false] rfl rfl (by kernel_rfl) (fun _ _ _ h => h) (Or.inl ⟨by rfl, ?_⟩) hHeld ?_ ?_
 rotate_left
 ·rintro w' ⟨s0, s1, s2⟩
  go_simp
  with_reducible rfl
 rotate_left
 ·simp only [Act.put, List.setIfInBounds_toArray, List.set_cons_zero, List.set_cons_succ]
  rfl
 refine pure_ (i := 5) (N := (some 13)) (v := ?_) (a' := ?_) #[true, true, true, true, false, true, false, false, false, false, false, false] rfl rfl (by kernel_rfl) (fun _ _ _ h => h) (Or.inl ⟨by rfl, ?_⟩) ?_ ?_
 rotate_left
 ·intro w'
  go_simp
  with_reducible rfl
 rotate_left
 ·simp only [Act.put, List.setIfInBounds_toArray, List.set_cons_zero, List.set_cons_succ]
  rfl
 refine take_ (i := 6) (N := (some 14)) (v := ?_) (a' := ?_) #[true, true, true, true, false, true, true, false, false, false, false, false] rfl rfl (by kernel_rfl) (fun _ _ _ h => h) (Or.inl ⟨by rfl, ?_⟩) hHeld ?_ ?_
 rotate_left
 ·rintro w' ⟨s0, s1, s2⟩
  go_simp
  with_reducible rfl
 rotate_left
 ·simp only [Act.put, List.setIfInBounds_toArray, List.set_cons_zero, List.set_cons_succ]
  rfl
 refine pure_ (i := 7) (N := (some 15)) (v := ?_) (a' := ?_) #[true, true, true, true, false, true, true, true, false, false, false, false] rfl rfl (by kernel_rfl) (fun _ _ _ h => h) (Or.inl ⟨by rfl, ?_⟩) ?_ ?_
 rotate_left
 ·intro w'
  go_simp
  with_reducible rfl
 rotate_left
 ·simp only [Act.put, List.setIfInBounds_toArray, List.set_cons_zero, List.set_cons_succ]
  rfl
 refine join_ (σ := Option Addr × Nat × Nat × Nat) 1 #[true, true, true, true, true, true, true, true, true, true, true, false] (fun s_ => [(12, .slice s_.1 sh.length s_.2.1), (16, .slice (some ⟨s_.2.2.1, 0, none⟩) fr.length fr.length), (5, .pointer (some ⟨s_.2.2.2, 0, none⟩)), (17, .agg #[.bool a, .slice s_.1 sh.length s_.2.1, .slice (some ⟨s_.2.2.1, 0, none⟩) fr.length fr.length])]) (fun s_ w' => Sx w w' [(.blk s_.2.2.2 #[.bool false, .slice none 0 0, .slice none 0 0] 28), (.blk s_.2.2.1 (rowI (List.replicate fr.length 0)) 3), (.row (.slice s_.1 sh.length s_.2.1) sh), (.blk gR #[.bool false, .slice none 0 0, .slice none 0 0] 28), (.blk gA #[.bool a, .slice Aa1 la1.length ca1, .slice Aa2 la2.length ca2] 28), (.blk gM #[.slice A1 sh.length c1, .slice A2 fr.length c2] 70)]) ?_ ?_
 rotate_left
 ·intro hJ_4_8_10
  refine join_ (σ := Option Addr × Nat × Nat) 2 #[true, true, true, true, true, true, true, true, true, true, false, false] (fun s_ => [(12, .slice s_.1 sh.length s_.2.1), (16, .slice (some ⟨s_.2.2, 0, none⟩) fr.length fr.length), (17, .agg #[.bool a, .slice s_.1 sh.length s_.2.1, .slice (some ⟨s_.2.2, 0, none⟩) fr.length fr.length])]) (fun s_ w' => Sx w w' [(.blk s_.2.2 (rowI (List.replicate fr.length 0)) 3), (.row (.slice s_.1 sh.length s_.2.1) sh), (.blk gR #[.bool false, .slice none 0 0, .slice none 0 0] 28), (.blk gA #[.bool a, .slice Aa1 la1.length ca1, .slice Aa2 la2.length ca2] 28), (.blk gM #[.slice A1 sh.length c1, .slice A2 fr.length c2] 70)]) ?_ ?_
  rotate_left
  ·intro hJ_4_8
   refine join_ (σ := Option Addr × Nat × Nat) 3 #[true, true, true, true, true, true, true, true, false, false, true, false] (fun s_ => [(12, .slice s_.1 sh.length s_.2.1), (5, .pointer (some ⟨s_.2.2, 0, none⟩))]) (fun s_ w' => Sx w w' [(.blk s_.2.2 #[.bool false, .slice none 0 0, .slice none 0 0] 28), (.row (.slice s_.1 sh.length s_.2.1) sh), (.blk gR #[.bool false, .slice none 0 0, .slice none 0 0] 28), (.blk gA #[.bool a, .slice Aa1 la1.length ca1, .slice Aa2 la2.length ca2] 28), (.blk gM #[.slice A1 sh.length c1, .slice A2 fr.length c2] 70)]) ?_ ?_
   rotate_left
   ·intro hJ_4_10
    refine join_ (σ := Nat × Nat) 3 #[true, true, true, true, false, true, true, true, true, false, true, false] (fun s_ => [(16, .slice (some ⟨s_.1, 0, none⟩) fr.length fr.length), (5, .pointer (some ⟨s_.2, 0, none⟩))]) (fun s_ w' => Sx w w' [(.blk s_.2 #[.bool false, .slice none 0 0, .slice none 0 0] 28), (.blk s_.1 (rowI (List.replicate fr.length 0)) 3), (.blk gR #[.bool false, .slice none 0 0, .slice none 0 0] 28), (.blk gA #[.bool a, .slice Aa1 la1.length ca1, .slice Aa2 la2.length ca2] 28), (.blk gM #[.slice A1 sh.length c1, .slice A2 fr.length c2] 70)]) ?_ ?_
    rotate_left
    ·intro hJ_8_10
     refine join_ (σ := Option Addr × Nat) 4 #[true, true, true, true, true, true, true, true, false, false, false, false] (fun s_ => [(12, .slice s_.1 sh.length s_.2)]) (fun s_ w' => Sx w w' [(.row (.slice s_.1 sh.length s_.2) sh), (.blk gR #[.bool false, .slice none 0 0, .slice none 0 0] 28), (.blk gA #[.bool a, .slice Aa1 la1.length ca1, .slice Aa2 la2.length ca2] 28), (.blk gM #[.slice A1 sh.length c1, .slice A2 fr.length c2] 70)]) ?_ ?_
     rotate_left
     ·intro hJ_4
      refine join_ (σ := Nat) 4 #[true, true, true, true, false, true, true, true, true, false, false, false] (fun s_ => [(16, .slice (some ⟨s_, 0, none⟩) fr.length fr.length)]) (fun s_ w' => Sx w w' [(.blk s_ (rowI (List.replicate fr.length 0)) 3), (.blk gR #[.bool false, .slice none 0 0, .slice none 0 0] 28), (.blk gA #[.bool a, .slice Aa1 la1.length ca1, .slice Aa2 la2.length ca2] 28), (.blk gM #[.slice A1 sh.length c1, .slice A2 fr.length c2] 70)]) ?_ ?_
      rotate_left
      ·intro hJ_8
       refine join_ (σ := Nat) 4 #[true, true, true, true, false, true, true, true, false, false, true, false] (fun s_ => [(5, .pointer (some ⟨s_, 0, none⟩))]) (fun s_ w' => Sx w w' [(.blk s_ #[.bool false, .slice none 0 0, .slice none 0 0] 28), (.blk gR #[.bool false, .slice none 0 0, .slice none 0 0] 28), (.blk gA #[.bool a, .slice Aa1 la1.length ca1, .slice Aa2 la2.length ca2] 28), (.blk gM #[.slice A1 sh.length c1, .slice A2 fr.length c2] 70)]) ?_ ?_
       rotate_left
       ·intro hJ_10
        refine three_ (i := 4) (j := 8) (k := 10) (Ni := (some 12)) (Nj := (some 16)) (Nk := (some 5)) #[true, true, true, true, true, true, true, true, false, false, false, false] #[true, true, true, true, false, true, true, true, true, false, false, false] #[true, true, true, true, false, true, true, true, false, false, true, false] rfl rfl rfl rfl rfl rfl (by kernel_rfl) (by decide) (by decide) (by decide) (fun K hK => ?_) (fun K hK => ?_) (fun K hK => ?_)
        ·skip
         refine goes_ Try.func104 (by kernel_rfl) rfl #[.slice A1 sh.length c1] (by rfl) rfl rfl (by (try simp only [List.map_toArray, List.map_cons, List.map_nil]); first | done | rfl) ?_
         with_reducible refine (slices_Clone_int_int.calls A1 c1 sh sh _ (Kd.C_below H1.out HS.out.below) K1.out (by simp only [slices_Clone_int_int.f]; rw [if_pos HSL.out])).mono ?_
         rintro e v4 ⟨v_, rfl, hr4, hb4⟩
         obtain ⟨Ns, nc, hv_⟩ := Kd.R_slice hr4
         subst hv_
         have nS : Aside0 (Sx w v4 [(.row (.slice Ns sh.length nc) sh), (.blk gR #[.bool false, .slice none 0 0, .slice none 0 0] 28), (.blk gA #[.bool a, .slice Aa1 la1.length ca1, .slice Aa2 la2.length ca2] 28), (.blk gM #[.slice A1 sh.length c1, .slice A2 fr.length c2] 70)]) := Aside0.mk (HS.out.addRow hb4 hr4)
         clear HS hb4
         have HS := nS
         clear nS
         refine ⟨_, rfl, ?_⟩
         refine hK.out _ _ ⟨(blk_cell (HS.out.blk 2 rfl) 0).trans rfl, (blk_cell (HS.out.blk 3 rfl) 0).trans rfl, (blk_cell (HS.out.blk 3 rfl) 1).trans rfl⟩ (fun hHeld => ?_)
         clear hK K
         refine norm_ (a' := ?_) ?_ ?_
         rotate_left
         ·show Act.put _ (some 12) _ = _
          simp only [Act.put, List.setIfInBounds_toArray, List.set_cons_zero, List.set_cons_succ]
          rfl
         exact norm_ (by first | (simp only [putAll, Act.put, List.setIfInBounds_toArray, List.set_cons_zero, List.set_cons_succ]; done) | (simp only [putAll, Act.put, List.setIfInBounds_toArray, List.set_cons_zero, List.set_cons_succ]; rfl)) (hJ_4 (Ns, nc) _ (HS.out.permB (List.Perm.refl _)))
        ·skip
         refine lit_step (by rfl) rfl (rowI (List.replicate fr.length 0)) 3 fr.length (by first | (go_simp; done) | (go_simp; rfl)) ?_
         intro gZ wZ hgZ hxZ hbZ
         have nS : Aside0 (Sx w wZ [(.blk gZ (rowI (List.replicate fr.length 0)) 3), (.blk gR #[.bool false, .slice none 0 0, .slice none 0 0] 28), (.blk gA #[.bool a, .slice Aa1 la1.length ca1, .slice Aa2 la2.length ca2] 28), (.blk gM #[.slice A1 sh.length c1, .slice A2 fr.length c2] 70)]) := Aside0.mk (HS.out.box hgZ.symm hxZ hbZ)
         clear HS hgZ hxZ hbZ
         have HS := nS
         clear nS
         refine hK.out _ _ ⟨(blk_cell (HS.out.blk 2 rfl) 0).trans rfl, (blk_cell (HS.out.blk 3 rfl) 0).trans rfl, (blk_cell (HS.out.blk 3 rfl) 1).trans rfl⟩ (fun hHeld => ?_)
         clear hK K
         refine norm_ (a' := ?_) ?_ ?_
         rotate_left
         ·show Act.put _ (some 16) _ = _
          simp only [Act.put, List.setIfInBounds_toArray, List.set_cons_zero, List.set_cons_succ]
          rfl
         exact norm_ (by first | (simp only [putAll, Act.put, List.setIfInBounds_toArray, List.set_cons_zero, List.set_cons_succ]; done) | (simp only [putAll, Act.put, List.setIfInBounds_toArray, List.set_cons_zero, List.set_cons_succ]; rfl)) (hJ_8 gZ _ (HS.out.permB (List.Perm.refl _)))
        ·skip
         refine box_step ?hg (N := 5) ?hd (cs := #[.bool false, .slice none 0 0, .slice none 0 0]) (t := 28) ?hr ?_; (case hd => rfl); (case hg => rfl); (case hr => first | (go_simp; done) | (go_simp; rfl))
         intro gO hgO wO hxO hbO
         have nS : Aside0 (Sx w wO [(.blk gO #[.bool false, .slice none 0 0, .slice none 0 0] 28), (.blk gR #[.bool false, .slice none 0 0, .slice none 0 0] 28), (.blk gA #[.bool a, .slice Aa1 la1.length ca1, .slice Aa2 la2.length ca2] 28), (.blk gM #[.slice A1 sh.length c1, .slice A2 fr.length c2] 70)]) := Aside0.mk (HS.out.box hgO hxO hbO)
         clear HS hgO hxO hbO
         have HS := nS
         clear nS
         refine hK.out _ _ ⟨(blk_cell (HS.out.blk 2 rfl) 0).trans rfl, (blk_cell (HS.out.blk 3 rfl) 0).trans rfl, (blk_cell (HS.out.blk 3 rfl) 1).trans rfl⟩ (fun hHeld => ?_)
         clear hK K
         refine norm_ (a' := ?_) ?_ ?_
         rotate_left
         ·show Act.put _ (some 5) _ = _
          simp only [Act.put, List.setIfInBounds_toArray, List.set_cons_zero, List.set_cons_succ]
          rfl
         exact norm_ (by first | (simp only [putAll, Act.put, List.setIfInBounds_toArray, List.set_cons_zero, List.set_cons_succ]; done) | (simp only [putAll, Act.put, List.setIfInBounds_toArray, List.set_cons_zero, List.set_cons_succ]; rfl)) (hJ_10 gO _ (HS.out.permB (List.Perm.refl _)))
       ·intro gO w_ hF
        have nS : Aside0 (Sx w w_ [(.blk gO #[.bool false, .slice none 0 0, .slice none 0 0] 28), (.blk gR #[.bool false, .slice none 0 0, .slice none 0 0] 28), (.blk gA #[.bool a, .slice Aa1 la1.length ca1, .slice Aa2 la2.length ca2] 28), (.blk gM #[.slice A1 sh.length c1, .slice A2 fr.length c2] 70)]) := Aside0.mk hF
        clear HS hF
        have HS := nS
        clear nS
        refine norm_ (a' := ?_) ?_ ?_
        rotate_left
        ·simp only [putAll, Act.put, List.setIfInBounds_toArray, List.set_cons_zero, List.set_cons_succ]
         rfl
        refine two_ (i := 4) (j := 8) (Ni := (some 12)) (Nj := (some 16)) #[true, true, true, true, true, true, true, true, false, false, true, false] #[true, true, true, true, false, true, true, true, true, false, true, false] rfl rfl rfl rfl (by kernel_rfl) (by decide) (by decide) (fun K hK => ?_) (fun K hK => ?_)
        ·skip
         refine goes_ Try.func104 (by kernel_rfl) rfl #[.slice A1 sh.length c1] (by rfl) rfl rfl (by (try simp only [List.map_toArray, List.map_cons, List.map_nil]); first | done | rfl) ?_
         with_reducible refine (slices_Clone_int_int.calls A1 c1 sh sh _ (Kd.C_below H1.out HS.out.below) K1.out (by simp only [slices_Clone_int_int.f]; rw [if_pos HSL.out])).mono ?_
         rintro e v4 ⟨v_, rfl, hr4, hb4⟩
         obtain ⟨Ns, nc, hv_⟩ := Kd.R_slice hr4
         subst hv_
         have nS : Aside0 (Sx w v4 [(.row (.slice Ns sh.length nc) sh), (.blk gO #[.bool false, .slice none 0 0, .slice none 0 0] 28), (.blk gR #[.bool false, .slice none 0 0, .slice none 0 0] 28), (.blk gA #[.bool a, .slice Aa1 la1.length ca1, .slice Aa2 la2.length ca2] 28), (.blk gM #[.slice A1 sh.length c1, .slice A2 fr.length c2] 70)]) := Aside0.mk (HS.out.addRow hb4 hr4)
         clear HS hb4
         have HS := nS
         clear nS
         refine ⟨_, rfl, ?_⟩
         refine hK.out _ _ ⟨(blk_cell (HS.out.blk 3 rfl) 0).trans rfl, (blk_cell (HS.out.blk 4 rfl) 0).trans rfl, (blk_cell (HS.out.blk 4 rfl) 1).trans rfl⟩ (fun hHeld => ?_)
         clear hK K
         refine norm_ (a' := ?_) ?_ ?_
         rotate_left
         ·show Act.put _ (some 12) _ = _
          simp only [Act.put, List.setIfInBounds_toArray, List.set_cons_zero, List.set_cons_succ]
          rfl
         exact norm_ (by first | (simp only [putAll, Act.put, List.setIfInBounds_toArray, List.set_cons_zero, List.set_cons_succ]; done) | (simp only [putAll, Act.put, List.setIfInBounds_toArray, List.set_cons_zero, List.set_cons_succ]; rfl)) (hJ_4_10 (Ns, nc, gO) _ (HS.out.permB (List.perm_middle (a := (Th.row (.slice Ns sh.length nc) sh)) (l₁ := [(Th.blk gO #[.bool false, .slice none 0 0, .slice none 0 0] 28)]) (l₂ := [(Th.blk gR #[.bool false, .slice none 0 0, .slice none 0 0] 28), (Th.blk gA #[.bool a, .slice Aa1 la1.length ca1, .slice Aa2 la2.length ca2] 28), (Th.blk gM #[.slice A1 sh.length c1, .slice A2 fr.length c2] 70)])).symm))
        ·skip
         refine lit_step (by rfl) rfl (rowI (List.replicate fr.length 0)) 3 fr.length (by first | (go_simp; done) | (go_simp; rfl)) ?_
         intro gZ wZ hgZ hxZ hbZ
         have nS : Aside0 (Sx w wZ [(.blk gZ (rowI (List.replicate fr.length 0)) 3), (.blk gO #[.bool false, .slice none 0 0, .slice none 0 0] 28), (.blk gR #[.bool false, .slice none 0 0, .slice none 0 0] 28), (.blk gA #[.bool a, .slice Aa1 la1.length ca1, .slice Aa2 la2.length ca2] 28), (.blk gM #[.slice A1 sh.length c1, .slice A2 fr.length c2] 70)]) := Aside0.mk (HS.out.box hgZ.symm hxZ hbZ)
         clear HS hgZ hxZ hbZ
         have HS := nS
         clear nS
         refine hK.out _ _ ⟨(blk_cell (HS.out.blk 3 rfl) 0).trans rfl, (blk_cell (HS.out.blk 4 rfl) 0).trans rfl, (blk_cell (HS.out.blk 4 rfl) 1).trans rfl⟩ (fun hHeld => ?_)
         clear hK K
         refine norm_ (a' := ?_) ?_ ?_
         rotate_left
         ·show Act.put _ (some 16) _ = _
          simp only [Act.put, List.setIfInBounds_toArray, List.set_cons_zero, List.set_cons_succ]
          rfl
         exact norm_ (by first | (simp only [putAll, Act.put, List.setIfInBounds_toArray, List.set_cons_zero, List.set_cons_succ]; done) | (simp only [putAll, Act.put, List.setIfInBounds_toArray, List.set_cons_zero, List.set_cons_succ]; rfl)) (hJ_8_10 (gZ, gO) _ (HS.out.permB (List.perm_middle (a := (Th.blk gZ (rowI (List.replicate fr.length 0)) 3)) (l₁ := [(Th.blk gO #[.bool false, .slice none 0 0, .slice none 0 0] 28)]) (l₂ := [(Th.blk gR #[.bool false, .slice none 0 0, .slice none 0 0] 28), (Th.blk gA #[.bool a, .slice Aa1 la1.length ca1, .slice Aa2 la2.length ca2] 28), (Th.blk gM #[.slice A1 sh.length c1, .slice A2 fr.length c2] 70)])).symm))
      ·intro gZ w_ hF
       have nS : Aside0 (Sx w w_ [(.blk gZ (rowI (List.replicate fr.length 0)) 3), (.blk gR #[.bool false, .slice none 0 0, .slice none 0 0] 28), (.blk gA #[.bool a, .slice Aa1 la1.length ca1, .slice Aa2 la2.length ca2] 28), (.blk gM #[.slice A1 sh.length c1, .slice A2 fr.length c2] 70)]) := Aside0.mk hF
       clear HS hF
       have HS := nS
       clear nS
       refine norm_ (a' := ?_) ?_ ?_
       rotate_left
       ·simp only [putAll, Act.put, List.setIfInBounds_toArray, List.set_cons_zero, List.set_cons_succ]
        rfl
       refine two_ (i := 4) (j := 10) (Ni := (some 12)) (Nj := (some 5)) #[true, true, true, true, true, true, true, true, true, false, false, false] #[true, true, true, true, false, true, true, true, true, false, true, false] rfl rfl rfl rfl (by kernel_rfl) (by decide) (by decide) (fun K hK => ?_) (fun K hK => ?_)
       ·skip
        refine goes_ Try.func104 (by kernel_rfl) rfl #[.slice A1 sh.length c1] (by rfl) rfl rfl (by (try simp only [List.map_toArray, List.map_cons, List.map_nil]); first | done | rfl) ?_
        with_reducible refine (slices_Clone_int_int.calls A1 c1 sh sh _ (Kd.C_below H1.out HS.out.below) K1.out (by simp only [slices_Clone_int_int.f]; rw [if_pos HSL.out])).mono ?_
        rintro e v4 ⟨v_, rfl, hr4, hb4⟩
        obtain ⟨Ns, nc, hv_⟩ := Kd.R_slice hr4
        subst hv_
        have nS : Aside0 (Sx w v4 [(.row (.slice Ns sh.length nc) sh), (.blk gZ (rowI (List.replicate fr.length 0)) 3), (.blk gR #[.bool false, .slice none 0 0, .slice none 0 0] 28), (.blk gA #[.bool a, .slice Aa1 la1.length ca1, .slice Aa2 la2.length ca2] 28), (.blk gM #[.slice A1 sh.length c1, .slice A2 fr.length c2] 70)]) := Aside0.mk (HS.out.addRow hb4 hr4)
        clear HS hb4
        have HS := nS
        clear nS
        refine ⟨_, rfl, ?_⟩
        refine hK.out _ _ ⟨(blk_cell (HS.out.blk 3 rfl) 0).trans rfl, (blk_cell (HS.out.blk 4 rfl) 0).trans rfl, (blk_cell (HS.out.blk 4 rfl) 1).trans rfl⟩ (fun hHeld => ?_)
        clear hK K
        refine norm_ (a' := ?_) ?_ ?_
        rotate_left
        ·show Act.put _ (some 12) _ = _
         simp only [Act.put, List.setIfInBounds_toArray, List.set_cons_zero, List.set_cons_succ]
         rfl
        refine pure_ (i := 9) (N := (some 17)) (v := ?_) (a' := ?_) #[true, true, true, true, true, true, true, true, true, true, false, false] rfl rfl (by kernel_rfl) (fun _ _ _ h => h) (Or.inl ⟨by rfl, ?_⟩) ?_ ?_
        rotate_left
        ·intro w'
         go_simp
         with_reducible rfl
        rotate_left
        ·simp only [Act.put, List.setIfInBounds_toArray, List.set_cons_zero, List.set_cons_succ]
         rfl
        exact norm_ (by first | (simp only [putAll, Act.put, List.setIfInBounds_toArray, List.set_cons_zero, List.set_cons_succ]; done) | (simp only [putAll, Act.put, List.setIfInBounds_toArray, List.set_cons_zero, List.set_cons_succ]; rfl)) (hJ_4_8 (Ns, nc, gZ) _ (HS.out.permB (List.perm_middle (a := (Th.row (.slice Ns sh.length nc) sh)) (l₁ := [(Th.blk gZ (rowI (List.replicate fr.length 0)) 3)]) (l₂ := [(Th.blk gR #[.bool false, .slice none 0 0, .slice none 0 0] 28), (Th.blk gA #[.bool a, .slice Aa1 la1.length ca1, .slice Aa2 la2.length ca2] 28), (Th.blk gM #[.slice A1 sh.length c1, .slice A2 fr.length c2] 70)])).symm))
       ·skip
        refine box_step ?hg (N := 5) ?hd (cs := #[.bool false, .slice none 0 0, .slice none 0 0]) (t := 28) ?hr ?_; (case hd => rfl); (case hg => rfl); (case hr => first | (go_simp; done) | (go_simp; rfl))
        intro gO hgO wO hxO hbO
        have nS : Aside0 (Sx w wO [(.blk gO #[.bool false, .slice none 0 0, .slice none 0 0] 28), (.blk gZ (rowI (List.replicate fr.length 0)) 3), (.blk gR #[.bool false, .slice none 0 0, .slice none 0 0] 28), (.blk gA #[.bool a, .slice Aa1 la1.length ca1, .slice Aa2 la2.length ca2] 28), (.blk gM #[.slice A1 sh.length c1, .slice A2 fr.length c2] 70)]) := Aside0.mk (HS.out.box hgO hxO hbO)
        clear HS hgO hxO hbO
        have HS := nS
        clear nS
        refine hK.out _ _ ⟨(blk_cell (HS.out.blk 3 rfl) 0).trans rfl, (blk_cell (HS.out.blk 4 rfl) 0).trans rfl, (blk_cell (HS.out.blk 4 rfl) 1).trans rfl⟩ (fun hHeld => ?_)
        clear hK K
        refine norm_ (a' := ?_) ?_ ?_
        rotate_left
        ·show Act.put _ (some 5) _ = _
         simp only [Act.put, List.setIfInBounds_toArray, List.set_cons_zero, List.set_cons_succ]
         rfl
        exact norm_ (by first | (simp only [putAll, Act.put, List.setIfInBounds_toArray, List.set_cons_zero, List.set_cons_succ]; done) | (simp only [putAll, Act.put, List.setIfInBounds_toArray, List.set_cons_zero, List.set_cons_succ]; rfl)) (hJ_8_10 (gZ, gO) _ (HS.out.permB (List.Perm.refl _)))
     ·intro s_ w_ hF
      obtain ⟨Ns, nc⟩ := s_
      have nS : Aside0 (Sx w w_ [(.row (.slice Ns sh.length nc) sh), (.blk gR #[.bool false, .slice none 0 0, .slice none 0 0] 28), (.blk gA #[.bool a, .slice Aa1 la1.length ca1, .slice Aa2 la2.length ca2] 28), (.blk gM #[.slice A1 sh.length c1, .slice A2 fr.length c2] 70)]) := Aside0.mk hF
      clear HS hF
      have HS := nS
      clear nS
      refine norm_ (a' := ?_) ?_ ?_
      rotate_left
      ·simp only [putAll, Act.put, List.setIfInBounds_toArray, List.set_cons_zero, List.set_cons_succ]
       rfl
      refine two_ (i := 8) (j := 10) (Ni := (some 16)) (Nj := (some 5)) #[true, true, true, true, true, true, true, true, true, false, false, false] #[true, true, true, true, true, true, true, true, false, false, true, false] rfl rfl rfl rfl (by kernel_rfl) (by decide) (by decide) (fun K hK => ?_) (fun K hK => ?_)
      ·skip
       refine lit_step (by rfl) rfl (rowI (List.replicate fr.length 0)) 3 fr.length (by first | (go_simp; done) | (go_simp; rfl)) ?_
       intro gZ wZ hgZ hxZ hbZ
       have nS : Aside0 (Sx w wZ [(.blk gZ (rowI (List.replicate fr.length 0)) 3), (.row (.slice Ns sh.length nc) sh), (.blk gR #[.bool false, .slice none 0 0, .slice none 0 0] 28), (.blk gA #[.bool a, .slice Aa1 la1.length ca1, .slice Aa2 la2.length ca2] 28), (.blk gM #[.slice A1 sh.length c1, .slice A2 fr.length c2] 70)]) := Aside0.mk (HS.out.box hgZ.symm hxZ hbZ)
       clear HS hgZ hxZ hbZ
       have HS := nS
       clear nS
       refine hK.out _ _ ⟨(blk_cell (HS.out.blk 3 rfl) 0).trans rfl, (blk_cell (HS.out.blk 4 rfl) 0).trans rfl, (blk_cell (HS.out.blk 4 rfl) 1).trans rfl⟩ (fun hHeld => ?_)
       clear hK K
       refine norm_ (a' := ?_) ?_ ?_
       rotate_left
       ·show Act.put _ (some 16) _ = _
        simp only [Act.put, List.setIfInBounds_toArray, List.set_cons_zero, List.set_cons_succ]
        rfl
       refine pure_ (i := 9) (N := (some 17)) (v := ?_) (a' := ?_) #[true, true, true, true, true, true, true, true, true, true, false, false] rfl rfl (by kernel_rfl) (fun _ _ _ h => h) (Or.inl ⟨by rfl, ?_⟩) ?_ ?_
       rotate_left
       ·intro w'
        go_simp
        with_reducible rfl
       rotate_left
       ·simp only [Act.put, List.setIfInBounds_toArray, List.set_cons_zero, List.set_cons_succ]
        rfl
       exact norm_ (by first | (simp only [putAll, Act.put, List.setIfInBounds_toArray, List.set_cons_zero, List.set_cons_succ]; done) | (simp only [putAll, Act.put, List.setIfInBounds_toArray, List.set_cons_zero, List.set_cons_succ]; rfl)) (hJ_4_8 (Ns, nc, gZ) _ (HS.out.permB (List.Perm.refl _)))
      ·skip
       refine box_step ?hg (N := 5) ?hd (cs := #[.bool false, .slice none 0 0, .slice none 0 0]) (t := 28) ?hr ?_; (case hd => rfl); (case hg => rfl); (case hr => first | (go_simp; done) | (go_simp; rfl))
       intro gO hgO wO hxO hbO
       have nS : Aside0 (Sx w wO [(.blk gO #[.bool false, .slice none 0 0, .slice none 0 0] 28), (.row (.slice Ns sh.length nc) sh), (.blk gR #[.bool false, .slice none 0 0, .slice none 0 0] 28), (.blk gA #[.bool a, .slice Aa1 la1.length ca1, .slice Aa2 la2.length ca2] 28), (.blk gM #[.slice A1 sh.length c1, .slice A2 fr.length c2] 70)]) := Aside0.mk (HS.out.box hgO hxO hbO)
       clear HS hgO hxO hbO
       have HS := nS
       clear nS
       refine hK.out _ _ ⟨(blk_cell (HS.out.blk 3 rfl) 0).trans rfl, (blk_cell (HS.out.blk 4 rfl) 0).trans rfl, (blk_cell (HS.out.blk 4 rfl) 1).trans rfl⟩ (fun hHeld => ?_)
       clear hK K
       refine norm_ (a' := ?_) ?_ ?_
       rotate_left
       ·show Act.put _ (some 5) _ = _
        simp only [Act.put, List.setIfInBounds_toArray, List.set_cons_zero, List.set_cons_succ]
        rfl
       exact norm_ (by first | (simp only [putAll, Act.put, List.setIfInBounds_toArray, List.set_cons_zero, List.set_cons_succ]; done) | (simp only [putAll, Act.put, List.setIfInBounds_toArray, List.set_cons_zero, List.set_cons_succ]; rfl)) (hJ_4_10 (Ns, nc, gO) _ (HS.out.permB (List.Perm.refl _)))
    ·intro s_ w_ hF
     obtain ⟨gZ, gO⟩ := s_
     have nS : Aside0 (Sx w w_ [(.blk gO #[.bool false, .slice none 0 0, .slice none 0 0] 28), (.blk gZ (rowI (List.replicate fr.length 0)) 3), (.blk gR #[.bool false, .slice none 0 0, .slice none 0 0] 28), (.blk gA #[.bool a, .slice Aa1 la1.length ca1, .slice Aa2 la2.length ca2] 28), (.blk gM #[.slice A1 sh.length c1, .slice A2 fr.length c2] 70)]) := Aside0.mk hF
     clear HS hF
     have HS := nS
     clear nS
     refine norm_ (a' := ?_) ?_ ?_
     rotate_left
     ·simp only [putAll, Act.put, List.setIfInBounds_toArray, List.set_cons_zero, List.set_cons_succ]
      rfl
     refine one_ (i := 4) (N := (some 12)) #[true, true, true, true, true, true, true, true, true, false, true, false] rfl rfl (by kernel_rfl) (by decide) (fun K hK => ?_)
     refine goes_ Try.func104 (by kernel_rfl) rfl #[.slice A1 sh.length c1] (by rfl) rfl rfl (by (try simp only [List.map_toArray, List.map_cons, List.map_nil]); first | done | rfl) ?_
     with_reducible refine (slices_Clone_int_int.calls A1 c1 sh sh _ (Kd.C_below H1.out HS.out.below) K1.out (by simp only [slices_Clone_int_int.f]; rw [if_pos HSL.out])).mono ?_
     rintro e v4 ⟨v_, rfl, hr4, hb4⟩
     obtain ⟨Ns, nc, hv_⟩ := Kd.R_slice hr4
     subst hv_
     have nS : Aside0 (Sx w v4 [(.row (.slice Ns sh.length nc) sh), (.blk gO #[.bool false, .slice none 0 0, .slice none 0 0] 28), (.blk gZ (rowI (List.replicate fr.length 0)) 3), (.blk gR #[.bool false, .slice none 0 0, .slice none 0 0] 28), (.blk gA #[.bool a, .slice Aa1 la1.length ca1, .slice Aa2 la2.length ca2] 28), (.blk gM #[.slice A1 sh.length c1, .slice A2 fr.length c2] 70)]) := Aside0.mk (HS.out.addRow hb4 hr4)
     clear HS hb4
     have HS := nS
     clear nS
     refine ⟨_, rfl, ?_⟩
     refine hK.out _ _ ⟨(blk_cell (HS.out.blk 4 rfl) 0).trans rfl, (blk_cell (HS.out.blk 5 rfl) 0).trans rfl, (blk_cell (HS.out.blk 5 rfl) 1).trans rfl⟩ (fun hHeld => ?_)
     clear hK K
     refine norm_ (a' := ?_) ?_ ?_
     rotate_left
     ·show Act.put _ (some 12) _ = _
      simp only [Act.put, List.setIfInBounds_toArray, List.set_cons_zero, List.set_cons_succ]
      rfl
     refine pure_ (i := 9) (N := (some 17)) (v := ?_) (a' := ?_) #[true, true, true, true, true, true, true, true, true, true, true, false] rfl rfl (by kernel_rfl) (fun _ _ _ h => h) (Or.inl ⟨by rfl, ?_⟩) ?_ ?_
     rotate_left
     ·intro w'
      go_simp
      with_reducible rfl
     rotate_left
     ·simp only [Act.put, List.setIfInBounds_toArray, List.set_cons_zero, List.set_cons_succ]
      rfl
     exact norm_ (by first | (simp only [putAll, Act.put, List.setIfInBounds_toArray, List.set_cons_zero, List.set_cons_succ]; done) | (simp only [putAll, Act.put, List.setIfInBounds_toArray, List.set_cons_zero, List.set_cons_succ]; rfl)) (hJ_4_8_10 (Ns, nc, gZ, gO) _ (HS.out.permB (List.perm_middle (a := (Th.row (.slice Ns sh.length nc) sh)) (l₁ := [(Th.blk gO #[.bool false, .slice none 0 0, .slice none 0 0] 28), (Th.blk gZ (rowI (List.replicate fr.length 0)) 3)]) (l₂ := [(Th.blk gR #[.bool false, .slice none 0 0, .slice none 0 0] 28), (Th.blk gA #[.bool a, .slice Aa1 la1.length ca1, .slice Aa2 la2.length ca2] 28), (Th.blk gM #[.slice A1 sh.length c1, .slice A2 fr.length c2] 70)])).symm))
   ·intro s_ w_ hF
    obtain ⟨Ns, nc, gO⟩ := s_
    have nS : Aside0 (Sx w w_ [(.blk gO #[.bool false, .slice none 0 0, .slice none 0 0] 28), (.row (.slice Ns sh.length nc) sh), (.blk gR #[.bool false, .slice none 0 0, .slice none 0 0] 28), (.blk gA #[.bool a, .slice Aa1 la1.length ca1, .slice Aa2 la2.length ca2] 28), (.blk gM #[.slice A1 sh.length c1, .slice A2 fr.length c2] 70)]) := Aside0.mk hF
    clear HS hF
    have HS := nS
    clear nS
    refine norm_ (a' := ?_) ?_ ?_
    rotate_left
    ·simp only [putAll, Act.put, List.setIfInBounds_toArray, List.set_cons_zero, List.set_cons_succ]
     rfl
    refine one_ (i := 8) (N := (some 16)) #[true, true, true, true, true, true, true, true, true, false, true, false] rfl rfl (by kernel_rfl) (by decide) (fun K hK => ?_)
    refine lit_step (by rfl) rfl (rowI (List.replicate fr.length 0)) 3 fr.length (by first | (go_simp; done) | (go_simp; rfl)) ?_
    intro gZ wZ hgZ hxZ hbZ
    have nS : Aside0 (Sx w wZ [(.blk gZ (rowI (List.replicate fr.length 0)) 3), (.blk gO #[.bool false, .slice none 0 0, .slice none 0 0] 28), (.row (.slice Ns sh.length nc) sh), (.blk gR #[.bool false, .slice none 0 0, .slice none 0 0] 28), (.blk gA #[.bool a, .slice Aa1 la1.length ca1, .slice Aa2 la2.length ca2] 28), (.blk gM #[.slice A1 sh.length c1, .slice A2 fr.length c2] 70)]) := Aside0.mk (HS.out.box hgZ.symm hxZ hbZ)
    clear HS hgZ hxZ hbZ
    have HS := nS
    clear nS
    refine hK.out _ _ ⟨(blk_cell (HS.out.blk 4 rfl) 0).trans rfl, (blk_cell (HS.out.blk 5 rfl) 0).trans rfl, (blk_cell (HS.out.blk 5 rfl) 1).trans rfl⟩ (fun hHeld => ?_)
    clear hK K
    refine norm_ (a' := ?_) ?_ ?_
    rotate_left
    ·show Act.put _ (some 16) _ = _
     simp only [Act.put, List.setIfInBounds_toArray, List.set_cons_zero, List.set_cons_succ]
     rfl
    refine pure_ (i := 9) (N := (some 17)) (v := ?_) (a' := ?_) #[true, true, true, true, true, true, true, true, true, true, true, false] rfl rfl (by kernel_rfl) (fun _ _ _ h => h) (Or.inl ⟨by rfl, ?_⟩) ?_ ?_
    rotate_left
    ·intro w'
     go_simp
     with_reducible rfl
    rotate_left
    ·simp only [Act.put, List.setIfInBounds_toArray, List.set_cons_zero, List.set_cons_succ]
     rfl
    exact norm_ (by first | (simp only [putAll, Act.put, List.setIfInBounds_toArray, List.set_cons_zero, List.set_cons_succ]; done) | (simp only [putAll, Act.put, List.setIfInBounds_toArray, List.set_cons_zero, List.set_cons_succ]; rfl)) (hJ_4_8_10 (Ns, nc, gZ, gO) _ (HS.out.permB (List.perm_middle (a := (Th.blk gZ (rowI (List.replicate fr.length 0)) 3)) (l₁ := [(Th.blk gO #[.bool false, .slice none 0 0, .slice none 0 0] 28)]) (l₂ := [(Th.row (.slice Ns sh.length nc) sh), (Th.blk gR #[.bool false, .slice none 0 0, .slice none 0 0] 28), (Th.blk gA #[.bool a, .slice Aa1 la1.length ca1, .slice Aa2 la2.length ca2] 28), (Th.blk gM #[.slice A1 sh.length c1, .slice A2 fr.length c2] 70)])).symm))
  ·intro s_ w_ hF
   obtain ⟨Ns, nc, gZ⟩ := s_
   have nS : Aside0 (Sx w w_ [(.blk gZ (rowI (List.replicate fr.length 0)) 3), (.row (.slice Ns sh.length nc) sh), (.blk gR #[.bool false, .slice none 0 0, .slice none 0 0] 28), (.blk gA #[.bool a, .slice Aa1 la1.length ca1, .slice Aa2 la2.length ca2] 28), (.blk gM #[.slice A1 sh.length c1, .slice A2 fr.length c2] 70)]) := Aside0.mk hF
   clear HS hF
   have HS := nS
   clear nS
   refine norm_ (a' := ?_) ?_ ?_
   rotate_left
   ·simp only [putAll, Act.put, List.setIfInBounds_toArray, List.set_cons_zero, List.set_cons_succ]
    rfl
   refine one_ (i := 10) (N := (some 5)) #[true, true, true, true, true, true, true, true, true, true, true, false] rfl rfl (by kernel_rfl) (by decide) (fun K hK => ?_)
   refine box_step ?hg (N := 5) ?hd (cs := #[.bool false, .slice none 0 0, .slice none 0 0]) (t := 28) ?hr ?_; (case hd => rfl); (case hg => rfl); (case hr => first | (go_simp; done) | (go_simp; rfl))
   intro gO hgO wO hxO hbO
   have nS : Aside0 (Sx w wO [(.blk gO #[.bool false, .slice none 0 0, .slice none 0 0] 28), (.blk gZ (rowI (List.replicate fr.length 0)) 3), (.row (.slice Ns sh.length nc) sh), (.blk gR #[.bool false, .slice none 0 0, .slice none 0 0] 28), (.blk gA #[.bool a, .slice Aa1 la1.length ca1, .slice Aa2 la2.length ca2] 28), (.blk gM #[.slice A1 sh.length c1, .slice A2 fr.length c2] 70)]) := Aside0.mk (HS.out.box hgO hxO hbO)
   clear HS hgO hxO hbO
   have HS := nS
   clear nS
   refine hK.out _ _ ⟨(blk_cell (HS.out.blk 4 rfl) 0).trans rfl, (blk_cell (HS.out.blk 5 rfl) 0).trans rfl, (blk_cell (HS.out.blk 5 rfl) 1).trans rfl⟩ (fun hHeld => ?_)
   clear hK K
   refine norm_ (a' := ?_) ?_ ?_
   rotate_left
   ·show Act.put _ (some 5) _ = _
    simp only [Act.put, List.setIfInBounds_toArray, List.set_cons_zero, List.set_cons_succ]
    rfl
   exact norm_ (by first | (simp only [putAll, Act.put, List.setIfInBounds_toArray, List.set_cons_zero, List.set_cons_succ]; done) | (simp only [putAll, Act.put, List.setIfInBounds_toArray, List.set_cons_zero, List.set_cons_succ]; rfl)) (hJ_4_8_10 (Ns, nc, gZ, gO) _ (HS.out.permB (List.Perm.refl _)))
 ·intro s_ w_ hF
  obtain ⟨Ns, nc, gZ, gO⟩ := s_
  have nS : Aside0 (Sx w w_ [(.blk gO #[.bool false, .slice none 0 0, .slice none 0 0] 28), (.blk gZ (rowI (List.replicate fr.length 0)) 3), (.row (.slice Ns sh.length nc) sh), (.blk gR #[.bool false, .slice none 0 0, .slice none 0 0] 28), (.blk gA #[.bool a, .slice Aa1 la1.length ca1, .slice Aa2 la2.length ca2] 28), (.blk gM #[.slice A1 sh.length c1, .slice A2 fr.length c2] 70)]) := Aside0.mk hF
  clear HS hF
  have HS := nS
  clear nS
  refine norm_ (a' := ?_) ?_ ?_
  rotate_left
  ·simp only [putAll, Act.put, List.setIfInBounds_toArray, List.set_cons_zero, List.set_cons_succ]
   rfl
  refine last_ (i := 11) (N := none) #[true, true, true, true, true, true, true, true, true, true, true, true] rfl rfl (by kernel_rfl) (by decide) (fun K hK => ?_)
  refine store_named_step (by rfl) 28 (.tmp 5) (.tmp 17) rfl gO #[.bool a, .slice Ns sh.length nc, .slice (some ⟨gZ, 0, none⟩) fr.length fr.length] rfl rfl 28 #[.bool false, .slice none 0 0, .slice none 0 0] (HS.out.blk 0 rfl) (by kernel_rfl) rfl (by simp [Value.oneCell']) ?_
  intro wO hxz hbz
  have nS : Aside0 (Sx w wO [(.blk gO #[.bool a, .slice Ns sh.length nc, .slice (some ⟨gZ, 0, none⟩) fr.length fr.length] 28), (.blk gZ (rowI (List.replicate fr.length 0)) 3), (.row (.slice Ns sh.length nc) sh), (.blk gR #[.bool false, .slice none 0 0, .slice none 0 0] 28), (.blk gA #[.bool a, .slice Aa1 la1.length ca1, .slice Aa2 la2.length ca2] 28), (.blk gM #[.slice A1 sh.length c1, .slice A2 fr.length c2] 70)]) := Aside0.mk (HS.out.put 0 rfl hxz hbz)
  clear HS hxz hbz
  have HS := nS
  clear nS
  refine hK.out _ _ ?_
  clear hK K
  refine done_ (by kernel_rfl) ?_
  go_simp
  have HS0 := HS
  clear HS
  have nS := Aside0.mk (HS0.out.rowB 1 rfl (by rw [List.length_replicate]; have := HFL.out; omega))
  clear HS0
  rw [List.length_replicate] at nS
  have HS : Aside0 (Sx w _ [(.blk gO #[.bool a, .slice Ns sh.length nc, .slice (some ⟨gZ, 0, none⟩) fr.length fr.length] 28), (.row (.slice (some ⟨gZ, 0, none⟩) fr.length fr.length) (List.replicate fr.length 0)), (.row (.slice Ns sh.length nc) sh), (.blk gR #[.bool false, .slice none 0 0, .slice none 0 0] 28), (.blk gA #[.bool a, .slice Aa1 la1.length ca1, .slice Aa2 la2.length ca2] 28), (.blk gM #[.slice A1 sh.length c1, .slice A2 fr.length c2] 70)]) := nS
  clear nS
  rw [← ofT_zero a la2 fr] at HS
  go_wp2_with (first | ((with_reducible refine gate_dst (N := 19) rfl ?_); refine ev_load rfl 22 (.tmp 18) rfl ⟨gM, 1, none⟩ rfl (.slice A2 fr.length c2) ((blk_cell (HS.out.blk 5 rfl) 1).trans rfl) (by kernel_rfl) ?_))
  go_loopw [6, 7, 21] (fun _ _ z wr => ∃ t : Nat, z = .int .i64 (t : Int) ∧ Aside0 (t ≤ fr.length) ∧ Aside0 (Sx w wr [(.blk gO #[.bool a, .slice Ns sh.length nc, .slice (some ⟨gZ, 0, none⟩) fr.length fr.length] 28), (.row (.slice (some ⟨gZ, 0, none⟩) fr.length fr.length) (ofT a la2 fr t)), (.row (.slice Ns sh.length nc) sh), (.blk gR #[.bool false, .slice none 0 0, .slice none 0 0] 28), (.blk gA #[.bool a, .slice Aa1 la1.length ca1, .slice Aa2 la2.length ca2] 28), (.blk gM #[.slice A1 sh.length c1, .slice A2 fr.length c2] 70)])) (fun _ _ z _ => fr.length - (intOf z).toNat)
  case atStart => exact ⟨0, rfl, ⟨Nat.zero_le _⟩, HS⟩
  case round =>
   clear HS
   obtain ⟨t, rfl, ht, HS⟩ := hrel
   by_cases hlt : t < fr.length
   ·have hfl := HFL.out
    obtain ⟨ad, rfl, y1⟩ := Kd.at_int (Kd.C_below H2.out HS.out.below) (t : Int) (by omega) (by omega)
    rw [Int.toNat_natCast] at y1
    obtain ⟨x_, hx⟩ : ∃ x_, x_ = rd fr (t : Int) := ⟨_, rfl⟩
    rw [← hx] at y1
    have HX := Aside0.mk hx
    have hxl := HXB.out x_ (by rw [hx]; exact rd_memM fr t hlt)
    have HXL := Aside0.mk hxl
    have p0 : (t : Int) < (fr.length : Int) := by omega
    have w1 : IntKind.i64.wrap ((t : Int) + 1) = ((t + 1 : Nat) : Int) := by rw [IntWalk.i64_in _ (by omega)]; omega
    have HW1 := Aside0.mk w1
    clear w1 hx hxl hfl
    go_upto_region 5 with fail
    have nS := Aside0.mk HS.out.drew
    clear HS
    have HS := nS
    clear nS
    refine start_ (n := 7) (S := (fun w' => w'.cell? ⟨gO, 2, none⟩ = some (.slice (some ⟨gZ, 0, none⟩) fr.length fr.length) ∧ w'.cell? ⟨gA, 0, none⟩ = some (.bool a) ∧ w'.cell? ⟨gA, 1, none⟩ = some (.slice Aa1 la1.length ca1) ∧ w'.cell? ⟨gA, 2, none⟩ = some (.slice Aa2 la2.length ca2))) (ds := [6]) #[false, false, false, false, false, false, false] (by kernel_rfl) rfl rfl ⟨(blk_cell (HS.out.blk 0 rfl) 2).trans rfl, (blk_cell (HS.out.blk 4 rfl) 0).trans rfl, (blk_cell (HS.out.blk 4 rfl) 1).trans rfl, (blk_cell (HS.out.blk 4 rfl) 2).trans rfl⟩ (fun hHeld => ?_)
    refine pure_ (i := 0) (N := (some 26)) (v := ?_) (a' := ?_) #[true, false, false, false, false, false, false] rfl rfl (by kernel_rfl) (fun _ _ _ h => h) (Or.inl ⟨by rfl, ?_⟩) ?_ ?_
    rotate_left
    ·intro w'
     go_simp
     with_reducible rfl
    rotate_left
    ·simp only [Act.put, List.setIfInBounds_toArray, List.set_cons_zero, List.set_cons_succ]
     rfl
    refine take_ (i := 1) (N := (some 27)) (v := ?_) (a' := ?_) #[true, true, false, false, false, false, false] rfl rfl (by kernel_rfl) (fun _ _ _ h => h) (Or.inl ⟨by rfl, ?_⟩) hHeld ?_ ?_
    rotate_left
    ·rintro w' ⟨s0, s1, s2, s3⟩
     go_simp
     with_reducible rfl
    rotate_left
    ·simp only [Act.put, List.setIfInBounds_toArray, List.set_cons_zero, List.set_cons_succ]
     rfl
    refine pure_ (i := 2) (N := (some 28)) (v := ?_) (a' := ?_) #[true, true, true, false, false, false, false] rfl rfl (by kernel_rfl) (fun _ _ _ h => h) (Or.inl ⟨by rfl, ?_⟩) ?_ ?_
    rotate_left
    ·intro w'
     go_simp
     with_reducible rfl
    rotate_left
    ·simp only [Act.put, List.setIfInBounds_toArray, List.set_cons_zero, List.set_cons_succ]
     rfl
    refine take_ (i := 3) (N := (some 29)) (v := ?_) (a' := ?_) #[true, true, true, true, false, false, false] rfl rfl (by kernel_rfl) (fun _ _ _ h => h) (Or.inl ⟨by rfl, ?_⟩) hHeld ?_ ?_
    rotate_left
    ·rintro w' ⟨s0, s1, s2, s3⟩
     go_simp
     with_reducible rfl
    rotate_left
    ·simp only [Act.put, List.setIfInBounds_toArray, List.set_cons_zero, List.set_cons_succ]
     rfl
    refine one_ (i := 4) (N := (some 30)) #[true, true, true, true, true, false, false] rfl rfl (by kernel_rfl) (by decide) (fun K hK => ?_)
    refine goes_ Try.func132 (by kernel_rfl) rfl #[.agg #[.bool a, .slice Aa1 la1.length ca1, .slice Aa2 la2.length ca2]] (by rfl) rfl rfl (by (try simp only [List.map_toArray, List.map_cons, List.map_nil]); first | done | rfl) ?_
    with_reducible refine (impl_Array_fill.calls a Aa1 ca1 la1 Aa2 ca2 la2 (fillV a) _ (Kd.C_below Ha1.out HS.out.below) Ka1.out (Kd.C_below Ha2.out HS.out.below) Ka2.out (fill_eq a la1 la2)).mono ?_
    rintro e v5 ⟨rfl, hb5⟩
    have nS : Aside0 (Sx w v5 [(.blk gO #[.bool a, .slice Ns sh.length nc, .slice (some ⟨gZ, 0, none⟩) fr.length fr.length] 28), (.row (.slice (some ⟨gZ, 0, none⟩) fr.length fr.length) (ofT a la2 fr t)), (.row (.slice Ns sh.length nc) sh), (.blk gR #[.bool false, .slice none 0 0, .slice none 0 0] 28), (.blk gA #[.bool a, .slice Aa1 la1.length ca1, .slice Aa2 la2.length ca2] 28), (.blk gM #[.slice A1 sh.length c1, .slice (some ad) fr.length c2] 70)]) := Aside0.mk (HS.out.step hb5)
    clear HS hb5
    have HS := nS
    clear nS
    refine ⟨_, rfl, ?_⟩
    refine hK.out _ _ ⟨(blk_cell (HS.out.blk 0 rfl) 2).trans rfl, (blk_cell (HS.out.blk 4 rfl) 0).trans rfl, (blk_cell (HS.out.blk 4 rfl) 1).trans rfl, (blk_cell (HS.out.blk 4 rfl) 2).trans rfl⟩ (fun hHeld => ?_)
    clear hK K
    refine norm_ (a' := ?_) ?_ ?_
    rotate_left
    ·show Act.put _ (some 30) _ = _
     simp only [Act.put, List.setIfInBounds_toArray, List.set_cons_zero, List.set_cons_succ]
     rfl
    refine pure_ (i := 5) (N := (some 31)) (v := ?_) (a' := ?_) #[true, true, true, true, true, true, false] rfl rfl (by kernel_rfl) (fun _ _ _ h => h) (Or.inl ⟨by rfl, ?_⟩) ?_ ?_
    rotate_left
    ·intro w'
     go_simp
     with_reducible rfl
    rotate_left
    ·simp only [Act.put, List.setIfInBounds_toArray, List.set_cons_zero, List.set_cons_succ]
     rfl
    refine last_ (i := 6) (N := none) #[true, true, true, true, true, true, true] rfl rfl (by kernel_rfl) (by decide) (fun K hK => ?_)
    refine HS.out.store_step 1 rfl (by rfl) 3 (.tmp 31) (.tmp 30) rfl t (by rw [ofT_len _ _ _ _ (Nat.le_of_lt hlt)]; exact hlt) rfl (fillV a) rfl (by kernel_rfl) ?_
    intro w6 n6 hb6
    have nS : Aside0 (Sx w w6 [(.blk gO #[.bool a, .slice Ns sh.length nc, .slice (some ⟨gZ, 0, none⟩) fr.length fr.length] 28), (.row (.slice (some ⟨gZ, 0, none⟩) fr.length fr.length) ((ofT a la2 fr t).set t (fillV a))), (.row (.slice Ns sh.length nc) sh), (.blk gR #[.bool false, .slice none 0 0, .slice none 0 0] 28), (.blk gA #[.bool a, .slice Aa1 la1.length ca1, .slice Aa2 la2.length ca2] 28), (.blk gM #[.slice A1 sh.length c1, .slice (some ad) fr.length c2] 70)]) := Aside0.mk n6
    clear HS n6 hb6
    have HS := nS
    clear nS
    refine hK.out _ _ ?_
    clear hK K
    refine done_ (by kernel_rfl) ?_
    go_simp
    by_cases hx0 : x_ ≥ 0
    ·obtain ⟨m, rfl⟩ := Int.eq_ofNat_of_zero_le hx0
     have hml : m < la2.length := by have := HXL.out; omega
     obtain ⟨ad2, rfl, y2⟩ := Kd.at_int (Kd.C_below Ha2.out HS.out.below) (m : Int) (by omega) (by omega)
     rw [Int.toNat_natCast] at y2
     obtain ⟨z_, hz⟩ : ∃ z_, z_ = rd la2 (m : Int) := ⟨_, rfl⟩
     rw [← hz] at y2
     have HZ := Aside0.mk (show z_ = ofV a la2 (m : Int) by unfold ofV; rw [if_pos hx0, hz])
     have b1 : decide ((m : Int) ≥ 0) = true := decide_eq_true hx0
     have b2 : decide (0 ≤ (m : Int)) = true := decide_eq_true hx0
     have p1 : (m : Int) < (la2.length : Int) := by omega
     have p2 : 0 ≤ (m : Int) := by omega
     clear hz hx0 hml
     have w1 := HW1.out
     obtain ⟨W6, hW6⟩ : ∃ W6, w6 = W6 := ⟨_, rfl⟩
     subst hW6
     have xO : w6.cell? ⟨gO, 2, none⟩ = some (.slice (some ⟨gZ, 0, none⟩) fr.length fr.length) := (blk_cell (HS.out.blk 0 rfl) 2).trans rfl
     have xA : w6.cell? ⟨gA, 2, none⟩ = some (.slice (some ad2) la2.length ca2) := (blk_cell (HS.out.blk 4 rfl) 2).trans rfl
     obtain ⟨_, e_, xZ, fZ⟩ := HS.out.cellOf 1 rfl t (by rw [List.length_set, ofT_len _ _ _ _ (Nat.le_of_lt hlt)]; exact hlt)
     cases e_
     go_wp2
     go_still_tail 9, (by kernel_rfl)
     go_wp2
     go_roundw
     case rel =>
      refine ⟨t + 1, by first | rfl | (push_cast; rfl), ⟨hlt⟩, ⟨?_⟩⟩
      have h := HS.out.drew.setAt 1 rfl t z_
      rw [ofT_fill _ _ _ _ hlt, ofT_set a la2 fr t hlt (m : Int) z_ HX.out HZ.out] at h
      exact h
     case measure => simp [intOf]; omega
    ·have b1 : decide (x_ ≥ 0) = false := decide_eq_false hx0
     have b2 : decide (0 ≤ x_) = false := decide_eq_false hx0
     have b3 : ¬ 0 ≤ x_ := hx0
     have HZ := Aside0.mk (show fillV a = ofV a la2 x_ by unfold ofV; rw [if_neg hx0])
     clear hx0
     have w1 := HW1.out
     go_wp2
     go_roundw
     case rel =>
      refine ⟨t + 1, by first | rfl | (push_cast; rfl), ⟨hlt⟩, ⟨?_⟩⟩
      have h := HS.out
      rw [ofT_set a la2 fr t hlt x_ (fillV a) HX.out HZ.out] at h
      exact h
     case measure => simp [intOf]; omega
   ·have et : t = fr.length := by have := ht.out; omega
    subst et
    rw [ofT_all] at HS
    have p1 : ¬ (fr.length : Int) < (fr.length : Int) := by omega
    go_wp2_with (first | ((with_reducible refine gate_dst (N := 44) rfl ?_); refine wpList_load_row rfl 28 (.tmp 5) rfl gO rfl 28 #[.bool a, .slice Ns sh.length nc, .slice (some ⟨gZ, 0, none⟩) fr.length fr.length] (0, 0) _ (HS.out.blk 0 rfl) Try.underlying28 rfl (by kernel_rfl) ?_) | ((with_reducible refine gate_store rfl ?_); refine store_named rfl 28 (.tmp 4) (.tmp 44) rfl gR #[.bool a, .slice Ns sh.length nc, .slice (some ⟨gZ, 0, none⟩) fr.length fr.length] rfl rfl 28 #[.bool false, .slice none 0 0, .slice none 0 0] (HS.out.blk 3 rfl) (by kernel_rfl) rfl (by simp [Value.oneCell']) ?_; intro wf5 hxf5 hbf5; have nS : Aside0 (Sx w wf5 [(.blk gO #[.bool a, .slice Ns sh.length nc, .slice (some ⟨gZ, 0, none⟩) fr.length fr.length] 28), (.row (.slice (some ⟨gZ, 0, none⟩) fr.length fr.length) (ofL a la2 fr)), (.row (.slice Ns sh.length nc) sh), (.blk gR #[.bool a, .slice Ns sh.length nc, .slice (some ⟨gZ, 0, none⟩) fr.length fr.length] 28), (.blk gA #[.bool a, .slice Aa1 la1.length ca1, .slice Aa2 la2.length ca2] 28), (.blk gM #[.slice A1 sh.length c1, .slice A2 fr.length c2] 70)]) := Aside0.mk (HS.out.put 3 rfl hxf5 hbf5); clear HS; have HS := nS; clear nS hxf5 hbf5))
    have r_ := HS.out.two 2 1 (by decide) rfl rfl
    refine bodyPost_ret (results_cell_row rfl _ _ gR 28 #[.bool a, .slice Ns sh.length nc, .slice (some ⟨gZ, 0, none⟩) fr.length fr.length] (0, 0) _ rfl (HS.out.blk 3 rfl) Try.underlying28 rfl (by kernel_rfl)) rfl ?_
    exact ⟨_, _, rfl, r_.1, r_.2, HS.out.below⟩
set_option maxHeartbeats 2000000 in
set_option maxRecDepth 100000 in
theorem made_zero (A1 : Option Addr) (c1 : Nat) (sh : List Int) (A2 : Option Addr) (c2 : Nat) (fr : List Int) (a : Bool) (Aa1 : Option Addr) (ca1 : Nat) (la1 : List Int) (Aa2 : Option Addr) (ca2 : Nat) (la2 : List Int) (w : World) (h1 : Kd.C (Kd.int .i64) w A1 sh.length sh) (k1 : sh.length ≤ c1) (h2 : Kd.C (Kd.int .i64) w A2 fr.length fr) (k2 : fr.length ≤ c2) (ha1 : Kd.C (Kd.int .i64) w Aa1 la1.length la1) (ka1 : la1.length ≤ ca1) (ha2 : Kd.C (Kd.int .i64) w Aa2 la2.length la2) (ka2 : la2.length ≤ ca2) (hsl : sh.length < 17592186044416) (hfl : fr.length ≤ 1000000) (hx : ∀ x ∈ fr, x < la2.length) :
 Calls Try.prog 70 #[.agg #[.bool a, .slice Aa1 la1.length ca1, .slice Aa2 la2.length ca2], .agg #[.slice A1 sh.length c1, .slice A2 fr.length c2], .int .i64 0] w fun e w' => ∃ v1_ v2_ : Value, e = .returned (.tuple #[.agg #[.bool a, v1_, v2_], .int .i64 0]) ∧ Kd.R (Kd.int .i64) 3 w' w.heap.size (fun k_ => some k_ ≠ (v2_ : Value).ownBlock) v1_ sh ∧ Kd.R (Kd.int .i64) 3 w' w.heap.size (fun k_ => some k_ ≠ (v1_ : Value).ownBlock) v2_ (ofL a la2 fr) ∧ Below w.heap.size w w' := by
 have Ha1 := Aside0.mk ha1
 have Ka1 := Aside0.mk ka1
 clear ha1 ka1
 have Ha2 := Aside0.mk ha2
 have Ka2 := Aside0.mk ka2
 clear ha2 ka2
 have H1 := Aside0.mk h1
 have K1 := Aside0.mk k1
 have H2 := Aside0.mk h2
 have K2 := Aside0.mk k2
 have HSL := Aside0.mk hsl
 have HFL := Aside0.mk hfl
 have HXB := Aside0.mk hx
 clear h1 k1 h2 k2 hsl hfl hx
 have HS := Aside0.mk (Sx.start w)
 go_enter Try.func70, Try.ntmps70
 go_wp2_with (first | ((with_reducible refine gate_dst (N := 3) rfl ?_); refine box_ev (cs := #[.bool a, .slice Aa1 la1.length ca1, .slice Aa2 la2.length ca2]) (t := 28) ?_; intro gA hg1 w1 hx1 hb1; have nS : Aside0 (Sx w w1 [(.blk gA #[.bool a, .slice Aa1 la1.length ca1, .slice Aa2 la2.length ca2] 28)]) := Aside0.mk (HS.out.box hg1 hx1 hb1); clear HS; have HS := nS; clear nS hg1 hx1 hb1) | ((with_reducible refine gate_dst (N := 4) rfl ?_); refine box_ev (cs := #[.slice A1 sh.length c1, .slice A2 fr.length c2]) (t := 70) ?_; intro gM hg2 w2 hx2 hb2; have nS : Aside0 (Sx w w2 [(.blk gM #[.slice A1 sh.length c1, .slice A2 fr.length c2] 70), (.blk gA #[.bool a, .slice Aa1 la1.length ca1, .slice Aa2 la2.length ca2] 28)]) := Aside0.mk (HS.out.box hg2 hx2 hb2); clear HS; have HS := nS; clear nS hg2 hx2 hb2) | ((with_reducible refine gate_dst (N := 6) rfl ?_); refine box_ev (cs := #[.bool false, .slice none 0 0, .slice none 0 0]) (t := 28) ?_; intro gR hg3 w3 hx3 hb3; have nS : Aside0 (Sx w w3 [(.blk gR #[.bool false, .slice none 0 0, .slice none 0 0] 28), (.blk gM #[.slice A1 sh.length c1, .slice A2 fr.length c2] 70), (.blk gA #[.bool a, .slice Aa1 la1.length ca1, .slice Aa2 la2.length ca2] 28)]) := Aside0.mk (HS.out.box hg3 hx3 hb3); clear HS; have HS := nS; clear nS hg3 hx3 hb3) | ((with_reducible refine gate_dst (N := 12) rfl ?_); refine wpList_load_row rfl 70 (.tmp 4) rfl gM rfl 70 #[.slice A1 sh.length c1, .slice A2 fr.length c2] (0, 0) _ (HS.out.blk 1 rfl) Try.underlying70 rfl (by kernel_rfl) ?_) | ((with_reducible refine gate_dst (N := 13) rfl ?_); refine wpList_load_row rfl 28 (.tmp 3) rfl gA rfl 28 #[.bool a, .slice Aa1 la1.length ca1, .slice Aa2 la2.length ca2] (0, 0) _ (HS.out.blk 2 rfl) Try.underlying28 rfl (by kernel_rfl) ?_) | (go_at_call 107; refine (moveOf_any A1 c1 sh A2 c2 fr a Aa1 ca1 la1 Aa2 ca2 la2 _ (Kd.C_below H1.out HS.out.below) K1.out (Kd.C_below H2.out HS.out.below) K2.out (Kd.C_below Ha1.out HS.out.below) Ka1.out (Kd.C_below Ha2.out HS.out.below) Ka2.out HSL.out HFL.out HXB.out).mono ?_; rintro e w4 ⟨v1, v2, rfl, hr4, hs4, hb4⟩; obtain ⟨B1, d1, rfl⟩ := Kd.R_slice hr4; obtain ⟨B2, d2, rfl⟩ := Kd.R_slice hs4; have nS : Aside0 (Sx w w4 [(.row (.slice B1 sh.length d1) sh), (.row (.slice B2 (ofL a la2 fr).length d2) (ofL a la2 fr)), (.blk gR #[.bool false, .slice none 0 0, .slice none 0 0] 28), (.blk gM #[.slice A1 sh.length c1, .slice A2 fr.length c2] 70), (.blk gA #[.bool a, .slice Aa1 la1.length ca1, .slice Aa2 la2.length ca2] 28)]) := Aside0.mk (HS.out.addRow2 hb4 hr4 hs4); clear HS; have HS := nS; clear nS hb4 hr4 hs4) | ((with_reducible refine gate_store rfl ?_); refine store_named rfl 28 (.tmp 6) (.tmp 14) rfl gR #[.bool a, .slice B1 sh.length d1, .slice B2 (ofL a la2 fr).length d2] rfl rfl 28 #[.bool false, .slice none 0 0, .slice none 0 0] (HS.out.blk 2 rfl) (by kernel_rfl) rfl (by simp [Value.oneCell']) ?_; intro w5 hx5 hb5; have nS : Aside0 (Sx w w5 [(.row (.slice B1 sh.length d1) sh), (.row (.slice B2 (ofL a la2 fr).length d2) (ofL a la2 fr)), (.blk gR #[.bool a, .slice B1 sh.length d1, .slice B2 (ofL a la2 fr).length d2] 28), (.blk gM #[.slice A1 sh.length c1, .slice A2 fr.length c2] 70), (.blk gA #[.bool a, .slice Aa1 la1.length ca1, .slice Aa2 la2.length ca2] 28)]) := Aside0.mk (HS.out.put 2 rfl hx5 hb5); clear HS; have HS := nS; clear nS hx5 hb5))
 have r_ := HS.out.two 0 1 (by decide) rfl rfl
 refine bodyPost_ret (results_ct rfl _ _ gR 28 #[.bool a, .slice B1 sh.length d1, .slice B2 (ofL a la2 fr).length d2] (0, 0) _ rfl (HS.out.blk 2 rfl) Try.underlying28 rfl (by kernel_rfl)) rfl ?_
 exact ⟨_, _, rfl, r_.1, r_.2, HS.out.below⟩
set_option maxHeartbeats 2000000 in
set_option maxRecDepth 100000 in
theorem made_code (A1 : Option Addr) (c1 n1 : Nat) (A2 : Option Addr) (c2 n2 : Nat) (a : Bool) (Aa1 : Option Addr) (ca1 m1 : Nat) (Aa2 : Option Addr) (ca2 m2 : Nat) (c : Int) (hc : c ≠ 0) (w : World) :
 Calls Try.prog 70 #[.agg #[.bool a, .slice Aa1 m1 ca1, .slice Aa2 m2 ca2], .agg #[.slice A1 n1 c1, .slice A2 n2 c2], .int .i64 c] w fun e w' => e = .returned (.tuple #[.agg #[.bool false, .slice none 0 0, .slice none 0 0], .int .i64 c]) ∧ Below w.heap.size w w' := by
 have e0 : (c == 0) = false := beq_eq_false_iff_ne.mpr hc
 have e1 : (c != 0) = true := bne_iff_ne.mpr hc
 have e2 : ¬ c = 0 := hc
 clear hc
 have HS := Aside0.mk (Sx.start w)
 go_enter Try.func70, Try.ntmps70
 go_wp2_with (first | ((with_reducible refine gate_dst (N := 3) rfl ?_); refine box_ev (cs := #[.bool a, .slice Aa1 m1 ca1, .slice Aa2 m2 ca2]) (t := 28) ?_; intro gA hg1 w1 hx1 hb1; have nS : Aside0 (Sx w w1 [(.blk gA #[.bool a, .slice Aa1 m1 ca1, .slice Aa2 m2 ca2] 28)]) := Aside0.mk (HS.out.box hg1 hx1 hb1); clear HS; have HS := nS; clear nS hg1 hx1 hb1) | ((with_reducible refine gate_dst (N := 4) rfl ?_); refine box_ev (cs := #[.slice A1 n1 c1, .slice A2 n2 c2]) (t := 70) ?_; intro gM hg2 w2 hx2 hb2; have nS : Aside0 (Sx w w2 [(.blk gM #[.slice A1 n1 c1, .slice A2 n2 c2] 70), (.blk gA #[.bool a, .slice Aa1 m1 ca1, .slice Aa2 m2 ca2] 28)]) := Aside0.mk (HS.out.box hg2 hx2 hb2); clear HS; have HS := nS; clear nS hg2 hx2 hb2) | ((with_reducible refine gate_dst (N := 6) rfl ?_); refine box_ev (cs := #[.bool false, .slice none 0 0, .slice none 0 0]) (t := 28) ?_; intro gR hg3 w3 hx3 hb3; have nS : Aside0 (Sx w w3 [(.blk gR #[.bool false, .slice none 0 0, .slice none 0 0] 28), (.blk gM #[.slice A1 n1 c1, .slice A2 n2 c2] 70), (.blk gA #[.bool a, .slice Aa1 m1 ca1, .slice Aa2 m2 ca2] 28)]) := Aside0.mk (HS.out.box hg3 hx3 hb3); clear HS; have HS := nS; clear nS hg3 hx3 hb3) | ((with_reducible refine gate_store rfl ?_); refine store_named rfl 28 (.tmp 6) (.tmp 10) rfl gR #[.bool false, .slice none 0 0, .slice none 0 0] rfl rfl 28 #[.bool false, .slice none 0 0, .slice none 0 0] (HS.out.blk 0 rfl) (by kernel_rfl) rfl (by simp [Value.oneCell']) ?_; intro w4 hx4 hb4; have nS : Aside0 (Sx w w4 [(.blk gR #[.bool false, .slice none 0 0, .slice none 0 0] 28), (.blk gM #[.slice A1 n1 c1, .slice A2 n2 c2] 70), (.blk gA #[.bool a, .slice Aa1 m1 ca1, .slice Aa2 m2 ca2] 28)]) := Aside0.mk (HS.out.put 0 rfl hx4 hb4); clear HS; have HS := nS; clear nS hx4 hb4))
 refine bodyPost_ret (results_ct rfl _ _ gR 28 #[.bool false, .slice none 0 0, .slice none 0 0] (0, 0) _ rfl (HS.out.blk 0 rfl) Try.underlying28 rfl (by kernel_rfl)) rfl ?_
 exact ⟨rfl, HS.out.below⟩
end Go.Proofs.Ytehfcnndjhjkoaa.PA
namespace Go.Proofs.Ytehfcnndjhjkoaa.PA
open Go.RowKit Go.Proofs.YtehfcnndjhjkoaaW.PrintWords Go.Proofs.YtehfcnndjhjkoaaW.PrintLast Go.Proofs.YtehfcnndjhjkoaaW.PrintMore
set_option linter.unusedSimpArgs false
set_option linter.unusedVariables false
theorem indexMove_all (a : Bool) (Aa1 : Option Addr) (ca1 : Nat) (la1 : List Int) (Aa2 : Option Addr) (ca2 : Nat) (la2 : List Int) (Ap : Option Addr) (cp : Nat) (ps : List PartS) (w : World) (ha1 : Kd.C (Kd.int .i64) w Aa1 la1.length la1) (ka1 : la1.length ≤ ca1) (ha2 : Kd.C (Kd.int .i64) w Aa2 la2.length la2) (ka2 : la2.length ≤ ca2) (hp : Kd.C k66 w Ap ps.length ps) (kp : ps.length ≤ cp) (hok : arrOk a la1 la2 = true) (hpl : ∀ p ∈ ps, p.f1.f1.length ≤ 35184372088832 ∧ p.f1.f2.length ≤ 35184372088832) :
 Calls Try.prog 59 #[.agg #[.bool a, .slice Aa1 la1.length ca1, .slice Aa2 la2.length ca2], .slice Ap ps.length cp] w fun e w' => MovePost la1 ps w e w' := by
 by_cases hn : ps.length = la1.length
 ·exact indexMove_any a Aa1 ca1 la1 Aa2 ca2 la2 Ap cp ps w ha1 ka1 ha2 ka2 hp kp hok hpl hn
 ·exact indexMove_rank a Aa1 ca1 la1 Aa2 ca2 la2 Ap cp ps w ha1 ka1 ha2 ka2 hn
set_option maxHeartbeats 2000000 in
set_option maxRecDepth 100000 in
theorem Index_no (k0 : Nat) (v : Int) (a : Bool) (Aa1 : Option Addr) (ca1 : Nat) (la1 : List Int) (Aa2 : Option Addr) (ca2 : Nat) (la2 : List Int) (Ap : Option Addr) (cp : Nat) (ps : List PartS) (w : World) (ha1 : Kd.C (Kd.int .i64) w Aa1 la1.length la1) (ka1 : la1.length ≤ ca1) (ha2 : Kd.C (Kd.int .i64) w Aa2 la2.length la2) (ka2 : la2.length ≤ ca2) (hp : Kd.C k66 w Ap ps.length ps) (kp : ps.length ≤ cp) (hv : impl_valid.f k0 [⟨a, la1, la2⟩] = some v) (hv0 : v ≠ 0) :
 Calls Try.prog 30 #[.agg #[.bool a, .slice Aa1 la1.length ca1, .slice Aa2 la2.length ca2], .slice Ap ps.length cp] w fun e w' => ∃ v1_ v2_ : Value, e = .returned (.tuple #[.agg #[.bool false, v1_, v2_], .int .i64 v]) ∧ Kd.R (Kd.int .i64) 3 w' w.heap.size (fun k_ => some k_ ≠ (v2_ : Value).ownBlock) v1_ [] ∧ Kd.R (Kd.int .i64) 3 w' w.heap.size (fun k_ => some k_ ≠ (v1_ : Value).ownBlock) v2_ [] ∧ Below w.heap.size w w' := by
 have Ha1 := Aside0.mk ha1
 have Ka1 := Aside0.mk ka1
 clear ha1 ka1
 have Ha2 := Aside0.mk ha2
 have Ka2 := Aside0.mk ka2
 clear ha2 ka2
 have HP := Aside0.mk hp
 have KP := Aside0.mk kp
 have HV := Aside0.mk hv
 clear hp kp hv
 have e0 : (v == 0) = false := beq_eq_false_iff_ne.mpr hv0
 have e1 : (v != 0) = true := bne_iff_ne.mpr hv0
 clear hv0
 have HS := Aside0.mk (Sx.start w)
 go_enter Try.func30, Try.ntmps30
 go_wp2_with (first | ((with_reducible refine gate_dst (N := 2) rfl ?_); refine box_ev (cs := #[.bool a, .slice Aa1 la1.length ca1, .slice Aa2 la2.length ca2]) (t := 28) ?_; intro gA hg1 w1 hx1 hb1; have nS : Aside0 (Sx w w1 [(.blk gA #[.bool a, .slice Aa1 la1.length ca1, .slice Aa2 la2.length ca2] 28)]) := Aside0.mk (HS.out.box hg1 hx1 hb1); clear HS; have HS := nS; clear nS hg1 hx1 hb1) | ((with_reducible refine gate_dst (N := 4) rfl ?_); refine box_ev (cs := #[.bool false, .slice none 0 0, .slice none 0 0]) (t := 28) ?_; intro gR hg2 w2 hx2 hb2; have nS : Aside0 (Sx w w2 [(.blk gR #[.bool false, .slice none 0 0, .slice none 0 0] 28), (.blk gA #[.bool a, .slice Aa1 la1.length ca1, .slice Aa2 la2.length ca2] 28)]) := Aside0.mk (HS.out.box hg2 hx2 hb2); clear HS; have HS := nS; clear nS hg2 hx2 hb2) | ((with_reducible refine gate_dst (N := 9) rfl ?_); refine wpList_load_row rfl 28 (.tmp 2) rfl gA rfl 28 #[.bool a, .slice Aa1 la1.length ca1, .slice Aa2 la2.length ca2] (0, 0) _ (HS.out.blk 1 rfl) Try.underlying28 rfl (by kernel_rfl) ?_) | ((with_reducible refine gate_dst (N := 10) rfl ?_); refine lit_event ?hg (N := 10) ?hd (cs := #[.bool a, .slice Aa1 la1.length ca1, .slice Aa2 la2.length ca2]) (t := 28) (n := 1) ?hr ?_; (case hd => rfl); (case hg => rfl); (case hr => first | (go_simp; done) | (go_simp; rfl)); intro gV hg3 w3 hx3 hb3; have nS : Aside0 (Sx w w3 [(.blk gV #[.bool a, .slice Aa1 la1.length ca1, .slice Aa2 la2.length ca2] 28), (.blk gR #[.bool false, .slice none 0 0, .slice none 0 0] 28), (.blk gA #[.bool a, .slice Aa1 la1.length ca1, .slice Aa2 la2.length ca2] 28)]) := Aside0.mk (HS.out.box hg3 hx3 hb3); clear HS; have HS := nS; clear nS hg3 hx3 hb3) | (go_at_call 58; refine (impl_valid.calls k0 _ 1 [⟨a, la1, la2⟩] v _ (one_C (HS.out.blk 0 rfl) (Kd.C_below Ha1.out HS.out.below) Ka1.out (Kd.C_below Ha2.out HS.out.below) Ka2.out) (Nat.le_refl _) HV.out).mono ?_; rintro e w4 ⟨rfl, hb4⟩; have nS : Aside0 (Sx w w4 [(.blk gV #[.bool a, .slice Aa1 la1.length ca1, .slice Aa2 la2.length ca2] 28), (.blk gR #[.bool false, .slice none 0 0, .slice none 0 0] 28), (.blk gA #[.bool a, .slice Aa1 la1.length ca1, .slice Aa2 la2.length ca2] 28)]) := Aside0.mk (HS.out.step hb4); clear HS; have HS := nS; clear nS hb4) | ((with_reducible refine gate_store rfl ?_); refine store_named rfl 28 (.tmp 4) (.tmp 14) rfl gR #[.bool false, .slice none 0 0, .slice none 0 0] rfl rfl 28 #[.bool false, .slice none 0 0, .slice none 0 0] (HS.out.blk 1 rfl) (by kernel_rfl) rfl (by simp [Value.oneCell']) ?_; intro w5 hx5 hb5; have nS : Aside0 (Sx w w5 [(.blk gV #[.bool a, .slice Aa1 la1.length ca1, .slice Aa2 la2.length ca2] 28), (.blk gR #[.bool false, .slice none 0 0, .slice none 0 0] 28), (.blk gA #[.bool a, .slice Aa1 la1.length ca1, .slice Aa2 la2.length ca2] 28)]) := Aside0.mk (HS.out.put 1 rfl hx5 hb5); clear HS; have HS := nS; clear nS hx5 hb5))
 refine bodyPost_ret (results_ct rfl _ _ gR 28 #[.bool false, .slice none 0 0, .slice none 0 0] (0, 0) _ rfl (HS.out.blk 1 rfl) Try.underlying28 rfl (by kernel_rfl)) rfl ?_
 exact ⟨_, _, rfl, Kd.R_nil _ _ _ _ _, Kd.R_nil _ _ _ _ _, HS.out.below⟩
set_option maxHeartbeats 2000000 in
set_option maxRecDepth 100000 in
theorem Index_code (k0 : Nat) (cd : Int) (a : Bool) (Aa1 : Option Addr) (ca1 : Nat) (la1 : List Int) (Aa2 : Option Addr) (ca2 : Nat) (la2 : List Int) (Ap : Option Addr) (cp : Nat) (ps : List PartS) (w : World) (ha1 : Kd.C (Kd.int .i64) w Aa1 la1.length la1) (ka1 : la1.length ≤ ca1) (ha2 : Kd.C (Kd.int .i64) w Aa2 la2.length la2) (ka2 : la2.length ≤ ca2) (hp : Kd.C k66 w Ap ps.length ps) (kp : ps.length ≤ cp) (hv : impl_valid.f k0 [⟨a, la1, la2⟩] = some 0) (hm : ∀ W, Below w.heap.size w W → Calls Try.prog 59 #[.agg #[.bool a, .slice Aa1 la1.length ca1, .slice Aa2 la2.length ca2], .slice Ap ps.length cp] W fun e w' => MovePost la1 ps W e w') (hw : (whereV la1 ps).2.2 = cd) (hc : cd ≠ 0) :
 Calls Try.prog 30 #[.agg #[.bool a, .slice Aa1 la1.length ca1, .slice Aa2 la2.length ca2], .slice Ap ps.length cp] w fun e w' => ∃ v1_ v2_ : Value, e = .returned (.tuple #[.agg #[.bool false, v1_, v2_], .int .i64 cd]) ∧ Kd.R (Kd.int .i64) 3 w' w.heap.size (fun k_ => some k_ ≠ (v2_ : Value).ownBlock) v1_ [] ∧ Kd.R (Kd.int .i64) 3 w' w.heap.size (fun k_ => some k_ ≠ (v1_ : Value).ownBlock) v2_ [] ∧ Below w.heap.size w w' := by
 have Ha1 := Aside0.mk ha1
 have Ka1 := Aside0.mk ka1
 clear ha1 ka1
 have Ha2 := Aside0.mk ha2
 have Ka2 := Aside0.mk ka2
 clear ha2 ka2
 have HP := Aside0.mk hp
 have KP := Aside0.mk kp
 have HV := Aside0.mk hv
 clear hp kp hv
 have HM := Aside0.mk hm
 have HW := Aside0.mk hw
 have HC0 := Aside0.mk hc
 clear hm hw hc
 have HS := Aside0.mk (Sx.start w)
 go_enter Try.func30, Try.ntmps30
 go_wp2_with (first | ((with_reducible refine gate_dst (N := 2) rfl ?_); refine box_ev (cs := #[.bool a, .slice Aa1 la1.length ca1, .slice Aa2 la2.length ca2]) (t := 28) ?_; intro gA hg1 w1 hx1 hb1; have nS : Aside0 (Sx w w1 [(.blk gA #[.bool a, .slice Aa1 la1.length ca1, .slice Aa2 la2.length ca2] 28)]) := Aside0.mk (HS.out.box hg1 hx1 hb1); clear HS; have HS := nS; clear nS hg1 hx1 hb1) | ((with_reducible refine gate_dst (N := 4) rfl ?_); refine box_ev (cs := #[.bool false, .slice none 0 0, .slice none 0 0]) (t := 28) ?_; intro gR hg2 w2 hx2 hb2; have nS : Aside0 (Sx w w2 [(.blk gR #[.bool false, .slice none 0 0, .slice none 0 0] 28), (.blk gA #[.bool a, .slice Aa1 la1.length ca1, .slice Aa2 la2.length ca2] 28)]) := Aside0.mk (HS.out.box hg2 hx2 hb2); clear HS; have HS := nS; clear nS hg2 hx2 hb2) | ((with_reducible refine gate_dst (N := 9) rfl ?_); refine wpList_load_row rfl 28 (.tmp 2) rfl gA rfl 28 #[.bool a, .slice Aa1 la1.length ca1, .slice Aa2 la2.length ca2] (0, 0) _ (HS.out.blk 1 rfl) Try.underlying28 rfl (by kernel_rfl) ?_) | ((with_reducible refine gate_dst (N := 10) rfl ?_); refine lit_event ?hg (N := 10) ?hd (cs := #[.bool a, .slice Aa1 la1.length ca1, .slice Aa2 la2.length ca2]) (t := 28) (n := 1) ?hr ?_; (case hd => rfl); (case hg => rfl); (case hr => first | (go_simp; done) | (go_simp; rfl)); intro gV hg3 w3 hx3 hb3; have nS : Aside0 (Sx w w3 [(.blk gV #[.bool a, .slice Aa1 la1.length ca1, .slice Aa2 la2.length ca2] 28), (.blk gR #[.bool false, .slice none 0 0, .slice none 0 0] 28), (.blk gA #[.bool a, .slice Aa1 la1.length ca1, .slice Aa2 la2.length ca2] 28)]) := Aside0.mk (HS.out.box hg3 hx3 hb3); clear HS; have HS := nS; clear nS hg3 hx3 hb3) | (go_at_call 58; refine (impl_valid.calls k0 _ 1 [⟨a, la1, la2⟩] 0 _ (one_C (HS.out.blk 0 rfl) (Kd.C_below Ha1.out HS.out.below) Ka1.out (Kd.C_below Ha2.out HS.out.below) Ka2.out) (Nat.le_refl _) HV.out).mono ?_; rintro e w4 ⟨rfl, hb4⟩; have nS : Aside0 (Sx w w4 [(.blk gV #[.bool a, .slice Aa1 la1.length ca1, .slice Aa2 la2.length ca2] 28), (.blk gR #[.bool false, .slice none 0 0, .slice none 0 0] 28), (.blk gA #[.bool a, .slice Aa1 la1.length ca1, .slice Aa2 la2.length ca2] 28)]) := Aside0.mk (HS.out.step hb4); clear HS; have HS := nS; clear nS hb4) | ((with_reducible refine gate_dst (N := 17) rfl ?_); refine wpList_load_row rfl 28 (.tmp 2) rfl gA rfl 28 #[.bool a, .slice Aa1 la1.length ca1, .slice Aa2 la2.length ca2] (0, 0) _ (HS.out.blk 2 rfl) Try.underlying28 rfl (by kernel_rfl) ?_) | (go_at_call 59; refine (HM.out _ HS.out.below).mono ?_; rintro e w5 h_; unfold MovePost at h_; obtain ⟨sh, fr, Am1, cm1, Am2, cm2, rfl, h0_, hm1, km1, hm2, km2, hb_⟩ := h_; rw [HW.out]; rw [HW.out] at h0_; have H0 := Aside0.mk h0_; have HM1 := Aside0.mk hm1; have KM1 := Aside0.mk km1; have HM2 := Aside0.mk hm2; have KM2 := Aside0.mk km2; clear h0_ hm1 km1 hm2 km2; have nS : Aside0 (Sx w w5 [(.blk gV #[.bool a, .slice Aa1 la1.length ca1, .slice Aa2 la2.length ca2] 28), (.blk gR #[.bool false, .slice none 0 0, .slice none 0 0] 28), (.blk gA #[.bool a, .slice Aa1 la1.length ca1, .slice Aa2 la2.length ca2] 28)]) := Aside0.mk (HS.out.step hb_); clear HS; have HS := nS; clear nS hb_; have HW0 := Aside0.mk HS.out.below; have HBA := Aside0.mk (HS.out.blk 2 rfl); have HBR := Aside0.mk (HS.out.blk 1 rfl); have HGR := Aside0.mk (HS.out.get 1 rfl).2; clear HS; have HS := Aside0.mk (Sx.start w5)) | ((with_reducible refine gate_dst (N := 7) rfl ?_); refine box_ev (cs := #[.slice none 0 0, .slice none 0 0]) (t := 70) ?_; intro gM hgz1 wz1 hxz1 hbz1; have nS : Aside0 (Sx w5 wz1 [(.blk gM #[.slice none 0 0, .slice none 0 0] 70)]) := Aside0.mk (HS.out.box hgz1 hxz1 hbz1); clear HS; have HS := nS; clear nS hgz1 hxz1 hbz1) | ((with_reducible refine gate_store rfl ?_); refine store_named rfl 70 (.tmp 7) (.tmp 20) rfl gM #[.slice Am1 sh.length cm1, .slice Am2 fr.length cm2] rfl rfl 70 #[.slice none 0 0, .slice none 0 0] (HS.out.blk 0 rfl) (by kernel_rfl) rfl (by simp [Value.oneCell']) ?_; intro wz2 hxz2 hbz2; have nS : Aside0 (Sx w5 wz2 [(.blk gM #[.slice Am1 sh.length cm1, .slice Am2 fr.length cm2] 70)]) := Aside0.mk (HS.out.put 0 rfl hxz2 hbz2); clear HS; have HS := nS; clear nS hxz2 hbz2) | ((with_reducible refine gate_dst (N := 22) rfl ?_); refine wpList_load_row rfl 28 (.tmp 2) rfl gA rfl 28 #[.bool a, .slice Aa1 la1.length ca1, .slice Aa2 la2.length ca2] (0, 0) _ (blk_below HBA.out HS.out.below) Try.underlying28 rfl (by kernel_rfl) ?_) | ((with_reducible refine gate_dst (N := 23) rfl ?_); refine wpList_load_row rfl 70 (.tmp 7) rfl gM rfl 70 #[.slice Am1 sh.length cm1, .slice Am2 fr.length cm2] (0, 0) _ (HS.out.blk 0 rfl) Try.underlying70 rfl (by kernel_rfl) ?_) | (go_at_call 70; refine (made_code Am1 cm1 sh.length Am2 cm2 fr.length a Aa1 ca1 la1.length Aa2 ca2 la2.length cd HC0.out _).mono ?_; rintro e wz3 ⟨rfl, hbz3⟩; have nS : Aside0 (Sx w5 wz3 [(.blk gM #[.slice Am1 sh.length cm1, .slice Am2 fr.length cm2] 70)]) := Aside0.mk (HS.out.step hbz3); clear HS; have HS := nS; clear nS hbz3) | ((with_reducible refine gate_store rfl ?_); refine store_named rfl 28 (.tmp 4) (.tmp 26) rfl gR #[.bool false, .slice none 0 0, .slice none 0 0] rfl rfl 28 #[.bool false, .slice none 0 0, .slice none 0 0] (blk_below HBR.out HS.out.below) (by kernel_rfl) rfl (by simp [Value.oneCell']) ?_; intro wF hxF hbF; have HXF := Aside0.mk hxF; have HBF := Aside0.mk hbF; clear hxF hbF))
 refine bodyPost_ret (results_ct rfl _ _ gR 28 #[.bool false, .slice none 0 0, .slice none 0 0] (0, 0) _ rfl HXF.out Try.underlying28 rfl (by kernel_rfl)) rfl ?_
 exact ⟨_, _, rfl, Kd.R_nil _ _ _ _ _, Kd.R_nil _ _ _ _ _, (HW0.out.trans (HS.out.below.mono HW0.out.size)).trans (HBF.out.below _ HGR.out)⟩
set_option maxHeartbeats 2000000 in
set_option maxRecDepth 100000 in
theorem Index_yes (k0 : Nat) (a : Bool) (Aa1 : Option Addr) (ca1 : Nat) (la1 : List Int) (Aa2 : Option Addr) (ca2 : Nat) (la2 : List Int) (Ap : Option Addr) (cp : Nat) (ps : List PartS) (w : World) (ha1 : Kd.C (Kd.int .i64) w Aa1 la1.length la1) (ka1 : la1.length ≤ ca1) (ha2 : Kd.C (Kd.int .i64) w Aa2 la2.length la2) (ka2 : la2.length ≤ ca2) (hp : Kd.C k66 w Ap ps.length ps) (kp : ps.length ≤ cp) (hv : impl_valid.f k0 [⟨a, la1, la2⟩] = some 0) (hm : ∀ W, Below w.heap.size w W → Calls Try.prog 59 #[.agg #[.bool a, .slice Aa1 la1.length ca1, .slice Aa2 la2.length ca2], .slice Ap ps.length cp] W fun e w' => MovePost la1 ps W e w') (hw : (whereV la1 ps).2.2 = 0) (hsl : (whereV la1 ps).2.1.length < 17592186044416) (hfl : (whereV la1 ps).1.length ≤ 1000000) (hx : ∀ x ∈ (whereV la1 ps).1, x < la2.length) :
 Calls Try.prog 30 #[.agg #[.bool a, .slice Aa1 la1.length ca1, .slice Aa2 la2.length ca2], .slice Ap ps.length cp] w fun e w' => ∃ v1_ v2_ : Value, e = .returned (.tuple #[.agg #[.bool a, v1_, v2_], .int .i64 0]) ∧ Kd.R (Kd.int .i64) 3 w' w.heap.size (fun k_ => some k_ ≠ (v2_ : Value).ownBlock) v1_ (whereV la1 ps).2.1 ∧ Kd.R (Kd.int .i64) 3 w' w.heap.size (fun k_ => some k_ ≠ (v1_ : Value).ownBlock) v2_ (ofL a la2 (whereV la1 ps).1) ∧ Below w.heap.size w w' := by
 have Ha1 := Aside0.mk ha1
 have Ka1 := Aside0.mk ka1
 clear ha1 ka1
 have Ha2 := Aside0.mk ha2
 have Ka2 := Aside0.mk ka2
 clear ha2 ka2
 have HP := Aside0.mk hp
 have KP := Aside0.mk kp
 have HV := Aside0.mk hv
 clear hp kp hv
 have HM := Aside0.mk hm
 have HW := Aside0.mk hw
 have HSL := Aside0.mk hsl
 have HFL := Aside0.mk hfl
 have HXB := Aside0.mk hx
 clear hm hw hsl hfl hx
 have HS := Aside0.mk (Sx.start w)
 go_enter Try.func30, Try.ntmps30
 go_wp2_with (first | ((with_reducible refine gate_dst (N := 2) rfl ?_); refine box_ev (cs := #[.bool a, .slice Aa1 la1.length ca1, .slice Aa2 la2.length ca2]) (t := 28) ?_; intro gA hg1 w1 hx1 hb1; have nS : Aside0 (Sx w w1 [(.blk gA #[.bool a, .slice Aa1 la1.length ca1, .slice Aa2 la2.length ca2] 28)]) := Aside0.mk (HS.out.box hg1 hx1 hb1); clear HS; have HS := nS; clear nS hg1 hx1 hb1) | ((with_reducible refine gate_dst (N := 4) rfl ?_); refine box_ev (cs := #[.bool false, .slice none 0 0, .slice none 0 0]) (t := 28) ?_; intro gR hg2 w2 hx2 hb2; have nS : Aside0 (Sx w w2 [(.blk gR #[.bool false, .slice none 0 0, .slice none 0 0] 28), (.blk gA #[.bool a, .slice Aa1 la1.length ca1, .slice Aa2 la2.length ca2] 28)]) := Aside0.mk (HS.out.box hg2 hx2 hb2); clear HS; have HS := nS; clear nS hg2 hx2 hb2) | ((with_reducible refine gate_dst (N := 9) rfl ?_); refine wpList_load_row rfl 28 (.tmp 2) rfl gA rfl 28 #[.bool a, .slice Aa1 la1.length ca1, .slice Aa2 la2.length ca2] (0, 0) _ (HS.out.blk 1 rfl) Try.underlying28 rfl (by kernel_rfl) ?_) | ((with_reducible refine gate_dst (N := 10) rfl ?_); refine lit_event ?hg (N := 10) ?hd (cs := #[.bool a, .slice Aa1 la1.length ca1, .slice Aa2 la2.length ca2]) (t := 28) (n := 1) ?hr ?_; (case hd => rfl); (case hg => rfl); (case hr => first | (go_simp; done) | (go_simp; rfl)); intro gV hg3 w3 hx3 hb3; have nS : Aside0 (Sx w w3 [(.blk gV #[.bool a, .slice Aa1 la1.length ca1, .slice Aa2 la2.length ca2] 28), (.blk gR #[.bool false, .slice none 0 0, .slice none 0 0] 28), (.blk gA #[.bool a, .slice Aa1 la1.length ca1, .slice Aa2 la2.length ca2] 28)]) := Aside0.mk (HS.out.box hg3 hx3 hb3); clear HS; have HS := nS; clear nS hg3 hx3 hb3) | (go_at_call 58; refine (impl_valid.calls k0 _ 1 [⟨a, la1, la2⟩] 0 _ (one_C (HS.out.blk 0 rfl) (Kd.C_below Ha1.out HS.out.below) Ka1.out (Kd.C_below Ha2.out HS.out.below) Ka2.out) (Nat.le_refl _) HV.out).mono ?_; rintro e w4 ⟨rfl, hb4⟩; have nS : Aside0 (Sx w w4 [(.blk gV #[.bool a, .slice Aa1 la1.length ca1, .slice Aa2 la2.length ca2] 28), (.blk gR #[.bool false, .slice none 0 0, .slice none 0 0] 28), (.blk gA #[.bool a, .slice Aa1 la1.length ca1, .slice Aa2 la2.length ca2] 28)]) := Aside0.mk (HS.out.step hb4); clear HS; have HS := nS; clear nS hb4) | ((with_reducible refine gate_dst (N := 17) rfl ?_); refine wpList_load_row rfl 28 (.tmp 2) rfl gA rfl 28 #[.bool a, .slice Aa1 la1.length ca1, .slice Aa2 la2.length ca2] (0, 0) _ (HS.out.blk 2 rfl) Try.underlying28 rfl (by kernel_rfl) ?_) | (go_at_call 59; refine (HM.out _ HS.out.below).mono ?_; rintro e w5 h_; unfold MovePost at h_; obtain ⟨sh, fr, Am1, cm1, Am2, cm2, rfl, h0_, hm1, km1, hm2, km2, hb_⟩ := h_; rw [HW.out]; rw [HW.out] at h0_; obtain ⟨rfl, rfl⟩ := h0_ rfl; have HM1 := Aside0.mk hm1; have KM1 := Aside0.mk km1; have HM2 := Aside0.mk hm2; have KM2 := Aside0.mk km2; clear hm1 km1 hm2 km2; have nS : Aside0 (Sx w w5 [(.blk gV #[.bool a, .slice Aa1 la1.length ca1, .slice Aa2 la2.length ca2] 28), (.blk gR #[.bool false, .slice none 0 0, .slice none 0 0] 28), (.blk gA #[.bool a, .slice Aa1 la1.length ca1, .slice Aa2 la2.length ca2] 28)]) := Aside0.mk (HS.out.step hb_); clear HS; have HS := nS; clear nS hb_; have HW0 := Aside0.mk HS.out.below; have HBA := Aside0.mk (HS.out.blk 2 rfl); have HBR := Aside0.mk (HS.out.blk 1 rfl); have HGR := Aside0.mk (HS.out.get 1 rfl).2; clear HS; have HS := Aside0.mk (Sx.start w5)) | ((with_reducible refine gate_dst (N := 7) rfl ?_); refine box_ev (cs := #[.slice none 0 0, .slice none 0 0]) (t := 70) ?_; intro gM hgz1 wz1 hxz1 hbz1; have nS : Aside0 (Sx w5 wz1 [(.blk gM #[.slice none 0 0, .slice none 0 0] 70)]) := Aside0.mk (HS.out.box hgz1 hxz1 hbz1); clear HS; have HS := nS; clear nS hgz1 hxz1 hbz1) | ((with_reducible refine gate_store rfl ?_); refine store_named rfl 70 (.tmp 7) (.tmp 20) rfl gM #[.slice Am1 (whereV la1 ps).2.1.length cm1, .slice Am2 (whereV la1 ps).1.length cm2] rfl rfl 70 #[.slice none 0 0, .slice none 0 0] (HS.out.blk 0 rfl) (by kernel_rfl) rfl (by simp [Value.oneCell']) ?_; intro wz2 hxz2 hbz2; have nS : Aside0 (Sx w5 wz2 [(.blk gM #[.slice Am1 (whereV la1 ps).2.1.length cm1, .slice Am2 (whereV la1 ps).1.length cm2] 70)]) := Aside0.mk (HS.out.put 0 rfl hxz2 hbz2); clear HS; have HS := nS; clear nS hxz2 hbz2) | ((with_reducible refine gate_dst (N := 22) rfl ?_); refine wpList_load_row rfl 28 (.tmp 2) rfl gA rfl 28 #[.bool a, .slice Aa1 la1.length ca1, .slice Aa2 la2.length ca2] (0, 0) _ (blk_below HBA.out HS.out.below) Try.underlying28 rfl (by kernel_rfl) ?_) | ((with_reducible refine gate_dst (N := 23) rfl ?_); refine wpList_load_row rfl 70 (.tmp 7) rfl gM rfl 70 #[.slice Am1 (whereV la1 ps).2.1.length cm1, .slice Am2 (whereV la1 ps).1.length cm2] (0, 0) _ (HS.out.blk 0 rfl) Try.underlying70 rfl (by kernel_rfl) ?_) | (go_at_call 70; refine (made_zero Am1 cm1 (whereV la1 ps).2.1 Am2 cm2 (whereV la1 ps).1 a Aa1 ca1 la1 Aa2 ca2 la2 _ (Kd.C_below HM1.out HS.out.below) KM1.out (Kd.C_below HM2.out HS.out.below) KM2.out (Kd.C_below Ha1.out (HW0.out.trans (HS.out.below.mono HW0.out.size))) Ka1.out (Kd.C_below Ha2.out (HW0.out.trans (HS.out.below.mono HW0.out.size))) Ka2.out HSL.out HFL.out HXB.out).mono ?_; rintro e wz3 ⟨v1, v2, rfl, hrz3, hsz3, hbz3⟩; obtain ⟨B1, d1, rfl⟩ := Kd.R_slice hrz3; obtain ⟨B2, d2, rfl⟩ := Kd.R_slice hsz3; have nS : Aside0 (Sx w5 wz3 [(.row (.slice B1 (whereV la1 ps).2.1.length d1) (whereV la1 ps).2.1), (.row (.slice B2 (ofL a la2 (whereV la1 ps).1).length d2) (ofL a la2 (whereV la1 ps).1)), (.blk gM #[.slice Am1 (whereV la1 ps).2.1.length cm1, .slice Am2 (whereV la1 ps).1.length cm2] 70)]) := Aside0.mk (HS.out.addRow2 hbz3 hrz3 hsz3); clear HS; have HS := nS; clear nS hbz3 hrz3 hsz3) | ((with_reducible refine gate_store rfl ?_); refine store_named rfl 28 (.tmp 4) (.tmp 26) rfl gR #[.bool a, .slice B1 (whereV la1 ps).2.1.length d1, .slice B2 (ofL a la2 (whereV la1 ps).1).length d2] rfl rfl 28 #[.bool false, .slice none 0 0, .slice none 0 0] (blk_below HBR.out HS.out.below) (by kernel_rfl) rfl (by simp [Value.oneCell']) ?_; intro wF hxF hbF; have HXF := Aside0.mk hxF; have HBF := Aside0.mk hbF; clear hxF hbF))
 have R_ := HS.out.two_but 0 1 (by decide) rfl rfl HBF.out (blk_lt HBR.out) w.heap.size HW0.out.size
 refine bodyPost_ret (results_ct rfl _ _ gR 28 #[.bool a, .slice B1 (whereV la1 ps).2.1.length d1, .slice B2 (ofL a la2 (whereV la1 ps).1).length d2] (0, 0) _ rfl HXF.out Try.underlying28 rfl (by kernel_rfl)) rfl ?_
 exact ⟨_, _, rfl, R_.1, R_.2, (HW0.out.trans (HS.out.below.mono HW0.out.size)).trans (HBF.out.below _ HGR.out)⟩
def okParts (l1 l2 : List Int) (ps : List PartS) : Bool := decide (l1.length ≤ 35184372088832) && decide (l2.length ≤ 35184372088832) && ps.all fun p => decide (p.f1.f1.length ≤ 35184372088832) && decide (p.f1.f2.length ≤ 35184372088832)
def impl_Index.f (a : Bool) (l1 l2 : List Int) (ps : List PartS) : Option ArrAns := if okParts l1 l2 ps = true then some (idxV a l1 l2 ps) else none
theorem okParts_all {l1 l2 : List Int} {ps : List PartS} (h : okParts l1 l2 ps = true) : l1.length ≤ 35184372088832 ∧ l2.length ≤ 35184372088832 ∧ ∀ p ∈ ps, p.f1.f1.length ≤ 35184372088832 ∧ p.f1.f2.length ≤ 35184372088832 := by
 simp only [okParts, Bool.and_eq_true, decide_eq_true_eq, List.all_eq_true] at h
 exact ⟨h.1.1, h.1.2, fun p hp => h.2 p hp⟩
theorem okParts_of {l1 l2 : List Int} {ps : List PartS} (h1 : l1.length ≤ 35184372088832) (h2 : l2.length ≤ 35184372088832) (hp : ∀ p ∈ ps, p.f1.f1.length ≤ 35184372088832 ∧ p.f1.f2.length ≤ 35184372088832) : okParts l1 l2 ps = true := by
 simp only [okParts, Bool.and_eq_true, decide_eq_true_eq, List.all_eq_true]
 exact ⟨⟨h1, h2⟩, fun p hp' => hp p hp'⟩
theorem ofL_rd {a : Bool} {l2 fr : List Int} (h : ∀ x ∈ fr, 0 ≤ x ∧ x < (l2.length : Int)) : ofL a l2 fr = fr.map (fun i => rd l2 i) := by
 unfold ofL
 refine List.map_congr_left fun x hx => ?_
 unfold ofV
 rw [if_pos (h x hx).1]
theorem where_sh {l1 : List Int} {ps : List PartS} (h : (whereV l1 ps).2.2 = 0) : (whereV l1 ps).2.1.length ≤ 5 := by
 obtain ⟨_, _, hs, hw⟩ := whereV_zero h
 rw [hw]; exact shOk_len hs
theorem impl_Index.calls (a : Bool) (Aa1 : Option Addr) (ca1 : Nat) (la1 : List Int) (Aa2 : Option Addr) (ca2 : Nat) (la2 : List Int) (Ap : Option Addr) (cp : Nat) (ps : List PartS) (r1 : Bool) (r2 r3 : List Int) (r4 : Int) (w : World) (ha1 : Kd.C (Kd.int .i64) w Aa1 la1.length la1) (ka1 : la1.length ≤ ca1) (ha2 : Kd.C (Kd.int .i64) w Aa2 la2.length la2) (ka2 : la2.length ≤ ca2) (hp : Kd.C k66 w Ap ps.length ps) (kp : ps.length ≤ cp) (h : impl_Index.f a la1 la2 ps = some (r1, r2, r3, r4)) :
 Calls Try.prog 30 #[.agg #[.bool a, .slice Aa1 la1.length ca1, .slice Aa2 la2.length ca2], .slice Ap ps.length cp] w fun e w' => ∃ v1_ v2_ : Value, e = .returned (.tuple #[.agg #[.bool r1, v1_, v2_], .int .i64 r4]) ∧ Kd.R (Kd.int .i64) 3 w' w.heap.size (fun k_ => some k_ ≠ (v2_ : Value).ownBlock) v1_ r2 ∧ Kd.R (Kd.int .i64) 3 w' w.heap.size (fun k_ => some k_ ≠ (v1_ : Value).ownBlock) v2_ r3 ∧ Below w.heap.size w w' := by
 unfold impl_Index.f at h
 split at h
 ·rename_i hl
  have hl := okParts_all hl
  have h := Option.some.inj h
  obtain ⟨k0, hk0⟩ := (valid_ev1 a la1 la2 hl.2.1).rounds
  unfold idxV at h
  by_cases hok : arrOk a la1 la2 = true
  ·rw [if_pos hok] at h hk0
   have hm : ∀ W, Below w.heap.size w W → Calls Try.prog 59 #[.agg #[.bool a, .slice Aa1 la1.length ca1, .slice Aa2 la2.length ca2], .slice Ap ps.length cp] W fun e w' => MovePost la1 ps W e w' := fun W hW =>
    indexMove_all a Aa1 ca1 la1 Aa2 ca2 la2 Ap cp ps W (Kd.C_below ha1 hW) ka1 (Kd.C_below ha2 hW) ka2 (Kd.C_below hp hW) kp hok hl.2.2
   by_cases hc : (whereV la1 ps).2.2 = 0
   ·rw [if_pos hc] at h
    have hr := where_range hok hc
    rw [← ofL_rd (a := a) hr.1] at h
    cases h
    exact Index_yes k0 a Aa1 ca1 la1 Aa2 ca2 la2 Ap cp ps w ha1 ka1 ha2 ka2 hp kp hk0 hm hc (by have := where_sh hc; omega) (by omega) (fun x hx => (hr.1 x hx).2)
   ·rw [if_neg hc] at h
    cases h
    exact Index_code k0 _ a Aa1 ca1 la1 Aa2 ca2 la2 Ap cp ps w ha1 ka1 ha2 ka2 hp kp hk0 hm rfl hc
  ·rw [if_neg hok] at h hk0
   cases h
   exact Index_no k0 3 a Aa1 ca1 la1 Aa2 ca2 la2 Ap cp ps w ha1 ka1 ha2 ka2 hp kp hk0 (by decide)
 ·cases h
theorem idxV_len (b : Bool) (l1 l2 : List Int) (ps : List PartS) : (idxV b l1 l2 ps).2.1.length ≤ 10000 ∧ (idxV b l1 l2 ps).2.2.1.length ≤ 10000 := by
 unfold idxV noArr
 split
 ·rename_i h
  split
  ·rename_i h0
   have := where_range h h0
   have := where_sh h0
   simp only [List.length_map]
   omega
  ·simp
 ·simp
theorem spec_Index_n (k : Nat) (a : Bool) (Aa1 : Option Addr) (ca1 : Nat) (la1 : List Int) (Aa2 : Option Addr) (ca2 : Nat) (la2 : List Int) (Ab1 : Option Addr) (nb : Nat) (pb : List PartI) (hnb : pb.length = nb) (r1 : Bool) (r2 r3 : List Int) (r4 : Int) (w : World) (ha1 : Kd.C (Kd.int .i64) w Aa1 la1.length la1) (ka1 : la1.length ≤ ca1) (ha2 : Kd.C (Kd.int .i64) w Aa2 la2.length la2) (ka2 : la2.length ≤ ca2) (hb1 : Kd.C k66 w Ab1 pb.length pb) (h : spec_Index.f k a la1 la2 pb = some (r1, r2, r3, r4)) :
 Calls Try.prog 39 #[.agg #[.bool a, .slice Aa1 la1.length ca1, .slice Aa2 la2.length ca2], .slice Ab1 nb nb] w fun e w' => ∃ v1_ v2_ : Value, e = .returned (.tuple #[.agg #[.bool r1, v1_, v2_], .int .i64 r4]) ∧ Kd.R (Kd.int .i64) 3 w' w.heap.size (fun k_ => some k_ ≠ (v2_ : Value).ownBlock) v1_ r2 ∧ Kd.R (Kd.int .i64) 3 w' w.heap.size (fun k_ => some k_ ≠ (v1_ : Value).ownBlock) v2_ r3 ∧ Below w.heap.size w w' := by
 subst hnb
 exact spec_Index.calls k a Aa1 ca1 la1 Aa2 ca2 la2 Ab1 _ pb r1 r2 r3 r4 w ha1 ka1 ha2 ka2 hb1 (Nat.le_refl _) h
theorem impl_Index_n (a : Bool) (Aa1 : Option Addr) (ca1 : Nat) (la1 : List Int) (Aa2 : Option Addr) (ca2 : Nat) (la2 : List Int) (Ab1 : Option Addr) (nb : Nat) (pb : List PartI) (hnb : pb.length = nb) (r1 : Bool) (r2 r3 : List Int) (r4 : Int) (w : World) (ha1 : Kd.C (Kd.int .i64) w Aa1 la1.length la1) (ka1 : la1.length ≤ ca1) (ha2 : Kd.C (Kd.int .i64) w Aa2 la2.length la2) (ka2 : la2.length ≤ ca2) (hb1 : Kd.C k66 w Ab1 pb.length pb) (h : impl_Index.f a la1 la2 pb = some (r1, r2, r3, r4)) :
 Calls Try.prog 30 #[.agg #[.bool a, .slice Aa1 la1.length ca1, .slice Aa2 la2.length ca2], .slice Ab1 nb nb] w fun e w' => ∃ v1_ v2_ : Value, e = .returned (.tuple #[.agg #[.bool r1, v1_, v2_], .int .i64 r4]) ∧ Kd.R (Kd.int .i64) 3 w' w.heap.size (fun k_ => some k_ ≠ (v2_ : Value).ownBlock) v1_ r2 ∧ Kd.R (Kd.int .i64) 3 w' w.heap.size (fun k_ => some k_ ≠ (v1_ : Value).ownBlock) v2_ r3 ∧ Below w.heap.size w w' := by
 subst hnb
 exact impl_Index.calls a Aa1 ca1 la1 Aa2 ca2 la2 Ab1 _ pb r1 r2 r3 r4 w ha1 ka1 ha2 ka2 hb1 (Nat.le_refl _) h
set_option maxHeartbeats 8000000 in
set_option maxRecDepth 100000 in
theorem lawIndex_y (kta kea kzb kqb ks kev kh kk1 kk3 : Nat) (a : Bool) (Aa1 : Option Addr) (ca1 : Nat) (la1 : List Int) (Aa2 : Option Addr) (ca2 : Nat) (la2 : List Int) (Ab1 : Option Addr) (cb1 : Nat) (lb1 : List PartL) (v1 : Bool) (v2 v3 : List Int) (v4 : Int) (pb : List PartI) (s1 : Int) (s2 : Int) (k1 : Int) (m11 m12 : List Int) (k3 : Int) (m31 m32 : List Int) (w : World) (ha1 : Kd.C (Kd.int .i64) w Aa1 la1.length la1) (ka1 : la1.length ≤ ca1) (ha2 : Kd.C (Kd.int .i64) w Aa2 la2.length la2) (ka2 : la2.length ≤ ca2) (hb1 : Kd.C k59 w Ab1 lb1.length lb1) (kb1 : lb1.length ≤ cb1)
 (hta : laws_toArray.f kta a la1 la2 = some (a, la1, la2))
 (hea : laws_eqArray.f kea a la1 la2 a la1 la2 = some true)
 (HPNb : lb1.length ≤ 1048576)
 (HPLb : ∀ p ∈ lb1, p.f1.f1.length ≤ 35184372088832 ∧ p.f1.f2.length ≤ 35184372088832)
 (HPVb : lb1.map cvP = pb)
 (HNVb : pb.length = lb1.length)
 (HBNb : lb1.length ≤ 1048576)
 (HPSb : ∀ p ∈ pb, p.f1.f1.length ≤ 1048576 ∧ p.f1.f2.length ≤ 1048576)
 (hqb : laws_eqPartS.f kqb pb pb = some true)
 (hsp : spec_Index.f ks a la1 la2 pb = some (v1, v2, v3, v4))
 (him : impl_Index.f a la1 la2 pb = some (v1, v2, v3, v4))
 (hev : laws_eqArray.f kev v1 v2 v3 v1 v2 v3 = some true)
 (hz1 : laws_szArray.f a la1 la2 1048576 = some s1)
 (pz1 : 0 ≤ s1)
 (hz2 : laws_szPartS.f kzb lb1 (s1) = some s2)
 (pz2 : 0 ≤ s2)
 (hm1 : laws_markArray.f kk1 a la1 la2 1 = some (k1, m11, m12))
 (pm1 : 0 ≤ k1)
 (bm1 : k1 ≤ 10000000000000)
 (lm11 : la1.length = m11.length)
 (lm12 : la2.length = m12.length)
 (hm3 : laws_markArray.f kk3 v1 v2 v3 1 = some (k3, m31, m32))
 (pm3 : 0 ≤ k3)
 (bm3 : k3 ≤ 10000000000000)
 (lm31 : v2.length = m31.length)
 (lm32 : v3.length = m32.length)
 (hhG : laws_heldArray.f kh v1 m31 m32 1 = some k3) :
 Calls Try.prog 9 #[.agg #[.bool a, .slice Aa1 la1.length ca1, .slice Aa2 la2.length ca2], .slice Ab1 lb1.length cb1] w fun e w' => e = .returned (.bool true) ∧ Below w.heap.size w w' := by
 have Ha1 := Aside0.mk ha1
 have Ka1 := Aside0.mk ka1
 have Ha2 := Aside0.mk ha2
 have Ka2 := Aside0.mk ka2
 have Hb1 := Aside0.mk hb1
 have Kb1 := Aside0.mk kb1
 replace hta := Aside0.mk hta
 replace hea := Aside0.mk hea
 replace HPNb := Aside0.mk HPNb
 replace HPLb := Aside0.mk HPLb
 replace HPVb := Aside0.mk HPVb
 replace HNVb := Aside0.mk HNVb
 replace HBNb := Aside0.mk HBNb
 replace HPSb := Aside0.mk HPSb
 replace hqb := Aside0.mk hqb
 replace hsp := Aside0.mk hsp
 replace him := Aside0.mk him
 replace hev := Aside0.mk hev
 replace hz1 := Aside0.mk hz1
 replace hz2 := Aside0.mk hz2
 replace hm1 := Aside0.mk hm1
 replace bm1 := Aside0.mk bm1
 replace lm11 := Aside0.mk lm11
 replace lm12 := Aside0.mk lm12
 replace hm3 := Aside0.mk hm3
 replace bm3 := Aside0.mk bm3
 replace lm31 := Aside0.mk lm31
 replace lm32 := Aside0.mk lm32
 replace hhG := Aside0.mk hhG
 clear ha1 ka1 ha2 ka2 hb1 kb1
 have qpz1 : decide (s1 < 0) = false := decide_eq_false (by omega)
 have qpz2 : decide (s2 < 0) = false := decide_eq_false (by omega)
 have qpm1 : decide (k1 < 0) = false := decide_eq_false (by omega)
 have qpm3 : decide (k3 < 0) = false := decide_eq_false (by omega)
 have HS := Aside0.mk (St.start w)
 go_enter Try.func9, Try.ntmps9
 go_upto_region 1 with (first | ((with_reducible refine gate_dst (N := 2) rfl ?_); refine box_ev (cs := #[.bool a, .slice Aa1 la1.length ca1, .slice Aa2 la2.length ca2]) (t := 24) ?_; intro g1 hg1 w1 hx1 hb1; have nS := Aside0.mk (HS.out.box hg1 hx1 hb1 (by decide)); clear HS; have HS := nS; clear nS hg1 hx1 hb1))
 go_upto_region 2 with (fail)
 go_upto_region 3 with (first | ((with_reducible refine gate_dst (N := 17) rfl ?_); refine wpList_load_row rfl 24 (.tmp 2) rfl g1 rfl 24 #[.bool a, .slice Aa1 la1.length ca1, .slice Aa2 la2.length ca2] (0, 0) _ (HS.out.idx 0 rfl) Try.underlying24 rfl (by kernel_rfl) ?_) | (go_at_call 15; refine (laws_szArray.calls a _ _ la1 _ _ la2 1048576 s1 _ (Cq (Kd.C_below Ha1.out HS.out.below)) Ka1.out (Cq (Kd.C_below Ha2.out HS.out.below)) Ka2.out hz1.out).mono ?_; rintro e w2 ⟨rfl, hb2⟩; have nS := Aside0.mk (St.step (by repeat (first | (with_reducible exact HS.out) | (with_reducible apply St.drew) | (with_reducible apply St.drewN) | (with_reducible apply St.alloc) | decide)) hb2); clear HS; have HS := nS; clear nS hb2))
 go_upto_region 5 with (fail)
 go_upto_region 6 with (first | (go_at_call 16; refine (laws_szPartS.calls kzb _ _ lb1 (s1) s2 _ (Cq (Kd.C_below Hb1.out HS.out.below)) Kb1.out hz2.out).mono ?_; rintro e w3 ⟨rfl, hb3⟩; have nS := Aside0.mk (St.step (by repeat (first | (with_reducible exact HS.out) | (with_reducible apply St.drew) | (with_reducible apply St.drewN) | (with_reducible apply St.alloc) | decide)) hb3); clear HS; have HS := nS; clear nS hb3))
 go_upto_region 8 with (fail)
 go_upto_region 9 with (first | ((with_reducible refine gate_dst (N := 28) rfl ?_); refine wpList_load_row rfl 24 (.tmp 2) rfl g1 rfl 24 #[.bool a, .slice Aa1 la1.length ca1, .slice Aa2 la2.length ca2] (0, 0) _ (HS.out.idx 0 rfl) Try.underlying24 rfl (by kernel_rfl) ?_) | (go_at_call_of 18 (Value.agg #[Value.bool a, Value.slice Aa1 la1.length ca1, Value.slice Aa2 la2.length ca2]); refine (laws_toArray.calls kta a _ _ la1 _ _ la2 a la1 la2 _ (Cq (Kd.C_below Ha1.out HS.out.below)) Ka1.out (Cq (Kd.C_below Ha2.out HS.out.below)) Ka2.out hta.out).mono ?_; rintro e w4 ⟨x4, y4, rfl, hx4, hy4, hb4⟩; obtain ⟨Ax4, cx4, rfl⟩ := Kd.R_slice hx4; obtain ⟨Ay4, cy4, rfl⟩ := Kd.R_slice hy4; have nS := Aside0.mk (St.add (by repeat (first | (with_reducible exact HS.out) | (with_reducible apply St.drew) | (with_reducible apply St.drewN) | (with_reducible apply St.alloc) | decide)) hb4 (Nat.le_refl _) hx4 hy4); clear HS; have HS := nS; clear nS hb4 hx4 hy4) | (go_at_call 19; refine (toPartS_any _ _ lb1 _ (Cq (Kd.C_below Hb1.out HS.out.below)) Kb1.out HPNb.out HPLb.out).mono ?_; rintro e w5 h_; obtain ⟨gq5, Lq5, rfl, hL_, hq_⟩ := h_; have hp_ : Lq5.map Pw.val = pb := hL_.trans HPVb.out; have HQ5I := Aside0.mk (fun k (hk : OnP gq5 Lq5 k) => (⟨by obtain ⟨T, hT, hk⟩ := hk; exact (Th.lt (hq_.ok T hT) k hk).1, by obtain ⟨T, hT, hk⟩ := hk; exact (Th.lt (hq_.ok T hT) k hk).2⟩ : w4.heap.size ≤ k ∧ k < w5.heap.size)); have HQ5L := Aside0.mk hp_; have hb_ := hq_.below; have hlow_ := (St.below (by repeat (first | (with_reducible exact HS.out) | (with_reducible apply St.drew) | (with_reducible apply St.drewN) | (with_reducible apply St.alloc) | decide))).size; have nS := Aside0.mk (St.gap (by repeat (first | (with_reducible exact HS.out) | (with_reducible apply St.drew) | (with_reducible apply St.drewN) | (with_reducible apply St.alloc) | decide)) hb_); clear HS; have HS := nS; have HQ5 := Aside0.mk (hq_.lowerB HS.out.below hlow_); clear nS hlow_ hb_ hq_ hL_ hp_) | (go_at_call 39; refine (spec_Index_n ks a Ax4 cx4 la1 Ay4 cy4 la2 (some ⟨gq5, 0, none⟩) lb1.length pb HNVb.out v1 v2 v3 v4 _ (Cq ((HS.out.nth 1 rfl).c1.2.1)) (HS.out.nth 1 rfl).c1.2.2 (Cq ((HS.out.nth 1 rfl).c2.2.1)) (HS.out.nth 1 rfl).c2.2.2 (PSt.C' HQ5.out HQ5L.out HBNb.out HNVb.out) hsp.out).mono ?_; rintro e w6 ⟨x6, y6, rfl, hx6, hy6, hb6⟩; obtain ⟨Ax6, cx6, rfl⟩ := Kd.R_slice hx6; obtain ⟨Ay6, cy6, rfl⟩ := Kd.R_slice hy6; have nS := Aside0.mk (St.add (by repeat (first | (with_reducible exact HS.out) | (with_reducible apply St.drew) | (with_reducible apply St.drewN) | (with_reducible apply St.alloc) | decide)) hb6 (Nat.le_refl _) hx6 hy6); clear HS; have HS := nS; clear nS hb6 hx6 hy6) | ((with_reducible refine gate_dst (N := 6) rfl ?_); refine box_ev (cs := #[.bool false, .slice none 0 0, .slice none 0 0]) (t := 28) ?_; intro g7 hg7 w7 hx7 hb7; have nS := Aside0.mk (HS.out.box hg7 hx7 hb7 (by decide)); clear HS; have HS := nS; clear nS hg7 hx7 hb7) | ((with_reducible refine gate_store rfl ?_); refine store_named rfl 28 (.tmp 6) (.tmp 33) rfl g7 #[.bool v1, .slice Ax6 v2.length cx6, .slice Ay6 v3.length cy6] rfl rfl 28 #[.bool false, .slice none 0 0, .slice none 0 0] (HS.out.idx 0 rfl) (by kernel_rfl) rfl (by simp [Value.oneCell']) ?_; intro w8 hx8 hb8; have nS := Aside0.mk (HS.out.put 0 rfl hx8 hb8); simp only [List.set_cons_zero, List.set_cons_succ] at nS; clear HS; have HS := nS; clear nS hx8 hb8))
 go_upto_region 10 with (first | ((with_reducible refine gate_dst (N := 35) rfl ?_); refine wpList_load_row rfl 24 (.tmp 2) rfl g1 rfl 24 #[.bool a, .slice Aa1 la1.length ca1, .slice Aa2 la2.length ca2] (0, 0) _ (HS.out.idx 1 rfl) Try.underlying24 rfl (by kernel_rfl) ?_) | (go_at_call_of 18 (Value.agg #[Value.bool a, Value.slice Aa1 la1.length ca1, Value.slice Aa2 la2.length ca2]); refine (laws_toArray.calls kta a _ _ la1 _ _ la2 a la1 la2 _ (Cq (Kd.C_below Ha1.out HS.out.below)) Ka1.out (Cq (Kd.C_below Ha2.out HS.out.below)) Ka2.out hta.out).mono ?_; rintro e w9 ⟨x9, y9, rfl, hx9, hy9, hb9⟩; obtain ⟨Ax9, cx9, rfl⟩ := Kd.R_slice hx9; obtain ⟨Ay9, cy9, rfl⟩ := Kd.R_slice hy9; have nS := Aside0.mk (St.add (by repeat (first | (with_reducible exact HS.out) | (with_reducible apply St.drew) | (with_reducible apply St.drewN) | (with_reducible apply St.alloc) | decide)) hb9 (Nat.le_refl _) hx9 hy9); clear HS; have HS := nS; clear nS hb9 hx9 hy9) | ((with_reducible refine gate_dst (N := 8) rfl ?_); refine box_ev (cs := #[.bool false, .slice none 0 0, .slice none 0 0]) (t := 28) ?_; intro g10 hg10 w10 hx10 hb10; have nS := Aside0.mk (HS.out.box hg10 hx10 hb10 (by decide)); clear HS; have HS := nS; clear nS hg10 hx10 hb10) | ((with_reducible refine gate_store rfl ?_); refine store_named rfl 28 (.tmp 8) (.tmp 36) rfl g10 #[.bool a, .slice Ax9 la1.length cx9, .slice Ay9 la2.length cy9] rfl rfl 28 #[.bool false, .slice none 0 0, .slice none 0 0] (HS.out.idx 0 rfl) (by kernel_rfl) rfl (by simp [Value.oneCell']) ?_; intro w11 hx11 hb11; have nS := Aside0.mk (HS.out.put 0 rfl hx11 hb11); simp only [List.set_cons_zero, List.set_cons_succ] at nS; clear HS; have HS := nS; clear nS hx11 hb11))
 go_upto_region 11 with (first | (go_at_call 19; refine (toPartS_any _ _ lb1 _ (Cq (Kd.C_below Hb1.out HS.out.below)) Kb1.out HPNb.out HPLb.out).mono ?_; rintro e w12 h_; obtain ⟨gq12, Lq12, rfl, hL_, hq_⟩ := h_; have hp_ : Lq12.map Pw.val = pb := hL_.trans HPVb.out; have HQ12I := Aside0.mk (fun k (hk : OnP gq12 Lq12 k) => (⟨by obtain ⟨T, hT, hk⟩ := hk; exact (Th.lt (hq_.ok T hT) k hk).1, by obtain ⟨T, hT, hk⟩ := hk; exact (Th.lt (hq_.ok T hT) k hk).2⟩ : w11.heap.size ≤ k ∧ k < w12.heap.size)); have HQ12L := Aside0.mk hp_; have hb_ := hq_.below; have hlow_ := (St.below (by repeat (first | (with_reducible exact HS.out) | (with_reducible apply St.drew) | (with_reducible apply St.drewN) | (with_reducible apply St.alloc) | decide))).size; have nS := Aside0.mk (St.gap (by repeat (first | (with_reducible exact HS.out) | (with_reducible apply St.drew) | (with_reducible apply St.drewN) | (with_reducible apply St.alloc) | decide)) hb_); clear HS; have HS := nS; have HQ12 := Aside0.mk (hq_.lowerB HS.out.below hlow_); clear nS hlow_ hb_ hq_ hL_ hp_))
 go_upto_region 12 with (first | ((with_reducible refine gate_dst (N := 40) rfl ?_); refine wpList_load_row rfl 28 (.tmp 8) rfl g10 rfl 28 #[.bool a, .slice Ax9 la1.length cx9, .slice Ay9 la2.length cy9] (0, 0) _ (HS.out.idx 0 rfl) Try.underlying28 rfl (by kernel_rfl) ?_) | (go_at_call 30; refine (impl_Index_n a Ax9 cx9 la1 Ay9 cy9 la2 (some ⟨gq12, 0, none⟩) lb1.length pb HNVb.out v1 v2 v3 v4 _ (Cq ((HS.out.nth 1 rfl).c1.2.1)) (HS.out.nth 1 rfl).c1.2.2 (Cq ((HS.out.nth 1 rfl).c2.2.1)) (HS.out.nth 1 rfl).c2.2.2 (PSt.C' HQ12.out HQ12L.out HBNb.out HNVb.out) him.out).mono ?_; rintro e w13 ⟨x13, y13, rfl, hx13, hy13, hb13⟩; obtain ⟨Ax13, cx13, rfl⟩ := Kd.R_slice hx13; obtain ⟨Ay13, cy13, rfl⟩ := Kd.R_slice hy13; have nX := Aside0.mk (Sx.step (show Sx w _ (PSt gq12 Lq12) from by repeat (first | (with_reducible exact HQ12.out) | (with_reducible apply Sx.drew) | (with_reducible apply Sx.drewN))) hb13); clear HQ12; have HQ12 := nX; clear nX; have nS := Aside0.mk (St.add (by repeat (first | (with_reducible exact HS.out) | (with_reducible apply St.drew) | (with_reducible apply St.drewN) | (with_reducible apply St.alloc) | decide)) hb13 (Nat.le_refl _) hx13 hy13); clear HS; have HS := nS; clear nS hb13 hx13 hy13) | ((with_reducible refine gate_dst (N := 10) rfl ?_); refine box_ev (cs := #[.bool false, .slice none 0 0, .slice none 0 0]) (t := 28) ?_; intro g14 hg14 w14 hx14 hb14; have HNG14 := Aside0.mk (fun T (hT : T ∈ PSt gq12 Lq12) k_ (hk_ : T.on k_) => (show k_ ≠ g14 by have h_ := (Th.lt (HQ12.out.ok T hT) k_ hk_).2; omega)); have nX := Aside0.mk (Sx.step (show Sx w _ (PSt gq12 Lq12) from by repeat (first | (with_reducible exact HQ12.out) | (with_reducible apply Sx.drew) | (with_reducible apply Sx.drewN))) hb14); clear HQ12; have HQ12 := nX; clear nX; have nS := Aside0.mk (HS.out.box hg14 hx14 hb14 (by decide)); clear HS; have HS := nS; clear nS hg14 hx14 hb14) | ((with_reducible refine gate_store rfl ?_); refine store_named rfl 28 (.tmp 10) (.tmp 43) rfl g14 #[.bool v1, .slice Ax13 v2.length cx13, .slice Ay13 v3.length cy13] rfl rfl 28 #[.bool false, .slice none 0 0, .slice none 0 0] (HS.out.idx 0 rfl) (by kernel_rfl) rfl (by simp [Value.oneCell']) ?_; intro w15 hx15 hb15; have nX := Aside0.mk (HQ12.out.but hb15 HNG14.out (HS.out.geI 0 rfl)); clear HQ12; have HQ12 := nX; clear nX; have nS := Aside0.mk (HS.out.put 0 rfl hx15 hb15); simp only [List.set_cons_zero, List.set_cons_succ] at nS; clear HS; have HS := nS; clear nS hx15 hb15))
 go_upto_region 14 with (first | ((with_reducible refine gate_dst (N := 45) rfl ?_); refine wpList_load_row rfl 28 (.tmp 10) rfl g14 rfl 28 #[.bool v1, .slice Ax13 v2.length cx13, .slice Ay13 v3.length cy13] (0, 0) _ (HS.out.idx 0 rfl) Try.underlying28 rfl (by kernel_rfl) ?_) | ((with_reducible refine gate_dst (N := 46) rfl ?_); refine wpList_load_row rfl 28 (.tmp 6) rfl g7 rfl 28 #[.bool v1, .slice Ax6 v2.length cx6, .slice Ay6 v3.length cy6] (0, 0) _ (HS.out.idx 2 rfl) Try.underlying28 rfl (by kernel_rfl) ?_) | (go_at_call 21; refine (laws_eqArray.calls kev v1 Ax13 cx13 v2 Ay13 cy13 v3 v1 Ax6 cx6 v2 Ay6 cy6 v3 true _ (Cq ((HS.out.nth 0 rfl).c1.2.1)) (HS.out.nth 0 rfl).c1.2.2 (Cq ((HS.out.nth 0 rfl).c2.2.1)) (HS.out.nth 0 rfl).c2.2.2 (Cq ((HS.out.nth 3 rfl).c1.2.1)) (HS.out.nth 3 rfl).c1.2.2 (Cq ((HS.out.nth 3 rfl).c2.2.1)) (HS.out.nth 3 rfl).c2.2.2 hev.out).mono ?_; rintro e w16 ⟨rfl, hb16⟩; have nX := Aside0.mk (Sx.step (show Sx w _ (PSt gq12 Lq12) from by repeat (first | (with_reducible exact HQ12.out) | (with_reducible apply Sx.drew) | (with_reducible apply Sx.drewN))) hb16); clear HQ12; have HQ12 := nX; clear nX; have nS := Aside0.mk (St.step (by repeat (first | (with_reducible exact HS.out) | (with_reducible apply St.drew) | (with_reducible apply St.drewN) | (with_reducible apply St.alloc) | decide)) hb16); clear HS; have HS := nS; clear nS hb16))
 go_region_held3 (fun w' => w'.cell? ⟨g10, 0, none⟩ = some (.bool a) ∧ w'.cell? ⟨g10, 1, none⟩ = some (.slice Ax9 la1.length cx9) ∧ w'.cell? ⟨g10, 2, none⟩ = some (.slice Ay9 la2.length cy9) ∧ w'.cell? ⟨g1, 0, none⟩ = some (.bool a) ∧ w'.cell? ⟨g1, 1, none⟩ = some (.slice Aa1 la1.length ca1) ∧ w'.cell? ⟨g1, 2, none⟩ = some (.slice Aa2 la2.length ca2)) ((apply St.cells2 (w := w) (t1 := 28) (t2 := 24); (repeat (first | (with_reducible exact HS.out) | (with_reducible apply St.drew) | (with_reducible apply St.drewN) | (with_reducible apply St.alloc) | (with_reducible apply St.set3) | decide)); all_goals simp)) (first | (go_at_call_of 18 (Value.agg #[Value.bool a, Value.slice Aa1 la1.length ca1, Value.slice Aa2 la2.length ca2]); refine (laws_toArray.calls kta a _ _ la1 _ _ la2 a la1 la2 _ (Cq (Kd.C_below Ha1.out HS.out.below)) Ka1.out (Cq (Kd.C_below Ha2.out HS.out.below)) Ka2.out hta.out).mono ?_; rintro e w17 ⟨x17, y17, rfl, hx17, hy17, hb17⟩; obtain ⟨Ax17, cx17, rfl⟩ := Kd.R_slice hx17; obtain ⟨Ay17, cy17, rfl⟩ := Kd.R_slice hy17; have nX := Aside0.mk (Sx.step (show Sx w _ (PSt gq12 Lq12) from by repeat (first | (with_reducible exact HQ12.out) | (with_reducible apply Sx.drew) | (with_reducible apply Sx.drewN))) hb17); clear HQ12; have HQ12 := nX; clear nX; have nS := Aside0.mk (St.add (by repeat (first | (with_reducible exact HS.out) | (with_reducible apply St.drew) | (with_reducible apply St.drewN) | (with_reducible apply St.alloc) | decide)) hb17 (Nat.le_refl _) hx17 hy17); clear HS; have HS := nS; clear nS hb17 hx17 hy17) | (go_at_call 21; refine (laws_eqArray.calls kea a Ax9 cx9 la1 Ay9 cy9 la2 a Ax17 cx17 la1 Ay17 cy17 la2 true _ (Cq ((HS.out.nth 3 rfl).c1.2.1)) (HS.out.nth 3 rfl).c1.2.2 (Cq ((HS.out.nth 3 rfl).c2.2.1)) (HS.out.nth 3 rfl).c2.2.2 (Cq ((HS.out.nth 0 rfl).c1.2.1)) (HS.out.nth 0 rfl).c1.2.2 (Cq ((HS.out.nth 0 rfl).c2.2.1)) (HS.out.nth 0 rfl).c2.2.2 hea.out).mono ?_; rintro e w18 ⟨rfl, hb18⟩; have nX := Aside0.mk (Sx.step (show Sx w _ (PSt gq12 Lq12) from by repeat (first | (with_reducible exact HQ12.out) | (with_reducible apply Sx.drew) | (with_reducible apply Sx.drewN))) hb18); clear HQ12; have HQ12 := nX; clear nX; have nS := Aside0.mk (St.step (by repeat (first | (with_reducible exact HS.out) | (with_reducible apply St.drew) | (with_reducible apply St.drewN) | (with_reducible apply St.alloc) | decide)) hb18); clear HS; have HS := nS; clear nS hb18))
 go_upto_region 16 with (fail)
 go_upto_region 18 with (first | (go_at_call 19; refine (toPartS_any _ _ lb1 _ (Cq (Kd.C_below Hb1.out HS.out.below)) Kb1.out HPNb.out HPLb.out).mono ?_; rintro e w19 h_; obtain ⟨gq19, Lq19, rfl, hL_, hq_⟩ := h_; have hp_ : Lq19.map Pw.val = pb := hL_.trans HPVb.out; have HQ19I := Aside0.mk (fun k (hk : OnP gq19 Lq19 k) => (⟨by obtain ⟨T, hT, hk⟩ := hk; exact (Th.lt (hq_.ok T hT) k hk).1, by obtain ⟨T, hT, hk⟩ := hk; exact (Th.lt (hq_.ok T hT) k hk).2⟩ : w18.heap.size ≤ k ∧ k < w19.heap.size)); have HQ19L := Aside0.mk hp_; have hb_ := hq_.below; have nX := Aside0.mk (Sx.step (show Sx w _ (PSt gq12 Lq12) from by repeat (first | (with_reducible exact HQ12.out) | (with_reducible apply Sx.drew) | (with_reducible apply Sx.drewN))) hb_); clear HQ12; have HQ12 := nX; clear nX; have hlow_ := (St.below (by repeat (first | (with_reducible exact HS.out) | (with_reducible apply St.drew) | (with_reducible apply St.drewN) | (with_reducible apply St.alloc) | decide))).size; have nS := Aside0.mk (St.gap (by repeat (first | (with_reducible exact HS.out) | (with_reducible apply St.drew) | (with_reducible apply St.drewN) | (with_reducible apply St.alloc) | decide)) hb_); clear HS; have HS := nS; have HQ19 := Aside0.mk (hq_.lowerB HS.out.below hlow_); clear nS hlow_ hb_ hq_ hL_ hp_) | (go_at_call 22; refine (eqPartS_n kqb (some ⟨gq12, 0, none⟩) (some ⟨gq19, 0, none⟩) lb1.length lb1.length pb HNVb.out true _ (PSt.C' HQ12.out HQ12L.out HBNb.out HNVb.out) (PSt.C' HQ19.out HQ19L.out HBNb.out HNVb.out) hqb.out).mono ?_; rintro e w20 ⟨rfl, hb20⟩; have nX := Aside0.mk (Sx.step (show Sx w _ (PSt gq12 Lq12) from by repeat (first | (with_reducible exact HQ12.out) | (with_reducible apply Sx.drew) | (with_reducible apply Sx.drewN))) hb20); clear HQ12; have HQ12 := nX; clear nX; have nS := Aside0.mk (St.step (by repeat (first | (with_reducible exact HS.out) | (with_reducible apply St.drew) | (with_reducible apply St.drewN) | (with_reducible apply St.alloc) | decide)) hb20); clear HS; have HS := nS; clear nS hb20))
 go_upto_region 19 with (fail)
 go_upto_region 20 with (first | ((with_reducible refine gate_dst (N := 64) rfl ?_); refine wpList_load_row rfl 28 (.tmp 8) rfl g10 rfl 28 #[.bool a, .slice Ax9 la1.length cx9, .slice Ay9 la2.length cy9] (0, 0) _ (HS.out.idx 1 rfl) Try.underlying28 rfl (by kernel_rfl) ?_) | (go_at_call 23; have hr_ := HS.out.ready' 4 rfl; refine (laws_markArray.calls kk1 a (fun k => some k = ((.slice Ax9 la1.length cx9) : Value).ownBlock) (.slice Ax9 la1.length cx9) la1 (fun k => some k = ((.slice Ay9 la2.length cy9) : Value).ownBlock) (.slice Ay9 la2.length cy9) la2 1 k1 m11 m12 w w20 HS.out.below hr_.1 hr_.2.1 hr_.2.2.1 hr_.2.2.2 hm1.out).mono ?_; clear hr_; rintro e w21 ⟨rfl, hx21, hy21, hb21, hk21⟩; have nX := Aside0.mk (HQ12.out.keptS hk21 (fun T hT k_ hk_ => HS.out.apartG 3 4 rfl rfl (by decide) k_ (HQ12I.out k_ ⟨T, hT, hk_⟩)) hb21); clear HQ12; have HQ12 := nX; clear nX; have nS := Aside0.mk (HS.out.mark 4 rfl hk21 hx21 hy21 hb21); simp only [List.set_cons_zero, List.set_cons_succ] at nS; clear HS; have HS := nS; clear nS hk21 hx21 hy21 hb21))
 go_upto_region 21 with (first | (go_at_call 24; refine (markP_n gq12 Lq12 pb lb1.length (k1) w _ HNVb.out HQ12L.out HQ12.out HPSb.out HBNb.out (by have := bm1.out; omega)).mono ?_; rintro e w22 ⟨k2, rfl, hr0_, hr1_, hk22, hb22⟩; have HMP2 := Aside0.mk (show 0 ≤ k2 ∧ k2 ≤ (k1) + 4398046511104 from ⟨hr0_, by have := HBNb.out; have := HNVb.out; omega⟩); have q2_ : decide (k2 < 0) = false := decide_eq_false (by omega); have nS := Aside0.mk (HS.out.markG 3 rfl hk22 HQ12I.out (fun k hk => OnP.typed HQ12.out hk) (by simp) hb22); clear HS; have HS := nS; clear nS hk22 hr0_ hr1_ hb22))
 have gc0_ := cells3 (HS.out.idx 0 rfl); have gd0_ := gc0_.2; replace gc0_ := gc0_.1; have ge0_ := gd0_.2; replace gd0_ := gd0_.1
 have gc1_ := cells3 (HS.out.idx 2 rfl); have gd1_ := gc1_.2; replace gc1_ := gc1_.1; have ge1_ := gd1_.2; replace gd1_ := gd1_.1
 go_upto_region 23 with (first | (go_at_call 21; refine (laws_eqArray.calls kev v1 Ax13 cx13 v2 Ay13 cy13 v3 v1 Ax6 cx6 v2 Ay6 cy6 v3 true _ (Cq ((HS.out.nth 2 rfl).c1.2.1)) (HS.out.nth 2 rfl).c1.2.2 (Cq ((HS.out.nth 2 rfl).c2.2.1)) (HS.out.nth 2 rfl).c2.2.2 (Cq ((HS.out.nth 5 rfl).c1.2.1)) (HS.out.nth 5 rfl).c1.2.2 (Cq ((HS.out.nth 5 rfl).c2.2.1)) (HS.out.nth 5 rfl).c2.2.2 hev.out).mono ?_; rintro e w23 ⟨rfl, hb23⟩; have nS := Aside0.mk (St.step (by repeat (first | (with_reducible exact HS.out) | (with_reducible apply St.drew) | (with_reducible apply St.drewN) | (with_reducible apply St.alloc) | decide)) hb23); clear HS; have HS := nS; clear nS hb23))
 clear gc0_ gd0_ ge0_ gc1_ gd1_ ge1_
 go_upto_region 24 with (fail)
 go_upto_region 25 with (first | ((with_reducible refine gate_dst (N := 83) rfl ?_); refine wpList_load_row rfl 28 (.tmp 10) rfl g14 rfl 28 #[.bool v1, .slice Ax13 v2.length cx13, .slice Ay13 v3.length cy13] (0, 0) _ (HS.out.idx 0 rfl) Try.underlying28 rfl (by kernel_rfl) ?_) | (go_at_call 23; have hr_ := HS.out.ready' 2 rfl; refine (laws_markArray.calls kk3 v1 (fun k => some k = ((.slice Ax13 v2.length cx13) : Value).ownBlock) (.slice Ax13 v2.length cx13) v2 (fun k => some k = ((.slice Ay13 v3.length cy13) : Value).ownBlock) (.slice Ay13 v3.length cy13) v3 1 k3 m31 m32 w w23 HS.out.below hr_.1 hr_.2.1 hr_.2.2.1 hr_.2.2.2 hm3.out).mono ?_; clear hr_; rintro e w24 ⟨rfl, hx24, hy24, hb24, hk24⟩; have nS := Aside0.mk (HS.out.mark 2 rfl hk24 hx24 hy24 hb24); simp only [List.set_cons_zero, List.set_cons_succ] at nS; clear HS; have HS := nS; clear nS hk24 hx24 hy24 hb24))
 go_upto_region 26 with (fail)
 go_upto_region 27 with (first | ((with_reducible refine gate_dst (N := 86) rfl ?_); refine wpList_load_row rfl 28 (.tmp 10) rfl g14 rfl 28 #[.bool v1, .slice Ax13 v2.length cx13, .slice Ay13 v3.length cy13] (0, 0) _ (HS.out.idx 0 rfl) Try.underlying28 rfl (by kernel_rfl) ?_) | (go_at_call 25; refine (held_n kh v1 Ax13 Ay13 _ _ cx13 cy13 m31 m32 1 k3 _ lm31.out lm32.out (Cq ((HS.out.nth 2 rfl).c1.2.1)) (HS.out.nth 2 rfl).c1.2.2 (Cq ((HS.out.nth 2 rfl).c2.2.1)) (HS.out.nth 2 rfl).c2.2.2 hhG.out).mono ?_; rintro e w25 ⟨rfl, hb25⟩; have nS := Aside0.mk (St.step (by repeat (first | (with_reducible exact HS.out) | (with_reducible apply St.drew) | (with_reducible apply St.drewN) | (with_reducible apply St.alloc) | decide)) hb25); clear HS; have HS := nS; clear nS hb25))
 go_upto_region 29 with (fail)
 go_upto_region 31 with (fail)
 go_upto_region 32 with (first | ((with_reducible refine gate_dst (N := 95) rfl ?_); refine wpList_load_row rfl 24 (.tmp 2) rfl g1 rfl 24 #[.bool a, .slice Aa1 la1.length ca1, .slice Aa2 la2.length ca2] (0, 0) _ (HS.out.idx 3 rfl) Try.underlying24 rfl (by kernel_rfl) ?_) | (go_at_call_of 18 (Value.agg #[Value.bool a, Value.slice Aa1 la1.length ca1, Value.slice Aa2 la2.length ca2]); refine (laws_toArray.calls kta a _ _ la1 _ _ la2 a la1 la2 _ (Cq (Kd.C_below Ha1.out HS.out.below)) Ka1.out (Cq (Kd.C_below Ha2.out HS.out.below)) Ka2.out hta.out).mono ?_; rintro e w26 ⟨x26, y26, rfl, hx26, hy26, hb26⟩; obtain ⟨Ax26, cx26, rfl⟩ := Kd.R_slice hx26; obtain ⟨Ay26, cy26, rfl⟩ := Kd.R_slice hy26; have nS := Aside0.mk (St.add (by repeat (first | (with_reducible exact HS.out) | (with_reducible apply St.drew) | (with_reducible apply St.drewN) | (with_reducible apply St.alloc) | decide)) hb26 (Nat.le_refl _) hx26 hy26); clear HS; have HS := nS; clear nS hb26 hx26 hy26) | (go_at_call 19; refine (toPartS_any _ _ lb1 _ (Cq (Kd.C_below Hb1.out HS.out.below)) Kb1.out HPNb.out HPLb.out).mono ?_; rintro e w27 h_; obtain ⟨gq27, Lq27, rfl, hL_, hq_⟩ := h_; have hp_ : Lq27.map Pw.val = pb := hL_.trans HPVb.out; have HQ27I := Aside0.mk (fun k (hk : OnP gq27 Lq27 k) => (⟨by obtain ⟨T, hT, hk⟩ := hk; exact (Th.lt (hq_.ok T hT) k hk).1, by obtain ⟨T, hT, hk⟩ := hk; exact (Th.lt (hq_.ok T hT) k hk).2⟩ : w26.heap.size ≤ k ∧ k < w27.heap.size)); have HQ27L := Aside0.mk hp_; have hb_ := hq_.below; have hlow_ := (St.below (by repeat (first | (with_reducible exact HS.out) | (with_reducible apply St.drew) | (with_reducible apply St.drewN) | (with_reducible apply St.alloc) | decide))).size; have nS := Aside0.mk (St.gap (by repeat (first | (with_reducible exact HS.out) | (with_reducible apply St.drew) | (with_reducible apply St.drewN) | (with_reducible apply St.alloc) | decide)) hb_); clear HS; have HS := nS; have HQ27 := Aside0.mk (hq_.lowerB HS.out.below hlow_); clear nS hlow_ hb_ hq_ hL_ hp_) | (go_at_call 30; refine (impl_Index_n a Ax26 cx26 la1 Ay26 cy26 la2 (some ⟨gq27, 0, none⟩) lb1.length pb HNVb.out v1 v2 v3 v4 _ (Cq ((HS.out.nth 1 rfl).c1.2.1)) (HS.out.nth 1 rfl).c1.2.2 (Cq ((HS.out.nth 1 rfl).c2.2.1)) (HS.out.nth 1 rfl).c2.2.2 (PSt.C' HQ27.out HQ27L.out HBNb.out HNVb.out) him.out).mono ?_; rintro e w28 ⟨x28, y28, rfl, hx28, hy28, hb28⟩; obtain ⟨Ax28, cx28, rfl⟩ := Kd.R_slice hx28; obtain ⟨Ay28, cy28, rfl⟩ := Kd.R_slice hy28; have nS := Aside0.mk (St.add (by repeat (first | (with_reducible exact HS.out) | (with_reducible apply St.drew) | (with_reducible apply St.drewN) | (with_reducible apply St.alloc) | decide)) hb28 (Nat.le_refl _) hx28 hy28); clear HS; have HS := nS; clear nS hb28 hx28 hy28) | ((with_reducible refine gate_dst (N := 15) rfl ?_); refine box_ev (cs := #[.bool false, .slice none 0 0, .slice none 0 0]) (t := 28) ?_; intro g29 hg29 w29 hx29 hb29; have nS := Aside0.mk (HS.out.box hg29 hx29 hb29 (by decide)); clear HS; have HS := nS; clear nS hg29 hx29 hb29) | ((with_reducible refine gate_store rfl ?_); refine store_named rfl 28 (.tmp 15) (.tmp 100) rfl g29 #[.bool v1, .slice Ax28 v2.length cx28, .slice Ay28 v3.length cy28] rfl rfl 28 #[.bool false, .slice none 0 0, .slice none 0 0] (HS.out.idx 0 rfl) (by kernel_rfl) rfl (by simp [Value.oneCell']) ?_; intro w30 hx30 hb30; have nS := Aside0.mk (HS.out.put 0 rfl hx30 hb30); simp only [List.set_cons_zero, List.set_cons_succ] at nS; clear HS; have HS := nS; clear nS hx30 hb30))
 go_upto_region 34 with (first | ((with_reducible refine gate_dst (N := 102) rfl ?_); refine wpList_load_row rfl 28 (.tmp 15) rfl g29 rfl 28 #[.bool v1, .slice Ax28 v2.length cx28, .slice Ay28 v3.length cy28] (0, 0) _ (HS.out.idx 0 rfl) Try.underlying28 rfl (by kernel_rfl) ?_) | ((with_reducible refine gate_dst (N := 103) rfl ?_); refine wpList_load_row rfl 28 (.tmp 6) rfl g7 rfl 28 #[.bool v1, .slice Ax6 v2.length cx6, .slice Ay6 v3.length cy6] (0, 0) _ (HS.out.idx 3 rfl) Try.underlying28 rfl (by kernel_rfl) ?_) | (go_at_call 21; refine (laws_eqArray.calls kev v1 Ax28 cx28 v2 Ay28 cy28 v3 v1 Ax6 cx6 v2 Ay6 cy6 v3 true _ (Cq ((HS.out.nth 0 rfl).c1.2.1)) (HS.out.nth 0 rfl).c1.2.2 (Cq ((HS.out.nth 0 rfl).c2.2.1)) (HS.out.nth 0 rfl).c2.2.2 (Cq ((HS.out.nth 8 rfl).c1.2.1)) (HS.out.nth 8 rfl).c1.2.2 (Cq ((HS.out.nth 8 rfl).c2.2.1)) (HS.out.nth 8 rfl).c2.2.2 hev.out).mono ?_; rintro e w31 ⟨rfl, hb31⟩; have nS := Aside0.mk (St.step (by repeat (first | (with_reducible exact HS.out) | (with_reducible apply St.drew) | (with_reducible apply St.drewN) | (with_reducible apply St.alloc) | decide)) hb31); clear HS; have HS := nS; clear nS hb31))
 go_upto_region 35 with (fail)
 go_upto_region 36 with (first | ((with_reducible refine gate_dst (N := 111) rfl ?_); refine wpList_load_row rfl 28 (.tmp 10) rfl g14 rfl 28 #[.bool v1, .slice Ax13 v2.length cx13, .slice Ay13 v3.length cy13] (0, 0) _ (HS.out.idx 1 rfl) Try.underlying28 rfl (by kernel_rfl) ?_) | (go_at_call 25; refine (held_n kh v1 Ax13 Ay13 _ _ cx13 cy13 m31 m32 1 k3 _ lm31.out lm32.out (Cq ((HS.out.nth 5 rfl).c1.2.1)) (HS.out.nth 5 rfl).c1.2.2 (Cq ((HS.out.nth 5 rfl).c2.2.1)) (HS.out.nth 5 rfl).c2.2.2 hhG.out).mono ?_; rintro e w32 ⟨rfl, hb32⟩; have nS := Aside0.mk (St.step (by repeat (first | (with_reducible exact HS.out) | (with_reducible apply St.drew) | (with_reducible apply St.drewN) | (with_reducible apply St.alloc) | decide)) hb32); clear HS; have HS := nS; clear nS hb32))
 go_upto_region 38 with (fail)
 go_upto_region 40 with (fail)
 go_wp2_with fail
 go_ret
 exact ⟨rfl, HS.out.below⟩
set_option maxHeartbeats 8000000 in
set_option maxRecDepth 100000 in
theorem lawIndex_n1 (kzb : Nat) (a : Bool) (Aa1 : Option Addr) (ca1 : Nat) (la1 : List Int) (Aa2 : Option Addr) (ca2 : Nat) (la2 : List Int) (Ab1 : Option Addr) (cb1 : Nat) (lb1 : List PartL)  (w : World) (ha1 : Kd.C (Kd.int .i64) w Aa1 la1.length la1) (ka1 : la1.length ≤ ca1) (ha2 : Kd.C (Kd.int .i64) w Aa2 la2.length la2) (ka2 : la2.length ≤ ca2) (hb1 : Kd.C k59 w Ab1 lb1.length lb1) (kb1 : lb1.length ≤ cb1)
 (hz1 : laws_szArray.f a la1 la2 1048576 = some (-1)) :
 Calls Try.prog 9 #[.agg #[.bool a, .slice Aa1 la1.length ca1, .slice Aa2 la2.length ca2], .slice Ab1 lb1.length cb1] w fun e w' => e = .returned (.bool true) ∧ Below w.heap.size w w' := by
 have Ha1 := Aside0.mk ha1
 have Ka1 := Aside0.mk ka1
 have Ha2 := Aside0.mk ha2
 have Ka2 := Aside0.mk ka2
 have Hb1 := Aside0.mk hb1
 have Kb1 := Aside0.mk kb1
 replace hz1 := Aside0.mk hz1
 clear ha1 ka1 ha2 ka2 hb1 kb1
 have HS := Aside0.mk (St.start w)
 go_enter Try.func9, Try.ntmps9
 go_upto_region 1 with (first | ((with_reducible refine gate_dst (N := 2) rfl ?_); refine box_ev (cs := #[.bool a, .slice Aa1 la1.length ca1, .slice Aa2 la2.length ca2]) (t := 24) ?_; intro g1 hg1 w1 hx1 hb1; have nS := Aside0.mk (HS.out.box hg1 hx1 hb1 (by decide)); clear HS; have HS := nS; clear nS hg1 hx1 hb1))
 go_upto_region 2 with (fail)
 go_wp2_with (first | ((with_reducible refine gate_dst (N := 17) rfl ?_); refine wpList_load_row rfl 24 (.tmp 2) rfl g1 rfl 24 #[.bool a, .slice Aa1 la1.length ca1, .slice Aa2 la2.length ca2] (0, 0) _ (HS.out.idx 0 rfl) Try.underlying24 rfl (by kernel_rfl) ?_) | (go_at_call 15; refine (laws_szArray.calls a _ _ la1 _ _ la2 1048576 (-1) _ (Cq (Kd.C_below Ha1.out HS.out.below)) Ka1.out (Cq (Kd.C_below Ha2.out HS.out.below)) Ka2.out hz1.out).mono ?_; rintro e w2 ⟨rfl, hb2⟩; have nS := Aside0.mk (St.step (by repeat (first | (with_reducible exact HS.out) | (with_reducible apply St.drew) | (with_reducible apply St.drewN) | (with_reducible apply St.alloc) | decide)) hb2); clear HS; have HS := nS; clear nS hb2))
 go_ret
 exact ⟨rfl, HS.out.below⟩
set_option maxHeartbeats 8000000 in
set_option maxRecDepth 100000 in
theorem lawIndex_n2 (kzb : Nat) (a : Bool) (Aa1 : Option Addr) (ca1 : Nat) (la1 : List Int) (Aa2 : Option Addr) (ca2 : Nat) (la2 : List Int) (Ab1 : Option Addr) (cb1 : Nat) (lb1 : List PartL) (s1 : Int) (w : World) (ha1 : Kd.C (Kd.int .i64) w Aa1 la1.length la1) (ka1 : la1.length ≤ ca1) (ha2 : Kd.C (Kd.int .i64) w Aa2 la2.length la2) (ka2 : la2.length ≤ ca2) (hb1 : Kd.C k59 w Ab1 lb1.length lb1) (kb1 : lb1.length ≤ cb1)
 (hz1 : laws_szArray.f a la1 la2 1048576 = some s1) (pz1 : 0 ≤ s1) (hz2 : laws_szPartS.f kzb lb1 (s1) = some (-1)) :
 Calls Try.prog 9 #[.agg #[.bool a, .slice Aa1 la1.length ca1, .slice Aa2 la2.length ca2], .slice Ab1 lb1.length cb1] w fun e w' => e = .returned (.bool true) ∧ Below w.heap.size w w' := by
 have Ha1 := Aside0.mk ha1
 have Ka1 := Aside0.mk ka1
 have Ha2 := Aside0.mk ha2
 have Ka2 := Aside0.mk ka2
 have Hb1 := Aside0.mk hb1
 have Kb1 := Aside0.mk kb1
 replace hz1 := Aside0.mk hz1
 replace hz2 := Aside0.mk hz2
 clear ha1 ka1 ha2 ka2 hb1 kb1
 have qpz1 : decide (s1 < 0) = false := decide_eq_false (by omega)
 have HS := Aside0.mk (St.start w)
 go_enter Try.func9, Try.ntmps9
 go_upto_region 1 with (first | ((with_reducible refine gate_dst (N := 2) rfl ?_); refine box_ev (cs := #[.bool a, .slice Aa1 la1.length ca1, .slice Aa2 la2.length ca2]) (t := 24) ?_; intro g1 hg1 w1 hx1 hb1; have nS := Aside0.mk (HS.out.box hg1 hx1 hb1 (by decide)); clear HS; have HS := nS; clear nS hg1 hx1 hb1))
 go_upto_region 2 with (fail)
 go_upto_region 3 with (first | ((with_reducible refine gate_dst (N := 17) rfl ?_); refine wpList_load_row rfl 24 (.tmp 2) rfl g1 rfl 24 #[.bool a, .slice Aa1 la1.length ca1, .slice Aa2 la2.length ca2] (0, 0) _ (HS.out.idx 0 rfl) Try.underlying24 rfl (by kernel_rfl) ?_) | (go_at_call 15; refine (laws_szArray.calls a _ _ la1 _ _ la2 1048576 s1 _ (Cq (Kd.C_below Ha1.out HS.out.below)) Ka1.out (Cq (Kd.C_below Ha2.out HS.out.below)) Ka2.out hz1.out).mono ?_; rintro e w2 ⟨rfl, hb2⟩; have nS := Aside0.mk (St.step (by repeat (first | (with_reducible exact HS.out) | (with_reducible apply St.drew) | (with_reducible apply St.drewN) | (with_reducible apply St.alloc) | decide)) hb2); clear HS; have HS := nS; clear nS hb2))
 go_upto_region 5 with (fail)
 go_wp2_with (first | (go_at_call 16; refine (laws_szPartS.calls kzb _ _ lb1 (s1) (-1) _ (Cq (Kd.C_below Hb1.out HS.out.below)) Kb1.out hz2.out).mono ?_; rintro e w3 ⟨rfl, hb3⟩; have nS := Aside0.mk (St.step (by repeat (first | (with_reducible exact HS.out) | (with_reducible apply St.drew) | (with_reducible apply St.drewN) | (with_reducible apply St.alloc) | decide)) hb3); clear HS; have HS := nS; clear nS hb3))
 go_ret
 exact ⟨rfl, HS.out.below⟩
theorem lawIndex (a : Bool) (Aa1 : Option Addr) (ca1 : Nat) (la1 : List Int) (Aa2 : Option Addr) (ca2 : Nat) (la2 : List Int) (Ab1 : Option Addr) (cb1 : Nat) (lb1 : List PartL) (w : World) (ha1 : Kd.C (Kd.int .i64) w Aa1 la1.length la1) (ka1 : la1.length ≤ ca1) (ha2 : Kd.C (Kd.int .i64) w Aa2 la2.length la2) (ka2 : la2.length ≤ ca2) (hb1 : Kd.C k59 w Ab1 lb1.length lb1) (kb1 : lb1.length ≤ cb1) (na1 : la1.length ≤ maxLen) (na2 : la2.length ≤ maxLen) (nb1 : lb1.length ≤ maxLen) (nb2 : ∀ p ∈ lb1, p.f1.f1.length ≤ maxLen ∧ p.f1.f2.length ≤ maxLen) :
 Calls Try.prog 9 #[.agg #[.bool a, .slice Aa1 la1.length ca1, .slice Aa2 la2.length ca2], .slice Ab1 lb1.length cb1] w fun e w' => e = .returned (.bool true) ∧ Below w.heap.size w w' := by
 by_cases z1 : (la1.length : Int) + la2.length ≤ (1048576 : Int)
 ·have f1 : laws_szArray.f a la1 la2 ((1048576 : Int)) = some ((1048576 : Int) - la1.length - la2.length) := (szArray_eq a la1 la2 _ (by omega) (by omega) na1 na2).trans (by rw [if_pos z1])
  have hevb := szPartS_ev lb1 ((1048576 : Int) - la1.length - la2.length) (by omega) (by omega) nb1 nb2
  obtain ⟨kzb, hkzb⟩ := hevb.rounds
  by_cases z2 : (lb1.length : Int) + szP lb1 ≤ (1048576 : Int) - la1.length - la2.length
  ·have f2 : laws_szPartS.f kzb lb1 ((1048576 : Int) - la1.length - la2.length) = some ((1048576 : Int) - la1.length - la2.length - lb1.length - szP lb1) := hkzb.trans (by rw [if_pos z2])
   have bb1 : lb1.length ≤ 1048576 := by omega
   have bb2 : ∀ p ∈ lb1, p.f1.f1.length ≤ 1048576 ∧ p.f1.f2.length ≤ 1048576 := fun p hp => by have := szP_mem hp; omega
   have bb3 : ∀ p ∈ lb1, p.f1.f1.length ≤ 35184372088832 ∧ p.f1.f2.length ≤ 35184372088832 := fun p hp => by have := bb2 p hp; omega
   have bb4 : ∀ p ∈ lb1.map cvP, p.f1.f1.length ≤ 1048576 ∧ p.f1.f2.length ≤ 1048576 := fun p hp => by obtain ⟨q, hq, rfl⟩ := List.mem_map.1 hp; exact bb2 q hq
   have bb5 : ∀ p ∈ lb1.map cvP, p.f1.f1.length ≤ 35184372088832 ∧ p.f1.f2.length ≤ 35184372088832 := fun p hp => by have := bb4 p hp; omega
   obtain ⟨kqb, hqb⟩ := (eqPartS_self (lb1.map cvP) (by rw [List.length_map]; exact bb1) bb5).rounds
   obtain ⟨v1, v2, v3, v4, hv⟩ : ∃ v1 v2 v3 v4, idxV a la1 la2 (lb1.map cvP) = (v1, v2, v3, v4) := ⟨_, _, _, _, rfl⟩
   have hs := specIndex_ev a la1 la2 (lb1.map cvP) (by omega) (by omega) bb5
   have him : impl_Index.f a la1 la2 (lb1.map cvP) = some (idxV a la1 la2 (lb1.map cvP)) := by unfold impl_Index.f; rw [if_pos (okParts_of (by omega) (by omega) bb5)]
   have hn := idxV_len a la1 la2 (lb1.map cvP)
   rw [hv] at hs him hn
   simp only at hn
   obtain ⟨ks, hsp⟩ := hs.rounds
   obtain ⟨kta, hta⟩ := (toArray_ev a la1 la2 (by omega) (by omega)).rounds
   obtain ⟨kea, hea⟩ := (eqArray_self a la1 la2 (by omega) (by omega)).rounds
   obtain ⟨kev, hev⟩ := (eqArray_self v1 v2 v3 (by omega) (by omega)).rounds
   obtain ⟨kk1, hm1⟩ := (markArray_ev a la1 la2 (1) (by omega) (by omega) (by omega) (by omega)).rounds
   obtain ⟨kk3, hm3⟩ := (markArray_ev v1 v2 v3 (1) (by omega) (by omega) (by omega) (by omega)).rounds
   obtain ⟨kh, hh⟩ := (heldArray_ev v1 v2.length v3.length 1 (by omega) (by omega) (by omega) (by omega)).rounds
   exact lawIndex_y kta kea kzb kqb ks kev kh kk1 kk3 a Aa1 ca1 la1 Aa2 ca2 la2 Ab1 cb1 lb1 v1 v2 v3 v4 _ _ _ _ _ _ _ _ _ w ha1 ka1 ha2 ka2 hb1 kb1 hta hea bb1 bb3 rfl (List.length_map _) bb1 bb4 hqb hsp him hev f1 (by omega) f2 (by omega) hm1 (by omega) (by omega) (upFrom_len _ _).symm (upFrom_len _ _).symm hm3 (by omega) (by omega) (upFrom_len _ _).symm (upFrom_len _ _).symm hh
  ·exact lawIndex_n2 kzb a Aa1 ca1 la1 Aa2 ca2 la2 Ab1 cb1 lb1 _ w ha1 ka1 ha2 ka2 hb1 kb1 f1 (by omega) (hkzb.trans (by rw [if_neg z2]))
 ·exact lawIndex_n1 0 a Aa1 ca1 la1 Aa2 ca2 la2 Ab1 cb1 lb1  w ha1 ka1 ha2 ka2 hb1 kb1 ((szArray_eq a la1 la2 _ (by omega) (by omega) na1 na2).trans (by rw [if_neg z1]))
end Go.Proofs.Ytehfcnndjhjkoaa.PA
namespace Go.Proofs.Ytehfcnndjhjkoaa.PA
open Go.ChangeShapes Go.WideShapes Go.ChangeAt Go.RowKit Go.Deep Go.Proofs.YtehfcnndjhjkoaaW.PrintWords Go.Proofs.YtehfcnndjhjkoaaW.PrintLast Go.Proofs.YtehfcnndjhjkoaaW.PrintMore
set_option linter.unusedSimpArgs false
set_option linter.unusedVariables false
/-- A slice of whole numbers that came in: what it reads as. -/
structure Sl (W : World) (A : Option Addr) (l : List Int) (c : Nat) : Prop where
  reads : ReadsInt W .i64 A l.length l
  max : l.length ≤ maxLen
  wf : ∀ x ∈ l, (Lit.int .i64 x).wf = true
  cap : l.length ≤ c

theorem slice_cell {H : Type} {enc : TypeId × Value → H} {P : Program} {W : World} {fuel : Nat} {t e : TypeId} {cs : List Value} {x : DataW H × List MemPlace}
    (ht : P.underlying t = some (.slice e)) (he : P.underlying e = some (.int .i64)) (hc : P.cellsOf e = 1)
    (hf : DataW.trod enc P W 0 (fun _ => true) true fuel t cs = some x) : ∃ A l c, cs = [.slice A l.length c] ∧ Sl W A l c := by
  rcases open_ints ht he hc hf with ⟨hcs, _⟩ | ⟨a, n, c, zs, hcs, _, hl, hm, hz, _, hcell, hwz⟩
  · obtain ⟨l, e1, h1, h2, h3, h4⟩ := ReadsInt.ofRowC (k := .i64) (w := W) (a := none) (len := 0) (cap := 0) (zs := []) (.inl ⟨rfl, rfl, rfl, rfl⟩)
    refine ⟨none, l, 0, ?_, h1, h2, h3, h4⟩
    rw [← e1]; exact hcs
  · obtain ⟨l, e1, h1, h2, h3, h4⟩ := ReadsInt.ofRowC (k := .i64) (w := W) (a := some a) (len := n) (cap := c) (zs := zs) (.inr ⟨a, rfl, hl, hm, by simpa using hz, hcell, hwz⟩)
    refine ⟨some a, l, c, ?_, h1, h2, h3, h4⟩
    rw [← e1]; exact hcs


theorem open_bss {H : Type} {enc : TypeId × Value → H} {P : Program} {W : World} {t e : TypeId} {f0 f1 f2 : Field} {v : Value} {d : DataW H} {p : List MemPlace} {r : Reach} {b0 : Nat}
    (hs : P.underlying t = some (.struct #[f0, f1, f2])) (hone : oneCellFields P #[f0, f1, f2] = true) (hC : P.cellsOf t = 3)
    (h0 : P.underlying f0.type = some .bool) (h1 : P.underlying f1.type = some (.slice e)) (h2 : P.underlying f2.type = some (.slice e)) (he : P.underlying e = some (.int .i64)) (hc : P.cellsOf e = 1)
    (hv : Value.okWide P W r b0 t v) (h : DataW.Trod enc P W 0 (fun _ => true) true t v d p) :
    ∃ (a : Bool) (A1 : Option Addr) (l1 : List Int) (c1 : Nat) (A2 : Option Addr) (l2 : List Int) (c2 : Nat), v = .agg #[.bool a, .slice A1 l1.length c1, .slice A2 l2.length c2] ∧ Sl W A1 l1 c1 ∧ Sl W A2 l2 c2 := by
  obtain ⟨v0, v1, v2, y0, y1, y2, n, rfl, _, _, k0, k1, k2⟩ := Go.Joins.open_agg3 hs hone hC hv h
  obtain ⟨A1, l1, c1, e1, s1⟩ := slice_cell h1 he hc k1
  obtain ⟨A2, l2, c2, e2, s2⟩ := slice_cell h2 he hc k2
  obtain ⟨a, e0, _⟩ := DataW.trod_bool h0 k0
  simp only [List.cons.injEq, and_true] at e0 e1 e2
  subst e0 e1 e2
  exact ⟨a, A1, l1, c1, A2, l2, c2, rfl, s1, s2⟩
theorem open_part {H : Type} {enc : TypeId × Value → H} {P : Program} {W : World} {fuel : Nat} {t e : TypeId} {f0 f1 g0 g1 g2 : Field} {cs : List Value} {x : DataW H × List MemPlace}
    (hs : P.underlying t = some (.struct #[f0, f1])) (hof : f0.offset = 0 ∧ f1.offset = 1 ∧ g0.offset = 0 ∧ g1.offset = 1 ∧ g2.offset = 2) (hsz : P.cellsOf t = 4 ∧ P.cellsOf f0.type = 1 ∧ P.cellsOf f1.type = 3 ∧ P.cellsOf g0.type = 1 ∧ P.cellsOf g1.type = 1 ∧ P.cellsOf g2.type = 1)
    (h0 : P.underlying f0.type = some .bool) (hA : P.underlying f1.type = some (.struct #[g0, g1, g2])) (b0 : P.underlying g0.type = some .bool) (b1 : P.underlying g1.type = some (.slice e)) (b2 : P.underlying g2.type = some (.slice e)) (he : P.underlying e = some (.int .i64)) (hc : P.cellsOf e = 1)
    (h : DataW.trod enc P W 0 (fun _ => true) true fuel t cs = some x) :
    ∃ (a b : Bool) (A2 : Option Addr) (l2 : List Int) (c2 : Nat) (A3 : Option Addr) (l3 : List Int) (c3 : Nat), cs = [.bool a, .bool b, .slice A2 l2.length c2, .slice A3 l3.length c3] ∧ Sl W A2 l2 c2 ∧ Sl W A3 l3 c3 := by
  obtain ⟨y0, y1, n, _, hl, t0, t1⟩ := trod_struct2 hs h
  rw [hsz.1] at hl
  rw [hof.1, hsz.2.1] at t0
  rw [hof.2.1, hsz.2.2.1] at t1
  match cs, hl with
  | [v0, v1, v2, v3], _ =>
    obtain ⟨z0, z1, z2, m, _, _, u0, u1, u2⟩ := trod_struct3 hA t1
    rw [hof.2.2.1, hsz.2.2.2.1] at u0
    rw [hof.2.2.2.1, hsz.2.2.2.2.1] at u1
    rw [hof.2.2.2.2, hsz.2.2.2.2.2] at u2
    obtain ⟨a, ea, _⟩ := DataW.trod_bool h0 t0
    obtain ⟨b, eb, _⟩ := DataW.trod_bool b0 u0
    obtain ⟨A2, l2, c2, e2, s2⟩ := slice_cell b1 he hc u1
    obtain ⟨A3, l3, c3, e3, s3⟩ := slice_cell b2 he hc u2
    simp only [List.drop_zero, List.drop_succ_cons, List.take_succ_cons, List.take_zero, List.cons.injEq, and_true] at ea eb e2 e3
    subst ea eb e2 e3
    exact ⟨a, b, A2, l2, c2, A3, l3, c3, rfl, s2, s3⟩
instance : Inhabited S59 := ⟨z59⟩
/-- A slice of parts that came in: what it reads as. -/
structure Sp (W : World) (A : Option Addr) (l : List S59) (c : Nat) : Prop where
  reads : Kd.C k59 W A l.length l
  max : l.length ≤ maxLen
  lens : ∀ p ∈ l, p.f1.f1.length ≤ maxLen ∧ p.f1.f2.length ≤ maxLen
  cap : l.length ≤ c
theorem open_parts {H : Type} {enc : TypeId × Value → H} {P : Program} {W : World} {t q e : TypeId} {f0 f1 g0 g1 g2 : Field} {v : Value} {d : DataW H} {p : List MemPlace} {r : Reach} {b0' : Nat}
    (ht : P.underlying t = some (.slice q)) (hs : P.underlying q = some (.struct #[f0, f1])) (hof : f0.offset = 0 ∧ f1.offset = 1 ∧ g0.offset = 0 ∧ g1.offset = 1 ∧ g2.offset = 2) (hsz : P.cellsOf q = 4 ∧ P.cellsOf f0.type = 1 ∧ P.cellsOf f1.type = 3 ∧ P.cellsOf g0.type = 1 ∧ P.cellsOf g1.type = 1 ∧ P.cellsOf g2.type = 1)
    (h0 : P.underlying f0.type = some .bool) (hA : P.underlying f1.type = some (.struct #[g0, g1, g2])) (b0 : P.underlying g0.type = some .bool) (b1 : P.underlying g1.type = some (.slice e)) (b2 : P.underlying g2.type = some (.slice e)) (he : P.underlying e = some (.int .i64)) (hc : P.cellsOf e = 1)
    (hv : Value.okWide P W r b0' t v) (h : DataW.Trod enc P W 0 (fun _ => true) true t v d p) : ∃ A l c, v = .slice A l.length c ∧ Sp W A l c := by
  obtain ⟨a, n, c, rfl⟩ := okWide_slice ht hv
  obtain ⟨fuel, hf⟩ := h
  have hml : maxLen ≤ 9223372036854775807 := by decide
  rcases open_slice ht hf with ⟨hcs, _⟩ | ⟨a', len, cap, m, n', D, Pl, hcs, _, hl, hm, hmm, _, hx⟩
  · simp only [Value.cells, List.cons.injEq, and_true] at hcs
    rw [hcs]
    exact ⟨none, [], 0, rfl, ⟨⟨rfl, by simp, fun h => absurd h (by simp)⟩, by simp, by simp, Nat.le_refl _⟩⟩
  · simp only [Value.cells, List.cons.injEq, and_true] at hcs
    rw [hcs]
    have hm' : m = cap := by rw [hmm]; simp
    rw [hsz.1] at hx
    obtain ⟨F, hF⟩ := choose_lt (α := S59) (n := len) (p := fun i s => ∃ A2 c2 A3 c3, W.cells? 0 (a'.add (i * 4)) 4 = some [.bool s.f0, .bool s.f1.f0, .slice A2 s.f1.f1.length c2, .slice A3 s.f1.f2.length c3] ∧ Sl W A2 s.f1.f1 c2 ∧ Sl W A3 s.f1.f2 c3) (fun i hi => by
      obtain ⟨cs', hc1, hc2⟩ := hx i (by omega)
      obtain ⟨x0, x1, A2, l2, c2, A3, l3, c3, rfl, s2, s3⟩ := open_part hs hof hsz h0 hA b0 b1 b2 he hc hc2
      exact ⟨⟨x0, ⟨x1, l2, l3⟩⟩, A2, c2, A3, c3, hc1, s2, s3⟩)
    have hlen : ((List.range len).map F).length = len := by simp
    refine ⟨some a', (List.range len).map F, cap, by rw [hlen], ⟨⟨rfl, by rw [hlen]; omega, fun _ => ⟨a', rfl, fun j s hj => ?_⟩⟩, by rw [hlen]; omega, fun s hs' => ?_, by rw [hlen]; exact hl⟩⟩
    · obtain ⟨hjl, hje⟩ := List.getElem?_eq_some_iff.1 hj
      have hjl' : j < len := by rw [hlen] at hjl; exact hjl
      have hjs : F j = s := by rw [← hje]; simp
      obtain ⟨A2, c2, A3, c3, h1, s2, s3⟩ := hF j hjl'
      rw [hjs] at h1 s2 s3
      obtain ⟨_, _, hcell⟩ := World.cells?_some h1
      refine ⟨_, rfl, k59_mk W s s2.cap (Kd.C_of_reads (d := (0 : Int)) (h1 := fun _ => rfl) s2.reads) s3.cap (Kd.C_of_reads (d := (0 : Int)) (h1 := fun _ => rfl) s3.reads), fun i u hu => ?_⟩
      have hi : i < 4 := by obtain ⟨h1, _⟩ := List.getElem?_eq_some_iff.1 hu; exact h1
      have := hcell i hi
      rw [Addr.add_add] at this
      exact this.trans hu
    · obtain ⟨i, hi, rfl⟩ := List.mem_map.1 hs'
      obtain ⟨A2, c2, A3, c3, h1, s2, s3⟩ := hF i (by simpa using hi)
      exact ⟨s2.max, s3.max⟩
end Go.Proofs.Ytehfcnndjhjkoaa.PA
