import Derived.Test.YtehfcnndjhjkoaaKFnExactCatenate3

namespace Go.Proofs.Ytehfcnndjhjkoaa.PA
open Go.RowKit Go.Proofs.YtehfcnndjhjkoaaW.PrintWords Go.Proofs.YtehfcnndjhjkoaaW.PrintLast Go.Proofs.YtehfcnndjhjkoaaW.PrintMore
set_option linter.unusedVariables false
set_option linter.unusedSimpArgs false
theorem Sx.rowed {w W : World} {Ts : List Th} (h : Sx w W Ts) (i : Nat) {g : Nat} {l : List Int} (hi : Ts[i]? = some (.blk g (rowI l) 3)) (hm : l.length ≤ 1000000) : Sx w W (Ts.set i (.row (.slice (some ⟨g, 0, none⟩) l.length l.length) l)) :=
  h.repl i hi (R_of_blk (h.blk i hi) (h.get i hi).2 hm) (fun _ _ _ => rfl) (fun k hk => .inl (by simp only [Th.on, Value.ownBlock] at hk ⊢; injection hk with e; exact e.symm)) h.below
theorem l3Count_n (k n : Nat) (A : Option Addr) (c : Nat) (l : List Int) (r : Int) (w : World) (h : Kd.C (Kd.int .i64) w A l.length l) (hc : l.length ≤ c) (hn : l.length = n) (hf : spec_l3Count.f k l = some r) :
    Calls Try.prog 74 #[.slice A n c] w fun e w' => e = .returned (.int .i64 r) ∧ Drawn0 w w' := by
  subst hn; exact spec_l3Count.calls k A c l r w h hc hf
set_option maxHeartbeats 2000000 in
set_option maxRecDepth 100000 in
theorem l5Beside_any (a : Bool) (Aa1 : Option Addr) (ca1 : Nat) (la1 : List Int) (Aa2 : Option Addr) (ca2 : Nat) (la2 : List Int) (b : Bool) (Ab1 : Option Addr) (cb1 : Nat) (lb1 : List Int) (Ab2 : Option Addr) (cb2 : Nat) (lb2 : List Int) (w : World) (ha1 : Kd.C (Kd.int .i64) w Aa1 la1.length la1) (ka1 : la1.length ≤ ca1) (ha2 : Kd.C (Kd.int .i64) w Aa2 la2.length la2) (ka2 : la2.length ≤ ca2) (hb1 : Kd.C (Kd.int .i64) w Ab1 lb1.length lb1) (kb1 : lb1.length ≤ cb1) (hb2 : Kd.C (Kd.int .i64) w Ab2 lb2.length lb2) (kb2 : lb2.length ≤ cb2) (P1 : List Int) (hwa : spec_l4Without.f lb1 false = some P1) (hp5 : P1.length ≤ 5) (k1 N1 : Nat) (hsh : spec_l3Count.f k1 (P1 ++ [1]) = some (N1 : Int)) (hN : N1 ≤ 20000) (h2 : la2.length = 1) :
    Calls Try.prog 86 #[.agg #[.bool a, .slice Aa1 la1.length ca1, .slice Aa2 la2.length ca2], .agg #[.bool b, .slice Ab1 lb1.length cb1, .slice Ab2 lb2.length cb2]] w fun e w' => ∃ As cs Ad cd, e = .returned (.agg #[.bool a, .slice As ((P1 ++ [1]) : List Int).length cs, .slice Ad ((List.replicate N1 (rd la2 0)) : List Int).length cd]) ∧ Kd.C (Kd.int .i64) w' As ((P1 ++ [1]) : List Int).length (P1 ++ [1]) ∧ ((P1 ++ [1]) : List Int).length ≤ cs ∧ Kd.C (Kd.int .i64) w' Ad ((List.replicate N1 (rd la2 0)) : List Int).length (List.replicate N1 (rd la2 0)) ∧ ((List.replicate N1 (rd la2 0)) : List Int).length ≤ cd ∧ Below w.heap.size w w' := by
  have Ha1 := Aside0.mk ha1
  have Ka1 := Aside0.mk ka1
  clear ha1 ka1
  have Ha2 := Aside0.mk ha2
  have Ka2 := Aside0.mk ka2
  clear ha2 ka2
  have Hb1 := Aside0.mk hb1
  have Kb1 := Aside0.mk kb1
  clear hb1 kb1
  have Hb2 := Aside0.mk hb2
  have Kb2 := Aside0.mk kb2
  clear hb2 kb2
  have HWA := Aside0.mk hwa
  have HP5 := Aside0.mk hp5
  have HSH := Aside0.mk hsh
  have HN := Aside0.mk hN
  have H2 := Aside0.mk h2
  have HPZ := Aside0.mk (show (P1 ++ [(1 : Int)]).length = P1.length + 1 by simp)
  clear hwa hp5 hsh hN h2
  have HS := Aside0.mk (Sx.start w)
  go_enter Try.func86, Try.ntmps86
  go_upto_region 1 with (first | ((with_reducible refine gate_dst (N := 2) rfl ?_); refine box_event ?hg (N := 2) ?hd (cs := #[.bool a, .slice Aa1 la1.length ca1, .slice Aa2 la2.length ca2]) (t := 28) ?hr ?_; (case hd => rfl); (case hg => rfl); (case hr => first | (go_simp; done) | (go_simp; rfl)); intro gK hg1 w1 hx1 hb1; have nS : Aside0 (Sx w w1 [(.blk gK #[.bool a, .slice Aa1 la1.length ca1, .slice Aa2 la2.length ca2] 28)]) := Aside0.mk (HS.out.box hg1 hx1 hb1); clear HS; have HS := nS; clear nS hg1 hx1 hb1) | ((with_reducible refine gate_dst (N := 3) rfl ?_); refine box_event ?hg (N := 3) ?hd (cs := #[.bool b, .slice Ab1 lb1.length cb1, .slice Ab2 lb2.length cb2]) (t := 28) ?hr ?_; (case hd => rfl); (case hg => rfl); (case hr => first | (go_simp; done) | (go_simp; rfl)); intro gB hg2 w2 hx2 hb2; have nS : Aside0 (Sx w w2 [(.blk gB #[.bool b, .slice Ab1 lb1.length cb1, .slice Ab2 lb2.length cb2] 28), (.blk gK #[.bool a, .slice Aa1 la1.length ca1, .slice Aa2 la2.length ca2] 28)]) := Aside0.mk (HS.out.box hg2 hx2 hb2); clear HS; have HS := nS; clear nS hg2 hx2 hb2) | ((with_reducible refine gate_dst (N := 4) rfl ?_); refine box_event ?hg (N := 4) ?hd (cs := #[.bool false, .slice none 0 0, .slice none 0 0]) (t := 28) ?hr ?_; (case hd => rfl); (case hg => rfl); (case hr => first | (go_simp; done) | (go_simp; rfl)); intro gR hg3 w3 hx3 hb3; have nS : Aside0 (Sx w w3 [(.blk gR #[.bool false, .slice none 0 0, .slice none 0 0] 28), (.blk gB #[.bool b, .slice Ab1 lb1.length cb1, .slice Ab2 lb2.length cb2] 28), (.blk gK #[.bool a, .slice Aa1 la1.length ca1, .slice Aa2 la2.length ca2] 28)]) := Aside0.mk (HS.out.box hg3 hx3 hb3); clear HS; have HS := nS; clear nS hg3 hx3 hb3))
  have nS := Aside0.mk HS.out.drew
  clear HS
  have HS := nS
  clear nS
  refine start_ (n := 11) (S := (fun w' => w'.cell? ⟨gK, 0, none⟩ = some (.bool a) ∧ w'.cell? ⟨gB, 1, none⟩ = some (.slice Ab1 lb1.length cb1))) (ds := [10]) #[false, false, false, false, false, false, false, false, false, false, false] (by kernel_rfl) rfl rfl ⟨(blk_cell (HS.out.blk 2 rfl) 0).trans rfl, (blk_cell (HS.out.blk 1 rfl) 1).trans rfl⟩ (fun hHeld => ?_)
  refine pure_ (i := 0) (N := (some 8)) (v := ?_) (a' := ?_) #[true, false, false, false, false, false, false, false, false, false, false] rfl rfl (by kernel_rfl) (fun _ _ _ h => h) (Or.inl ⟨by rfl, ?_⟩) ?_ ?_
  rotate_left
  · intro w'
    go_simp
    with_reducible rfl
  rotate_left
  · simp only [Act.put, List.setIfInBounds_toArray, List.set_cons_zero, List.set_cons_succ]
    rfl
  refine take_ (i := 1) (N := (some 9)) (v := ?_) (a' := ?_) #[true, true, false, false, false, false, false, false, false, false, false] rfl rfl (by kernel_rfl) (fun _ _ _ h => h) (Or.inl ⟨by rfl, ?_⟩) hHeld ?_ ?_
  rotate_left
  · rintro w' ⟨s0, s1⟩
    go_simp
    with_reducible rfl
  rotate_left
  · simp only [Act.put, List.setIfInBounds_toArray, List.set_cons_zero, List.set_cons_succ]
    rfl
  refine pure_ (i := 2) (N := (some 10)) (v := ?_) (a' := ?_) #[true, true, true, false, false, false, false, false, false, false, false] rfl rfl (by kernel_rfl) (fun _ _ _ h => h) (Or.inl ⟨by rfl, ?_⟩) ?_ ?_
  rotate_left
  · intro w'
    go_simp
    with_reducible rfl
  rotate_left
  · simp only [Act.put, List.setIfInBounds_toArray, List.set_cons_zero, List.set_cons_succ]
    rfl
  refine take_ (i := 3) (N := (some 11)) (v := ?_) (a' := ?_) #[true, true, true, true, false, false, false, false, false, false, false] rfl rfl (by kernel_rfl) (fun _ _ _ h => h) (Or.inl ⟨by rfl, ?_⟩) hHeld ?_ ?_
  rotate_left
  · rintro w' ⟨s0, s1⟩
    go_simp
    with_reducible rfl
  rotate_left
  · simp only [Act.put, List.setIfInBounds_toArray, List.set_cons_zero, List.set_cons_succ]
    rfl
  refine join_ (σ := Option Addr × Nat × Nat × Option Addr × Nat × Nat × Nat) 1 #[true, true, true, true, true, true, true, true, true, true, false] (fun s_ => [(12, .slice s_.1 P1.length s_.2.1), (13, .slice (some ⟨s_.2.2.1, 0, none⟩) 1 1), (14, .slice s_.2.2.2.1 (P1.length + 1) s_.2.2.2.2.1), (15, .slice (some ⟨s_.2.2.2.2.2.1, 0, none⟩) 0 0), (5, .pointer (some ⟨s_.2.2.2.2.2.2, 0, none⟩)), (16, .agg #[.bool a, .slice s_.2.2.2.1 (P1.length + 1) s_.2.2.2.2.1, .slice (some ⟨s_.2.2.2.2.2.1, 0, none⟩) 0 0])]) (fun s_ w' => Sx w w' [(.blk s_.2.2.2.2.2.2 #[.bool false, .slice none 0 0, .slice none 0 0] 28), (.blk s_.2.2.2.2.2.1 #[] 3), (.blk s_.2.2.1 #[.int .i64 1] 3), (.row (.slice s_.2.2.2.1 (P1.length + 1) s_.2.2.2.2.1) (P1 ++ [1])), (.blk gR #[.bool false, .slice none 0 0, .slice none 0 0] 28), (.blk gB #[.bool b, .slice Ab1 lb1.length cb1, .slice Ab2 lb2.length cb2] 28), (.blk gK #[.bool a, .slice Aa1 la1.length ca1, .slice Aa2 la2.length ca2] 28)]) ?_ ?_
  rotate_left
  · intro hJ_4_5_6_7_9
    refine join_ (σ := Option Addr × Nat × Nat × Option Addr × Nat × Nat) 2 #[true, true, true, true, true, true, true, true, true, false, false] (fun s_ => [(12, .slice s_.1 P1.length s_.2.1), (13, .slice (some ⟨s_.2.2.1, 0, none⟩) 1 1), (14, .slice s_.2.2.2.1 (P1.length + 1) s_.2.2.2.2.1), (15, .slice (some ⟨s_.2.2.2.2.2, 0, none⟩) 0 0), (16, .agg #[.bool a, .slice s_.2.2.2.1 (P1.length + 1) s_.2.2.2.2.1, .slice (some ⟨s_.2.2.2.2.2, 0, none⟩) 0 0])]) (fun s_ w' => Sx w w' [(.blk s_.2.2.2.2.2 #[] 3), (.blk s_.2.2.1 #[.int .i64 1] 3), (.row (.slice s_.2.2.2.1 (P1.length + 1) s_.2.2.2.2.1) (P1 ++ [1])), (.blk gR #[.bool false, .slice none 0 0, .slice none 0 0] 28), (.blk gB #[.bool b, .slice Ab1 lb1.length cb1, .slice Ab2 lb2.length cb2] 28), (.blk gK #[.bool a, .slice Aa1 la1.length ca1, .slice Aa2 la2.length ca2] 28)]) ?_ ?_
    rotate_left
    · intro hJ_4_5_6_7
      refine join_ (σ := Option Addr × Nat × Nat × Option Addr × Nat × Nat) 3 #[true, true, true, true, true, true, true, false, false, true, false] (fun s_ => [(12, .slice s_.1 P1.length s_.2.1), (13, .slice (some ⟨s_.2.2.1, 0, none⟩) 1 1), (14, .slice s_.2.2.2.1 (P1.length + 1) s_.2.2.2.2.1), (5, .pointer (some ⟨s_.2.2.2.2.2, 0, none⟩))]) (fun s_ w' => Sx w w' [(.blk s_.2.2.2.2.2 #[.bool false, .slice none 0 0, .slice none 0 0] 28), (.blk s_.2.2.1 #[.int .i64 1] 3), (.row (.slice s_.2.2.2.1 (P1.length + 1) s_.2.2.2.2.1) (P1 ++ [1])), (.blk gR #[.bool false, .slice none 0 0, .slice none 0 0] 28), (.blk gB #[.bool b, .slice Ab1 lb1.length cb1, .slice Ab2 lb2.length cb2] 28), (.blk gK #[.bool a, .slice Aa1 la1.length ca1, .slice Aa2 la2.length ca2] 28)]) ?_ ?_
      rotate_left
      · intro hJ_4_5_6_9
        refine join_ (σ := Option Addr × Nat × Nat × Nat × Nat) 3 #[true, true, true, true, true, true, false, true, false, true, false] (fun s_ => [(12, .slice s_.1 P1.length s_.2.1), (13, .slice (some ⟨s_.2.2.1, 0, none⟩) 1 1), (15, .slice (some ⟨s_.2.2.2.1, 0, none⟩) 0 0), (5, .pointer (some ⟨s_.2.2.2.2, 0, none⟩))]) (fun s_ w' => Sx w w' [(.blk s_.2.2.2.2 #[.bool false, .slice none 0 0, .slice none 0 0] 28), (.blk s_.2.2.2.1 #[] 3), (.blk s_.2.2.1 #[.int .i64 1] 3), (.row (.slice s_.1 P1.length s_.2.1) P1), (.blk gR #[.bool false, .slice none 0 0, .slice none 0 0] 28), (.blk gB #[.bool b, .slice Ab1 lb1.length cb1, .slice Ab2 lb2.length cb2] 28), (.blk gK #[.bool a, .slice Aa1 la1.length ca1, .slice Aa2 la2.length ca2] 28)]) ?_ ?_
        rotate_left
        · intro hJ_4_5_7_9
          refine join_ (σ := Option Addr × Nat × Nat × Option Addr × Nat) 4 #[true, true, true, true, true, true, true, false, false, false, false] (fun s_ => [(12, .slice s_.1 P1.length s_.2.1), (13, .slice (some ⟨s_.2.2.1, 0, none⟩) 1 1), (14, .slice s_.2.2.2.1 (P1.length + 1) s_.2.2.2.2)]) (fun s_ w' => Sx w w' [(.blk s_.2.2.1 #[.int .i64 1] 3), (.row (.slice s_.2.2.2.1 (P1.length + 1) s_.2.2.2.2) (P1 ++ [1])), (.blk gR #[.bool false, .slice none 0 0, .slice none 0 0] 28), (.blk gB #[.bool b, .slice Ab1 lb1.length cb1, .slice Ab2 lb2.length cb2] 28), (.blk gK #[.bool a, .slice Aa1 la1.length ca1, .slice Aa2 la2.length ca2] 28)]) ?_ ?_
          rotate_left
          · intro hJ_4_5_6
            refine join_ (σ := Option Addr × Nat × Nat × Nat) 4 #[true, true, true, true, true, true, false, true, false, false, false] (fun s_ => [(12, .slice s_.1 P1.length s_.2.1), (13, .slice (some ⟨s_.2.2.1, 0, none⟩) 1 1), (15, .slice (some ⟨s_.2.2.2, 0, none⟩) 0 0)]) (fun s_ w' => Sx w w' [(.blk s_.2.2.2 #[] 3), (.blk s_.2.2.1 #[.int .i64 1] 3), (.row (.slice s_.1 P1.length s_.2.1) P1), (.blk gR #[.bool false, .slice none 0 0, .slice none 0 0] 28), (.blk gB #[.bool b, .slice Ab1 lb1.length cb1, .slice Ab2 lb2.length cb2] 28), (.blk gK #[.bool a, .slice Aa1 la1.length ca1, .slice Aa2 la2.length ca2] 28)]) ?_ ?_
            rotate_left
            · intro hJ_4_5_7
              refine join_ (σ := Option Addr × Nat × Nat × Nat) 4 #[true, true, true, true, true, true, false, false, false, true, false] (fun s_ => [(12, .slice s_.1 P1.length s_.2.1), (13, .slice (some ⟨s_.2.2.1, 0, none⟩) 1 1), (5, .pointer (some ⟨s_.2.2.2, 0, none⟩))]) (fun s_ w' => Sx w w' [(.blk s_.2.2.2 #[.bool false, .slice none 0 0, .slice none 0 0] 28), (.blk s_.2.2.1 #[.int .i64 1] 3), (.row (.slice s_.1 P1.length s_.2.1) P1), (.blk gR #[.bool false, .slice none 0 0, .slice none 0 0] 28), (.blk gB #[.bool b, .slice Ab1 lb1.length cb1, .slice Ab2 lb2.length cb2] 28), (.blk gK #[.bool a, .slice Aa1 la1.length ca1, .slice Aa2 la2.length ca2] 28)]) ?_ ?_
              rotate_left
              · intro hJ_4_5_9
                refine join_ (σ := Option Addr × Nat × Nat × Nat) 4 #[true, true, true, true, true, false, false, true, false, true, false] (fun s_ => [(12, .slice s_.1 P1.length s_.2.1), (15, .slice (some ⟨s_.2.2.1, 0, none⟩) 0 0), (5, .pointer (some ⟨s_.2.2.2, 0, none⟩))]) (fun s_ w' => Sx w w' [(.blk s_.2.2.2 #[.bool false, .slice none 0 0, .slice none 0 0] 28), (.blk s_.2.2.1 #[] 3), (.row (.slice s_.1 P1.length s_.2.1) P1), (.blk gR #[.bool false, .slice none 0 0, .slice none 0 0] 28), (.blk gB #[.bool b, .slice Ab1 lb1.length cb1, .slice Ab2 lb2.length cb2] 28), (.blk gK #[.bool a, .slice Aa1 la1.length ca1, .slice Aa2 la2.length ca2] 28)]) ?_ ?_
                rotate_left
                · intro hJ_4_7_9
                  refine join_ (σ := Nat × Nat × Nat) 4 #[true, true, true, true, false, true, false, true, false, true, false] (fun s_ => [(13, .slice (some ⟨s_.1, 0, none⟩) 1 1), (15, .slice (some ⟨s_.2.1, 0, none⟩) 0 0), (5, .pointer (some ⟨s_.2.2, 0, none⟩))]) (fun s_ w' => Sx w w' [(.blk s_.2.2 #[.bool false, .slice none 0 0, .slice none 0 0] 28), (.blk s_.2.1 #[] 3), (.blk s_.1 #[.int .i64 1] 3), (.blk gR #[.bool false, .slice none 0 0, .slice none 0 0] 28), (.blk gB #[.bool b, .slice Ab1 lb1.length cb1, .slice Ab2 lb2.length cb2] 28), (.blk gK #[.bool a, .slice Aa1 la1.length ca1, .slice Aa2 la2.length ca2] 28)]) ?_ ?_
                  rotate_left
                  · intro hJ_5_7_9
                    refine join_ (σ := Option Addr × Nat × Nat) 5 #[true, true, true, true, true, true, false, false, false, false, false] (fun s_ => [(12, .slice s_.1 P1.length s_.2.1), (13, .slice (some ⟨s_.2.2, 0, none⟩) 1 1)]) (fun s_ w' => Sx w w' [(.blk s_.2.2 #[.int .i64 1] 3), (.row (.slice s_.1 P1.length s_.2.1) P1), (.blk gR #[.bool false, .slice none 0 0, .slice none 0 0] 28), (.blk gB #[.bool b, .slice Ab1 lb1.length cb1, .slice Ab2 lb2.length cb2] 28), (.blk gK #[.bool a, .slice Aa1 la1.length ca1, .slice Aa2 la2.length ca2] 28)]) ?_ ?_
                    rotate_left
                    · intro hJ_4_5
                      refine join_ (σ := Option Addr × Nat × Nat) 5 #[true, true, true, true, true, false, false, true, false, false, false] (fun s_ => [(12, .slice s_.1 P1.length s_.2.1), (15, .slice (some ⟨s_.2.2, 0, none⟩) 0 0)]) (fun s_ w' => Sx w w' [(.blk s_.2.2 #[] 3), (.row (.slice s_.1 P1.length s_.2.1) P1), (.blk gR #[.bool false, .slice none 0 0, .slice none 0 0] 28), (.blk gB #[.bool b, .slice Ab1 lb1.length cb1, .slice Ab2 lb2.length cb2] 28), (.blk gK #[.bool a, .slice Aa1 la1.length ca1, .slice Aa2 la2.length ca2] 28)]) ?_ ?_
                      rotate_left
                      · intro hJ_4_7
                        refine join_ (σ := Option Addr × Nat × Nat) 5 #[true, true, true, true, true, false, false, false, false, true, false] (fun s_ => [(12, .slice s_.1 P1.length s_.2.1), (5, .pointer (some ⟨s_.2.2, 0, none⟩))]) (fun s_ w' => Sx w w' [(.blk s_.2.2 #[.bool false, .slice none 0 0, .slice none 0 0] 28), (.row (.slice s_.1 P1.length s_.2.1) P1), (.blk gR #[.bool false, .slice none 0 0, .slice none 0 0] 28), (.blk gB #[.bool b, .slice Ab1 lb1.length cb1, .slice Ab2 lb2.length cb2] 28), (.blk gK #[.bool a, .slice Aa1 la1.length ca1, .slice Aa2 la2.length ca2] 28)]) ?_ ?_
                        rotate_left
                        · intro hJ_4_9
                          refine join_ (σ := Nat × Nat) 5 #[true, true, true, true, false, true, false, true, false, false, false] (fun s_ => [(13, .slice (some ⟨s_.1, 0, none⟩) 1 1), (15, .slice (some ⟨s_.2, 0, none⟩) 0 0)]) (fun s_ w' => Sx w w' [(.blk s_.2 #[] 3), (.blk s_.1 #[.int .i64 1] 3), (.blk gR #[.bool false, .slice none 0 0, .slice none 0 0] 28), (.blk gB #[.bool b, .slice Ab1 lb1.length cb1, .slice Ab2 lb2.length cb2] 28), (.blk gK #[.bool a, .slice Aa1 la1.length ca1, .slice Aa2 la2.length ca2] 28)]) ?_ ?_
                          rotate_left
                          · intro hJ_5_7
                            refine join_ (σ := Nat × Nat) 5 #[true, true, true, true, false, true, false, false, false, true, false] (fun s_ => [(13, .slice (some ⟨s_.1, 0, none⟩) 1 1), (5, .pointer (some ⟨s_.2, 0, none⟩))]) (fun s_ w' => Sx w w' [(.blk s_.2 #[.bool false, .slice none 0 0, .slice none 0 0] 28), (.blk s_.1 #[.int .i64 1] 3), (.blk gR #[.bool false, .slice none 0 0, .slice none 0 0] 28), (.blk gB #[.bool b, .slice Ab1 lb1.length cb1, .slice Ab2 lb2.length cb2] 28), (.blk gK #[.bool a, .slice Aa1 la1.length ca1, .slice Aa2 la2.length ca2] 28)]) ?_ ?_
                            rotate_left
                            · intro hJ_5_9
                              refine join_ (σ := Nat × Nat) 5 #[true, true, true, true, false, false, false, true, false, true, false] (fun s_ => [(15, .slice (some ⟨s_.1, 0, none⟩) 0 0), (5, .pointer (some ⟨s_.2, 0, none⟩))]) (fun s_ w' => Sx w w' [(.blk s_.2 #[.bool false, .slice none 0 0, .slice none 0 0] 28), (.blk s_.1 #[] 3), (.blk gR #[.bool false, .slice none 0 0, .slice none 0 0] 28), (.blk gB #[.bool b, .slice Ab1 lb1.length cb1, .slice Ab2 lb2.length cb2] 28), (.blk gK #[.bool a, .slice Aa1 la1.length ca1, .slice Aa2 la2.length ca2] 28)]) ?_ ?_
                              rotate_left
                              · intro hJ_7_9
                                refine join_ (σ := Option Addr × Nat) 6 #[true, true, true, true, true, false, false, false, false, false, false] (fun s_ => [(12, .slice s_.1 P1.length s_.2)]) (fun s_ w' => Sx w w' [(.row (.slice s_.1 P1.length s_.2) P1), (.blk gR #[.bool false, .slice none 0 0, .slice none 0 0] 28), (.blk gB #[.bool b, .slice Ab1 lb1.length cb1, .slice Ab2 lb2.length cb2] 28), (.blk gK #[.bool a, .slice Aa1 la1.length ca1, .slice Aa2 la2.length ca2] 28)]) ?_ ?_
                                rotate_left
                                · intro hJ_4
                                  refine join_ (σ := Nat) 6 #[true, true, true, true, false, true, false, false, false, false, false] (fun s_ => [(13, .slice (some ⟨s_, 0, none⟩) 1 1)]) (fun s_ w' => Sx w w' [(.blk s_ #[.int .i64 1] 3), (.blk gR #[.bool false, .slice none 0 0, .slice none 0 0] 28), (.blk gB #[.bool b, .slice Ab1 lb1.length cb1, .slice Ab2 lb2.length cb2] 28), (.blk gK #[.bool a, .slice Aa1 la1.length ca1, .slice Aa2 la2.length ca2] 28)]) ?_ ?_
                                  rotate_left
                                  · intro hJ_5
                                    refine join_ (σ := Nat) 6 #[true, true, true, true, false, false, false, true, false, false, false] (fun s_ => [(15, .slice (some ⟨s_, 0, none⟩) 0 0)]) (fun s_ w' => Sx w w' [(.blk s_ #[] 3), (.blk gR #[.bool false, .slice none 0 0, .slice none 0 0] 28), (.blk gB #[.bool b, .slice Ab1 lb1.length cb1, .slice Ab2 lb2.length cb2] 28), (.blk gK #[.bool a, .slice Aa1 la1.length ca1, .slice Aa2 la2.length ca2] 28)]) ?_ ?_
                                    rotate_left
                                    · intro hJ_7
                                      refine join_ (σ := Nat) 6 #[true, true, true, true, false, false, false, false, false, true, false] (fun s_ => [(5, .pointer (some ⟨s_, 0, none⟩))]) (fun s_ w' => Sx w w' [(.blk s_ #[.bool false, .slice none 0 0, .slice none 0 0] 28), (.blk gR #[.bool false, .slice none 0 0, .slice none 0 0] 28), (.blk gB #[.bool b, .slice Ab1 lb1.length cb1, .slice Ab2 lb2.length cb2] 28), (.blk gK #[.bool a, .slice Aa1 la1.length ca1, .slice Aa2 la2.length ca2] 28)]) ?_ ?_
                                      rotate_left
                                      · intro hJ_9
                                        refine four_ (i := 4) (j := 5) (k := 7) (m := 9) (Ni := (some 12)) (Nj := (some 13)) (Nk := (some 15)) (Nm := (some 5)) #[true, true, true, true, true, false, false, false, false, false, false] #[true, true, true, true, false, true, false, false, false, false, false] #[true, true, true, true, false, false, false, true, false, false, false] #[true, true, true, true, false, false, false, false, false, true, false] rfl rfl rfl rfl rfl rfl rfl rfl (by kernel_rfl) (by decide) (by decide) (by decide) (by decide) (fun K hK => ?_) (fun K hK => ?_) (fun K hK => ?_) (fun K hK => ?_)
                                        · skip
                                          refine goes_ Try.func88 (by kernel_rfl) rfl #[.slice Ab1 lb1.length cb1, .bool false] (by rfl) rfl rfl (by (try simp only [List.map_toArray, List.map_cons, List.map_nil]); first | done | rfl) ?_
                                          with_reducible refine (spec_l4Without.calls Ab1 cb1 lb1 false P1 _ (Kd.C_below Hb1.out HS.out.below) Kb1.out HWA.out).mono ?_
                                          rintro e v4 ⟨v_, rfl, hr4, hb4⟩
                                          obtain ⟨Ns, nc, hv_⟩ := Kd.R_slice hr4
                                          subst hv_
                                          have nS : Aside0 (Sx w v4 [(.row (.slice Ns P1.length nc) P1), (.blk gR #[.bool false, .slice none 0 0, .slice none 0 0] 28), (.blk gB #[.bool b, .slice Ab1 lb1.length cb1, .slice Ab2 lb2.length cb2] 28), (.blk gK #[.bool a, .slice Aa1 la1.length ca1, .slice Aa2 la2.length ca2] 28)]) := Aside0.mk (HS.out.addRow hb4 hr4)
                                          clear HS hb4
                                          have HS := nS
                                          clear nS
                                          refine ⟨_, rfl, ?_⟩
                                          refine hK.out _ _ ⟨(blk_cell (HS.out.blk 3 rfl) 0).trans rfl, (blk_cell (HS.out.blk 2 rfl) 1).trans rfl⟩ (fun hHeld => ?_)
                                          clear hK K
                                          refine norm_ (a' := ?_) ?_ ?_
                                          rotate_left
                                          · show Act.put _ (some 12) _ = _
                                            simp only [Act.put, List.setIfInBounds_toArray, List.set_cons_zero, List.set_cons_succ]
                                            rfl
                                          exact norm_ (by first | (simp only [putAll, Act.put, List.setIfInBounds_toArray, List.set_cons_zero, List.set_cons_succ]; done) | (simp only [putAll, Act.put, List.setIfInBounds_toArray, List.set_cons_zero, List.set_cons_succ]; rfl)) (hJ_4 (Ns, nc) _ (HS.out.perm (List.Perm.refl _)))
                                        · skip
                                          refine lit_step (by rfl) rfl #[.int .i64 1] 3 1 (by first | (go_simp; done) | (go_simp; rfl)) ?_
                                          intro gL wL hgL hxL hbL
                                          have nS : Aside0 (Sx w wL [(.blk gL #[.int .i64 1] 3), (.blk gR #[.bool false, .slice none 0 0, .slice none 0 0] 28), (.blk gB #[.bool b, .slice Ab1 lb1.length cb1, .slice Ab2 lb2.length cb2] 28), (.blk gK #[.bool a, .slice Aa1 la1.length ca1, .slice Aa2 la2.length ca2] 28)]) := Aside0.mk (HS.out.box hgL.symm hxL hbL)
                                          clear HS hgL hxL hbL
                                          have HS := nS
                                          clear nS
                                          refine hK.out _ _ ⟨(blk_cell (HS.out.blk 3 rfl) 0).trans rfl, (blk_cell (HS.out.blk 2 rfl) 1).trans rfl⟩ (fun hHeld => ?_)
                                          clear hK K
                                          refine norm_ (a' := ?_) ?_ ?_
                                          rotate_left
                                          · show Act.put _ (some 13) _ = _
                                            simp only [Act.put, List.setIfInBounds_toArray, List.set_cons_zero, List.set_cons_succ]
                                            rfl
                                          exact norm_ (by first | (simp only [putAll, Act.put, List.setIfInBounds_toArray, List.set_cons_zero, List.set_cons_succ]; done) | (simp only [putAll, Act.put, List.setIfInBounds_toArray, List.set_cons_zero, List.set_cons_succ]; rfl)) (hJ_5 gL _ (HS.out.perm (List.Perm.refl _)))
                                        · skip
                                          refine lit_step (by rfl) rfl #[] 3 0 (by first | (go_simp; done) | (go_simp; rfl)) ?_
                                          intro gE wE hgE hxE hbE
                                          have nS : Aside0 (Sx w wE [(.blk gE #[] 3), (.blk gR #[.bool false, .slice none 0 0, .slice none 0 0] 28), (.blk gB #[.bool b, .slice Ab1 lb1.length cb1, .slice Ab2 lb2.length cb2] 28), (.blk gK #[.bool a, .slice Aa1 la1.length ca1, .slice Aa2 la2.length ca2] 28)]) := Aside0.mk (HS.out.box hgE.symm hxE hbE)
                                          clear HS hgE hxE hbE
                                          have HS := nS
                                          clear nS
                                          refine hK.out _ _ ⟨(blk_cell (HS.out.blk 3 rfl) 0).trans rfl, (blk_cell (HS.out.blk 2 rfl) 1).trans rfl⟩ (fun hHeld => ?_)
                                          clear hK K
                                          refine norm_ (a' := ?_) ?_ ?_
                                          rotate_left
                                          · show Act.put _ (some 15) _ = _
                                            simp only [Act.put, List.setIfInBounds_toArray, List.set_cons_zero, List.set_cons_succ]
                                            rfl
                                          exact norm_ (by first | (simp only [putAll, Act.put, List.setIfInBounds_toArray, List.set_cons_zero, List.set_cons_succ]; done) | (simp only [putAll, Act.put, List.setIfInBounds_toArray, List.set_cons_zero, List.set_cons_succ]; rfl)) (hJ_7 gE _ (HS.out.perm (List.Perm.refl _)))
                                        · skip
                                          refine box_step ?hg (N := 5) ?hd (cs := #[.bool false, .slice none 0 0, .slice none 0 0]) (t := 28) ?hr ?_; (case hd => rfl); (case hg => rfl); (case hr => first | (go_simp; done) | (go_simp; rfl))
                                          intro gO hgO wO hxO hbO
                                          have nS : Aside0 (Sx w wO [(.blk gO #[.bool false, .slice none 0 0, .slice none 0 0] 28), (.blk gR #[.bool false, .slice none 0 0, .slice none 0 0] 28), (.blk gB #[.bool b, .slice Ab1 lb1.length cb1, .slice Ab2 lb2.length cb2] 28), (.blk gK #[.bool a, .slice Aa1 la1.length ca1, .slice Aa2 la2.length ca2] 28)]) := Aside0.mk (HS.out.box hgO hxO hbO)
                                          clear HS hgO hxO hbO
                                          have HS := nS
                                          clear nS
                                          refine hK.out _ _ ⟨(blk_cell (HS.out.blk 3 rfl) 0).trans rfl, (blk_cell (HS.out.blk 2 rfl) 1).trans rfl⟩ (fun hHeld => ?_)
                                          clear hK K
                                          refine norm_ (a' := ?_) ?_ ?_
                                          rotate_left
                                          · show Act.put _ (some 5) _ = _
                                            simp only [Act.put, List.setIfInBounds_toArray, List.set_cons_zero, List.set_cons_succ]
                                            rfl
                                          exact norm_ (by first | (simp only [putAll, Act.put, List.setIfInBounds_toArray, List.set_cons_zero, List.set_cons_succ]; done) | (simp only [putAll, Act.put, List.setIfInBounds_toArray, List.set_cons_zero, List.set_cons_succ]; rfl)) (hJ_9 gO _ (HS.out.perm (List.Perm.refl _)))
                                      · intro gO w_ hF
                                        have nS : Aside0 (Sx w w_ [(.blk gO #[.bool false, .slice none 0 0, .slice none 0 0] 28), (.blk gR #[.bool false, .slice none 0 0, .slice none 0 0] 28), (.blk gB #[.bool b, .slice Ab1 lb1.length cb1, .slice Ab2 lb2.length cb2] 28), (.blk gK #[.bool a, .slice Aa1 la1.length ca1, .slice Aa2 la2.length ca2] 28)]) := Aside0.mk hF
                                        clear HS hF
                                        have HS := nS
                                        clear nS
                                        refine norm_ (a' := ?_) ?_ ?_
                                        rotate_left
                                        · simp only [putAll, Act.put, List.setIfInBounds_toArray, List.set_cons_zero, List.set_cons_succ]
                                          rfl
                                        refine three_ (i := 4) (j := 5) (k := 7) (Ni := (some 12)) (Nj := (some 13)) (Nk := (some 15)) #[true, true, true, true, true, false, false, false, false, true, false] #[true, true, true, true, false, true, false, false, false, true, false] #[true, true, true, true, false, false, false, true, false, true, false] rfl rfl rfl rfl rfl rfl (by kernel_rfl) (by decide) (by decide) (by decide) (fun K hK => ?_) (fun K hK => ?_) (fun K hK => ?_)
                                        · skip
                                          refine goes_ Try.func88 (by kernel_rfl) rfl #[.slice Ab1 lb1.length cb1, .bool false] (by rfl) rfl rfl (by (try simp only [List.map_toArray, List.map_cons, List.map_nil]); first | done | rfl) ?_
                                          with_reducible refine (spec_l4Without.calls Ab1 cb1 lb1 false P1 _ (Kd.C_below Hb1.out HS.out.below) Kb1.out HWA.out).mono ?_
                                          rintro e v4 ⟨v_, rfl, hr4, hb4⟩
                                          obtain ⟨Ns, nc, hv_⟩ := Kd.R_slice hr4
                                          subst hv_
                                          have nS : Aside0 (Sx w v4 [(.row (.slice Ns P1.length nc) P1), (.blk gO #[.bool false, .slice none 0 0, .slice none 0 0] 28), (.blk gR #[.bool false, .slice none 0 0, .slice none 0 0] 28), (.blk gB #[.bool b, .slice Ab1 lb1.length cb1, .slice Ab2 lb2.length cb2] 28), (.blk gK #[.bool a, .slice Aa1 la1.length ca1, .slice Aa2 la2.length ca2] 28)]) := Aside0.mk (HS.out.addRow hb4 hr4)
                                          clear HS hb4
                                          have HS := nS
                                          clear nS
                                          refine ⟨_, rfl, ?_⟩
                                          refine hK.out _ _ ⟨(blk_cell (HS.out.blk 4 rfl) 0).trans rfl, (blk_cell (HS.out.blk 3 rfl) 1).trans rfl⟩ (fun hHeld => ?_)
                                          clear hK K
                                          refine norm_ (a' := ?_) ?_ ?_
                                          rotate_left
                                          · show Act.put _ (some 12) _ = _
                                            simp only [Act.put, List.setIfInBounds_toArray, List.set_cons_zero, List.set_cons_succ]
                                            rfl
                                          exact norm_ (by first | (simp only [putAll, Act.put, List.setIfInBounds_toArray, List.set_cons_zero, List.set_cons_succ]; done) | (simp only [putAll, Act.put, List.setIfInBounds_toArray, List.set_cons_zero, List.set_cons_succ]; rfl)) (hJ_4_9 (Ns, nc, gO) _ (HS.out.perm (List.perm_middle (a := (Th.row (.slice Ns P1.length nc) P1)) (l₁ := [(Th.blk gO #[.bool false, .slice none 0 0, .slice none 0 0] 28)]) (l₂ := [(Th.blk gR #[.bool false, .slice none 0 0, .slice none 0 0] 28), (Th.blk gB #[.bool b, .slice Ab1 lb1.length cb1, .slice Ab2 lb2.length cb2] 28), (Th.blk gK #[.bool a, .slice Aa1 la1.length ca1, .slice Aa2 la2.length ca2] 28)])).symm))
                                        · skip
                                          refine lit_step (by rfl) rfl #[.int .i64 1] 3 1 (by first | (go_simp; done) | (go_simp; rfl)) ?_
                                          intro gL wL hgL hxL hbL
                                          have nS : Aside0 (Sx w wL [(.blk gL #[.int .i64 1] 3), (.blk gO #[.bool false, .slice none 0 0, .slice none 0 0] 28), (.blk gR #[.bool false, .slice none 0 0, .slice none 0 0] 28), (.blk gB #[.bool b, .slice Ab1 lb1.length cb1, .slice Ab2 lb2.length cb2] 28), (.blk gK #[.bool a, .slice Aa1 la1.length ca1, .slice Aa2 la2.length ca2] 28)]) := Aside0.mk (HS.out.box hgL.symm hxL hbL)
                                          clear HS hgL hxL hbL
                                          have HS := nS
                                          clear nS
                                          refine hK.out _ _ ⟨(blk_cell (HS.out.blk 4 rfl) 0).trans rfl, (blk_cell (HS.out.blk 3 rfl) 1).trans rfl⟩ (fun hHeld => ?_)
                                          clear hK K
                                          refine norm_ (a' := ?_) ?_ ?_
                                          rotate_left
                                          · show Act.put _ (some 13) _ = _
                                            simp only [Act.put, List.setIfInBounds_toArray, List.set_cons_zero, List.set_cons_succ]
                                            rfl
                                          exact norm_ (by first | (simp only [putAll, Act.put, List.setIfInBounds_toArray, List.set_cons_zero, List.set_cons_succ]; done) | (simp only [putAll, Act.put, List.setIfInBounds_toArray, List.set_cons_zero, List.set_cons_succ]; rfl)) (hJ_5_9 (gL, gO) _ (HS.out.perm (List.perm_middle (a := (Th.blk gL #[.int .i64 1] 3)) (l₁ := [(Th.blk gO #[.bool false, .slice none 0 0, .slice none 0 0] 28)]) (l₂ := [(Th.blk gR #[.bool false, .slice none 0 0, .slice none 0 0] 28), (Th.blk gB #[.bool b, .slice Ab1 lb1.length cb1, .slice Ab2 lb2.length cb2] 28), (Th.blk gK #[.bool a, .slice Aa1 la1.length ca1, .slice Aa2 la2.length ca2] 28)])).symm))
                                        · skip
                                          refine lit_step (by rfl) rfl #[] 3 0 (by first | (go_simp; done) | (go_simp; rfl)) ?_
                                          intro gE wE hgE hxE hbE
                                          have nS : Aside0 (Sx w wE [(.blk gE #[] 3), (.blk gO #[.bool false, .slice none 0 0, .slice none 0 0] 28), (.blk gR #[.bool false, .slice none 0 0, .slice none 0 0] 28), (.blk gB #[.bool b, .slice Ab1 lb1.length cb1, .slice Ab2 lb2.length cb2] 28), (.blk gK #[.bool a, .slice Aa1 la1.length ca1, .slice Aa2 la2.length ca2] 28)]) := Aside0.mk (HS.out.box hgE.symm hxE hbE)
                                          clear HS hgE hxE hbE
                                          have HS := nS
                                          clear nS
                                          refine hK.out _ _ ⟨(blk_cell (HS.out.blk 4 rfl) 0).trans rfl, (blk_cell (HS.out.blk 3 rfl) 1).trans rfl⟩ (fun hHeld => ?_)
                                          clear hK K
                                          refine norm_ (a' := ?_) ?_ ?_
                                          rotate_left
                                          · show Act.put _ (some 15) _ = _
                                            simp only [Act.put, List.setIfInBounds_toArray, List.set_cons_zero, List.set_cons_succ]
                                            rfl
                                          exact norm_ (by first | (simp only [putAll, Act.put, List.setIfInBounds_toArray, List.set_cons_zero, List.set_cons_succ]; done) | (simp only [putAll, Act.put, List.setIfInBounds_toArray, List.set_cons_zero, List.set_cons_succ]; rfl)) (hJ_7_9 (gE, gO) _ (HS.out.perm (List.perm_middle (a := (Th.blk gE #[] 3)) (l₁ := [(Th.blk gO #[.bool false, .slice none 0 0, .slice none 0 0] 28)]) (l₂ := [(Th.blk gR #[.bool false, .slice none 0 0, .slice none 0 0] 28), (Th.blk gB #[.bool b, .slice Ab1 lb1.length cb1, .slice Ab2 lb2.length cb2] 28), (Th.blk gK #[.bool a, .slice Aa1 la1.length ca1, .slice Aa2 la2.length ca2] 28)])).symm))
                                    · intro gE w_ hF
                                      have nS : Aside0 (Sx w w_ [(.blk gE #[] 3), (.blk gR #[.bool false, .slice none 0 0, .slice none 0 0] 28), (.blk gB #[.bool b, .slice Ab1 lb1.length cb1, .slice Ab2 lb2.length cb2] 28), (.blk gK #[.bool a, .slice Aa1 la1.length ca1, .slice Aa2 la2.length ca2] 28)]) := Aside0.mk hF
                                      clear HS hF
                                      have HS := nS
                                      clear nS
                                      refine norm_ (a' := ?_) ?_ ?_
                                      rotate_left
                                      · simp only [putAll, Act.put, List.setIfInBounds_toArray, List.set_cons_zero, List.set_cons_succ]
                                        rfl
                                      refine three_ (i := 4) (j := 5) (k := 9) (Ni := (some 12)) (Nj := (some 13)) (Nk := (some 5)) #[true, true, true, true, true, false, false, true, false, false, false] #[true, true, true, true, false, true, false, true, false, false, false] #[true, true, true, true, false, false, false, true, false, true, false] rfl rfl rfl rfl rfl rfl (by kernel_rfl) (by decide) (by decide) (by decide) (fun K hK => ?_) (fun K hK => ?_) (fun K hK => ?_)
                                      · skip
                                        refine goes_ Try.func88 (by kernel_rfl) rfl #[.slice Ab1 lb1.length cb1, .bool false] (by rfl) rfl rfl (by (try simp only [List.map_toArray, List.map_cons, List.map_nil]); first | done | rfl) ?_
                                        with_reducible refine (spec_l4Without.calls Ab1 cb1 lb1 false P1 _ (Kd.C_below Hb1.out HS.out.below) Kb1.out HWA.out).mono ?_
                                        rintro e v4 ⟨v_, rfl, hr4, hb4⟩
                                        obtain ⟨Ns, nc, hv_⟩ := Kd.R_slice hr4
                                        subst hv_
                                        have nS : Aside0 (Sx w v4 [(.row (.slice Ns P1.length nc) P1), (.blk gE #[] 3), (.blk gR #[.bool false, .slice none 0 0, .slice none 0 0] 28), (.blk gB #[.bool b, .slice Ab1 lb1.length cb1, .slice Ab2 lb2.length cb2] 28), (.blk gK #[.bool a, .slice Aa1 la1.length ca1, .slice Aa2 la2.length ca2] 28)]) := Aside0.mk (HS.out.addRow hb4 hr4)
                                        clear HS hb4
                                        have HS := nS
                                        clear nS
                                        refine ⟨_, rfl, ?_⟩
                                        refine hK.out _ _ ⟨(blk_cell (HS.out.blk 4 rfl) 0).trans rfl, (blk_cell (HS.out.blk 3 rfl) 1).trans rfl⟩ (fun hHeld => ?_)
                                        clear hK K
                                        refine norm_ (a' := ?_) ?_ ?_
                                        rotate_left
                                        · show Act.put _ (some 12) _ = _
                                          simp only [Act.put, List.setIfInBounds_toArray, List.set_cons_zero, List.set_cons_succ]
                                          rfl
                                        exact norm_ (by first | (simp only [putAll, Act.put, List.setIfInBounds_toArray, List.set_cons_zero, List.set_cons_succ]; done) | (simp only [putAll, Act.put, List.setIfInBounds_toArray, List.set_cons_zero, List.set_cons_succ]; rfl)) (hJ_4_7 (Ns, nc, gE) _ (HS.out.perm (List.perm_middle (a := (Th.row (.slice Ns P1.length nc) P1)) (l₁ := [(Th.blk gE #[] 3)]) (l₂ := [(Th.blk gR #[.bool false, .slice none 0 0, .slice none 0 0] 28), (Th.blk gB #[.bool b, .slice Ab1 lb1.length cb1, .slice Ab2 lb2.length cb2] 28), (Th.blk gK #[.bool a, .slice Aa1 la1.length ca1, .slice Aa2 la2.length ca2] 28)])).symm))
                                      · skip
                                        refine lit_step (by rfl) rfl #[.int .i64 1] 3 1 (by first | (go_simp; done) | (go_simp; rfl)) ?_
                                        intro gL wL hgL hxL hbL
                                        have nS : Aside0 (Sx w wL [(.blk gL #[.int .i64 1] 3), (.blk gE #[] 3), (.blk gR #[.bool false, .slice none 0 0, .slice none 0 0] 28), (.blk gB #[.bool b, .slice Ab1 lb1.length cb1, .slice Ab2 lb2.length cb2] 28), (.blk gK #[.bool a, .slice Aa1 la1.length ca1, .slice Aa2 la2.length ca2] 28)]) := Aside0.mk (HS.out.box hgL.symm hxL hbL)
                                        clear HS hgL hxL hbL
                                        have HS := nS
                                        clear nS
                                        refine hK.out _ _ ⟨(blk_cell (HS.out.blk 4 rfl) 0).trans rfl, (blk_cell (HS.out.blk 3 rfl) 1).trans rfl⟩ (fun hHeld => ?_)
                                        clear hK K
                                        refine norm_ (a' := ?_) ?_ ?_
                                        rotate_left
                                        · show Act.put _ (some 13) _ = _
                                          simp only [Act.put, List.setIfInBounds_toArray, List.set_cons_zero, List.set_cons_succ]
                                          rfl
                                        exact norm_ (by first | (simp only [putAll, Act.put, List.setIfInBounds_toArray, List.set_cons_zero, List.set_cons_succ]; done) | (simp only [putAll, Act.put, List.setIfInBounds_toArray, List.set_cons_zero, List.set_cons_succ]; rfl)) (hJ_5_7 (gL, gE) _ (HS.out.perm (List.perm_middle (a := (Th.blk gL #[.int .i64 1] 3)) (l₁ := [(Th.blk gE #[] 3)]) (l₂ := [(Th.blk gR #[.bool false, .slice none 0 0, .slice none 0 0] 28), (Th.blk gB #[.bool b, .slice Ab1 lb1.length cb1, .slice Ab2 lb2.length cb2] 28), (Th.blk gK #[.bool a, .slice Aa1 la1.length ca1, .slice Aa2 la2.length ca2] 28)])).symm))
                                      · skip
                                        refine box_step ?hg (N := 5) ?hd (cs := #[.bool false, .slice none 0 0, .slice none 0 0]) (t := 28) ?hr ?_; (case hd => rfl); (case hg => rfl); (case hr => first | (go_simp; done) | (go_simp; rfl))
                                        intro gO hgO wO hxO hbO
                                        have nS : Aside0 (Sx w wO [(.blk gO #[.bool false, .slice none 0 0, .slice none 0 0] 28), (.blk gE #[] 3), (.blk gR #[.bool false, .slice none 0 0, .slice none 0 0] 28), (.blk gB #[.bool b, .slice Ab1 lb1.length cb1, .slice Ab2 lb2.length cb2] 28), (.blk gK #[.bool a, .slice Aa1 la1.length ca1, .slice Aa2 la2.length ca2] 28)]) := Aside0.mk (HS.out.box hgO hxO hbO)
                                        clear HS hgO hxO hbO
                                        have HS := nS
                                        clear nS
                                        refine hK.out _ _ ⟨(blk_cell (HS.out.blk 4 rfl) 0).trans rfl, (blk_cell (HS.out.blk 3 rfl) 1).trans rfl⟩ (fun hHeld => ?_)
                                        clear hK K
                                        refine norm_ (a' := ?_) ?_ ?_
                                        rotate_left
                                        · show Act.put _ (some 5) _ = _
                                          simp only [Act.put, List.setIfInBounds_toArray, List.set_cons_zero, List.set_cons_succ]
                                          rfl
                                        exact norm_ (by first | (simp only [putAll, Act.put, List.setIfInBounds_toArray, List.set_cons_zero, List.set_cons_succ]; done) | (simp only [putAll, Act.put, List.setIfInBounds_toArray, List.set_cons_zero, List.set_cons_succ]; rfl)) (hJ_7_9 (gE, gO) _ (HS.out.perm (List.Perm.refl _)))
                                  · intro gL w_ hF
                                    have nS : Aside0 (Sx w w_ [(.blk gL #[.int .i64 1] 3), (.blk gR #[.bool false, .slice none 0 0, .slice none 0 0] 28), (.blk gB #[.bool b, .slice Ab1 lb1.length cb1, .slice Ab2 lb2.length cb2] 28), (.blk gK #[.bool a, .slice Aa1 la1.length ca1, .slice Aa2 la2.length ca2] 28)]) := Aside0.mk hF
                                    clear HS hF
                                    have HS := nS
                                    clear nS
                                    refine norm_ (a' := ?_) ?_ ?_
                                    rotate_left
                                    · simp only [putAll, Act.put, List.setIfInBounds_toArray, List.set_cons_zero, List.set_cons_succ]
                                      rfl
                                    refine three_ (i := 4) (j := 7) (k := 9) (Ni := (some 12)) (Nj := (some 15)) (Nk := (some 5)) #[true, true, true, true, true, true, false, false, false, false, false] #[true, true, true, true, false, true, false, true, false, false, false] #[true, true, true, true, false, true, false, false, false, true, false] rfl rfl rfl rfl rfl rfl (by kernel_rfl) (by decide) (by decide) (by decide) (fun K hK => ?_) (fun K hK => ?_) (fun K hK => ?_)
                                    · skip
                                      refine goes_ Try.func88 (by kernel_rfl) rfl #[.slice Ab1 lb1.length cb1, .bool false] (by rfl) rfl rfl (by (try simp only [List.map_toArray, List.map_cons, List.map_nil]); first | done | rfl) ?_
                                      with_reducible refine (spec_l4Without.calls Ab1 cb1 lb1 false P1 _ (Kd.C_below Hb1.out HS.out.below) Kb1.out HWA.out).mono ?_
                                      rintro e v4 ⟨v_, rfl, hr4, hb4⟩
                                      obtain ⟨Ns, nc, hv_⟩ := Kd.R_slice hr4
                                      subst hv_
                                      have nS : Aside0 (Sx w v4 [(.row (.slice Ns P1.length nc) P1), (.blk gL #[.int .i64 1] 3), (.blk gR #[.bool false, .slice none 0 0, .slice none 0 0] 28), (.blk gB #[.bool b, .slice Ab1 lb1.length cb1, .slice Ab2 lb2.length cb2] 28), (.blk gK #[.bool a, .slice Aa1 la1.length ca1, .slice Aa2 la2.length ca2] 28)]) := Aside0.mk (HS.out.addRow hb4 hr4)
                                      clear HS hb4
                                      have HS := nS
                                      clear nS
                                      refine ⟨_, rfl, ?_⟩
                                      refine hK.out _ _ ⟨(blk_cell (HS.out.blk 4 rfl) 0).trans rfl, (blk_cell (HS.out.blk 3 rfl) 1).trans rfl⟩ (fun hHeld => ?_)
                                      clear hK K
                                      refine norm_ (a' := ?_) ?_ ?_
                                      rotate_left
                                      · show Act.put _ (some 12) _ = _
                                        simp only [Act.put, List.setIfInBounds_toArray, List.set_cons_zero, List.set_cons_succ]
                                        rfl
                                      exact norm_ (by first | (simp only [putAll, Act.put, List.setIfInBounds_toArray, List.set_cons_zero, List.set_cons_succ]; done) | (simp only [putAll, Act.put, List.setIfInBounds_toArray, List.set_cons_zero, List.set_cons_succ]; rfl)) (hJ_4_5 (Ns, nc, gL) _ (HS.out.perm (List.perm_middle (a := (Th.row (.slice Ns P1.length nc) P1)) (l₁ := [(Th.blk gL #[.int .i64 1] 3)]) (l₂ := [(Th.blk gR #[.bool false, .slice none 0 0, .slice none 0 0] 28), (Th.blk gB #[.bool b, .slice Ab1 lb1.length cb1, .slice Ab2 lb2.length cb2] 28), (Th.blk gK #[.bool a, .slice Aa1 la1.length ca1, .slice Aa2 la2.length ca2] 28)])).symm))
                                    · skip
                                      refine lit_step (by rfl) rfl #[] 3 0 (by first | (go_simp; done) | (go_simp; rfl)) ?_
                                      intro gE wE hgE hxE hbE
                                      have nS : Aside0 (Sx w wE [(.blk gE #[] 3), (.blk gL #[.int .i64 1] 3), (.blk gR #[.bool false, .slice none 0 0, .slice none 0 0] 28), (.blk gB #[.bool b, .slice Ab1 lb1.length cb1, .slice Ab2 lb2.length cb2] 28), (.blk gK #[.bool a, .slice Aa1 la1.length ca1, .slice Aa2 la2.length ca2] 28)]) := Aside0.mk (HS.out.box hgE.symm hxE hbE)
                                      clear HS hgE hxE hbE
                                      have HS := nS
                                      clear nS
                                      refine hK.out _ _ ⟨(blk_cell (HS.out.blk 4 rfl) 0).trans rfl, (blk_cell (HS.out.blk 3 rfl) 1).trans rfl⟩ (fun hHeld => ?_)
                                      clear hK K
                                      refine norm_ (a' := ?_) ?_ ?_
                                      rotate_left
                                      · show Act.put _ (some 15) _ = _
                                        simp only [Act.put, List.setIfInBounds_toArray, List.set_cons_zero, List.set_cons_succ]
                                        rfl
                                      exact norm_ (by first | (simp only [putAll, Act.put, List.setIfInBounds_toArray, List.set_cons_zero, List.set_cons_succ]; done) | (simp only [putAll, Act.put, List.setIfInBounds_toArray, List.set_cons_zero, List.set_cons_succ]; rfl)) (hJ_5_7 (gL, gE) _ (HS.out.perm (List.Perm.refl _)))
                                    · skip
                                      refine box_step ?hg (N := 5) ?hd (cs := #[.bool false, .slice none 0 0, .slice none 0 0]) (t := 28) ?hr ?_; (case hd => rfl); (case hg => rfl); (case hr => first | (go_simp; done) | (go_simp; rfl))
                                      intro gO hgO wO hxO hbO
                                      have nS : Aside0 (Sx w wO [(.blk gO #[.bool false, .slice none 0 0, .slice none 0 0] 28), (.blk gL #[.int .i64 1] 3), (.blk gR #[.bool false, .slice none 0 0, .slice none 0 0] 28), (.blk gB #[.bool b, .slice Ab1 lb1.length cb1, .slice Ab2 lb2.length cb2] 28), (.blk gK #[.bool a, .slice Aa1 la1.length ca1, .slice Aa2 la2.length ca2] 28)]) := Aside0.mk (HS.out.box hgO hxO hbO)
                                      clear HS hgO hxO hbO
                                      have HS := nS
                                      clear nS
                                      refine hK.out _ _ ⟨(blk_cell (HS.out.blk 4 rfl) 0).trans rfl, (blk_cell (HS.out.blk 3 rfl) 1).trans rfl⟩ (fun hHeld => ?_)
                                      clear hK K
                                      refine norm_ (a' := ?_) ?_ ?_
                                      rotate_left
                                      · show Act.put _ (some 5) _ = _
                                        simp only [Act.put, List.setIfInBounds_toArray, List.set_cons_zero, List.set_cons_succ]
                                        rfl
                                      exact norm_ (by first | (simp only [putAll, Act.put, List.setIfInBounds_toArray, List.set_cons_zero, List.set_cons_succ]; done) | (simp only [putAll, Act.put, List.setIfInBounds_toArray, List.set_cons_zero, List.set_cons_succ]; rfl)) (hJ_5_9 (gL, gO) _ (HS.out.perm (List.Perm.refl _)))
                                · intro s_ w_ hF
                                  obtain ⟨Ns, nc⟩ := s_
                                  have nS : Aside0 (Sx w w_ [(.row (.slice Ns P1.length nc) P1), (.blk gR #[.bool false, .slice none 0 0, .slice none 0 0] 28), (.blk gB #[.bool b, .slice Ab1 lb1.length cb1, .slice Ab2 lb2.length cb2] 28), (.blk gK #[.bool a, .slice Aa1 la1.length ca1, .slice Aa2 la2.length ca2] 28)]) := Aside0.mk hF
                                  clear HS hF
                                  have HS := nS
                                  clear nS
                                  refine norm_ (a' := ?_) ?_ ?_
                                  rotate_left
                                  · simp only [putAll, Act.put, List.setIfInBounds_toArray, List.set_cons_zero, List.set_cons_succ]
                                    rfl
                                  refine three_ (i := 5) (j := 7) (k := 9) (Ni := (some 13)) (Nj := (some 15)) (Nk := (some 5)) #[true, true, true, true, true, true, false, false, false, false, false] #[true, true, true, true, true, false, false, true, false, false, false] #[true, true, true, true, true, false, false, false, false, true, false] rfl rfl rfl rfl rfl rfl (by kernel_rfl) (by decide) (by decide) (by decide) (fun K hK => ?_) (fun K hK => ?_) (fun K hK => ?_)
                                  · skip
                                    refine lit_step (by rfl) rfl #[.int .i64 1] 3 1 (by first | (go_simp; done) | (go_simp; rfl)) ?_
                                    intro gL wL hgL hxL hbL
                                    have nS : Aside0 (Sx w wL [(.blk gL #[.int .i64 1] 3), (.row (.slice Ns P1.length nc) P1), (.blk gR #[.bool false, .slice none 0 0, .slice none 0 0] 28), (.blk gB #[.bool b, .slice Ab1 lb1.length cb1, .slice Ab2 lb2.length cb2] 28), (.blk gK #[.bool a, .slice Aa1 la1.length ca1, .slice Aa2 la2.length ca2] 28)]) := Aside0.mk (HS.out.box hgL.symm hxL hbL)
                                    clear HS hgL hxL hbL
                                    have HS := nS
                                    clear nS
                                    refine hK.out _ _ ⟨(blk_cell (HS.out.blk 4 rfl) 0).trans rfl, (blk_cell (HS.out.blk 3 rfl) 1).trans rfl⟩ (fun hHeld => ?_)
                                    clear hK K
                                    refine norm_ (a' := ?_) ?_ ?_
                                    rotate_left
                                    · show Act.put _ (some 13) _ = _
                                      simp only [Act.put, List.setIfInBounds_toArray, List.set_cons_zero, List.set_cons_succ]
                                      rfl
                                    exact norm_ (by first | (simp only [putAll, Act.put, List.setIfInBounds_toArray, List.set_cons_zero, List.set_cons_succ]; done) | (simp only [putAll, Act.put, List.setIfInBounds_toArray, List.set_cons_zero, List.set_cons_succ]; rfl)) (hJ_4_5 (Ns, nc, gL) _ (HS.out.perm (List.Perm.refl _)))
                                  · skip
                                    refine lit_step (by rfl) rfl #[] 3 0 (by first | (go_simp; done) | (go_simp; rfl)) ?_
                                    intro gE wE hgE hxE hbE
                                    have nS : Aside0 (Sx w wE [(.blk gE #[] 3), (.row (.slice Ns P1.length nc) P1), (.blk gR #[.bool false, .slice none 0 0, .slice none 0 0] 28), (.blk gB #[.bool b, .slice Ab1 lb1.length cb1, .slice Ab2 lb2.length cb2] 28), (.blk gK #[.bool a, .slice Aa1 la1.length ca1, .slice Aa2 la2.length ca2] 28)]) := Aside0.mk (HS.out.box hgE.symm hxE hbE)
                                    clear HS hgE hxE hbE
                                    have HS := nS
                                    clear nS
                                    refine hK.out _ _ ⟨(blk_cell (HS.out.blk 4 rfl) 0).trans rfl, (blk_cell (HS.out.blk 3 rfl) 1).trans rfl⟩ (fun hHeld => ?_)
                                    clear hK K
                                    refine norm_ (a' := ?_) ?_ ?_
                                    rotate_left
                                    · show Act.put _ (some 15) _ = _
                                      simp only [Act.put, List.setIfInBounds_toArray, List.set_cons_zero, List.set_cons_succ]
                                      rfl
                                    exact norm_ (by first | (simp only [putAll, Act.put, List.setIfInBounds_toArray, List.set_cons_zero, List.set_cons_succ]; done) | (simp only [putAll, Act.put, List.setIfInBounds_toArray, List.set_cons_zero, List.set_cons_succ]; rfl)) (hJ_4_7 (Ns, nc, gE) _ (HS.out.perm (List.Perm.refl _)))
                                  · skip
                                    refine box_step ?hg (N := 5) ?hd (cs := #[.bool false, .slice none 0 0, .slice none 0 0]) (t := 28) ?hr ?_; (case hd => rfl); (case hg => rfl); (case hr => first | (go_simp; done) | (go_simp; rfl))
                                    intro gO hgO wO hxO hbO
                                    have nS : Aside0 (Sx w wO [(.blk gO #[.bool false, .slice none 0 0, .slice none 0 0] 28), (.row (.slice Ns P1.length nc) P1), (.blk gR #[.bool false, .slice none 0 0, .slice none 0 0] 28), (.blk gB #[.bool b, .slice Ab1 lb1.length cb1, .slice Ab2 lb2.length cb2] 28), (.blk gK #[.bool a, .slice Aa1 la1.length ca1, .slice Aa2 la2.length ca2] 28)]) := Aside0.mk (HS.out.box hgO hxO hbO)
                                    clear HS hgO hxO hbO
                                    have HS := nS
                                    clear nS
                                    refine hK.out _ _ ⟨(blk_cell (HS.out.blk 4 rfl) 0).trans rfl, (blk_cell (HS.out.blk 3 rfl) 1).trans rfl⟩ (fun hHeld => ?_)
                                    clear hK K
                                    refine norm_ (a' := ?_) ?_ ?_
                                    rotate_left
                                    · show Act.put _ (some 5) _ = _
                                      simp only [Act.put, List.setIfInBounds_toArray, List.set_cons_zero, List.set_cons_succ]
                                      rfl
                                    exact norm_ (by first | (simp only [putAll, Act.put, List.setIfInBounds_toArray, List.set_cons_zero, List.set_cons_succ]; done) | (simp only [putAll, Act.put, List.setIfInBounds_toArray, List.set_cons_zero, List.set_cons_succ]; rfl)) (hJ_4_9 (Ns, nc, gO) _ (HS.out.perm (List.Perm.refl _)))
                              · intro s_ w_ hF
                                obtain ⟨gE, gO⟩ := s_
                                have nS : Aside0 (Sx w w_ [(.blk gO #[.bool false, .slice none 0 0, .slice none 0 0] 28), (.blk gE #[] 3), (.blk gR #[.bool false, .slice none 0 0, .slice none 0 0] 28), (.blk gB #[.bool b, .slice Ab1 lb1.length cb1, .slice Ab2 lb2.length cb2] 28), (.blk gK #[.bool a, .slice Aa1 la1.length ca1, .slice Aa2 la2.length ca2] 28)]) := Aside0.mk hF
                                clear HS hF
                                have HS := nS
                                clear nS
                                refine norm_ (a' := ?_) ?_ ?_
                                rotate_left
                                · simp only [putAll, Act.put, List.setIfInBounds_toArray, List.set_cons_zero, List.set_cons_succ]
                                  rfl
                                refine two_ (i := 4) (j := 5) (Ni := (some 12)) (Nj := (some 13)) #[true, true, true, true, true, false, false, true, false, true, false] #[true, true, true, true, false, true, false, true, false, true, false] rfl rfl rfl rfl (by kernel_rfl) (by decide) (by decide) (fun K hK => ?_) (fun K hK => ?_)
                                · skip
                                  refine goes_ Try.func88 (by kernel_rfl) rfl #[.slice Ab1 lb1.length cb1, .bool false] (by rfl) rfl rfl (by (try simp only [List.map_toArray, List.map_cons, List.map_nil]); first | done | rfl) ?_
                                  with_reducible refine (spec_l4Without.calls Ab1 cb1 lb1 false P1 _ (Kd.C_below Hb1.out HS.out.below) Kb1.out HWA.out).mono ?_
                                  rintro e v4 ⟨v_, rfl, hr4, hb4⟩
                                  obtain ⟨Ns, nc, hv_⟩ := Kd.R_slice hr4
                                  subst hv_
                                  have nS : Aside0 (Sx w v4 [(.row (.slice Ns P1.length nc) P1), (.blk gO #[.bool false, .slice none 0 0, .slice none 0 0] 28), (.blk gE #[] 3), (.blk gR #[.bool false, .slice none 0 0, .slice none 0 0] 28), (.blk gB #[.bool b, .slice Ab1 lb1.length cb1, .slice Ab2 lb2.length cb2] 28), (.blk gK #[.bool a, .slice Aa1 la1.length ca1, .slice Aa2 la2.length ca2] 28)]) := Aside0.mk (HS.out.addRow hb4 hr4)
                                  clear HS hb4
                                  have HS := nS
                                  clear nS
                                  refine ⟨_, rfl, ?_⟩
                                  refine hK.out _ _ ⟨(blk_cell (HS.out.blk 5 rfl) 0).trans rfl, (blk_cell (HS.out.blk 4 rfl) 1).trans rfl⟩ (fun hHeld => ?_)
                                  clear hK K
                                  refine norm_ (a' := ?_) ?_ ?_
                                  rotate_left
                                  · show Act.put _ (some 12) _ = _
                                    simp only [Act.put, List.setIfInBounds_toArray, List.set_cons_zero, List.set_cons_succ]
                                    rfl
                                  exact norm_ (by first | (simp only [putAll, Act.put, List.setIfInBounds_toArray, List.set_cons_zero, List.set_cons_succ]; done) | (simp only [putAll, Act.put, List.setIfInBounds_toArray, List.set_cons_zero, List.set_cons_succ]; rfl)) (hJ_4_7_9 (Ns, nc, gE, gO) _ (HS.out.perm (List.perm_middle (a := (Th.row (.slice Ns P1.length nc) P1)) (l₁ := [(Th.blk gO #[.bool false, .slice none 0 0, .slice none 0 0] 28), (Th.blk gE #[] 3)]) (l₂ := [(Th.blk gR #[.bool false, .slice none 0 0, .slice none 0 0] 28), (Th.blk gB #[.bool b, .slice Ab1 lb1.length cb1, .slice Ab2 lb2.length cb2] 28), (Th.blk gK #[.bool a, .slice Aa1 la1.length ca1, .slice Aa2 la2.length ca2] 28)])).symm))
                                · skip
                                  refine lit_step (by rfl) rfl #[.int .i64 1] 3 1 (by first | (go_simp; done) | (go_simp; rfl)) ?_
                                  intro gL wL hgL hxL hbL
                                  have nS : Aside0 (Sx w wL [(.blk gL #[.int .i64 1] 3), (.blk gO #[.bool false, .slice none 0 0, .slice none 0 0] 28), (.blk gE #[] 3), (.blk gR #[.bool false, .slice none 0 0, .slice none 0 0] 28), (.blk gB #[.bool b, .slice Ab1 lb1.length cb1, .slice Ab2 lb2.length cb2] 28), (.blk gK #[.bool a, .slice Aa1 la1.length ca1, .slice Aa2 la2.length ca2] 28)]) := Aside0.mk (HS.out.box hgL.symm hxL hbL)
                                  clear HS hgL hxL hbL
                                  have HS := nS
                                  clear nS
                                  refine hK.out _ _ ⟨(blk_cell (HS.out.blk 5 rfl) 0).trans rfl, (blk_cell (HS.out.blk 4 rfl) 1).trans rfl⟩ (fun hHeld => ?_)
                                  clear hK K
                                  refine norm_ (a' := ?_) ?_ ?_
                                  rotate_left
                                  · show Act.put _ (some 13) _ = _
                                    simp only [Act.put, List.setIfInBounds_toArray, List.set_cons_zero, List.set_cons_succ]
                                    rfl
                                  exact norm_ (by first | (simp only [putAll, Act.put, List.setIfInBounds_toArray, List.set_cons_zero, List.set_cons_succ]; done) | (simp only [putAll, Act.put, List.setIfInBounds_toArray, List.set_cons_zero, List.set_cons_succ]; rfl)) (hJ_5_7_9 (gL, gE, gO) _ (HS.out.perm (List.perm_middle (a := (Th.blk gL #[.int .i64 1] 3)) (l₁ := [(Th.blk gO #[.bool false, .slice none 0 0, .slice none 0 0] 28), (Th.blk gE #[] 3)]) (l₂ := [(Th.blk gR #[.bool false, .slice none 0 0, .slice none 0 0] 28), (Th.blk gB #[.bool b, .slice Ab1 lb1.length cb1, .slice Ab2 lb2.length cb2] 28), (Th.blk gK #[.bool a, .slice Aa1 la1.length ca1, .slice Aa2 la2.length ca2] 28)])).symm))
                            · intro s_ w_ hF
                              obtain ⟨gL, gO⟩ := s_
                              have nS : Aside0 (Sx w w_ [(.blk gO #[.bool false, .slice none 0 0, .slice none 0 0] 28), (.blk gL #[.int .i64 1] 3), (.blk gR #[.bool false, .slice none 0 0, .slice none 0 0] 28), (.blk gB #[.bool b, .slice Ab1 lb1.length cb1, .slice Ab2 lb2.length cb2] 28), (.blk gK #[.bool a, .slice Aa1 la1.length ca1, .slice Aa2 la2.length ca2] 28)]) := Aside0.mk hF
                              clear HS hF
                              have HS := nS
                              clear nS
                              refine norm_ (a' := ?_) ?_ ?_
                              rotate_left
                              · simp only [putAll, Act.put, List.setIfInBounds_toArray, List.set_cons_zero, List.set_cons_succ]
                                rfl
                              refine two_ (i := 4) (j := 7) (Ni := (some 12)) (Nj := (some 15)) #[true, true, true, true, true, true, false, false, false, true, false] #[true, true, true, true, false, true, false, true, false, true, false] rfl rfl rfl rfl (by kernel_rfl) (by decide) (by decide) (fun K hK => ?_) (fun K hK => ?_)
                              · skip
                                refine goes_ Try.func88 (by kernel_rfl) rfl #[.slice Ab1 lb1.length cb1, .bool false] (by rfl) rfl rfl (by (try simp only [List.map_toArray, List.map_cons, List.map_nil]); first | done | rfl) ?_
                                with_reducible refine (spec_l4Without.calls Ab1 cb1 lb1 false P1 _ (Kd.C_below Hb1.out HS.out.below) Kb1.out HWA.out).mono ?_
                                rintro e v4 ⟨v_, rfl, hr4, hb4⟩
                                obtain ⟨Ns, nc, hv_⟩ := Kd.R_slice hr4
                                subst hv_
                                have nS : Aside0 (Sx w v4 [(.row (.slice Ns P1.length nc) P1), (.blk gO #[.bool false, .slice none 0 0, .slice none 0 0] 28), (.blk gL #[.int .i64 1] 3), (.blk gR #[.bool false, .slice none 0 0, .slice none 0 0] 28), (.blk gB #[.bool b, .slice Ab1 lb1.length cb1, .slice Ab2 lb2.length cb2] 28), (.blk gK #[.bool a, .slice Aa1 la1.length ca1, .slice Aa2 la2.length ca2] 28)]) := Aside0.mk (HS.out.addRow hb4 hr4)
                                clear HS hb4
                                have HS := nS
                                clear nS
                                refine ⟨_, rfl, ?_⟩
                                refine hK.out _ _ ⟨(blk_cell (HS.out.blk 5 rfl) 0).trans rfl, (blk_cell (HS.out.blk 4 rfl) 1).trans rfl⟩ (fun hHeld => ?_)
                                clear hK K
                                refine norm_ (a' := ?_) ?_ ?_
                                rotate_left
                                · show Act.put _ (some 12) _ = _
                                  simp only [Act.put, List.setIfInBounds_toArray, List.set_cons_zero, List.set_cons_succ]
                                  rfl
                                exact norm_ (by first | (simp only [putAll, Act.put, List.setIfInBounds_toArray, List.set_cons_zero, List.set_cons_succ]; done) | (simp only [putAll, Act.put, List.setIfInBounds_toArray, List.set_cons_zero, List.set_cons_succ]; rfl)) (hJ_4_5_9 (Ns, nc, gL, gO) _ (HS.out.perm (List.perm_middle (a := (Th.row (.slice Ns P1.length nc) P1)) (l₁ := [(Th.blk gO #[.bool false, .slice none 0 0, .slice none 0 0] 28), (Th.blk gL #[.int .i64 1] 3)]) (l₂ := [(Th.blk gR #[.bool false, .slice none 0 0, .slice none 0 0] 28), (Th.blk gB #[.bool b, .slice Ab1 lb1.length cb1, .slice Ab2 lb2.length cb2] 28), (Th.blk gK #[.bool a, .slice Aa1 la1.length ca1, .slice Aa2 la2.length ca2] 28)])).symm))
                              · skip
                                refine lit_step (by rfl) rfl #[] 3 0 (by first | (go_simp; done) | (go_simp; rfl)) ?_
                                intro gE wE hgE hxE hbE
                                have nS : Aside0 (Sx w wE [(.blk gE #[] 3), (.blk gO #[.bool false, .slice none 0 0, .slice none 0 0] 28), (.blk gL #[.int .i64 1] 3), (.blk gR #[.bool false, .slice none 0 0, .slice none 0 0] 28), (.blk gB #[.bool b, .slice Ab1 lb1.length cb1, .slice Ab2 lb2.length cb2] 28), (.blk gK #[.bool a, .slice Aa1 la1.length ca1, .slice Aa2 la2.length ca2] 28)]) := Aside0.mk (HS.out.box hgE.symm hxE hbE)
                                clear HS hgE hxE hbE
                                have HS := nS
                                clear nS
                                refine hK.out _ _ ⟨(blk_cell (HS.out.blk 5 rfl) 0).trans rfl, (blk_cell (HS.out.blk 4 rfl) 1).trans rfl⟩ (fun hHeld => ?_)
                                clear hK K
                                refine norm_ (a' := ?_) ?_ ?_
                                rotate_left
                                · show Act.put _ (some 15) _ = _
                                  simp only [Act.put, List.setIfInBounds_toArray, List.set_cons_zero, List.set_cons_succ]
                                  rfl
                                exact norm_ (by first | (simp only [putAll, Act.put, List.setIfInBounds_toArray, List.set_cons_zero, List.set_cons_succ]; done) | (simp only [putAll, Act.put, List.setIfInBounds_toArray, List.set_cons_zero, List.set_cons_succ]; rfl)) (hJ_5_7_9 (gL, gE, gO) _ (HS.out.perm (List.perm_middle (a := (Th.blk gE #[] 3)) (l₁ := [(Th.blk gO #[.bool false, .slice none 0 0, .slice none 0 0] 28)]) (l₂ := [(Th.blk gL #[.int .i64 1] 3), (Th.blk gR #[.bool false, .slice none 0 0, .slice none 0 0] 28), (Th.blk gB #[.bool b, .slice Ab1 lb1.length cb1, .slice Ab2 lb2.length cb2] 28), (Th.blk gK #[.bool a, .slice Aa1 la1.length ca1, .slice Aa2 la2.length ca2] 28)])).symm))
                          · intro s_ w_ hF
                            obtain ⟨gL, gE⟩ := s_
                            have nS : Aside0 (Sx w w_ [(.blk gE #[] 3), (.blk gL #[.int .i64 1] 3), (.blk gR #[.bool false, .slice none 0 0, .slice none 0 0] 28), (.blk gB #[.bool b, .slice Ab1 lb1.length cb1, .slice Ab2 lb2.length cb2] 28), (.blk gK #[.bool a, .slice Aa1 la1.length ca1, .slice Aa2 la2.length ca2] 28)]) := Aside0.mk hF
                            clear HS hF
                            have HS := nS
                            clear nS
                            refine norm_ (a' := ?_) ?_ ?_
                            rotate_left
                            · simp only [putAll, Act.put, List.setIfInBounds_toArray, List.set_cons_zero, List.set_cons_succ]
                              rfl
                            refine two_ (i := 4) (j := 9) (Ni := (some 12)) (Nj := (some 5)) #[true, true, true, true, true, true, false, true, false, false, false] #[true, true, true, true, false, true, false, true, false, true, false] rfl rfl rfl rfl (by kernel_rfl) (by decide) (by decide) (fun K hK => ?_) (fun K hK => ?_)
                            · skip
                              refine goes_ Try.func88 (by kernel_rfl) rfl #[.slice Ab1 lb1.length cb1, .bool false] (by rfl) rfl rfl (by (try simp only [List.map_toArray, List.map_cons, List.map_nil]); first | done | rfl) ?_
                              with_reducible refine (spec_l4Without.calls Ab1 cb1 lb1 false P1 _ (Kd.C_below Hb1.out HS.out.below) Kb1.out HWA.out).mono ?_
                              rintro e v4 ⟨v_, rfl, hr4, hb4⟩
                              obtain ⟨Ns, nc, hv_⟩ := Kd.R_slice hr4
                              subst hv_
                              have nS : Aside0 (Sx w v4 [(.row (.slice Ns P1.length nc) P1), (.blk gE #[] 3), (.blk gL #[.int .i64 1] 3), (.blk gR #[.bool false, .slice none 0 0, .slice none 0 0] 28), (.blk gB #[.bool b, .slice Ab1 lb1.length cb1, .slice Ab2 lb2.length cb2] 28), (.blk gK #[.bool a, .slice Aa1 la1.length ca1, .slice Aa2 la2.length ca2] 28)]) := Aside0.mk (HS.out.addRow hb4 hr4)
                              clear HS hb4
                              have HS := nS
                              clear nS
                              refine ⟨_, rfl, ?_⟩
                              refine hK.out _ _ ⟨(blk_cell (HS.out.blk 5 rfl) 0).trans rfl, (blk_cell (HS.out.blk 4 rfl) 1).trans rfl⟩ (fun hHeld => ?_)
                              clear hK K
                              refine norm_ (a' := ?_) ?_ ?_
                              rotate_left
                              · show Act.put _ (some 12) _ = _
                                simp only [Act.put, List.setIfInBounds_toArray, List.set_cons_zero, List.set_cons_succ]
                                rfl
                              exact norm_ (by first | (simp only [putAll, Act.put, List.setIfInBounds_toArray, List.set_cons_zero, List.set_cons_succ]; done) | (simp only [putAll, Act.put, List.setIfInBounds_toArray, List.set_cons_zero, List.set_cons_succ]; rfl)) (hJ_4_5_7 (Ns, nc, gL, gE) _ (HS.out.perm (List.perm_middle (a := (Th.row (.slice Ns P1.length nc) P1)) (l₁ := [(Th.blk gE #[] 3), (Th.blk gL #[.int .i64 1] 3)]) (l₂ := [(Th.blk gR #[.bool false, .slice none 0 0, .slice none 0 0] 28), (Th.blk gB #[.bool b, .slice Ab1 lb1.length cb1, .slice Ab2 lb2.length cb2] 28), (Th.blk gK #[.bool a, .slice Aa1 la1.length ca1, .slice Aa2 la2.length ca2] 28)])).symm))
                            · skip
                              refine box_step ?hg (N := 5) ?hd (cs := #[.bool false, .slice none 0 0, .slice none 0 0]) (t := 28) ?hr ?_; (case hd => rfl); (case hg => rfl); (case hr => first | (go_simp; done) | (go_simp; rfl))
                              intro gO hgO wO hxO hbO
                              have nS : Aside0 (Sx w wO [(.blk gO #[.bool false, .slice none 0 0, .slice none 0 0] 28), (.blk gE #[] 3), (.blk gL #[.int .i64 1] 3), (.blk gR #[.bool false, .slice none 0 0, .slice none 0 0] 28), (.blk gB #[.bool b, .slice Ab1 lb1.length cb1, .slice Ab2 lb2.length cb2] 28), (.blk gK #[.bool a, .slice Aa1 la1.length ca1, .slice Aa2 la2.length ca2] 28)]) := Aside0.mk (HS.out.box hgO hxO hbO)
                              clear HS hgO hxO hbO
                              have HS := nS
                              clear nS
                              refine hK.out _ _ ⟨(blk_cell (HS.out.blk 5 rfl) 0).trans rfl, (blk_cell (HS.out.blk 4 rfl) 1).trans rfl⟩ (fun hHeld => ?_)
                              clear hK K
                              refine norm_ (a' := ?_) ?_ ?_
                              rotate_left
                              · show Act.put _ (some 5) _ = _
                                simp only [Act.put, List.setIfInBounds_toArray, List.set_cons_zero, List.set_cons_succ]
                                rfl
                              exact norm_ (by first | (simp only [putAll, Act.put, List.setIfInBounds_toArray, List.set_cons_zero, List.set_cons_succ]; done) | (simp only [putAll, Act.put, List.setIfInBounds_toArray, List.set_cons_zero, List.set_cons_succ]; rfl)) (hJ_5_7_9 (gL, gE, gO) _ (HS.out.perm (List.Perm.refl _)))
                        · intro s_ w_ hF
                          obtain ⟨Ns, nc, gO⟩ := s_
                          have nS : Aside0 (Sx w w_ [(.blk gO #[.bool false, .slice none 0 0, .slice none 0 0] 28), (.row (.slice Ns P1.length nc) P1), (.blk gR #[.bool false, .slice none 0 0, .slice none 0 0] 28), (.blk gB #[.bool b, .slice Ab1 lb1.length cb1, .slice Ab2 lb2.length cb2] 28), (.blk gK #[.bool a, .slice Aa1 la1.length ca1, .slice Aa2 la2.length ca2] 28)]) := Aside0.mk hF
                          clear HS hF
                          have HS := nS
                          clear nS
                          refine norm_ (a' := ?_) ?_ ?_
                          rotate_left
                          · simp only [putAll, Act.put, List.setIfInBounds_toArray, List.set_cons_zero, List.set_cons_succ]
                            rfl
                          refine two_ (i := 5) (j := 7) (Ni := (some 13)) (Nj := (some 15)) #[true, true, true, true, true, true, false, false, false, true, false] #[true, true, true, true, true, false, false, true, false, true, false] rfl rfl rfl rfl (by kernel_rfl) (by decide) (by decide) (fun K hK => ?_) (fun K hK => ?_)
                          · skip
                            refine lit_step (by rfl) rfl #[.int .i64 1] 3 1 (by first | (go_simp; done) | (go_simp; rfl)) ?_
                            intro gL wL hgL hxL hbL
                            have nS : Aside0 (Sx w wL [(.blk gL #[.int .i64 1] 3), (.blk gO #[.bool false, .slice none 0 0, .slice none 0 0] 28), (.row (.slice Ns P1.length nc) P1), (.blk gR #[.bool false, .slice none 0 0, .slice none 0 0] 28), (.blk gB #[.bool b, .slice Ab1 lb1.length cb1, .slice Ab2 lb2.length cb2] 28), (.blk gK #[.bool a, .slice Aa1 la1.length ca1, .slice Aa2 la2.length ca2] 28)]) := Aside0.mk (HS.out.box hgL.symm hxL hbL)
                            clear HS hgL hxL hbL
                            have HS := nS
                            clear nS
                            refine hK.out _ _ ⟨(blk_cell (HS.out.blk 5 rfl) 0).trans rfl, (blk_cell (HS.out.blk 4 rfl) 1).trans rfl⟩ (fun hHeld => ?_)
                            clear hK K
                            refine norm_ (a' := ?_) ?_ ?_
                            rotate_left
                            · show Act.put _ (some 13) _ = _
                              simp only [Act.put, List.setIfInBounds_toArray, List.set_cons_zero, List.set_cons_succ]
                              rfl
                            exact norm_ (by first | (simp only [putAll, Act.put, List.setIfInBounds_toArray, List.set_cons_zero, List.set_cons_succ]; done) | (simp only [putAll, Act.put, List.setIfInBounds_toArray, List.set_cons_zero, List.set_cons_succ]; rfl)) (hJ_4_5_9 (Ns, nc, gL, gO) _ (HS.out.perm (List.perm_middle (a := (Th.blk gL #[.int .i64 1] 3)) (l₁ := [(Th.blk gO #[.bool false, .slice none 0 0, .slice none 0 0] 28)]) (l₂ := [(Th.row (.slice Ns P1.length nc) P1), (Th.blk gR #[.bool false, .slice none 0 0, .slice none 0 0] 28), (Th.blk gB #[.bool b, .slice Ab1 lb1.length cb1, .slice Ab2 lb2.length cb2] 28), (Th.blk gK #[.bool a, .slice Aa1 la1.length ca1, .slice Aa2 la2.length ca2] 28)])).symm))
                          · skip
                            refine lit_step (by rfl) rfl #[] 3 0 (by first | (go_simp; done) | (go_simp; rfl)) ?_
                            intro gE wE hgE hxE hbE
                            have nS : Aside0 (Sx w wE [(.blk gE #[] 3), (.blk gO #[.bool false, .slice none 0 0, .slice none 0 0] 28), (.row (.slice Ns P1.length nc) P1), (.blk gR #[.bool false, .slice none 0 0, .slice none 0 0] 28), (.blk gB #[.bool b, .slice Ab1 lb1.length cb1, .slice Ab2 lb2.length cb2] 28), (.blk gK #[.bool a, .slice Aa1 la1.length ca1, .slice Aa2 la2.length ca2] 28)]) := Aside0.mk (HS.out.box hgE.symm hxE hbE)
                            clear HS hgE hxE hbE
                            have HS := nS
                            clear nS
                            refine hK.out _ _ ⟨(blk_cell (HS.out.blk 5 rfl) 0).trans rfl, (blk_cell (HS.out.blk 4 rfl) 1).trans rfl⟩ (fun hHeld => ?_)
                            clear hK K
                            refine norm_ (a' := ?_) ?_ ?_
                            rotate_left
                            · show Act.put _ (some 15) _ = _
                              simp only [Act.put, List.setIfInBounds_toArray, List.set_cons_zero, List.set_cons_succ]
                              rfl
                            exact norm_ (by first | (simp only [putAll, Act.put, List.setIfInBounds_toArray, List.set_cons_zero, List.set_cons_succ]; done) | (simp only [putAll, Act.put, List.setIfInBounds_toArray, List.set_cons_zero, List.set_cons_succ]; rfl)) (hJ_4_7_9 (Ns, nc, gE, gO) _ (HS.out.perm (List.perm_middle (a := (Th.blk gE #[] 3)) (l₁ := [(Th.blk gO #[.bool false, .slice none 0 0, .slice none 0 0] 28)]) (l₂ := [(Th.row (.slice Ns P1.length nc) P1), (Th.blk gR #[.bool false, .slice none 0 0, .slice none 0 0] 28), (Th.blk gB #[.bool b, .slice Ab1 lb1.length cb1, .slice Ab2 lb2.length cb2] 28), (Th.blk gK #[.bool a, .slice Aa1 la1.length ca1, .slice Aa2 la2.length ca2] 28)])).symm))
                      · intro s_ w_ hF
                        obtain ⟨Ns, nc, gE⟩ := s_
                        have nS : Aside0 (Sx w w_ [(.blk gE #[] 3), (.row (.slice Ns P1.length nc) P1), (.blk gR #[.bool false, .slice none 0 0, .slice none 0 0] 28), (.blk gB #[.bool b, .slice Ab1 lb1.length cb1, .slice Ab2 lb2.length cb2] 28), (.blk gK #[.bool a, .slice Aa1 la1.length ca1, .slice Aa2 la2.length ca2] 28)]) := Aside0.mk hF
                        clear HS hF
                        have HS := nS
                        clear nS
                        refine norm_ (a' := ?_) ?_ ?_
                        rotate_left
                        · simp only [putAll, Act.put, List.setIfInBounds_toArray, List.set_cons_zero, List.set_cons_succ]
                          rfl
                        refine two_ (i := 5) (j := 9) (Ni := (some 13)) (Nj := (some 5)) #[true, true, true, true, true, true, false, true, false, false, false] #[true, true, true, true, true, false, false, true, false, true, false] rfl rfl rfl rfl (by kernel_rfl) (by decide) (by decide) (fun K hK => ?_) (fun K hK => ?_)
                        · skip
                          refine lit_step (by rfl) rfl #[.int .i64 1] 3 1 (by first | (go_simp; done) | (go_simp; rfl)) ?_
                          intro gL wL hgL hxL hbL
                          have nS : Aside0 (Sx w wL [(.blk gL #[.int .i64 1] 3), (.blk gE #[] 3), (.row (.slice Ns P1.length nc) P1), (.blk gR #[.bool false, .slice none 0 0, .slice none 0 0] 28), (.blk gB #[.bool b, .slice Ab1 lb1.length cb1, .slice Ab2 lb2.length cb2] 28), (.blk gK #[.bool a, .slice Aa1 la1.length ca1, .slice Aa2 la2.length ca2] 28)]) := Aside0.mk (HS.out.box hgL.symm hxL hbL)
                          clear HS hgL hxL hbL
                          have HS := nS
                          clear nS
                          refine hK.out _ _ ⟨(blk_cell (HS.out.blk 5 rfl) 0).trans rfl, (blk_cell (HS.out.blk 4 rfl) 1).trans rfl⟩ (fun hHeld => ?_)
                          clear hK K
                          refine norm_ (a' := ?_) ?_ ?_
                          rotate_left
                          · show Act.put _ (some 13) _ = _
                            simp only [Act.put, List.setIfInBounds_toArray, List.set_cons_zero, List.set_cons_succ]
                            rfl
                          exact norm_ (by first | (simp only [putAll, Act.put, List.setIfInBounds_toArray, List.set_cons_zero, List.set_cons_succ]; done) | (simp only [putAll, Act.put, List.setIfInBounds_toArray, List.set_cons_zero, List.set_cons_succ]; rfl)) (hJ_4_5_7 (Ns, nc, gL, gE) _ (HS.out.perm (List.perm_middle (a := (Th.blk gL #[.int .i64 1] 3)) (l₁ := [(Th.blk gE #[] 3)]) (l₂ := [(Th.row (.slice Ns P1.length nc) P1), (Th.blk gR #[.bool false, .slice none 0 0, .slice none 0 0] 28), (Th.blk gB #[.bool b, .slice Ab1 lb1.length cb1, .slice Ab2 lb2.length cb2] 28), (Th.blk gK #[.bool a, .slice Aa1 la1.length ca1, .slice Aa2 la2.length ca2] 28)])).symm))
                        · skip
                          refine box_step ?hg (N := 5) ?hd (cs := #[.bool false, .slice none 0 0, .slice none 0 0]) (t := 28) ?hr ?_; (case hd => rfl); (case hg => rfl); (case hr => first | (go_simp; done) | (go_simp; rfl))
                          intro gO hgO wO hxO hbO
                          have nS : Aside0 (Sx w wO [(.blk gO #[.bool false, .slice none 0 0, .slice none 0 0] 28), (.blk gE #[] 3), (.row (.slice Ns P1.length nc) P1), (.blk gR #[.bool false, .slice none 0 0, .slice none 0 0] 28), (.blk gB #[.bool b, .slice Ab1 lb1.length cb1, .slice Ab2 lb2.length cb2] 28), (.blk gK #[.bool a, .slice Aa1 la1.length ca1, .slice Aa2 la2.length ca2] 28)]) := Aside0.mk (HS.out.box hgO hxO hbO)
                          clear HS hgO hxO hbO
                          have HS := nS
                          clear nS
                          refine hK.out _ _ ⟨(blk_cell (HS.out.blk 5 rfl) 0).trans rfl, (blk_cell (HS.out.blk 4 rfl) 1).trans rfl⟩ (fun hHeld => ?_)
                          clear hK K
                          refine norm_ (a' := ?_) ?_ ?_
                          rotate_left
                          · show Act.put _ (some 5) _ = _
                            simp only [Act.put, List.setIfInBounds_toArray, List.set_cons_zero, List.set_cons_succ]
                            rfl
                          exact norm_ (by first | (simp only [putAll, Act.put, List.setIfInBounds_toArray, List.set_cons_zero, List.set_cons_succ]; done) | (simp only [putAll, Act.put, List.setIfInBounds_toArray, List.set_cons_zero, List.set_cons_succ]; rfl)) (hJ_4_7_9 (Ns, nc, gE, gO) _ (HS.out.perm (List.Perm.refl _)))
                    · intro s_ w_ hF
                      obtain ⟨Ns, nc, gL⟩ := s_
                      have nS : Aside0 (Sx w w_ [(.blk gL #[.int .i64 1] 3), (.row (.slice Ns P1.length nc) P1), (.blk gR #[.bool false, .slice none 0 0, .slice none 0 0] 28), (.blk gB #[.bool b, .slice Ab1 lb1.length cb1, .slice Ab2 lb2.length cb2] 28), (.blk gK #[.bool a, .slice Aa1 la1.length ca1, .slice Aa2 la2.length ca2] 28)]) := Aside0.mk hF
                      clear HS hF
                      have HS := nS
                      clear nS
                      refine norm_ (a' := ?_) ?_ ?_
                      rotate_left
                      · simp only [putAll, Act.put, List.setIfInBounds_toArray, List.set_cons_zero, List.set_cons_succ]
                        rfl
                      refine three_ (i := 6) (j := 7) (k := 9) (Ni := (some 14)) (Nj := (some 15)) (Nk := (some 5)) #[true, true, true, true, true, true, true, false, false, false, false] #[true, true, true, true, true, true, false, true, false, false, false] #[true, true, true, true, true, true, false, false, false, true, false] rfl rfl rfl rfl rfl rfl (by kernel_rfl) (by decide) (by decide) (by decide) (fun K hK => ?_) (fun K hK => ?_) (fun K hK => ?_)
                      · skip
                        refine HS.out.appendRows_step 1 rfl P1.length (P1.length + 1) rfl (by rfl) (.tmp 12) (.tmp 13) rfl Try.underlying22 info3 (some ⟨gL, 0, none⟩) 1 1 [1] (P1 ++ [1]) rfl rfl rfl (rowI_C (l := [1]) (HS.out.blk 0 rfl) (by simp)) rfl rfl (by have := HP5.out; omega) ?_
                        intro Aj cj wJ nJ
                        have nS : Aside0 (Sx w wJ [(.blk gL #[.int .i64 1] 3), (.row (.slice Aj (P1.length + 1) cj) (P1 ++ [1])), (.blk gR #[.bool false, .slice none 0 0, .slice none 0 0] 28), (.blk gB #[.bool b, .slice Ab1 lb1.length cb1, .slice Ab2 lb2.length cb2] 28), (.blk gK #[.bool a, .slice Aa1 la1.length ca1, .slice Aa2 la2.length ca2] 28)]) := Aside0.mk (nJ)
                        clear HS nJ
                        have HS := nS
                        clear nS
                        refine hK.out _ _ ⟨(blk_cell (HS.out.blk 4 rfl) 0).trans rfl, (blk_cell (HS.out.blk 3 rfl) 1).trans rfl⟩ (fun hHeld => ?_)
                        clear hK K
                        refine norm_ (a' := ?_) ?_ ?_
                        rotate_left
                        · show Act.put _ (some 14) _ = _
                          simp only [Act.put, List.setIfInBounds_toArray, List.set_cons_zero, List.set_cons_succ]
                          rfl
                        exact norm_ (by first | (simp only [putAll, Act.put, List.setIfInBounds_toArray, List.set_cons_zero, List.set_cons_succ]; done) | (simp only [putAll, Act.put, List.setIfInBounds_toArray, List.set_cons_zero, List.set_cons_succ]; rfl)) (hJ_4_5_6 (Ns, nc, gL, Aj, cj) _ (HS.out.perm (List.Perm.refl _)))
                      · skip
                        refine lit_step (by rfl) rfl #[] 3 0 (by first | (go_simp; done) | (go_simp; rfl)) ?_
                        intro gE wE hgE hxE hbE
                        have nS : Aside0 (Sx w wE [(.blk gE #[] 3), (.blk gL #[.int .i64 1] 3), (.row (.slice Ns P1.length nc) P1), (.blk gR #[.bool false, .slice none 0 0, .slice none 0 0] 28), (.blk gB #[.bool b, .slice Ab1 lb1.length cb1, .slice Ab2 lb2.length cb2] 28), (.blk gK #[.bool a, .slice Aa1 la1.length ca1, .slice Aa2 la2.length ca2] 28)]) := Aside0.mk (HS.out.box hgE.symm hxE hbE)
                        clear HS hgE hxE hbE
                        have HS := nS
                        clear nS
                        refine hK.out _ _ ⟨(blk_cell (HS.out.blk 5 rfl) 0).trans rfl, (blk_cell (HS.out.blk 4 rfl) 1).trans rfl⟩ (fun hHeld => ?_)
                        clear hK K
                        refine norm_ (a' := ?_) ?_ ?_
                        rotate_left
                        · show Act.put _ (some 15) _ = _
                          simp only [Act.put, List.setIfInBounds_toArray, List.set_cons_zero, List.set_cons_succ]
                          rfl
                        exact norm_ (by first | (simp only [putAll, Act.put, List.setIfInBounds_toArray, List.set_cons_zero, List.set_cons_succ]; done) | (simp only [putAll, Act.put, List.setIfInBounds_toArray, List.set_cons_zero, List.set_cons_succ]; rfl)) (hJ_4_5_7 (Ns, nc, gL, gE) _ (HS.out.perm (List.Perm.refl _)))
                      · skip
                        refine box_step ?hg (N := 5) ?hd (cs := #[.bool false, .slice none 0 0, .slice none 0 0]) (t := 28) ?hr ?_; (case hd => rfl); (case hg => rfl); (case hr => first | (go_simp; done) | (go_simp; rfl))
                        intro gO hgO wO hxO hbO
                        have nS : Aside0 (Sx w wO [(.blk gO #[.bool false, .slice none 0 0, .slice none 0 0] 28), (.blk gL #[.int .i64 1] 3), (.row (.slice Ns P1.length nc) P1), (.blk gR #[.bool false, .slice none 0 0, .slice none 0 0] 28), (.blk gB #[.bool b, .slice Ab1 lb1.length cb1, .slice Ab2 lb2.length cb2] 28), (.blk gK #[.bool a, .slice Aa1 la1.length ca1, .slice Aa2 la2.length ca2] 28)]) := Aside0.mk (HS.out.box hgO hxO hbO)
                        clear HS hgO hxO hbO
                        have HS := nS
                        clear nS
                        refine hK.out _ _ ⟨(blk_cell (HS.out.blk 5 rfl) 0).trans rfl, (blk_cell (HS.out.blk 4 rfl) 1).trans rfl⟩ (fun hHeld => ?_)
                        clear hK K
                        refine norm_ (a' := ?_) ?_ ?_
                        rotate_left
                        · show Act.put _ (some 5) _ = _
                          simp only [Act.put, List.setIfInBounds_toArray, List.set_cons_zero, List.set_cons_succ]
                          rfl
                        exact norm_ (by first | (simp only [putAll, Act.put, List.setIfInBounds_toArray, List.set_cons_zero, List.set_cons_succ]; done) | (simp only [putAll, Act.put, List.setIfInBounds_toArray, List.set_cons_zero, List.set_cons_succ]; rfl)) (hJ_4_5_9 (Ns, nc, gL, gO) _ (HS.out.perm (List.Perm.refl _)))
                  · intro s_ w_ hF
                    obtain ⟨gL, gE, gO⟩ := s_
                    have nS : Aside0 (Sx w w_ [(.blk gO #[.bool false, .slice none 0 0, .slice none 0 0] 28), (.blk gE #[] 3), (.blk gL #[.int .i64 1] 3), (.blk gR #[.bool false, .slice none 0 0, .slice none 0 0] 28), (.blk gB #[.bool b, .slice Ab1 lb1.length cb1, .slice Ab2 lb2.length cb2] 28), (.blk gK #[.bool a, .slice Aa1 la1.length ca1, .slice Aa2 la2.length ca2] 28)]) := Aside0.mk hF
                    clear HS hF
                    have HS := nS
                    clear nS
                    refine norm_ (a' := ?_) ?_ ?_
                    rotate_left
                    · simp only [putAll, Act.put, List.setIfInBounds_toArray, List.set_cons_zero, List.set_cons_succ]
                      rfl
                    refine one_ (i := 4) (N := (some 12)) #[true, true, true, true, true, true, false, true, false, true, false] rfl rfl (by kernel_rfl) (by decide) (fun K hK => ?_)
                    refine goes_ Try.func88 (by kernel_rfl) rfl #[.slice Ab1 lb1.length cb1, .bool false] (by rfl) rfl rfl (by (try simp only [List.map_toArray, List.map_cons, List.map_nil]); first | done | rfl) ?_
                    with_reducible refine (spec_l4Without.calls Ab1 cb1 lb1 false P1 _ (Kd.C_below Hb1.out HS.out.below) Kb1.out HWA.out).mono ?_
                    rintro e v4 ⟨v_, rfl, hr4, hb4⟩
                    obtain ⟨Ns, nc, hv_⟩ := Kd.R_slice hr4
                    subst hv_
                    have nS : Aside0 (Sx w v4 [(.row (.slice Ns P1.length nc) P1), (.blk gO #[.bool false, .slice none 0 0, .slice none 0 0] 28), (.blk gE #[] 3), (.blk gL #[.int .i64 1] 3), (.blk gR #[.bool false, .slice none 0 0, .slice none 0 0] 28), (.blk gB #[.bool b, .slice Ab1 lb1.length cb1, .slice Ab2 lb2.length cb2] 28), (.blk gK #[.bool a, .slice Aa1 la1.length ca1, .slice Aa2 la2.length ca2] 28)]) := Aside0.mk (HS.out.addRow hb4 hr4)
                    clear HS hb4
                    have HS := nS
                    clear nS
                    refine ⟨_, rfl, ?_⟩
                    refine hK.out _ _ ⟨(blk_cell (HS.out.blk 6 rfl) 0).trans rfl, (blk_cell (HS.out.blk 5 rfl) 1).trans rfl⟩ (fun hHeld => ?_)
                    clear hK K
                    refine norm_ (a' := ?_) ?_ ?_
                    rotate_left
                    · show Act.put _ (some 12) _ = _
                      simp only [Act.put, List.setIfInBounds_toArray, List.set_cons_zero, List.set_cons_succ]
                      rfl
                    exact norm_ (by first | (simp only [putAll, Act.put, List.setIfInBounds_toArray, List.set_cons_zero, List.set_cons_succ]; done) | (simp only [putAll, Act.put, List.setIfInBounds_toArray, List.set_cons_zero, List.set_cons_succ]; rfl)) (hJ_4_5_7_9 (Ns, nc, gL, gE, gO) _ (HS.out.perm (List.perm_middle (a := (Th.row (.slice Ns P1.length nc) P1)) (l₁ := [(Th.blk gO #[.bool false, .slice none 0 0, .slice none 0 0] 28), (Th.blk gE #[] 3), (Th.blk gL #[.int .i64 1] 3)]) (l₂ := [(Th.blk gR #[.bool false, .slice none 0 0, .slice none 0 0] 28), (Th.blk gB #[.bool b, .slice Ab1 lb1.length cb1, .slice Ab2 lb2.length cb2] 28), (Th.blk gK #[.bool a, .slice Aa1 la1.length ca1, .slice Aa2 la2.length ca2] 28)])).symm))
                · intro s_ w_ hF
                  obtain ⟨Ns, nc, gE, gO⟩ := s_
                  have nS : Aside0 (Sx w w_ [(.blk gO #[.bool false, .slice none 0 0, .slice none 0 0] 28), (.blk gE #[] 3), (.row (.slice Ns P1.length nc) P1), (.blk gR #[.bool false, .slice none 0 0, .slice none 0 0] 28), (.blk gB #[.bool b, .slice Ab1 lb1.length cb1, .slice Ab2 lb2.length cb2] 28), (.blk gK #[.bool a, .slice Aa1 la1.length ca1, .slice Aa2 la2.length ca2] 28)]) := Aside0.mk hF
                  clear HS hF
                  have HS := nS
                  clear nS
                  refine norm_ (a' := ?_) ?_ ?_
                  rotate_left
                  · simp only [putAll, Act.put, List.setIfInBounds_toArray, List.set_cons_zero, List.set_cons_succ]
                    rfl
                  refine one_ (i := 5) (N := (some 13)) #[true, true, true, true, true, true, false, true, false, true, false] rfl rfl (by kernel_rfl) (by decide) (fun K hK => ?_)
                  refine lit_step (by rfl) rfl #[.int .i64 1] 3 1 (by first | (go_simp; done) | (go_simp; rfl)) ?_
                  intro gL wL hgL hxL hbL
                  have nS : Aside0 (Sx w wL [(.blk gL #[.int .i64 1] 3), (.blk gO #[.bool false, .slice none 0 0, .slice none 0 0] 28), (.blk gE #[] 3), (.row (.slice Ns P1.length nc) P1), (.blk gR #[.bool false, .slice none 0 0, .slice none 0 0] 28), (.blk gB #[.bool b, .slice Ab1 lb1.length cb1, .slice Ab2 lb2.length cb2] 28), (.blk gK #[.bool a, .slice Aa1 la1.length ca1, .slice Aa2 la2.length ca2] 28)]) := Aside0.mk (HS.out.box hgL.symm hxL hbL)
                  clear HS hgL hxL hbL
                  have HS := nS
                  clear nS
                  refine hK.out _ _ ⟨(blk_cell (HS.out.blk 6 rfl) 0).trans rfl, (blk_cell (HS.out.blk 5 rfl) 1).trans rfl⟩ (fun hHeld => ?_)
                  clear hK K
                  refine norm_ (a' := ?_) ?_ ?_
                  rotate_left
                  · show Act.put _ (some 13) _ = _
                    simp only [Act.put, List.setIfInBounds_toArray, List.set_cons_zero, List.set_cons_succ]
                    rfl
                  exact norm_ (by first | (simp only [putAll, Act.put, List.setIfInBounds_toArray, List.set_cons_zero, List.set_cons_succ]; done) | (simp only [putAll, Act.put, List.setIfInBounds_toArray, List.set_cons_zero, List.set_cons_succ]; rfl)) (hJ_4_5_7_9 (Ns, nc, gL, gE, gO) _ (HS.out.perm (List.perm_middle (a := (Th.blk gL #[.int .i64 1] 3)) (l₁ := [(Th.blk gO #[.bool false, .slice none 0 0, .slice none 0 0] 28), (Th.blk gE #[] 3)]) (l₂ := [(Th.row (.slice Ns P1.length nc) P1), (Th.blk gR #[.bool false, .slice none 0 0, .slice none 0 0] 28), (Th.blk gB #[.bool b, .slice Ab1 lb1.length cb1, .slice Ab2 lb2.length cb2] 28), (Th.blk gK #[.bool a, .slice Aa1 la1.length ca1, .slice Aa2 la2.length ca2] 28)])).symm))
              · intro s_ w_ hF
                obtain ⟨Ns, nc, gL, gO⟩ := s_
                have nS : Aside0 (Sx w w_ [(.blk gO #[.bool false, .slice none 0 0, .slice none 0 0] 28), (.blk gL #[.int .i64 1] 3), (.row (.slice Ns P1.length nc) P1), (.blk gR #[.bool false, .slice none 0 0, .slice none 0 0] 28), (.blk gB #[.bool b, .slice Ab1 lb1.length cb1, .slice Ab2 lb2.length cb2] 28), (.blk gK #[.bool a, .slice Aa1 la1.length ca1, .slice Aa2 la2.length ca2] 28)]) := Aside0.mk hF
                clear HS hF
                have HS := nS
                clear nS
                refine norm_ (a' := ?_) ?_ ?_
                rotate_left
                · simp only [putAll, Act.put, List.setIfInBounds_toArray, List.set_cons_zero, List.set_cons_succ]
                  rfl
                refine two_ (i := 6) (j := 7) (Ni := (some 14)) (Nj := (some 15)) #[true, true, true, true, true, true, true, false, false, true, false] #[true, true, true, true, true, true, false, true, false, true, false] rfl rfl rfl rfl (by kernel_rfl) (by decide) (by decide) (fun K hK => ?_) (fun K hK => ?_)
                · skip
                  refine HS.out.appendRows_step 2 rfl P1.length (P1.length + 1) rfl (by rfl) (.tmp 12) (.tmp 13) rfl Try.underlying22 info3 (some ⟨gL, 0, none⟩) 1 1 [1] (P1 ++ [1]) rfl rfl rfl (rowI_C (l := [1]) (HS.out.blk 1 rfl) (by simp)) rfl rfl (by have := HP5.out; omega) ?_
                  intro Aj cj wJ nJ
                  have nS : Aside0 (Sx w wJ [(.blk gO #[.bool false, .slice none 0 0, .slice none 0 0] 28), (.blk gL #[.int .i64 1] 3), (.row (.slice Aj (P1.length + 1) cj) (P1 ++ [1])), (.blk gR #[.bool false, .slice none 0 0, .slice none 0 0] 28), (.blk gB #[.bool b, .slice Ab1 lb1.length cb1, .slice Ab2 lb2.length cb2] 28), (.blk gK #[.bool a, .slice Aa1 la1.length ca1, .slice Aa2 la2.length ca2] 28)]) := Aside0.mk (nJ)
                  clear HS nJ
                  have HS := nS
                  clear nS
                  refine hK.out _ _ ⟨(blk_cell (HS.out.blk 5 rfl) 0).trans rfl, (blk_cell (HS.out.blk 4 rfl) 1).trans rfl⟩ (fun hHeld => ?_)
                  clear hK K
                  refine norm_ (a' := ?_) ?_ ?_
                  rotate_left
                  · show Act.put _ (some 14) _ = _
                    simp only [Act.put, List.setIfInBounds_toArray, List.set_cons_zero, List.set_cons_succ]
                    rfl
                  exact norm_ (by first | (simp only [putAll, Act.put, List.setIfInBounds_toArray, List.set_cons_zero, List.set_cons_succ]; done) | (simp only [putAll, Act.put, List.setIfInBounds_toArray, List.set_cons_zero, List.set_cons_succ]; rfl)) (hJ_4_5_6_9 (Ns, nc, gL, Aj, cj, gO) _ (HS.out.perm (List.Perm.refl _)))
                · skip
                  refine lit_step (by rfl) rfl #[] 3 0 (by first | (go_simp; done) | (go_simp; rfl)) ?_
                  intro gE wE hgE hxE hbE
                  have nS : Aside0 (Sx w wE [(.blk gE #[] 3), (.blk gO #[.bool false, .slice none 0 0, .slice none 0 0] 28), (.blk gL #[.int .i64 1] 3), (.row (.slice Ns P1.length nc) P1), (.blk gR #[.bool false, .slice none 0 0, .slice none 0 0] 28), (.blk gB #[.bool b, .slice Ab1 lb1.length cb1, .slice Ab2 lb2.length cb2] 28), (.blk gK #[.bool a, .slice Aa1 la1.length ca1, .slice Aa2 la2.length ca2] 28)]) := Aside0.mk (HS.out.box hgE.symm hxE hbE)
                  clear HS hgE hxE hbE
                  have HS := nS
                  clear nS
                  refine hK.out _ _ ⟨(blk_cell (HS.out.blk 6 rfl) 0).trans rfl, (blk_cell (HS.out.blk 5 rfl) 1).trans rfl⟩ (fun hHeld => ?_)
                  clear hK K
                  refine norm_ (a' := ?_) ?_ ?_
                  rotate_left
                  · show Act.put _ (some 15) _ = _
                    simp only [Act.put, List.setIfInBounds_toArray, List.set_cons_zero, List.set_cons_succ]
                    rfl
                  exact norm_ (by first | (simp only [putAll, Act.put, List.setIfInBounds_toArray, List.set_cons_zero, List.set_cons_succ]; done) | (simp only [putAll, Act.put, List.setIfInBounds_toArray, List.set_cons_zero, List.set_cons_succ]; rfl)) (hJ_4_5_7_9 (Ns, nc, gL, gE, gO) _ (HS.out.perm (List.perm_middle (a := (Th.blk gE #[] 3)) (l₁ := [(Th.blk gO #[.bool false, .slice none 0 0, .slice none 0 0] 28)]) (l₂ := [(Th.blk gL #[.int .i64 1] 3), (Th.row (.slice Ns P1.length nc) P1), (Th.blk gR #[.bool false, .slice none 0 0, .slice none 0 0] 28), (Th.blk gB #[.bool b, .slice Ab1 lb1.length cb1, .slice Ab2 lb2.length cb2] 28), (Th.blk gK #[.bool a, .slice Aa1 la1.length ca1, .slice Aa2 la2.length ca2] 28)])).symm))
            · intro s_ w_ hF
              obtain ⟨Ns, nc, gL, gE⟩ := s_
              have nS : Aside0 (Sx w w_ [(.blk gE #[] 3), (.blk gL #[.int .i64 1] 3), (.row (.slice Ns P1.length nc) P1), (.blk gR #[.bool false, .slice none 0 0, .slice none 0 0] 28), (.blk gB #[.bool b, .slice Ab1 lb1.length cb1, .slice Ab2 lb2.length cb2] 28), (.blk gK #[.bool a, .slice Aa1 la1.length ca1, .slice Aa2 la2.length ca2] 28)]) := Aside0.mk hF
              clear HS hF
              have HS := nS
              clear nS
              refine norm_ (a' := ?_) ?_ ?_
              rotate_left
              · simp only [putAll, Act.put, List.setIfInBounds_toArray, List.set_cons_zero, List.set_cons_succ]
                rfl
              refine two_ (i := 6) (j := 9) (Ni := (some 14)) (Nj := (some 5)) #[true, true, true, true, true, true, true, true, false, false, false] #[true, true, true, true, true, true, false, true, false, true, false] rfl rfl rfl rfl (by kernel_rfl) (by decide) (by decide) (fun K hK => ?_) (fun K hK => ?_)
              · skip
                refine HS.out.appendRows_step 2 rfl P1.length (P1.length + 1) rfl (by rfl) (.tmp 12) (.tmp 13) rfl Try.underlying22 info3 (some ⟨gL, 0, none⟩) 1 1 [1] (P1 ++ [1]) rfl rfl rfl (rowI_C (l := [1]) (HS.out.blk 1 rfl) (by simp)) rfl rfl (by have := HP5.out; omega) ?_
                intro Aj cj wJ nJ
                have nS : Aside0 (Sx w wJ [(.blk gE #[] 3), (.blk gL #[.int .i64 1] 3), (.row (.slice Aj (P1.length + 1) cj) (P1 ++ [1])), (.blk gR #[.bool false, .slice none 0 0, .slice none 0 0] 28), (.blk gB #[.bool b, .slice Ab1 lb1.length cb1, .slice Ab2 lb2.length cb2] 28), (.blk gK #[.bool a, .slice Aa1 la1.length ca1, .slice Aa2 la2.length ca2] 28)]) := Aside0.mk (nJ)
                clear HS nJ
                have HS := nS
                clear nS
                refine hK.out _ _ ⟨(blk_cell (HS.out.blk 5 rfl) 0).trans rfl, (blk_cell (HS.out.blk 4 rfl) 1).trans rfl⟩ (fun hHeld => ?_)
                clear hK K
                refine norm_ (a' := ?_) ?_ ?_
                rotate_left
                · show Act.put _ (some 14) _ = _
                  simp only [Act.put, List.setIfInBounds_toArray, List.set_cons_zero, List.set_cons_succ]
                  rfl
                refine pure_ (i := 8) (N := (some 16)) (v := ?_) (a' := ?_) #[true, true, true, true, true, true, true, true, true, false, false] rfl rfl (by kernel_rfl) (fun _ _ _ h => h) (Or.inl ⟨by rfl, ?_⟩) ?_ ?_
                rotate_left
                · intro w'
                  go_simp
                  with_reducible rfl
                rotate_left
                · simp only [Act.put, List.setIfInBounds_toArray, List.set_cons_zero, List.set_cons_succ]
                  rfl
                exact norm_ (by first | (simp only [putAll, Act.put, List.setIfInBounds_toArray, List.set_cons_zero, List.set_cons_succ]; done) | (simp only [putAll, Act.put, List.setIfInBounds_toArray, List.set_cons_zero, List.set_cons_succ]; rfl)) (hJ_4_5_6_7 (Ns, nc, gL, Aj, cj, gE) _ (HS.out.perm (List.Perm.refl _)))
              · skip
                refine box_step ?hg (N := 5) ?hd (cs := #[.bool false, .slice none 0 0, .slice none 0 0]) (t := 28) ?hr ?_; (case hd => rfl); (case hg => rfl); (case hr => first | (go_simp; done) | (go_simp; rfl))
                intro gO hgO wO hxO hbO
                have nS : Aside0 (Sx w wO [(.blk gO #[.bool false, .slice none 0 0, .slice none 0 0] 28), (.blk gE #[] 3), (.blk gL #[.int .i64 1] 3), (.row (.slice Ns P1.length nc) P1), (.blk gR #[.bool false, .slice none 0 0, .slice none 0 0] 28), (.blk gB #[.bool b, .slice Ab1 lb1.length cb1, .slice Ab2 lb2.length cb2] 28), (.blk gK #[.bool a, .slice Aa1 la1.length ca1, .slice Aa2 la2.length ca2] 28)]) := Aside0.mk (HS.out.box hgO hxO hbO)
                clear HS hgO hxO hbO
                have HS := nS
                clear nS
                refine hK.out _ _ ⟨(blk_cell (HS.out.blk 6 rfl) 0).trans rfl, (blk_cell (HS.out.blk 5 rfl) 1).trans rfl⟩ (fun hHeld => ?_)
                clear hK K
                refine norm_ (a' := ?_) ?_ ?_
                rotate_left
                · show Act.put _ (some 5) _ = _
                  simp only [Act.put, List.setIfInBounds_toArray, List.set_cons_zero, List.set_cons_succ]
                  rfl
                exact norm_ (by first | (simp only [putAll, Act.put, List.setIfInBounds_toArray, List.set_cons_zero, List.set_cons_succ]; done) | (simp only [putAll, Act.put, List.setIfInBounds_toArray, List.set_cons_zero, List.set_cons_succ]; rfl)) (hJ_4_5_7_9 (Ns, nc, gL, gE, gO) _ (HS.out.perm (List.Perm.refl _)))
          · intro s_ w_ hF
            obtain ⟨Ns, nc, gL, Aj, cj⟩ := s_
            have nS : Aside0 (Sx w w_ [(.blk gL #[.int .i64 1] 3), (.row (.slice Aj (P1.length + 1) cj) (P1 ++ [1])), (.blk gR #[.bool false, .slice none 0 0, .slice none 0 0] 28), (.blk gB #[.bool b, .slice Ab1 lb1.length cb1, .slice Ab2 lb2.length cb2] 28), (.blk gK #[.bool a, .slice Aa1 la1.length ca1, .slice Aa2 la2.length ca2] 28)]) := Aside0.mk hF
            clear HS hF
            have HS := nS
            clear nS
            refine norm_ (a' := ?_) ?_ ?_
            rotate_left
            · simp only [putAll, Act.put, List.setIfInBounds_toArray, List.set_cons_zero, List.set_cons_succ]
              rfl
            refine two_ (i := 7) (j := 9) (Ni := (some 15)) (Nj := (some 5)) #[true, true, true, true, true, true, true, true, false, false, false] #[true, true, true, true, true, true, true, false, false, true, false] rfl rfl rfl rfl (by kernel_rfl) (by decide) (by decide) (fun K hK => ?_) (fun K hK => ?_)
            · skip
              refine lit_step (by rfl) rfl #[] 3 0 (by first | (go_simp; done) | (go_simp; rfl)) ?_
              intro gE wE hgE hxE hbE
              have nS : Aside0 (Sx w wE [(.blk gE #[] 3), (.blk gL #[.int .i64 1] 3), (.row (.slice Aj (P1.length + 1) cj) (P1 ++ [1])), (.blk gR #[.bool false, .slice none 0 0, .slice none 0 0] 28), (.blk gB #[.bool b, .slice Ab1 lb1.length cb1, .slice Ab2 lb2.length cb2] 28), (.blk gK #[.bool a, .slice Aa1 la1.length ca1, .slice Aa2 la2.length ca2] 28)]) := Aside0.mk (HS.out.box hgE.symm hxE hbE)
              clear HS hgE hxE hbE
              have HS := nS
              clear nS
              refine hK.out _ _ ⟨(blk_cell (HS.out.blk 5 rfl) 0).trans rfl, (blk_cell (HS.out.blk 4 rfl) 1).trans rfl⟩ (fun hHeld => ?_)
              clear hK K
              refine norm_ (a' := ?_) ?_ ?_
              rotate_left
              · show Act.put _ (some 15) _ = _
                simp only [Act.put, List.setIfInBounds_toArray, List.set_cons_zero, List.set_cons_succ]
                rfl
              refine pure_ (i := 8) (N := (some 16)) (v := ?_) (a' := ?_) #[true, true, true, true, true, true, true, true, true, false, false] rfl rfl (by kernel_rfl) (fun _ _ _ h => h) (Or.inl ⟨by rfl, ?_⟩) ?_ ?_
              rotate_left
              · intro w'
                go_simp
                with_reducible rfl
              rotate_left
              · simp only [Act.put, List.setIfInBounds_toArray, List.set_cons_zero, List.set_cons_succ]
                rfl
              exact norm_ (by first | (simp only [putAll, Act.put, List.setIfInBounds_toArray, List.set_cons_zero, List.set_cons_succ]; done) | (simp only [putAll, Act.put, List.setIfInBounds_toArray, List.set_cons_zero, List.set_cons_succ]; rfl)) (hJ_4_5_6_7 (Ns, nc, gL, Aj, cj, gE) _ (HS.out.perm (List.Perm.refl _)))
            · skip
              refine box_step ?hg (N := 5) ?hd (cs := #[.bool false, .slice none 0 0, .slice none 0 0]) (t := 28) ?hr ?_; (case hd => rfl); (case hg => rfl); (case hr => first | (go_simp; done) | (go_simp; rfl))
              intro gO hgO wO hxO hbO
              have nS : Aside0 (Sx w wO [(.blk gO #[.bool false, .slice none 0 0, .slice none 0 0] 28), (.blk gL #[.int .i64 1] 3), (.row (.slice Aj (P1.length + 1) cj) (P1 ++ [1])), (.blk gR #[.bool false, .slice none 0 0, .slice none 0 0] 28), (.blk gB #[.bool b, .slice Ab1 lb1.length cb1, .slice Ab2 lb2.length cb2] 28), (.blk gK #[.bool a, .slice Aa1 la1.length ca1, .slice Aa2 la2.length ca2] 28)]) := Aside0.mk (HS.out.box hgO hxO hbO)
              clear HS hgO hxO hbO
              have HS := nS
              clear nS
              refine hK.out _ _ ⟨(blk_cell (HS.out.blk 5 rfl) 0).trans rfl, (blk_cell (HS.out.blk 4 rfl) 1).trans rfl⟩ (fun hHeld => ?_)
              clear hK K
              refine norm_ (a' := ?_) ?_ ?_
              rotate_left
              · show Act.put _ (some 5) _ = _
                simp only [Act.put, List.setIfInBounds_toArray, List.set_cons_zero, List.set_cons_succ]
                rfl
              exact norm_ (by first | (simp only [putAll, Act.put, List.setIfInBounds_toArray, List.set_cons_zero, List.set_cons_succ]; done) | (simp only [putAll, Act.put, List.setIfInBounds_toArray, List.set_cons_zero, List.set_cons_succ]; rfl)) (hJ_4_5_6_9 (Ns, nc, gL, Aj, cj, gO) _ (HS.out.perm (List.Perm.refl _)))
        · intro s_ w_ hF
          obtain ⟨Ns, nc, gL, gE, gO⟩ := s_
          have nS : Aside0 (Sx w w_ [(.blk gO #[.bool false, .slice none 0 0, .slice none 0 0] 28), (.blk gE #[] 3), (.blk gL #[.int .i64 1] 3), (.row (.slice Ns P1.length nc) P1), (.blk gR #[.bool false, .slice none 0 0, .slice none 0 0] 28), (.blk gB #[.bool b, .slice Ab1 lb1.length cb1, .slice Ab2 lb2.length cb2] 28), (.blk gK #[.bool a, .slice Aa1 la1.length ca1, .slice Aa2 la2.length ca2] 28)]) := Aside0.mk hF
          clear HS hF
          have HS := nS
          clear nS
          refine norm_ (a' := ?_) ?_ ?_
          rotate_left
          · simp only [putAll, Act.put, List.setIfInBounds_toArray, List.set_cons_zero, List.set_cons_succ]
            rfl
          refine one_ (i := 6) (N := (some 14)) #[true, true, true, true, true, true, true, true, false, true, false] rfl rfl (by kernel_rfl) (by decide) (fun K hK => ?_)
          refine HS.out.appendRows_step 3 rfl P1.length (P1.length + 1) rfl (by rfl) (.tmp 12) (.tmp 13) rfl Try.underlying22 info3 (some ⟨gL, 0, none⟩) 1 1 [1] (P1 ++ [1]) rfl rfl rfl (rowI_C (l := [1]) (HS.out.blk 2 rfl) (by simp)) rfl rfl (by have := HP5.out; omega) ?_
          intro Aj cj wJ nJ
          have nS : Aside0 (Sx w wJ [(.blk gO #[.bool false, .slice none 0 0, .slice none 0 0] 28), (.blk gE #[] 3), (.blk gL #[.int .i64 1] 3), (.row (.slice Aj (P1.length + 1) cj) (P1 ++ [1])), (.blk gR #[.bool false, .slice none 0 0, .slice none 0 0] 28), (.blk gB #[.bool b, .slice Ab1 lb1.length cb1, .slice Ab2 lb2.length cb2] 28), (.blk gK #[.bool a, .slice Aa1 la1.length ca1, .slice Aa2 la2.length ca2] 28)]) := Aside0.mk (nJ)
          clear HS nJ
          have HS := nS
          clear nS
          refine hK.out _ _ ⟨(blk_cell (HS.out.blk 6 rfl) 0).trans rfl, (blk_cell (HS.out.blk 5 rfl) 1).trans rfl⟩ (fun hHeld => ?_)
          clear hK K
          refine norm_ (a' := ?_) ?_ ?_
          rotate_left
          · show Act.put _ (some 14) _ = _
            simp only [Act.put, List.setIfInBounds_toArray, List.set_cons_zero, List.set_cons_succ]
            rfl
          refine pure_ (i := 8) (N := (some 16)) (v := ?_) (a' := ?_) #[true, true, true, true, true, true, true, true, true, true, false] rfl rfl (by kernel_rfl) (fun _ _ _ h => h) (Or.inl ⟨by rfl, ?_⟩) ?_ ?_
          rotate_left
          · intro w'
            go_simp
            with_reducible rfl
          rotate_left
          · simp only [Act.put, List.setIfInBounds_toArray, List.set_cons_zero, List.set_cons_succ]
            rfl
          exact norm_ (by first | (simp only [putAll, Act.put, List.setIfInBounds_toArray, List.set_cons_zero, List.set_cons_succ]; done) | (simp only [putAll, Act.put, List.setIfInBounds_toArray, List.set_cons_zero, List.set_cons_succ]; rfl)) (hJ_4_5_6_7_9 (Ns, nc, gL, Aj, cj, gE, gO) _ (HS.out.perm (List.Perm.refl _)))
      · intro s_ w_ hF
        obtain ⟨Ns, nc, gL, Aj, cj, gO⟩ := s_
        have nS : Aside0 (Sx w w_ [(.blk gO #[.bool false, .slice none 0 0, .slice none 0 0] 28), (.blk gL #[.int .i64 1] 3), (.row (.slice Aj (P1.length + 1) cj) (P1 ++ [1])), (.blk gR #[.bool false, .slice none 0 0, .slice none 0 0] 28), (.blk gB #[.bool b, .slice Ab1 lb1.length cb1, .slice Ab2 lb2.length cb2] 28), (.blk gK #[.bool a, .slice Aa1 la1.length ca1, .slice Aa2 la2.length ca2] 28)]) := Aside0.mk hF
        clear HS hF
        have HS := nS
        clear nS
        refine norm_ (a' := ?_) ?_ ?_
        rotate_left
        · simp only [putAll, Act.put, List.setIfInBounds_toArray, List.set_cons_zero, List.set_cons_succ]
          rfl
        refine one_ (i := 7) (N := (some 15)) #[true, true, true, true, true, true, true, true, false, true, false] rfl rfl (by kernel_rfl) (by decide) (fun K hK => ?_)
        refine lit_step (by rfl) rfl #[] 3 0 (by first | (go_simp; done) | (go_simp; rfl)) ?_
        intro gE wE hgE hxE hbE
        have nS : Aside0 (Sx w wE [(.blk gE #[] 3), (.blk gO #[.bool false, .slice none 0 0, .slice none 0 0] 28), (.blk gL #[.int .i64 1] 3), (.row (.slice Aj (P1.length + 1) cj) (P1 ++ [1])), (.blk gR #[.bool false, .slice none 0 0, .slice none 0 0] 28), (.blk gB #[.bool b, .slice Ab1 lb1.length cb1, .slice Ab2 lb2.length cb2] 28), (.blk gK #[.bool a, .slice Aa1 la1.length ca1, .slice Aa2 la2.length ca2] 28)]) := Aside0.mk (HS.out.box hgE.symm hxE hbE)
        clear HS hgE hxE hbE
        have HS := nS
        clear nS
        refine hK.out _ _ ⟨(blk_cell (HS.out.blk 6 rfl) 0).trans rfl, (blk_cell (HS.out.blk 5 rfl) 1).trans rfl⟩ (fun hHeld => ?_)
        clear hK K
        refine norm_ (a' := ?_) ?_ ?_
        rotate_left
        · show Act.put _ (some 15) _ = _
          simp only [Act.put, List.setIfInBounds_toArray, List.set_cons_zero, List.set_cons_succ]
          rfl
        refine pure_ (i := 8) (N := (some 16)) (v := ?_) (a' := ?_) #[true, true, true, true, true, true, true, true, true, true, false] rfl rfl (by kernel_rfl) (fun _ _ _ h => h) (Or.inl ⟨by rfl, ?_⟩) ?_ ?_
        rotate_left
        · intro w'
          go_simp
          with_reducible rfl
        rotate_left
        · simp only [Act.put, List.setIfInBounds_toArray, List.set_cons_zero, List.set_cons_succ]
          rfl
        exact norm_ (by first | (simp only [putAll, Act.put, List.setIfInBounds_toArray, List.set_cons_zero, List.set_cons_succ]; done) | (simp only [putAll, Act.put, List.setIfInBounds_toArray, List.set_cons_zero, List.set_cons_succ]; rfl)) (hJ_4_5_6_7_9 (Ns, nc, gL, Aj, cj, gE, gO) _ (HS.out.perm (List.perm_middle (a := (Th.blk gE #[] 3)) (l₁ := [(Th.blk gO #[.bool false, .slice none 0 0, .slice none 0 0] 28)]) (l₂ := [(Th.blk gL #[.int .i64 1] 3), (Th.row (.slice Aj (P1.length + 1) cj) (P1 ++ [1])), (Th.blk gR #[.bool false, .slice none 0 0, .slice none 0 0] 28), (Th.blk gB #[.bool b, .slice Ab1 lb1.length cb1, .slice Ab2 lb2.length cb2] 28), (Th.blk gK #[.bool a, .slice Aa1 la1.length ca1, .slice Aa2 la2.length ca2] 28)])).symm))
    · intro s_ w_ hF
      obtain ⟨Ns, nc, gL, Aj, cj, gE⟩ := s_
      have nS : Aside0 (Sx w w_ [(.blk gE #[] 3), (.blk gL #[.int .i64 1] 3), (.row (.slice Aj (P1.length + 1) cj) (P1 ++ [1])), (.blk gR #[.bool false, .slice none 0 0, .slice none 0 0] 28), (.blk gB #[.bool b, .slice Ab1 lb1.length cb1, .slice Ab2 lb2.length cb2] 28), (.blk gK #[.bool a, .slice Aa1 la1.length ca1, .slice Aa2 la2.length ca2] 28)]) := Aside0.mk hF
      clear HS hF
      have HS := nS
      clear nS
      refine norm_ (a' := ?_) ?_ ?_
      rotate_left
      · simp only [putAll, Act.put, List.setIfInBounds_toArray, List.set_cons_zero, List.set_cons_succ]
        rfl
      refine one_ (i := 9) (N := (some 5)) #[true, true, true, true, true, true, true, true, true, true, false] rfl rfl (by kernel_rfl) (by decide) (fun K hK => ?_)
      refine box_step ?hg (N := 5) ?hd (cs := #[.bool false, .slice none 0 0, .slice none 0 0]) (t := 28) ?hr ?_; (case hd => rfl); (case hg => rfl); (case hr => first | (go_simp; done) | (go_simp; rfl))
      intro gO hgO wO hxO hbO
      have nS : Aside0 (Sx w wO [(.blk gO #[.bool false, .slice none 0 0, .slice none 0 0] 28), (.blk gE #[] 3), (.blk gL #[.int .i64 1] 3), (.row (.slice Aj (P1.length + 1) cj) (P1 ++ [1])), (.blk gR #[.bool false, .slice none 0 0, .slice none 0 0] 28), (.blk gB #[.bool b, .slice Ab1 lb1.length cb1, .slice Ab2 lb2.length cb2] 28), (.blk gK #[.bool a, .slice Aa1 la1.length ca1, .slice Aa2 la2.length ca2] 28)]) := Aside0.mk (HS.out.box hgO hxO hbO)
      clear HS hgO hxO hbO
      have HS := nS
      clear nS
      refine hK.out _ _ ⟨(blk_cell (HS.out.blk 6 rfl) 0).trans rfl, (blk_cell (HS.out.blk 5 rfl) 1).trans rfl⟩ (fun hHeld => ?_)
      clear hK K
      refine norm_ (a' := ?_) ?_ ?_
      rotate_left
      · show Act.put _ (some 5) _ = _
        simp only [Act.put, List.setIfInBounds_toArray, List.set_cons_zero, List.set_cons_succ]
        rfl
      exact norm_ (by first | (simp only [putAll, Act.put, List.setIfInBounds_toArray, List.set_cons_zero, List.set_cons_succ]; done) | (simp only [putAll, Act.put, List.setIfInBounds_toArray, List.set_cons_zero, List.set_cons_succ]; rfl)) (hJ_4_5_6_7_9 (Ns, nc, gL, Aj, cj, gE, gO) _ (HS.out.perm (List.Perm.refl _)))
  · intro s_ w_ hF
    obtain ⟨Ns, nc, gL, Aj, cj, gE, gO⟩ := s_
    have nS : Aside0 (Sx w w_ [(.blk gO #[.bool false, .slice none 0 0, .slice none 0 0] 28), (.blk gE #[] 3), (.blk gL #[.int .i64 1] 3), (.row (.slice Aj (P1.length + 1) cj) (P1 ++ [1])), (.blk gR #[.bool false, .slice none 0 0, .slice none 0 0] 28), (.blk gB #[.bool b, .slice Ab1 lb1.length cb1, .slice Ab2 lb2.length cb2] 28), (.blk gK #[.bool a, .slice Aa1 la1.length ca1, .slice Aa2 la2.length ca2] 28)]) := Aside0.mk hF
    clear HS hF
    have HS := nS
    clear nS
    refine norm_ (a' := ?_) ?_ ?_
    rotate_left
    · simp only [putAll, Act.put, List.setIfInBounds_toArray, List.set_cons_zero, List.set_cons_succ]
      rfl
    refine last_ (i := 10) (N := none) #[true, true, true, true, true, true, true, true, true, true, true] rfl rfl (by kernel_rfl) (by decide) (fun K hK => ?_)
    refine store_named_step (by rfl) 28 (.tmp 5) (.tmp 16) rfl gO #[.bool a, .slice Aj (P1.length + 1) cj, .slice (some ⟨gE, 0, none⟩) 0 0] rfl rfl 28 #[.bool false, .slice none 0 0, .slice none 0 0] (HS.out.blk 0 rfl) (by kernel_rfl) rfl (by simp [Value.oneCell']) ?_
    intro wO hxz hbz
    have nS : Aside0 (Sx w wO [(.blk gO #[.bool a, .slice Aj (P1.length + 1) cj, .slice (some ⟨gE, 0, none⟩) 0 0] 28), (.blk gE #[] 3), (.blk gL #[.int .i64 1] 3), (.row (.slice Aj (P1.length + 1) cj) (P1 ++ [1])), (.blk gR #[.bool false, .slice none 0 0, .slice none 0 0] 28), (.blk gB #[.bool b, .slice Ab1 lb1.length cb1, .slice Ab2 lb2.length cb2] 28), (.blk gK #[.bool a, .slice Aa1 la1.length ca1, .slice Aa2 la2.length ca2] 28)]) := Aside0.mk (HS.out.put 0 rfl hxz hbz)
    clear HS hxz hbz
    have HS := nS
    clear nS
    refine hK.out _ _ ?_
    clear hK K
    refine done_ (by kernel_rfl) ?_
    go_simp
    go_wp2_with (first | ((with_reducible refine gate_dst (N := 18) rfl ?_); refine ev_load rfl 22 (.tmp 17) rfl ⟨gO, 1, none⟩ rfl (.slice Aj (P1.length + 1) cj) ((blk_cell (HS.out.blk 0 rfl) 1).trans rfl) (by kernel_rfl) ?_) | (go_at_call 74; refine (l3Count_n k1 (P1.length + 1) Aj cj (P1 ++ [1]) (N1 : Int) _ (HS.out.C 3 rfl) (HS.out.cap 3 rfl) HPZ.out HSH.out).mono ?_; rintro e wq5 ⟨rfl, hd_⟩; have hbq5 := Drawn0.below hd_; clear hd_; have nS : Aside0 (Sx w wq5 [(.blk gO #[.bool a, .slice Aj (P1.length + 1) cj, .slice (some ⟨gE, 0, none⟩) 0 0] 28), (.blk gE #[] 3), (.blk gL #[.int .i64 1] 3), (.row (.slice Aj (P1.length + 1) cj) (P1 ++ [1])), (.blk gR #[.bool false, .slice none 0 0, .slice none 0 0] 28), (.blk gB #[.bool b, .slice Ab1 lb1.length cb1, .slice Ab2 lb2.length cb2] 28), (.blk gK #[.bool a, .slice Aa1 la1.length ca1, .slice Aa2 la2.length ca2] 28)]) := Aside0.mk (HS.out.step hbq5); clear HS; have HS := nS; clear nS))
    have nS : Aside0 (Sx w _ [(.blk gO #[.bool a, .slice Aj (P1.length + 1) cj, .slice (some ⟨gE, 0, none⟩) 0 0] 28), (.row (.slice (some ⟨gE, 0, none⟩) 0 0) []), (.blk gL #[.int .i64 1] 3), (.row (.slice Aj (P1.length + 1) cj) (P1 ++ [1])), (.blk gR #[.bool false, .slice none 0 0, .slice none 0 0] 28), (.blk gB #[.bool b, .slice Ab1 lb1.length cb1, .slice Ab2 lb2.length cb2] 28), (.blk gK #[.bool a, .slice Aa1 la1.length ca1, .slice Aa2 la2.length ca2] 28)]) := Aside0.mk (HS.out.rowed 1 (l := []) rfl (by simp))
    clear HS
    have HS := nS
    clear nS
    go_loopw [7] (fun zz wr => ∃ (r : Nat) (A : Option Addr) (c : Nat), zz = .int .i64 (r : Int) ∧ Aside0 (r ≤ N1) ∧ Aside0 (Sx w wr [(.blk gO #[.bool a, .slice Aj (P1.length + 1) cj, .slice A r c] 28), (.row (.slice A r c) (List.replicate r (rd la2 0))), (.blk gL #[.int .i64 1] 3), (.row (.slice Aj (P1.length + 1) cj) (P1 ++ [1])), (.blk gR #[.bool false, .slice none 0 0, .slice none 0 0] 28), (.blk gB #[.bool b, .slice Ab1 lb1.length cb1, .slice Ab2 lb2.length cb2] 28), (.blk gK #[.bool a, .slice Aa1 la1.length ca1, .slice Aa2 la2.length ca2] 28)])) (fun zz _ => N1 - (intOf zz).toNat)
    case atStart => exact ⟨0, _, 0, rfl, ⟨Nat.zero_le _⟩, HS⟩
    case round =>
      clear HS
      obtain ⟨r, A, c, rfl, hr, HS⟩ := hrel
      by_cases hlt : r < N1
      · have hN_ := HN.out
        have w1 : IntKind.i64.wrap ((r : Int) + 1) = ((r + 1 : Nat) : Int) := by rw [IntWalk.i64_in _ (by omega)]; omega
        have HW1 := Aside0.mk w1
        clear w1
        obtain ⟨ad, rfl, y1⟩ := Kd.at_int Ha2.out (0 : Int) (by have := H2.out; omega) (by have := H2.out; omega)
        clear y1
        obtain ⟨x_, hX⟩ : ∃ x, rd la2 0 = x := ⟨_, rfl⟩
        have HX := Aside0.mk hX
        have p1 : (r : Int) < (N1 : Int) := by omega
        have p2 : (0 : Int) < (la2.length : Int) := by have := H2.out; omega
        have p3 : 0 < la2.length := by have := H2.out; omega
        clear hN_ hX
        rw [HX.out] at HS
        go_upto_region 6 with fail
        have nS := Aside0.mk HS.out.drew
        clear HS
        have HS := nS
        clear nS
        refine start_ (n := 10) (S := (fun w' => w'.cell? ⟨gO, 2, none⟩ = some (.slice A r c) ∧ w'.cell? ⟨gK, 2, none⟩ = some (.slice (some ad) la2.length ca2) ∧ w'.cell? ad = some (.int .i64 x_))) (ds := [9]) #[false, false, false, false, false, false, false, false, false, false] (by kernel_rfl) rfl rfl ⟨(blk_cell (HS.out.blk 0 rfl) 2).trans rfl, (blk_cell (HS.out.blk 6 rfl) 2).trans rfl, (by have h_ := (C_at (Kd.C_below Ha2.out HS.out.below) 0 p3).trans (by rw [show rd la2 ((0 : Nat) : Int) = x_ from HX.out]); simpa [Addr.add] using h_)⟩ (fun hHeld => ?_)
        refine pure_ (i := 0) (N := (some 25)) (v := ?_) (a' := ?_) #[true, false, false, false, false, false, false, false, false, false] rfl rfl (by kernel_rfl) (fun _ _ _ h => h) (Or.inl ⟨by rfl, ?_⟩) ?_ ?_
        rotate_left
        · intro w'
          go_simp
          with_reducible rfl
        rotate_left
        · simp only [Act.put, List.setIfInBounds_toArray, List.set_cons_zero, List.set_cons_succ]
          rfl
        refine take_ (i := 1) (N := (some 26)) (v := ?_) (a' := ?_) #[true, true, false, false, false, false, false, false, false, false] rfl rfl (by kernel_rfl) (fun _ _ _ h => h) (Or.inl ⟨by rfl, ?_⟩) hHeld ?_ ?_
        rotate_left
        · rintro w' ⟨s0, s1, s2⟩
          go_simp
          with_reducible rfl
        rotate_left
        · simp only [Act.put, List.setIfInBounds_toArray, List.set_cons_zero, List.set_cons_succ]
          rfl
        refine pure_ (i := 2) (N := (some 27)) (v := ?_) (a' := ?_) #[true, true, true, false, false, false, false, false, false, false] rfl rfl (by kernel_rfl) (fun _ _ _ h => h) (Or.inl ⟨by rfl, ?_⟩) ?_ ?_
        rotate_left
        · intro w'
          go_simp
          with_reducible rfl
        rotate_left
        · simp only [Act.put, List.setIfInBounds_toArray, List.set_cons_zero, List.set_cons_succ]
          rfl
        refine take_ (i := 3) (N := (some 28)) (v := ?_) (a' := ?_) #[true, true, true, true, false, false, false, false, false, false] rfl rfl (by kernel_rfl) (fun _ _ _ h => h) (Or.inl ⟨by rfl, ?_⟩) hHeld ?_ ?_
        rotate_left
        · rintro w' ⟨s0, s1, s2⟩
          go_simp
          with_reducible rfl
        rotate_left
        · simp only [Act.put, List.setIfInBounds_toArray, List.set_cons_zero, List.set_cons_succ]
          rfl
        refine pure_ (i := 4) (N := (some 29)) (v := ?_) (a' := ?_) #[true, true, true, true, true, false, false, false, false, false] rfl rfl (by kernel_rfl) (fun _ _ _ h => h) (Or.inl ⟨by rfl, ?_⟩) ?_ ?_
        rotate_left
        · intro w'
          go_simp
          with_reducible rfl
        rotate_left
        · simp only [Act.put, List.setIfInBounds_toArray, List.set_cons_zero, List.set_cons_succ]
          rfl
        refine take_ (i := 5) (N := (some 30)) (v := ?_) (a' := ?_) #[true, true, true, true, true, true, false, false, false, false] rfl rfl (by kernel_rfl) (fun _ _ _ h => h) (Or.inl ⟨by rfl, ?_⟩) hHeld ?_ ?_
        rotate_left
        · rintro w' ⟨s0, s1, s2⟩
          go_simp
          with_reducible rfl
        rotate_left
        · simp only [Act.put, List.setIfInBounds_toArray, List.set_cons_zero, List.set_cons_succ]
          rfl
        refine one_ (i := 6) (N := (some 31)) #[true, true, true, true, true, true, true, false, false, false] rfl rfl (by kernel_rfl) (by decide) (fun K hK => ?_)
        refine lit_step (by rfl) rfl #[.int .i64 x_] 3 1 (by first | (go_simp; done) | (go_simp; rfl)) ?_
        intro gM wM hgM hxM hbM
        have nS : Aside0 (Sx w wM [(.blk gM #[.int .i64 x_] 3), (.blk gO #[.bool a, .slice Aj (P1.length + 1) cj, .slice A r c] 28), (.row (.slice A r c) (List.replicate r x_)), (.blk gL #[.int .i64 1] 3), (.row (.slice Aj (P1.length + 1) cj) (P1 ++ [1])), (.blk gR #[.bool false, .slice none 0 0, .slice none 0 0] 28), (.blk gB #[.bool b, .slice Ab1 lb1.length cb1, .slice Ab2 lb2.length cb2] 28), (.blk gK #[.bool a, .slice Aa1 la1.length ca1, .slice (some ad) la2.length ca2] 28)]) := Aside0.mk (HS.out.box hgM.symm hxM hbM)
        clear HS hgM hxM hbM
        have HS := nS
        clear nS
        refine hK.out _ _ ⟨(blk_cell (HS.out.blk 1 rfl) 2).trans rfl, (blk_cell (HS.out.blk 7 rfl) 2).trans rfl, (by have h_ := (C_at (Kd.C_below Ha2.out HS.out.below) 0 p3).trans (by rw [show rd la2 ((0 : Nat) : Int) = x_ from HX.out]); simpa [Addr.add] using h_)⟩ (fun hHeld => ?_)
        clear hK K
        refine norm_ (a' := ?_) ?_ ?_
        rotate_left
        · show Act.put _ (some 31) _ = _
          simp only [Act.put, List.setIfInBounds_toArray, List.set_cons_zero, List.set_cons_succ]
          rfl
        refine one_ (i := 7) (N := (some 32)) #[true, true, true, true, true, true, true, true, false, false] rfl rfl (by kernel_rfl) (by decide) (fun K hK => ?_)
        refine HS.out.appendRows_step 2 rfl r (r + 1) (by simp) (by rfl) (.tmp 26) (.tmp 31) rfl Try.underlying22 info3 (some ⟨gM, 0, none⟩) 1 1 [x_] _ rfl rfl rfl (rowI_C (l := [x_]) (HS.out.blk 0 rfl) (by simp)) rfl rfl (by have := HN.out; omega) ?_
        intro A2 c2 wJ nJ
        have nS : Aside0 (Sx w wJ [(.blk gM #[.int .i64 x_] 3), (.blk gO #[.bool a, .slice Aj (P1.length + 1) cj, .slice A r c] 28), (.row (.slice A2 (r + 1) c2) (List.replicate r x_ ++ [x_])), (.blk gL #[.int .i64 1] 3), (.row (.slice Aj (P1.length + 1) cj) (P1 ++ [1])), (.blk gR #[.bool false, .slice none 0 0, .slice none 0 0] 28), (.blk gB #[.bool b, .slice Ab1 lb1.length cb1, .slice Ab2 lb2.length cb2] 28), (.blk gK #[.bool a, .slice Aa1 la1.length ca1, .slice (some ad) la2.length ca2] 28)]) := Aside0.mk nJ
        clear HS nJ
        have HS := nS
        clear nS
        refine hK.out _ _ ⟨(blk_cell (HS.out.blk 1 rfl) 2).trans rfl, (blk_cell (HS.out.blk 7 rfl) 2).trans rfl, (by have h_ := (C_at (Kd.C_below Ha2.out HS.out.below) 0 p3).trans (by rw [show rd la2 ((0 : Nat) : Int) = x_ from HX.out]); simpa [Addr.add] using h_)⟩ (fun hHeld => ?_)
        clear hK K
        refine norm_ (a' := ?_) ?_ ?_
        rotate_left
        · show Act.put _ (some 32) _ = _
          simp only [Act.put, List.setIfInBounds_toArray, List.set_cons_zero, List.set_cons_succ]
          rfl
        refine pure_ (i := 8) (N := (some 33)) (v := ?_) (a' := ?_) #[true, true, true, true, true, true, true, true, true, false] rfl rfl (by kernel_rfl) (fun _ _ _ h => h) (Or.inl ⟨by rfl, ?_⟩) ?_ ?_
        rotate_left
        · intro w'
          go_simp
          with_reducible rfl
        rotate_left
        · simp only [Act.put, List.setIfInBounds_toArray, List.set_cons_zero, List.set_cons_succ]
          rfl
        refine last_ (i := 9) (N := none) #[true, true, true, true, true, true, true, true, true, true] rfl rfl (by kernel_rfl) (by decide) (fun K hK => ?_)
        refine store_cell_step (by rfl) 22 (.tmp 33) (.tmp 32) rfl gO 2 rfl (.slice A2 (r + 1) c2) rfl #[.bool a, .slice Aj (P1.length + 1) cj, .slice A r c] 28 (HS.out.blk 1 rfl) (show 2 < 3 from by decide) rfl (by kernel_rfl) ?_
        intro wz hxz hbz
        have nS : Aside0 (Sx w wz [(.blk gM #[.int .i64 x_] 3), (.blk gO #[.bool a, .slice Aj (P1.length + 1) cj, .slice A2 (r + 1) c2] 28), (.row (.slice A2 (r + 1) c2) (List.replicate r x_ ++ [x_])), (.blk gL #[.int .i64 1] 3), (.row (.slice Aj (P1.length + 1) cj) (P1 ++ [1])), (.blk gR #[.bool false, .slice none 0 0, .slice none 0 0] 28), (.blk gB #[.bool b, .slice Ab1 lb1.length cb1, .slice Ab2 lb2.length cb2] 28), (.blk gK #[.bool a, .slice Aa1 la1.length ca1, .slice (some ad) la2.length ca2] 28)]) := Aside0.mk (HS.out.put 1 rfl hxz hbz)
        clear HS hxz hbz
        have HS := nS
        clear nS
        refine hK.out _ _ ?_
        clear hK K
        refine done_ (by kernel_rfl) ?_
        have w1 := HW1.out
        go_simp
        go_wp2
        go_roundw
        case rel =>
          refine ⟨r + 1, A2, c2, by first | rfl | (push_cast; rfl), ⟨by omega⟩, ⟨?_⟩⟩
          have h_ := (HS.out.sub (List.sublist_cons_self _ _))
          rw [HX.out, List.replicate_succ']
          exact h_
        case measure => simp [intOf]; omega
      · have er : r = N1 := by have := hr.out; omega
        subst er
        have p1 : ¬ (r : Int) < (r : Int) := by omega
        go_wp2_with (first | ((with_reducible refine gate_dst (N := 34) rfl ?_); refine wpList_load_row rfl 28 (.tmp 5) rfl gO rfl 28 #[.bool a, .slice Aj (P1.length + 1) cj, .slice A r c] (0, 0) _ (HS.out.blk 0 rfl) Try.underlying28 rfl (by kernel_rfl) ?_) | ((with_reducible refine gate_store rfl ?_); refine store_named rfl 28 (.tmp 4) (.tmp 34) rfl gR #[.bool a, .slice Aj (P1.length + 1) cj, .slice A r c] rfl rfl 28 #[.bool false, .slice none 0 0, .slice none 0 0] (HS.out.blk 4 rfl) (by kernel_rfl) rfl (by simp [Value.oneCell']) ?_; intro wf6 hxf6 hbf6; have nS : Aside0 (Sx w wf6 [(.blk gO #[.bool a, .slice Aj (P1.length + 1) cj, .slice A r c] 28), (.row (.slice A r c) (List.replicate r (rd la2 0))), (.blk gL #[.int .i64 1] 3), (.row (.slice Aj (P1.length + 1) cj) (P1 ++ [1])), (.blk gR #[.bool a, .slice Aj (P1.length + 1) cj, .slice A r c] 28), (.blk gB #[.bool b, .slice Ab1 lb1.length cb1, .slice Ab2 lb2.length cb2] 28), (.blk gK #[.bool a, .slice Aa1 la1.length ca1, .slice Aa2 la2.length ca2] 28)]) := Aside0.mk (HS.out.put 4 rfl hxf6 hbf6); clear HS; have HS := nS; clear nS hxf6 hbf6))
        refine bodyPost_ret (results_cell_row rfl _ _ gR 28 #[.bool a, .slice Aj (P1.length + 1) cj, .slice A r c] (0, 0) _ rfl (HS.out.blk 4 rfl) Try.underlying28 rfl (by kernel_rfl)) rfl ?_
        exact ⟨Aj, cj, A, c, by simp, by have h_ := HS.out.C 3 rfl; simpa using h_, by have h_ := HS.out.cap 3 rfl; simpa using h_, by have h_ := HS.out.C 1 rfl; simpa using h_, by have h_ := HS.out.cap 1 rfl; simpa using h_, HS.out.below⟩
end Go.Proofs.Ytehfcnndjhjkoaa.PA

namespace Go.Proofs.Ytehfcnndjhjkoaa.PA
open Go.RowKit Go.Proofs.YtehfcnndjhjkoaaW.PrintWords Go.Proofs.YtehfcnndjhjkoaaW.PrintLast Go.Proofs.YtehfcnndjhjkoaaW.PrintMore
set_option linter.unusedVariables false
set_option linter.unusedSimpArgs false
theorem l4Without_eq (l : List Int) (h0 : l.length ≠ 0) (h5 : l.length ≤ 5) : spec_l4Without.f l false = some l.dropLast := by
  simp only [spec_l4Without.f]
  rw [if_neg (by decide), w64 (by omega) (by omega), if_pos (by omega), if_pos (by omega)]
  have : ((l.length : Int) - 1).toNat = l.length - 1 := by omega
  rw [this, ← List.dropLast_eq_take, l3Ints_eq _ (by simp; omega)]
  rfl
/-- What is known of the reference's l5Beside. -/
def SBesOk (args : Array Value) (a : Bool) (L1 L2 : List Int) (w : World) : Prop := ∀ W, Below w.heap.size w W → Calls Try.prog 86 args W fun e w' => ∃ As cs Ad cd, e = .returned (.agg #[.bool a, .slice As L1.length cs, .slice Ad L2.length cd]) ∧ Kd.C (Kd.int .i64) w' As L1.length L1 ∧ L1.length ≤ cs ∧ Kd.C (Kd.int .i64) w' Ad L2.length L2 ∧ L2.length ≤ cd ∧ Below W.heap.size W w'
theorem SBesOk.go {args : Array Value} {a : Bool} {L1 L2 : List Int} {w : World} (h : SBesOk args a L1 L2 w) (W : World) (hb : Below w.heap.size w W) : Calls Try.prog 86 args W fun e w' => ∃ As cs Ad cd, e = .returned (.agg #[.bool a, .slice As L1.length cs, .slice Ad L2.length cd]) ∧ Kd.C (Kd.int .i64) w' As L1.length L1 ∧ L1.length ≤ cs ∧ Kd.C (Kd.int .i64) w' Ad L2.length L2 ∧ L2.length ≤ cd ∧ Below W.heap.size W w' := h W hb
theorem sbesOk (a : Bool) (Aa1 : Option Addr) (ca1 : Nat) (la1 : List Int) (Aa2 : Option Addr) (ca2 : Nat) (la2 : List Int) (b : Bool) (Ab1 : Option Addr) (cb1 : Nat) (lb1 : List Int) (Ab2 : Option Addr) (cb2 : Nat) (lb2 : List Int) (w : World)
    (ha1 : Kd.C (Kd.int .i64) w Aa1 la1.length la1) (ka1 : la1.length ≤ ca1) (ha2 : Kd.C (Kd.int .i64) w Aa2 la2.length la2) (ka2 : la2.length ≤ ca2) (hb1 : Kd.C (Kd.int .i64) w Ab1 lb1.length lb1) (kb1 : lb1.length ≤ cb1) (hb2 : Kd.C (Kd.int .i64) w Ab2 lb2.length lb2) (kb2 : lb2.length ≤ cb2)
    (h2 : la2.length = 1) (h0 : lb1.length ≠ 0) (hs : shOk lb1 = true) :
    SBesOk #[.agg #[.bool a, .slice Aa1 la1.length ca1, .slice Aa2 la2.length ca2], .agg #[.bool b, .slice Ab1 lb1.length cb1, .slice Ab2 lb2.length cb2]] a (lb1.dropLast ++ [1]) (List.replicate (prod lb1.dropLast).toNat (rd la2 0)) w := by
  intro W hb
  have h5 := shOk_len hs
  have so := shOk_one hs h0
  have hp := shOk_prod so
  rw [prod_app1, Int.mul_one] at hp
  obtain ⟨k, hk⟩ := (l3Count_ev (lb1.dropLast ++ [1]) (by simp; omega)).rounds
  have e : cnt (lb1.dropLast ++ [1]) = (((prod lb1.dropLast).toNat : Nat) : Int) := by
    simp only [shOk, Bool.and_eq_true] at so
    unfold cnt
    rw [if_pos so.2, prod_app1, Int.mul_one, Int.toNat_of_nonneg hp.1]
  rw [e] at hk
  exact l5Beside_any a Aa1 ca1 la1 Aa2 ca2 la2 b Ab1 cb1 lb1 Ab2 cb2 lb2 W (Kd.C_below ha1 hb) ka1 (Kd.C_below ha2 hb) ka2 (Kd.C_below hb1 hb) kb1 (Kd.C_below hb2 hb) kb2 lb1.dropLast (l4Without_eq lb1 h0 h5) (by simp; omega) k _ hk (by omega) h2
end Go.Proofs.Ytehfcnndjhjkoaa.PA

namespace Go.Proofs.Ytehfcnndjhjkoaa.PA
open Go.RowKit Go.Proofs.YtehfcnndjhjkoaaW.PrintWords Go.Proofs.YtehfcnndjhjkoaaW.PrintLast Go.Proofs.YtehfcnndjhjkoaaW.PrintMore
set_option linter.unusedVariables false
set_option linter.unusedSimpArgs false
def WBesOk (args : Array Value) (a : Bool) (L1 L2 : List Int) (w : World) : Prop := ∀ W, Below w.heap.size w W → Calls Try.prog 85 args W fun e w' => ∃ As cs Ad cd, e = .returned (.agg #[.bool a, .slice As L1.length cs, .slice Ad L2.length cd]) ∧ Kd.C (Kd.int .i64) w' As L1.length L1 ∧ L1.length ≤ cs ∧ Kd.C (Kd.int .i64) w' Ad L2.length L2 ∧ L2.length ≤ cd ∧ Below W.heap.size W w'
theorem WBesOk.go {args : Array Value} {a : Bool} {L1 L2 : List Int} {w : World} (h : WBesOk args a L1 L2 w) (W : World) (hb : Below w.heap.size w W) : Calls Try.prog 85 args W fun e w' => ∃ As cs Ad cd, e = .returned (.agg #[.bool a, .slice As L1.length cs, .slice Ad L2.length cd]) ∧ Kd.C (Kd.int .i64) w' As L1.length L1 ∧ L1.length ≤ cs ∧ Kd.C (Kd.int .i64) w' Ad L2.length L2 ∧ L2.length ≤ cd ∧ Below W.heap.size W w' := h W hb
theorem wbesOk (a : Bool) (Aa1 : Option Addr) (ca1 : Nat) (la1 : List Int) (Aa2 : Option Addr) (ca2 : Nat) (la2 : List Int) (w : World) (ha1 : Kd.C (Kd.int .i64) w Aa1 la1.length la1) (ka1 : la1.length ≤ ca1) (ha2 : Kd.C (Kd.int .i64) w Aa2 la2.length la2) (ka2 : la2.length ≤ ca2) (hn5 : la1.length ≤ 5) : WBesOk #[.agg #[.bool a, .slice Aa1 la1.length ca1, .slice Aa2 la2.length ca2]] a (la1 ++ [1]) la2 w := fun W hb => wider_any a Aa1 ca1 la1 Aa2 ca2 la2 W (Kd.C_below ha1 hb) ka1 (Kd.C_below ha2 hb) ka2 hn5
set_option maxHeartbeats 2000000 in
set_option maxRecDepth 100000 in
theorem scat_no1 (a : Bool) (Aa1 : Option Addr) (ca1 : Nat) (la1 : List Int) (Aa2 : Option Addr) (ca2 : Nat) (la2 : List Int) (b : Bool) (Ab1 : Option Addr) (cb1 : Nat) (lb1 : List Int) (Ab2 : Option Addr) (cb2 : Nat) (lb2 : List Int) (w : World) (ha1 : Kd.C (Kd.int .i64) w Aa1 la1.length la1) (ka1 : la1.length ≤ ca1) (ha2 : Kd.C (Kd.int .i64) w Aa2 la2.length la2) (ka2 : la2.length ≤ ca2) (hb1 : Kd.C (Kd.int .i64) w Ab1 lb1.length lb1) (kb1 : lb1.length ≤ cb1) (hb2 : Kd.C (Kd.int .i64) w Ab2 lb2.length lb2) (kb2 : lb2.length ≤ cb2) (ka : Nat) (hva : spec_ArrayOk.f ka a la1 la2 = some false)  :
    Calls Try.prog 37 #[.agg #[.bool a, .slice Aa1 la1.length ca1, .slice Aa2 la2.length ca2], .agg #[.bool b, .slice Ab1 lb1.length cb1, .slice Ab2 lb2.length cb2]] w fun e w' => ∃ v1_ v2_ : Value, e = .returned (.tuple #[.agg #[.bool false, v1_, v2_], .int .i64 3]) ∧ Kd.R (Kd.int .i64) 3 w' w.heap.size (fun k_ => some k_ ≠ (v2_ : Value).ownBlock) v1_ [] ∧ Kd.R (Kd.int .i64) 3 w' w.heap.size (fun k_ => some k_ ≠ (v1_ : Value).ownBlock) v2_ [] ∧ Below w.heap.size w w' := by
  have Ha1 := Aside0.mk ha1
  have Ka1 := Aside0.mk ka1
  clear ha1 ka1
  have Ha2 := Aside0.mk ha2
  have Ka2 := Aside0.mk ka2
  clear ha2 ka2
  have Hb1 := Aside0.mk hb1
  have Kb1 := Aside0.mk kb1
  clear hb1 kb1
  have Hb2 := Aside0.mk hb2
  have Kb2 := Aside0.mk kb2
  clear hb2 kb2
  have HVa := Aside0.mk hva
  clear hva
  have HS := Aside0.mk (Sx.start w)
  go_enter Try.func37, Try.ntmps37
  go_wp2_with (first | ((with_reducible refine gate_dst (N := 2) rfl ?_); refine box_event ?hg (N := 2) ?hd (cs := #[.bool a, .slice Aa1 la1.length ca1, .slice Aa2 la2.length ca2]) (t := 28) ?hr ?_; (case hd => rfl); (case hg => rfl); (case hr => first | (go_simp; done) | (go_simp; rfl)); intro gK hg1 w1 hx1 hb1; have nS : Aside0 (Sx w w1 [(.blk gK #[.bool a, .slice Aa1 la1.length ca1, .slice Aa2 la2.length ca2] 28)]) := Aside0.mk (HS.out.box hg1 hx1 hb1); clear HS; have HS := nS; clear nS hg1 hx1 hb1) | ((with_reducible refine gate_dst (N := 3) rfl ?_); refine box_event ?hg (N := 3) ?hd (cs := #[.bool b, .slice Ab1 lb1.length cb1, .slice Ab2 lb2.length cb2]) (t := 28) ?hr ?_; (case hd => rfl); (case hg => rfl); (case hr => first | (go_simp; done) | (go_simp; rfl)); intro gB hg2 w2 hx2 hb2; have nS : Aside0 (Sx w w2 [(.blk gB #[.bool b, .slice Ab1 lb1.length cb1, .slice Ab2 lb2.length cb2] 28), (.blk gK #[.bool a, .slice Aa1 la1.length ca1, .slice Aa2 la2.length ca2] 28)]) := Aside0.mk (HS.out.box hg2 hx2 hb2); clear HS; have HS := nS; clear nS hg2 hx2 hb2) | ((with_reducible refine gate_dst (N := 4) rfl ?_); refine box_event ?hg (N := 4) ?hd (cs := #[.bool false, .slice none 0 0, .slice none 0 0]) (t := 28) ?hr ?_; (case hd => rfl); (case hg => rfl); (case hr => first | (go_simp; done) | (go_simp; rfl)); intro gR hg3 w3 hx3 hb3; have nS : Aside0 (Sx w w3 [(.blk gR #[.bool false, .slice none 0 0, .slice none 0 0] 28), (.blk gB #[.bool b, .slice Ab1 lb1.length cb1, .slice Ab2 lb2.length cb2] 28), (.blk gK #[.bool a, .slice Aa1 la1.length ca1, .slice Aa2 la2.length ca2] 28)]) := Aside0.mk (HS.out.box hg3 hx3 hb3); clear HS; have HS := nS; clear nS hg3 hx3 hb3) | ((with_reducible refine gate_dst (N := 16) rfl ?_); refine wpList_load_row rfl 28 (.tmp 2) rfl gK rfl 28 #[.bool a, .slice Aa1 la1.length ca1, .slice Aa2 la2.length ca2] (0, 0) _ (HS.out.blk 2 rfl) Try.underlying28 rfl (by kernel_rfl) ?_) | (go_at_call 47; with_reducible refine (spec_ArrayOk.calls ka a Aa1 ca1 la1 Aa2 ca2 la2 false _ (Kd.C_below Ha1.out HS.out.below) Ka1.out (Kd.C_below Ha2.out HS.out.below) Ka2.out HVa.out).mono ?_; rintro e w4 ⟨rfl, hb4⟩; have nS : Aside0 (Sx w w4 [(.blk gR #[.bool false, .slice none 0 0, .slice none 0 0] 28), (.blk gB #[.bool b, .slice Ab1 lb1.length cb1, .slice Ab2 lb2.length cb2] 28), (.blk gK #[.bool a, .slice Aa1 la1.length ca1, .slice Aa2 la2.length ca2] 28)]) := Aside0.mk (HS.out.step hb4); clear HS; have HS := nS; clear nS hb4) | (go_at_call 53; refine (spec_l4None.calls false [] [] _ rfl).mono ?_; rintro e w5 ⟨v15, v25, rfl, hr15, hr25, hb5⟩; obtain ⟨AS, cS, hv_⟩ := Kd.R_slice hr15; subst hv_; obtain ⟨AD, cD, hv_⟩ := Kd.R_slice hr25; subst hv_; have nS : Aside0 (Sx w w5 [(.row (.slice AS ([] : List Int).length cS) []), (.row (.slice AD ([] : List Int).length cD) []), (.blk gR #[.bool false, .slice none 0 0, .slice none 0 0] 28), (.blk gB #[.bool b, .slice Ab1 lb1.length cb1, .slice Ab2 lb2.length cb2] 28), (.blk gK #[.bool a, .slice Aa1 la1.length ca1, .slice Aa2 la2.length ca2] 28)]) := Aside0.mk (HS.out.addRow2 hb5 hr15 hr25); clear HS; have HS := nS; clear nS hb5 hr15 hr25) | ((with_reducible refine gate_store rfl ?_); refine store_named rfl 28 (.tmp 4) (.tmp 24) rfl gR #[.bool false, .slice AS ([] : List Int).length cS, .slice AD ([] : List Int).length cD] rfl rfl 28 #[.bool false, .slice none 0 0, .slice none 0 0] (HS.out.blk 2 rfl) (by kernel_rfl) rfl (by simp [Value.oneCell']) ?_; intro w6 hx6 hb6; have nS : Aside0 (Sx w w6 [(.row (.slice AS ([] : List Int).length cS) []), (.row (.slice AD ([] : List Int).length cD) []), (.blk gR #[.bool false, .slice AS ([] : List Int).length cS, .slice AD ([] : List Int).length cD] 28), (.blk gB #[.bool b, .slice Ab1 lb1.length cb1, .slice Ab2 lb2.length cb2] 28), (.blk gK #[.bool a, .slice Aa1 la1.length ca1, .slice Aa2 la2.length ca2] 28)]) := Aside0.mk (HS.out.put 2 rfl hx6 hb6); clear HS; have HS := nS; clear nS hx6 hb6))
  refine bodyPost_ret (results_ct rfl _ _ gR 28 #[.bool false, .slice AS ([] : List Int).length cS, .slice AD ([] : List Int).length cD] (0, 0) _ rfl (HS.out.blk 2 rfl) Try.underlying28 rfl (by kernel_rfl)) rfl ?_
  exact ⟨_, _, rfl, (HS.out.two 0 1 (by decide) rfl rfl).1, (HS.out.two 0 1 (by decide) rfl rfl).2, HS.out.below⟩
set_option maxHeartbeats 2000000 in
set_option maxRecDepth 100000 in
theorem scat_no2 (a : Bool) (Aa1 : Option Addr) (ca1 : Nat) (la1 : List Int) (Aa2 : Option Addr) (ca2 : Nat) (la2 : List Int) (b : Bool) (Ab1 : Option Addr) (cb1 : Nat) (lb1 : List Int) (Ab2 : Option Addr) (cb2 : Nat) (lb2 : List Int) (w : World) (ha1 : Kd.C (Kd.int .i64) w Aa1 la1.length la1) (ka1 : la1.length ≤ ca1) (ha2 : Kd.C (Kd.int .i64) w Aa2 la2.length la2) (ka2 : la2.length ≤ ca2) (hb1 : Kd.C (Kd.int .i64) w Ab1 lb1.length lb1) (kb1 : lb1.length ≤ cb1) (hb2 : Kd.C (Kd.int .i64) w Ab2 lb2.length lb2) (kb2 : lb2.length ≤ cb2) (ka : Nat) (hva : spec_ArrayOk.f ka a la1 la2 = some true) (kb : Nat) (hvb : spec_ArrayOk.f kb b lb1 lb2 = some false)  :
    Calls Try.prog 37 #[.agg #[.bool a, .slice Aa1 la1.length ca1, .slice Aa2 la2.length ca2], .agg #[.bool b, .slice Ab1 lb1.length cb1, .slice Ab2 lb2.length cb2]] w fun e w' => ∃ v1_ v2_ : Value, e = .returned (.tuple #[.agg #[.bool false, v1_, v2_], .int .i64 3]) ∧ Kd.R (Kd.int .i64) 3 w' w.heap.size (fun k_ => some k_ ≠ (v2_ : Value).ownBlock) v1_ [] ∧ Kd.R (Kd.int .i64) 3 w' w.heap.size (fun k_ => some k_ ≠ (v1_ : Value).ownBlock) v2_ [] ∧ Below w.heap.size w w' := by
  have Ha1 := Aside0.mk ha1
  have Ka1 := Aside0.mk ka1
  clear ha1 ka1
  have Ha2 := Aside0.mk ha2
  have Ka2 := Aside0.mk ka2
  clear ha2 ka2
  have Hb1 := Aside0.mk hb1
  have Kb1 := Aside0.mk kb1
  clear hb1 kb1
  have Hb2 := Aside0.mk hb2
  have Kb2 := Aside0.mk kb2
  clear hb2 kb2
  have HVa := Aside0.mk hva
  clear hva
  have HVb := Aside0.mk hvb
  clear hvb
  have HS := Aside0.mk (Sx.start w)
  go_enter Try.func37, Try.ntmps37
  go_wp2_with (first | ((with_reducible refine gate_dst (N := 2) rfl ?_); refine box_event ?hg (N := 2) ?hd (cs := #[.bool a, .slice Aa1 la1.length ca1, .slice Aa2 la2.length ca2]) (t := 28) ?hr ?_; (case hd => rfl); (case hg => rfl); (case hr => first | (go_simp; done) | (go_simp; rfl)); intro gK hg1 w1 hx1 hb1; have nS : Aside0 (Sx w w1 [(.blk gK #[.bool a, .slice Aa1 la1.length ca1, .slice Aa2 la2.length ca2] 28)]) := Aside0.mk (HS.out.box hg1 hx1 hb1); clear HS; have HS := nS; clear nS hg1 hx1 hb1) | ((with_reducible refine gate_dst (N := 3) rfl ?_); refine box_event ?hg (N := 3) ?hd (cs := #[.bool b, .slice Ab1 lb1.length cb1, .slice Ab2 lb2.length cb2]) (t := 28) ?hr ?_; (case hd => rfl); (case hg => rfl); (case hr => first | (go_simp; done) | (go_simp; rfl)); intro gB hg2 w2 hx2 hb2; have nS : Aside0 (Sx w w2 [(.blk gB #[.bool b, .slice Ab1 lb1.length cb1, .slice Ab2 lb2.length cb2] 28), (.blk gK #[.bool a, .slice Aa1 la1.length ca1, .slice Aa2 la2.length ca2] 28)]) := Aside0.mk (HS.out.box hg2 hx2 hb2); clear HS; have HS := nS; clear nS hg2 hx2 hb2) | ((with_reducible refine gate_dst (N := 4) rfl ?_); refine box_event ?hg (N := 4) ?hd (cs := #[.bool false, .slice none 0 0, .slice none 0 0]) (t := 28) ?hr ?_; (case hd => rfl); (case hg => rfl); (case hr => first | (go_simp; done) | (go_simp; rfl)); intro gR hg3 w3 hx3 hb3; have nS : Aside0 (Sx w w3 [(.blk gR #[.bool false, .slice none 0 0, .slice none 0 0] 28), (.blk gB #[.bool b, .slice Ab1 lb1.length cb1, .slice Ab2 lb2.length cb2] 28), (.blk gK #[.bool a, .slice Aa1 la1.length ca1, .slice Aa2 la2.length ca2] 28)]) := Aside0.mk (HS.out.box hg3 hx3 hb3); clear HS; have HS := nS; clear nS hg3 hx3 hb3) | ((with_reducible refine gate_dst (N := 16) rfl ?_); refine wpList_load_row rfl 28 (.tmp 2) rfl gK rfl 28 #[.bool a, .slice Aa1 la1.length ca1, .slice Aa2 la2.length ca2] (0, 0) _ (HS.out.blk 2 rfl) Try.underlying28 rfl (by kernel_rfl) ?_) | (go_at_call 47; with_reducible refine (spec_ArrayOk.calls ka a Aa1 ca1 la1 Aa2 ca2 la2 true _ (Kd.C_below Ha1.out HS.out.below) Ka1.out (Kd.C_below Ha2.out HS.out.below) Ka2.out HVa.out).mono ?_; rintro e w4 ⟨rfl, hb4⟩; have nS : Aside0 (Sx w w4 [(.blk gR #[.bool false, .slice none 0 0, .slice none 0 0] 28), (.blk gB #[.bool b, .slice Ab1 lb1.length cb1, .slice Ab2 lb2.length cb2] 28), (.blk gK #[.bool a, .slice Aa1 la1.length ca1, .slice Aa2 la2.length ca2] 28)]) := Aside0.mk (HS.out.step hb4); clear HS; have HS := nS; clear nS hb4) | ((with_reducible refine wpList_guardedB ?hw ?_); (case hw => first | rfl | (go_simp; done))) | ((with_reducible refine gate_dst (N := 20) rfl ?_); refine wpList_load_row rfl 28 (.tmp 3) rfl gB rfl 28 #[.bool b, .slice Ab1 lb1.length cb1, .slice Ab2 lb2.length cb2] (0, 0) _ (HS.out.blk 1 rfl) Try.underlying28 rfl (by kernel_rfl) ?_) | (go_at_call 47; with_reducible refine (spec_ArrayOk.calls kb b Ab1 cb1 lb1 Ab2 cb2 lb2 false _ (Kd.C_below Hb1.out HS.out.below) Kb1.out (Kd.C_below Hb2.out HS.out.below) Kb2.out HVb.out).mono ?_; rintro e w5 ⟨rfl, hb5⟩; have nS : Aside0 (Sx w w5 [(.blk gR #[.bool false, .slice none 0 0, .slice none 0 0] 28), (.blk gB #[.bool b, .slice Ab1 lb1.length cb1, .slice Ab2 lb2.length cb2] 28), (.blk gK #[.bool a, .slice Aa1 la1.length ca1, .slice Aa2 la2.length ca2] 28)]) := Aside0.mk (HS.out.step hb5); clear HS; have HS := nS; clear nS hb5) | (go_at_call 53; refine (spec_l4None.calls false [] [] _ rfl).mono ?_; rintro e w6 ⟨v16, v26, rfl, hr16, hr26, hb6⟩; obtain ⟨AS, cS, hv_⟩ := Kd.R_slice hr16; subst hv_; obtain ⟨AD, cD, hv_⟩ := Kd.R_slice hr26; subst hv_; have nS : Aside0 (Sx w w6 [(.row (.slice AS ([] : List Int).length cS) []), (.row (.slice AD ([] : List Int).length cD) []), (.blk gR #[.bool false, .slice none 0 0, .slice none 0 0] 28), (.blk gB #[.bool b, .slice Ab1 lb1.length cb1, .slice Ab2 lb2.length cb2] 28), (.blk gK #[.bool a, .slice Aa1 la1.length ca1, .slice Aa2 la2.length ca2] 28)]) := Aside0.mk (HS.out.addRow2 hb6 hr16 hr26); clear HS; have HS := nS; clear nS hb6 hr16 hr26) | ((with_reducible refine gate_store rfl ?_); refine store_named rfl 28 (.tmp 4) (.tmp 24) rfl gR #[.bool false, .slice AS ([] : List Int).length cS, .slice AD ([] : List Int).length cD] rfl rfl 28 #[.bool false, .slice none 0 0, .slice none 0 0] (HS.out.blk 2 rfl) (by kernel_rfl) rfl (by simp [Value.oneCell']) ?_; intro w7 hx7 hb7; have nS : Aside0 (Sx w w7 [(.row (.slice AS ([] : List Int).length cS) []), (.row (.slice AD ([] : List Int).length cD) []), (.blk gR #[.bool false, .slice AS ([] : List Int).length cS, .slice AD ([] : List Int).length cD] 28), (.blk gB #[.bool b, .slice Ab1 lb1.length cb1, .slice Ab2 lb2.length cb2] 28), (.blk gK #[.bool a, .slice Aa1 la1.length ca1, .slice Aa2 la2.length ca2] 28)]) := Aside0.mk (HS.out.put 2 rfl hx7 hb7); clear HS; have HS := nS; clear nS hx7 hb7))
  refine bodyPost_ret (results_ct rfl _ _ gR 28 #[.bool false, .slice AS ([] : List Int).length cS, .slice AD ([] : List Int).length cD] (0, 0) _ rfl (HS.out.blk 2 rfl) Try.underlying28 rfl (by kernel_rfl)) rfl ?_
  exact ⟨_, _, rfl, (HS.out.two 0 1 (by decide) rfl rfl).1, (HS.out.two 0 1 (by decide) rfl rfl).2, HS.out.below⟩
set_option maxHeartbeats 2000000 in
set_option maxRecDepth 100000 in
theorem scat_rank (a : Bool) (Aa1 : Option Addr) (ca1 : Nat) (la1 : List Int) (Aa2 : Option Addr) (ca2 : Nat) (la2 : List Int) (b : Bool) (Ab1 : Option Addr) (cb1 : Nat) (lb1 : List Int) (Ab2 : Option Addr) (cb2 : Nat) (lb2 : List Int) (w : World) (ha1 : Kd.C (Kd.int .i64) w Aa1 la1.length la1) (ka1 : la1.length ≤ ca1) (ha2 : Kd.C (Kd.int .i64) w Aa2 la2.length la2) (ka2 : la2.length ≤ ca2) (hb1 : Kd.C (Kd.int .i64) w Ab1 lb1.length lb1) (kb1 : lb1.length ≤ cb1) (hb2 : Kd.C (Kd.int .i64) w Ab2 lb2.length lb2) (kb2 : lb2.length ≤ cb2) (ka : Nat) (hva : spec_ArrayOk.f ka a la1 la2 = some true) (kb : Nat) (hvb : spec_ArrayOk.f kb b lb1 lb2 = some true) (hn5 : la1.length ≤ 5) (hm5 : lb1.length ≤ 5) (h1 : la1.length ≠ 0) (h2 : lb1.length ≠ 0) (h3 : la1.length + 1 ≠ lb1.length) (h4 : lb1.length + 1 ≠ la1.length) (h5 : la1.length ≠ lb1.length) :
    Calls Try.prog 37 #[.agg #[.bool a, .slice Aa1 la1.length ca1, .slice Aa2 la2.length ca2], .agg #[.bool b, .slice Ab1 lb1.length cb1, .slice Ab2 lb2.length cb2]] w fun e w' => ∃ v1_ v2_ : Value, e = .returned (.tuple #[.agg #[.bool false, v1_, v2_], .int .i64 4]) ∧ Kd.R (Kd.int .i64) 3 w' w.heap.size (fun k_ => some k_ ≠ (v2_ : Value).ownBlock) v1_ [] ∧ Kd.R (Kd.int .i64) 3 w' w.heap.size (fun k_ => some k_ ≠ (v1_ : Value).ownBlock) v2_ [] ∧ Below w.heap.size w w' := by
  have Ha1 := Aside0.mk ha1
  have Ka1 := Aside0.mk ka1
  clear ha1 ka1
  have Ha2 := Aside0.mk ha2
  have Ka2 := Aside0.mk ka2
  clear ha2 ka2
  have Hb1 := Aside0.mk hb1
  have Kb1 := Aside0.mk kb1
  clear hb1 kb1
  have Hb2 := Aside0.mk hb2
  have Kb2 := Aside0.mk kb2
  clear hb2 kb2
  have HVa := Aside0.mk hva
  clear hva
  have HVb := Aside0.mk hvb
  clear hvb
  have HN5 := Aside0.mk hn5
  have HM5 := Aside0.mk hm5
  have t1 : (((la1.length : Int) : Int) == 0) = false := beq_eq_false_iff_ne.mpr (by omega)
  have u1_ : (la1.length == 0) = false := beq_eq_false_iff_ne.mpr (by omega)
  have u1_d : decide (la1.length = 0) = false := decide_eq_false (by omega)
  have u1_p : ¬ la1.length = 0 := by omega
  have t2 : (((lb1.length : Int) : Int) == 0) = false := beq_eq_false_iff_ne.mpr (by omega)
  have u2_ : (lb1.length == 0) = false := beq_eq_false_iff_ne.mpr (by omega)
  have u2_d : decide (lb1.length = 0) = false := decide_eq_false (by omega)
  have u2_p : ¬ lb1.length = 0 := by omega
  have t3 : (((la1.length : Int) + 1 : Int) == (lb1.length : Int)) = false := beq_eq_false_iff_ne.mpr (by omega)
  have t3p : ¬ la1.length + 1 = lb1.length := by omega
  have t4 : (((lb1.length : Int) + 1 : Int) == (la1.length : Int)) = false := beq_eq_false_iff_ne.mpr (by omega)
  have t4p : ¬ lb1.length + 1 = la1.length := by omega
  have u5_ : (la1.length == lb1.length) = false := beq_eq_false_iff_ne.mpr (by omega)
  have u5_d : decide (la1.length = lb1.length) = false := decide_eq_false (by omega)
  have u5_p : ¬ la1.length = lb1.length := by omega
  have t6 : ((la1.length : Int) != (lb1.length : Int)) = true := bne_iff_ne.mpr (by omega)
  have wa_ : IntKind.i64.wrap ((la1.length : Int) + 1) = (la1.length : Int) + 1 := IntWalk.i64_in _ (by have := HN5.out; omega)
  have wb_ : IntKind.i64.wrap ((lb1.length : Int) + 1) = (lb1.length : Int) + 1 := IntWalk.i64_in _ (by have := HM5.out; omega)
  clear h1 h2 h3 h4 h5 hn5 hm5
  have HS := Aside0.mk (Sx.start w)
  go_enter Try.func37, Try.ntmps37
  go_wp2_with (first | ((with_reducible refine gate_dst (N := 2) rfl ?_); refine box_event ?hg (N := 2) ?hd (cs := #[.bool a, .slice Aa1 la1.length ca1, .slice Aa2 la2.length ca2]) (t := 28) ?hr ?_; (case hd => rfl); (case hg => rfl); (case hr => first | (go_simp; done) | (go_simp; rfl)); intro gK hg1 w1 hx1 hb1; have nS : Aside0 (Sx w w1 [(.blk gK #[.bool a, .slice Aa1 la1.length ca1, .slice Aa2 la2.length ca2] 28)]) := Aside0.mk (HS.out.box hg1 hx1 hb1); clear HS; have HS := nS; clear nS hg1 hx1 hb1) | ((with_reducible refine gate_dst (N := 3) rfl ?_); refine box_event ?hg (N := 3) ?hd (cs := #[.bool b, .slice Ab1 lb1.length cb1, .slice Ab2 lb2.length cb2]) (t := 28) ?hr ?_; (case hd => rfl); (case hg => rfl); (case hr => first | (go_simp; done) | (go_simp; rfl)); intro gB hg2 w2 hx2 hb2; have nS : Aside0 (Sx w w2 [(.blk gB #[.bool b, .slice Ab1 lb1.length cb1, .slice Ab2 lb2.length cb2] 28), (.blk gK #[.bool a, .slice Aa1 la1.length ca1, .slice Aa2 la2.length ca2] 28)]) := Aside0.mk (HS.out.box hg2 hx2 hb2); clear HS; have HS := nS; clear nS hg2 hx2 hb2) | ((with_reducible refine gate_dst (N := 4) rfl ?_); refine box_event ?hg (N := 4) ?hd (cs := #[.bool false, .slice none 0 0, .slice none 0 0]) (t := 28) ?hr ?_; (case hd => rfl); (case hg => rfl); (case hr => first | (go_simp; done) | (go_simp; rfl)); intro gR hg3 w3 hx3 hb3; have nS : Aside0 (Sx w w3 [(.blk gR #[.bool false, .slice none 0 0, .slice none 0 0] 28), (.blk gB #[.bool b, .slice Ab1 lb1.length cb1, .slice Ab2 lb2.length cb2] 28), (.blk gK #[.bool a, .slice Aa1 la1.length ca1, .slice Aa2 la2.length ca2] 28)]) := Aside0.mk (HS.out.box hg3 hx3 hb3); clear HS; have HS := nS; clear nS hg3 hx3 hb3) | ((with_reducible refine gate_dst (N := 16) rfl ?_); refine wpList_load_row rfl 28 (.tmp 2) rfl gK rfl 28 #[.bool a, .slice Aa1 la1.length ca1, .slice Aa2 la2.length ca2] (0, 0) _ (HS.out.blk 2 rfl) Try.underlying28 rfl (by kernel_rfl) ?_) | (go_at_call 47; with_reducible refine (spec_ArrayOk.calls ka a Aa1 ca1 la1 Aa2 ca2 la2 true _ (Kd.C_below Ha1.out HS.out.below) Ka1.out (Kd.C_below Ha2.out HS.out.below) Ka2.out HVa.out).mono ?_; rintro e w4 ⟨rfl, hb4⟩; have nS : Aside0 (Sx w w4 [(.blk gR #[.bool false, .slice none 0 0, .slice none 0 0] 28), (.blk gB #[.bool b, .slice Ab1 lb1.length cb1, .slice Ab2 lb2.length cb2] 28), (.blk gK #[.bool a, .slice Aa1 la1.length ca1, .slice Aa2 la2.length ca2] 28)]) := Aside0.mk (HS.out.step hb4); clear HS; have HS := nS; clear nS hb4) | ((with_reducible refine wpList_guardedB ?hw ?_); (case hw => first | rfl | (go_simp; done))) | ((with_reducible refine gate_dst (N := 20) rfl ?_); refine wpList_load_row rfl 28 (.tmp 3) rfl gB rfl 28 #[.bool b, .slice Ab1 lb1.length cb1, .slice Ab2 lb2.length cb2] (0, 0) _ (HS.out.blk 1 rfl) Try.underlying28 rfl (by kernel_rfl) ?_) | (go_at_call 47; with_reducible refine (spec_ArrayOk.calls kb b Ab1 cb1 lb1 Ab2 cb2 lb2 true _ (Kd.C_below Hb1.out HS.out.below) Kb1.out (Kd.C_below Hb2.out HS.out.below) Kb2.out HVb.out).mono ?_; rintro e w5 ⟨rfl, hb5⟩; have nS : Aside0 (Sx w w5 [(.blk gR #[.bool false, .slice none 0 0, .slice none 0 0] 28), (.blk gB #[.bool b, .slice Ab1 lb1.length cb1, .slice Ab2 lb2.length cb2] 28), (.blk gK #[.bool a, .slice Aa1 la1.length ca1, .slice Aa2 la2.length ca2] 28)]) := Aside0.mk (HS.out.step hb5); clear HS; have HS := nS; clear nS hb5) | ((with_reducible refine gate_dst (N := 26) rfl ?_); refine ev_load rfl 22 (.tmp 25) rfl ⟨gK, 1, none⟩ rfl (.slice Aa1 la1.length ca1) ((blk_cell (HS.out.blk 2 rfl) 1).trans rfl) (by kernel_rfl) ?_) | ((with_reducible refine gate_dst (N := 29) rfl ?_); refine ev_load rfl 22 (.tmp 28) rfl ⟨gB, 1, none⟩ rfl (.slice Ab1 lb1.length cb1) ((blk_cell (HS.out.blk 1 rfl) 1).trans rfl) (by kernel_rfl) ?_) | (go_at_call 53; refine (spec_l4None.calls false [] [] _ rfl).mono ?_; rintro e w6 ⟨v16, v26, rfl, hr16, hr26, hb6⟩; obtain ⟨AS, cS, hv_⟩ := Kd.R_slice hr16; subst hv_; obtain ⟨AD, cD, hv_⟩ := Kd.R_slice hr26; subst hv_; have nS : Aside0 (Sx w w6 [(.row (.slice AS ([] : List Int).length cS) []), (.row (.slice AD ([] : List Int).length cD) []), (.blk gR #[.bool false, .slice none 0 0, .slice none 0 0] 28), (.blk gB #[.bool b, .slice Ab1 lb1.length cb1, .slice Ab2 lb2.length cb2] 28), (.blk gK #[.bool a, .slice Aa1 la1.length ca1, .slice Aa2 la2.length ca2] 28)]) := Aside0.mk (HS.out.addRow2 hb6 hr16 hr26); clear HS; have HS := nS; clear nS hb6 hr16 hr26) | ((with_reducible refine gate_store rfl ?_); refine store_named rfl 28 (.tmp 4) (.tmp 66) rfl gR #[.bool false, .slice AS ([] : List Int).length cS, .slice AD ([] : List Int).length cD] rfl rfl 28 #[.bool false, .slice none 0 0, .slice none 0 0] (HS.out.blk 2 rfl) (by kernel_rfl) rfl (by simp [Value.oneCell']) ?_; intro w7 hx7 hb7; have nS : Aside0 (Sx w w7 [(.row (.slice AS ([] : List Int).length cS) []), (.row (.slice AD ([] : List Int).length cD) []), (.blk gR #[.bool false, .slice AS ([] : List Int).length cS, .slice AD ([] : List Int).length cD] 28), (.blk gB #[.bool b, .slice Ab1 lb1.length cb1, .slice Ab2 lb2.length cb2] 28), (.blk gK #[.bool a, .slice Aa1 la1.length ca1, .slice Aa2 la2.length ca2] 28)]) := Aside0.mk (HS.out.put 2 rfl hx7 hb7); clear HS; have HS := nS; clear nS hx7 hb7))
  refine bodyPost_ret (results_ct rfl _ _ gR 28 #[.bool false, .slice AS ([] : List Int).length cS, .slice AD ([] : List Int).length cD] (0, 0) _ rfl (HS.out.blk 2 rfl) Try.underlying28 rfl (by kernel_rfl)) rfl ?_
  exact ⟨_, _, rfl, (HS.out.two 0 1 (by decide) rfl rfl).1, (HS.out.two 0 1 (by decide) rfl rfl).2, HS.out.below⟩
set_option maxHeartbeats 2000000 in
set_option maxRecDepth 100000 in
theorem scat_len (a : Bool) (Aa1 : Option Addr) (ca1 : Nat) (la1 : List Int) (Aa2 : Option Addr) (ca2 : Nat) (la2 : List Int) (b : Bool) (Ab1 : Option Addr) (cb1 : Nat) (lb1 : List Int) (Ab2 : Option Addr) (cb2 : Nat) (lb2 : List Int) (w : World) (ha1 : Kd.C (Kd.int .i64) w Aa1 la1.length la1) (ka1 : la1.length ≤ ca1) (ha2 : Kd.C (Kd.int .i64) w Aa2 la2.length la2) (ka2 : la2.length ≤ ca2) (hb1 : Kd.C (Kd.int .i64) w Ab1 lb1.length lb1) (kb1 : lb1.length ≤ cb1) (hb2 : Kd.C (Kd.int .i64) w Ab2 lb2.length lb2) (kb2 : lb2.length ≤ cb2) (ka : Nat) (hva : spec_ArrayOk.f ka a la1 la2 = some true) (kb : Nat) (hvb : spec_ArrayOk.f kb b lb1 lb2 = some true) (hn5 : la1.length ≤ 5) (hm5 : lb1.length ≤ 5) (L1 L2 M1 M2 : List Int) (hL1 : L1 = catL1 la1 lb1) (hL2 : L2 = catL2 la1 la2 lb1) (hM1 : M1 = catL1 lb1 la1) (hM2 : M2 = catL2 lb1 lb2 la1) (pq : Bool) (hpq : pq = (decide (la1.length = 0) && decide (lb1.length = 0))) (hd1 : la1.length = 0 → lb1.length = 0 → catL1 la1 lb1 = la1 ++ [1] ∧ catL2 la1 la2 lb1 = la2 ∧ catL1 lb1 la1 = lb1 ++ [1] ∧ catL2 lb1 lb2 la1 = lb2) (hba : la1.length = 0 → lb1.length ≠ 0 → SBesOk #[.agg #[.bool a, .slice Aa1 la1.length ca1, .slice Aa2 la2.length ca2], .agg #[.bool b, .slice Ab1 lb1.length cb1, .slice Ab2 lb2.length cb2]] a (lb1.dropLast ++ [1]) (List.replicate (prod lb1.dropLast).toNat (rd la2 0)) w) (hbb : lb1.length = 0 → la1.length ≠ 0 → SBesOk #[.agg #[.bool b, .slice Ab1 lb1.length cb1, .slice Ab2 lb2.length cb2], .agg #[.bool a, .slice Aa1 la1.length ca1, .slice Aa2 la2.length ca2]] b (la1.dropLast ++ [1]) (List.replicate (prod la1.dropLast).toNat (rd lb2 0)) w) (hr4 : la1.length = 0 ∨ lb1.length = 0 ∨ la1.length + 1 = lb1.length ∨ lb1.length + 1 = la1.length ∨ la1.length = lb1.length) (P1 Q1 : List Int) (hwa : spec_l4Without.f L1 false = some P1) (hwb : spec_l4Without.f M1 false = some Q1) (k2 : Nat) (hq : spec_l3Same.f k2 P1 Q1 = some false)  :
    Calls Try.prog 37 #[.agg #[.bool a, .slice Aa1 la1.length ca1, .slice Aa2 la2.length ca2], .agg #[.bool b, .slice Ab1 lb1.length cb1, .slice Ab2 lb2.length cb2]] w fun e w' => ∃ v1_ v2_ : Value, e = .returned (.tuple #[.agg #[.bool false, v1_, v2_], .int .i64 5]) ∧ Kd.R (Kd.int .i64) 3 w' w.heap.size (fun k_ => some k_ ≠ (v2_ : Value).ownBlock) v1_ [] ∧ Kd.R (Kd.int .i64) 3 w' w.heap.size (fun k_ => some k_ ≠ (v1_ : Value).ownBlock) v2_ [] ∧ Below w.heap.size w w' := by
  have Ha1 := Aside0.mk ha1
  have Ka1 := Aside0.mk ka1
  clear ha1 ka1
  have Ha2 := Aside0.mk ha2
  have Ka2 := Aside0.mk ka2
  clear ha2 ka2
  have Hb1 := Aside0.mk hb1
  have Kb1 := Aside0.mk kb1
  clear hb1 kb1
  have Hb2 := Aside0.mk hb2
  have Kb2 := Aside0.mk kb2
  clear hb2 kb2
  have HVa := Aside0.mk hva
  clear hva
  have HVb := Aside0.mk hvb
  clear hvb
  have HN5 := Aside0.mk hn5
  have HM5 := Aside0.mk hm5
  have HL1 := Aside0.mk hL1
  have HL2_ := Aside0.mk hL2
  have HM1 := Aside0.mk hM1
  have HM2_ := Aside0.mk hM2
  have HPQ := Aside0.mk hpq
  have HD1 := Aside0.mk hd1
  have HBA0 := Aside0.mk hba
  have HBB0 := Aside0.mk hbb
  have HR4 := Aside0.mk hr4
  clear hL1 hL2 hM1 hM2 hpq hd1 hba hbb hr4
  have HWA := Aside0.mk hwa
  have HWB := Aside0.mk hwb
  clear hwa hwb
  have HEQ := Aside0.mk hq
  clear hq
  have HS := Aside0.mk (Sx.start w)
  go_enter Try.func37, Try.ntmps37
  go_upto_region 5 with (first | ((with_reducible refine gate_dst (N := 2) rfl ?_); refine box_event ?hg (N := 2) ?hd (cs := #[.bool a, .slice Aa1 la1.length ca1, .slice Aa2 la2.length ca2]) (t := 28) ?hr ?_; (case hd => rfl); (case hg => rfl); (case hr => first | (go_simp; done) | (go_simp; rfl)); intro gK hg1 w1 hx1 hb1; have nS : Aside0 (Sx w w1 [(.blk gK #[.bool a, .slice Aa1 la1.length ca1, .slice Aa2 la2.length ca2] 28)]) := Aside0.mk (HS.out.box hg1 hx1 hb1); clear HS; have HS := nS; clear nS hg1 hx1 hb1) | ((with_reducible refine gate_dst (N := 3) rfl ?_); refine box_event ?hg (N := 3) ?hd (cs := #[.bool b, .slice Ab1 lb1.length cb1, .slice Ab2 lb2.length cb2]) (t := 28) ?hr ?_; (case hd => rfl); (case hg => rfl); (case hr => first | (go_simp; done) | (go_simp; rfl)); intro gB hg2 w2 hx2 hb2; have nS : Aside0 (Sx w w2 [(.blk gB #[.bool b, .slice Ab1 lb1.length cb1, .slice Ab2 lb2.length cb2] 28), (.blk gK #[.bool a, .slice Aa1 la1.length ca1, .slice Aa2 la2.length ca2] 28)]) := Aside0.mk (HS.out.box hg2 hx2 hb2); clear HS; have HS := nS; clear nS hg2 hx2 hb2) | ((with_reducible refine gate_dst (N := 4) rfl ?_); refine box_event ?hg (N := 4) ?hd (cs := #[.bool false, .slice none 0 0, .slice none 0 0]) (t := 28) ?hr ?_; (case hd => rfl); (case hg => rfl); (case hr => first | (go_simp; done) | (go_simp; rfl)); intro gR hg3 w3 hx3 hb3; have nS : Aside0 (Sx w w3 [(.blk gR #[.bool false, .slice none 0 0, .slice none 0 0] 28), (.blk gB #[.bool b, .slice Ab1 lb1.length cb1, .slice Ab2 lb2.length cb2] 28), (.blk gK #[.bool a, .slice Aa1 la1.length ca1, .slice Aa2 la2.length ca2] 28)]) := Aside0.mk (HS.out.box hg3 hx3 hb3); clear HS; have HS := nS; clear nS hg3 hx3 hb3) | ((with_reducible refine gate_dst (N := 16) rfl ?_); refine wpList_load_row rfl 28 (.tmp 2) rfl gK rfl 28 #[.bool a, .slice Aa1 la1.length ca1, .slice Aa2 la2.length ca2] (0, 0) _ (HS.out.blk 2 rfl) Try.underlying28 rfl (by kernel_rfl) ?_) | (go_at_call 47; with_reducible refine (spec_ArrayOk.calls ka a Aa1 ca1 la1 Aa2 ca2 la2 true _ (Kd.C_below Ha1.out HS.out.below) Ka1.out (Kd.C_below Ha2.out HS.out.below) Ka2.out HVa.out).mono ?_; rintro e w4 ⟨rfl, hb4⟩; have nS : Aside0 (Sx w w4 [(.blk gR #[.bool false, .slice none 0 0, .slice none 0 0] 28), (.blk gB #[.bool b, .slice Ab1 lb1.length cb1, .slice Ab2 lb2.length cb2] 28), (.blk gK #[.bool a, .slice Aa1 la1.length ca1, .slice Aa2 la2.length ca2] 28)]) := Aside0.mk (HS.out.step hb4); clear HS; have HS := nS; clear nS hb4) | ((with_reducible refine wpList_guardedB ?hw ?_); (case hw => first | rfl | (go_simp; done))) | ((with_reducible refine gate_dst (N := 20) rfl ?_); refine wpList_load_row rfl 28 (.tmp 3) rfl gB rfl 28 #[.bool b, .slice Ab1 lb1.length cb1, .slice Ab2 lb2.length cb2] (0, 0) _ (HS.out.blk 1 rfl) Try.underlying28 rfl (by kernel_rfl) ?_) | (go_at_call 47; with_reducible refine (spec_ArrayOk.calls kb b Ab1 cb1 lb1 Ab2 cb2 lb2 true _ (Kd.C_below Hb1.out HS.out.below) Kb1.out (Kd.C_below Hb2.out HS.out.below) Kb2.out HVb.out).mono ?_; rintro e w5 ⟨rfl, hb5⟩; have nS : Aside0 (Sx w w5 [(.blk gR #[.bool false, .slice none 0 0, .slice none 0 0] 28), (.blk gB #[.bool b, .slice Ab1 lb1.length cb1, .slice Ab2 lb2.length cb2] 28), (.blk gK #[.bool a, .slice Aa1 la1.length ca1, .slice Aa2 la2.length ca2] 28)]) := Aside0.mk (HS.out.step hb5); clear HS; have HS := nS; clear nS hb5) | ((with_reducible refine gate_dst (N := 26) rfl ?_); refine ev_load rfl 22 (.tmp 25) rfl ⟨gK, 1, none⟩ rfl (.slice Aa1 la1.length ca1) ((blk_cell (HS.out.blk 2 rfl) 1).trans rfl) (by kernel_rfl) ?_) | ((with_reducible refine gate_dst (N := 29) rfl ?_); refine ev_load rfl 22 (.tmp 28) rfl ⟨gB, 1, none⟩ rfl (.slice Ab1 lb1.length cb1) ((blk_cell (HS.out.blk 1 rfl) 1).trans rfl) (by kernel_rfl) ?_))
  go_cut [36] from 31 to 36 (fun s36 wx => s36 = .bool pq ∧ Aside0 (Sx w wx [(.blk gR #[.bool false, .slice none 0 0, .slice none 0 0] 28), (.blk gB #[.bool b, .slice Ab1 lb1.length cb1, .slice Ab2 lb2.length cb2] 28), (.blk gK #[.bool a, .slice Aa1 la1.length ca1, .slice Aa2 la2.length ca2] 28)]))
  case first =>
    by_cases y1 : la1.length = 0
    · by_cases y2 : lb1.length = 0
      · have t1 : (((la1.length : Int) : Int) == 0) = true := beq_iff_eq.mpr (by omega)
        have u1_ : (la1.length == 0) = true := beq_iff_eq.mpr (by omega)
        have u1_d : decide (la1.length = 0) = true := decide_eq_true (by omega)
        have t2 : (((lb1.length : Int) : Int) == 0) = true := beq_iff_eq.mpr (by omega)
        have u2_ : (lb1.length == 0) = true := beq_iff_eq.mpr (by omega)
        have u2_d : decide (lb1.length = 0) = true := decide_eq_true (by omega)
        have E36 := Aside0.mk (show pq = true by rw [HPQ.out, decide_eq_true y1, decide_eq_true y2]; rfl)
        clear y1 y2
        go_wp2_with (first | ((with_reducible refine wpList_guardedB ?hw ?_); (case hw => first | rfl | (go_simp; done))))
        go_meet
        case rel => exact ⟨by first | (rw [E36.out]; done) | (rw [E36.out, u2_d]), HS⟩
      · have t1 : (((la1.length : Int) : Int) == 0) = true := beq_iff_eq.mpr (by omega)
        have u1_ : (la1.length == 0) = true := beq_iff_eq.mpr (by omega)
        have u1_d : decide (la1.length = 0) = true := decide_eq_true (by omega)
        have t2 : (((lb1.length : Int) : Int) == 0) = false := beq_eq_false_iff_ne.mpr (by omega)
        have u2_ : (lb1.length == 0) = false := beq_eq_false_iff_ne.mpr (by omega)
        have u2_d : decide (lb1.length = 0) = false := decide_eq_false (by omega)
        have u2_p : ¬ lb1.length = 0 := by omega
        have E36 := Aside0.mk (show pq = false by rw [HPQ.out, decide_eq_true y1, decide_eq_false y2]; rfl)
        clear y1 y2
        go_wp2_with (first | ((with_reducible refine wpList_guardedB ?hw ?_); (case hw => first | rfl | (go_simp; done))))
        go_meet
        case rel => exact ⟨by first | (rw [E36.out]; done) | (rw [E36.out, u2_d]), HS⟩
    · have t1 : (((la1.length : Int) : Int) == 0) = false := beq_eq_false_iff_ne.mpr (by omega)
      have u1_ : (la1.length == 0) = false := beq_eq_false_iff_ne.mpr (by omega)
      have u1_d : decide (la1.length = 0) = false := decide_eq_false (by omega)
      have u1_p : ¬ la1.length = 0 := by omega
      have E36 := Aside0.mk (show pq = false by rw [HPQ.out, decide_eq_false y1]; rfl)
      clear y1
      go_wp2_with (first | ((with_reducible refine wpList_guardedB ?hw ?_); (case hw => first | rfl | (go_simp; done))))
      go_meet
      case rel => exact ⟨by first | (rw [E36.out]; done) | (rw [E36.out, u2_d]), HS⟩
  clear HS
  obtain ⟨e36, HS⟩ := hcut
  subst e36
  go_upto_if 36 with fail
  go_cut [] from 37 to 66 (fun wx => ∃ As cs Ad cd Bs ds Bd dd, Kd.C (Kd.int .i64) wx As L1.length L1 ∧ L1.length ≤ cs ∧ Kd.C (Kd.int .i64) wx Ad L2.length L2 ∧ L2.length ≤ cd ∧ Kd.C (Kd.int .i64) wx Bs M1.length M1 ∧ M1.length ≤ ds ∧ Kd.C (Kd.int .i64) wx Bd M2.length M2 ∧ M2.length ≤ dd ∧ Aside0 (Sx w wx [(.blk gR #[.bool false, .slice none 0 0, .slice none 0 0] 28), (.blk gB #[.bool b, .slice Bs M1.length ds, .slice Bd M2.length dd] 28), (.blk gK #[.bool a, .slice As L1.length cs, .slice Ad L2.length cd] 28)]))
  case first =>
    have hpq := HPQ.out
    clear HPQ
    by_cases y1 : la1.length = 0
    · by_cases y2 : lb1.length = 0
      · have e_ : pq = true := by rw [hpq, decide_eq_true y1, decide_eq_true y2]; rfl
        subst e_
        have f1 := HD1.out y1 y2
        obtain ⟨e1_, e2_, e3_, e4_⟩ : L1 = (la1 ++ [1]) ∧ L2 = la2 ∧ M1 = (lb1 ++ [1]) ∧ M2 = lb2 := ⟨HL1.out.trans f1.1, HL2_.out.trans f1.2.1, HM1.out.trans f1.2.2.1, HM2_.out.trans f1.2.2.2⟩
        clear HL1 HL2_ HM1 HM2_
        have HWDa := Aside0.mk (show WBesOk #[.agg #[.bool a, .slice Aa1 la1.length ca1, .slice Aa2 la2.length ca2]] a L1 L2 w by rw [e1_, e2_]; exact wbesOk a Aa1 ca1 la1 Aa2 ca2 la2 w Ha1.out Ka1.out Ha2.out Ka2.out HN5.out)
        clear e1_ e2_
        have HWDb := Aside0.mk (show WBesOk #[.agg #[.bool b, .slice Ab1 lb1.length cb1, .slice Ab2 lb2.length cb2]] b M1 M2 w by rw [e3_, e4_]; exact wbesOk b Ab1 cb1 lb1 Ab2 cb2 lb2 w Hb1.out Kb1.out Hb2.out Kb2.out HM5.out)
        clear e3_ e4_
        clear y1 y2 hpq f1 hn5 hm5
        go_wp2_with (first | ((with_reducible refine gate_dst (N := 37) rfl ?_); refine wpList_load_row rfl 28 (.tmp 2) rfl gK rfl 28 #[.bool a, .slice Aa1 la1.length ca1, .slice Aa2 la2.length ca2] (0, 0) _ (HS.out.blk 2 rfl) Try.underlying28 rfl (by kernel_rfl) ?_) | (go_at_call_of 85 (Value.agg #[.bool a, .slice Aa1 la1.length ca1, .slice Aa2 la2.length ca2]); refine (HWDa.out.go _ HS.out.below).mono ?_; rintro e wp6 ⟨As, cs, Ad, cd, rfl, hCA1, hKA1, hCA2, hKA2, hbp6⟩; have CA1 := Aside0.mk hCA1; have KA1 := Aside0.mk hKA1; have CA2 := Aside0.mk hCA2; have KA2 := Aside0.mk hKA2; clear hCA1 hKA1 hCA2 hKA2; have nS : Aside0 (Sx w wp6 [(.blk gR #[.bool false, .slice none 0 0, .slice none 0 0] 28), (.blk gB #[.bool b, .slice Ab1 lb1.length cb1, .slice Ab2 lb2.length cb2] 28), (.blk gK #[.bool a, .slice Aa1 la1.length ca1, .slice Aa2 la2.length ca2] 28)]) := Aside0.mk (HS.out.step hbp6); clear HS; have HS := nS; clear nS hbp6) | ((with_reducible refine gate_store rfl ?_); refine store_named rfl 28 (.tmp 2) (.tmp 38) rfl gK #[.bool a, .slice As L1.length cs, .slice Ad L2.length cd] rfl rfl 28 #[.bool a, .slice Aa1 la1.length ca1, .slice Aa2 la2.length ca2] (HS.out.blk 2 rfl) (by kernel_rfl) rfl (by simp [Value.oneCell']) ?_; intro wp7 hxp7 hbp7; have nCA1 := Aside0.mk (C_but1 CA1.out hbp7 (HS.out.blk 2 rfl) (noInt_A _ _ _ _ _ _ _)); clear CA1; have CA1 := nCA1; clear nCA1; have nCA2 := Aside0.mk (C_but1 CA2.out hbp7 (HS.out.blk 2 rfl) (noInt_A _ _ _ _ _ _ _)); clear CA2; have CA2 := nCA2; clear nCA2; have nS : Aside0 (Sx w wp7 [(.blk gR #[.bool false, .slice none 0 0, .slice none 0 0] 28), (.blk gB #[.bool b, .slice Ab1 lb1.length cb1, .slice Ab2 lb2.length cb2] 28), (.blk gK #[.bool a, .slice As L1.length cs, .slice Ad L2.length cd] 28)]) := Aside0.mk (HS.out.put 2 rfl hxp7 hbp7); clear HS; have HS := nS; clear nS hxp7 hbp7) | ((with_reducible refine gate_dst (N := 39) rfl ?_); refine wpList_load_row rfl 28 (.tmp 3) rfl gB rfl 28 #[.bool b, .slice Ab1 lb1.length cb1, .slice Ab2 lb2.length cb2] (0, 0) _ (HS.out.blk 1 rfl) Try.underlying28 rfl (by kernel_rfl) ?_) | (go_at_call_of 85 (Value.agg #[.bool b, .slice Ab1 lb1.length cb1, .slice Ab2 lb2.length cb2]); refine (HWDb.out.go _ HS.out.below).mono ?_; rintro e wp8 ⟨Bs, ds, Bd, dd, rfl, hCB1, hKB1, hCB2, hKB2, hbp8⟩; have CB1 := Aside0.mk hCB1; have KB1 := Aside0.mk hKB1; have CB2 := Aside0.mk hCB2; have KB2 := Aside0.mk hKB2; clear hCB1 hKB1 hCB2 hKB2; have nCA1 := Aside0.mk (Kd.C_below CA1.out hbp8); clear CA1; have CA1 := nCA1; clear nCA1; have nCA2 := Aside0.mk (Kd.C_below CA2.out hbp8); clear CA2; have CA2 := nCA2; clear nCA2; have nS : Aside0 (Sx w wp8 [(.blk gR #[.bool false, .slice none 0 0, .slice none 0 0] 28), (.blk gB #[.bool b, .slice Ab1 lb1.length cb1, .slice Ab2 lb2.length cb2] 28), (.blk gK #[.bool a, .slice As L1.length cs, .slice Ad L2.length cd] 28)]) := Aside0.mk (HS.out.step hbp8); clear HS; have HS := nS; clear nS hbp8) | ((with_reducible refine gate_store rfl ?_); refine store_named rfl 28 (.tmp 3) (.tmp 40) rfl gB #[.bool b, .slice Bs M1.length ds, .slice Bd M2.length dd] rfl rfl 28 #[.bool b, .slice Ab1 lb1.length cb1, .slice Ab2 lb2.length cb2] (HS.out.blk 1 rfl) (by kernel_rfl) rfl (by simp [Value.oneCell']) ?_; intro wp9 hxp9 hbp9; have nCA1 := Aside0.mk (C_but1 CA1.out hbp9 (HS.out.blk 1 rfl) (noInt_A _ _ _ _ _ _ _)); clear CA1; have CA1 := nCA1; clear nCA1; have nCA2 := Aside0.mk (C_but1 CA2.out hbp9 (HS.out.blk 1 rfl) (noInt_A _ _ _ _ _ _ _)); clear CA2; have CA2 := nCA2; clear nCA2; have nCB1 := Aside0.mk (C_but1 CB1.out hbp9 (HS.out.blk 1 rfl) (noInt_A _ _ _ _ _ _ _)); clear CB1; have CB1 := nCB1; clear nCB1; have nCB2 := Aside0.mk (C_but1 CB2.out hbp9 (HS.out.blk 1 rfl) (noInt_A _ _ _ _ _ _ _)); clear CB2; have CB2 := nCB2; clear nCB2; have nS : Aside0 (Sx w wp9 [(.blk gR #[.bool false, .slice none 0 0, .slice none 0 0] 28), (.blk gB #[.bool b, .slice Bs M1.length ds, .slice Bd M2.length dd] 28), (.blk gK #[.bool a, .slice As L1.length cs, .slice Ad L2.length cd] 28)]) := Aside0.mk (HS.out.put 1 rfl hxp9 hbp9); clear HS; have HS := nS; clear nS hxp9 hbp9))
        go_meet
        case rel => exact ⟨As, cs, Ad, cd, Bs, ds, Bd, dd, CA1.out, KA1.out, CA2.out, KA2.out, CB1.out, KB1.out, CB2.out, KB2.out, HS⟩
      · have e_ : pq = false := by rw [hpq, decide_eq_true y1, decide_eq_false y2]; rfl
        subst e_
        have t1 : (((la1.length : Int) : Int) == 0) = true := beq_iff_eq.mpr (by omega)
        have u1_ : (la1.length == 0) = true := beq_iff_eq.mpr (by omega)
        have u1_d : decide (la1.length = 0) = true := decide_eq_true (by omega)
        obtain ⟨e1_, e2_, e3_, e4_⟩ : L1 = (lb1.dropLast ++ [1]) ∧ L2 = (List.replicate (prod lb1.dropLast).toNat (rd la2 0)) ∧ M1 = lb1 ∧ M2 = lb2 := by
          have h1 := HL1.out; have h2 := HL2_.out; have h3 := HM1.out; have h4 := HM2_.out
          unfold catL1 at h1 h3; unfold catL2 at h2 h4
          (repeat (first | rw [if_pos (by omega)] at h1 | rw [if_neg (by omega)] at h1)); (repeat (first | rw [if_pos (by omega)] at h2 | rw [if_neg (by omega)] at h2)); (repeat (first | rw [if_pos (by omega)] at h3 | rw [if_neg (by omega)] at h3)); (repeat (first | rw [if_pos (by omega)] at h4 | rw [if_neg (by omega)] at h4))
          exact ⟨h1, h2, h3, h4⟩
        clear HL1 HL2_ HM1 HM2_
        have HBA := Aside0.mk (show SBesOk #[.agg #[.bool a, .slice Aa1 la1.length ca1, .slice Aa2 la2.length ca2], .agg #[.bool b, .slice Ab1 lb1.length cb1, .slice Ab2 lb2.length cb2]] a L1 L2 w by rw [e1_, e2_]; exact HBA0.out y1 y2)
        clear e1_ e2_
        subst M1 M2
        clear y1 y2 hpq hn5 hm5
        go_wp2_with (first | ((with_reducible refine gate_dst (N := 43) rfl ?_); refine wpList_load_row rfl 28 (.tmp 2) rfl gK rfl 28 #[.bool a, .slice Aa1 la1.length ca1, .slice Aa2 la2.length ca2] (0, 0) _ (HS.out.blk 2 rfl) Try.underlying28 rfl (by kernel_rfl) ?_) | ((with_reducible refine gate_dst (N := 44) rfl ?_); refine wpList_load_row rfl 28 (.tmp 3) rfl gB rfl 28 #[.bool b, .slice Ab1 lb1.length cb1, .slice Ab2 lb2.length cb2] (0, 0) _ (HS.out.blk 1 rfl) Try.underlying28 rfl (by kernel_rfl) ?_) | (go_at_call 86; refine (HBA.out.go _ HS.out.below).mono ?_; rintro e wp6 ⟨As, cs, Ad, cd, rfl, hCA1, hKA1, hCA2, hKA2, hbp6⟩; have CA1 := Aside0.mk hCA1; have KA1 := Aside0.mk hKA1; have CA2 := Aside0.mk hCA2; have KA2 := Aside0.mk hKA2; clear hCA1 hKA1 hCA2 hKA2; have nS : Aside0 (Sx w wp6 [(.blk gR #[.bool false, .slice none 0 0, .slice none 0 0] 28), (.blk gB #[.bool b, .slice Ab1 lb1.length cb1, .slice Ab2 lb2.length cb2] 28), (.blk gK #[.bool a, .slice Aa1 la1.length ca1, .slice Aa2 la2.length ca2] 28)]) := Aside0.mk (HS.out.step hbp6); clear HS; have HS := nS; clear nS hbp6) | ((with_reducible refine gate_store rfl ?_); refine store_named rfl 28 (.tmp 2) (.tmp 45) rfl gK #[.bool a, .slice As L1.length cs, .slice Ad L2.length cd] rfl rfl 28 #[.bool a, .slice Aa1 la1.length ca1, .slice Aa2 la2.length ca2] (HS.out.blk 2 rfl) (by kernel_rfl) rfl (by simp [Value.oneCell']) ?_; intro wp7 hxp7 hbp7; have nCA1 := Aside0.mk (C_but1 CA1.out hbp7 (HS.out.blk 2 rfl) (noInt_A _ _ _ _ _ _ _)); clear CA1; have CA1 := nCA1; clear nCA1; have nCA2 := Aside0.mk (C_but1 CA2.out hbp7 (HS.out.blk 2 rfl) (noInt_A _ _ _ _ _ _ _)); clear CA2; have CA2 := nCA2; clear nCA2; have nS : Aside0 (Sx w wp7 [(.blk gR #[.bool false, .slice none 0 0, .slice none 0 0] 28), (.blk gB #[.bool b, .slice Ab1 lb1.length cb1, .slice Ab2 lb2.length cb2] 28), (.blk gK #[.bool a, .slice As L1.length cs, .slice Ad L2.length cd] 28)]) := Aside0.mk (HS.out.put 2 rfl hxp7 hbp7); clear HS; have HS := nS; clear nS hxp7 hbp7))
        go_meet
        case rel => exact ⟨As, cs, Ad, cd, Ab1, cb1, Ab2, cb2, CA1.out, KA1.out, CA2.out, KA2.out, (Kd.C_below Hb1.out HS.out.below), Kb1.out, (Kd.C_below Hb2.out HS.out.below), Kb2.out, HS⟩
    · by_cases y2 : lb1.length = 0
      · have e_ : pq = false := by rw [hpq, decide_eq_false y1]; rfl
        subst e_
        have t1 : (((la1.length : Int) : Int) == 0) = false := beq_eq_false_iff_ne.mpr (by omega)
        have u1_ : (la1.length == 0) = false := beq_eq_false_iff_ne.mpr (by omega)
        have u1_d : decide (la1.length = 0) = false := decide_eq_false (by omega)
        have u1_p : ¬ la1.length = 0 := by omega
        have t2 : (((lb1.length : Int) : Int) == 0) = true := beq_iff_eq.mpr (by omega)
        have u2_ : (lb1.length == 0) = true := beq_iff_eq.mpr (by omega)
        have u2_d : decide (lb1.length = 0) = true := decide_eq_true (by omega)
        obtain ⟨e1_, e2_, e3_, e4_⟩ : L1 = la1 ∧ L2 = la2 ∧ M1 = (la1.dropLast ++ [1]) ∧ M2 = (List.replicate (prod la1.dropLast).toNat (rd lb2 0)) := by
          have h1 := HL1.out; have h2 := HL2_.out; have h3 := HM1.out; have h4 := HM2_.out
          unfold catL1 at h1 h3; unfold catL2 at h2 h4
          (repeat (first | rw [if_pos (by omega)] at h1 | rw [if_neg (by omega)] at h1)); (repeat (first | rw [if_pos (by omega)] at h2 | rw [if_neg (by omega)] at h2)); (repeat (first | rw [if_pos (by omega)] at h3 | rw [if_neg (by omega)] at h3)); (repeat (first | rw [if_pos (by omega)] at h4 | rw [if_neg (by omega)] at h4))
          exact ⟨h1, h2, h3, h4⟩
        clear HL1 HL2_ HM1 HM2_
        subst L1 L2
        have HBB := Aside0.mk (show SBesOk #[.agg #[.bool b, .slice Ab1 lb1.length cb1, .slice Ab2 lb2.length cb2], .agg #[.bool a, .slice Aa1 la1.length ca1, .slice Aa2 la2.length ca2]] b M1 M2 w by rw [e3_, e4_]; exact HBB0.out y2 y1)
        clear e3_ e4_
        clear y1 y2 hpq hn5 hm5
        go_wp2_with (first | ((with_reducible refine gate_dst (N := 48) rfl ?_); refine wpList_load_row rfl 28 (.tmp 3) rfl gB rfl 28 #[.bool b, .slice Ab1 lb1.length cb1, .slice Ab2 lb2.length cb2] (0, 0) _ (HS.out.blk 1 rfl) Try.underlying28 rfl (by kernel_rfl) ?_) | ((with_reducible refine gate_dst (N := 49) rfl ?_); refine wpList_load_row rfl 28 (.tmp 2) rfl gK rfl 28 #[.bool a, .slice Aa1 la1.length ca1, .slice Aa2 la2.length ca2] (0, 0) _ (HS.out.blk 2 rfl) Try.underlying28 rfl (by kernel_rfl) ?_) | (go_at_call 86; refine (HBB.out.go _ HS.out.below).mono ?_; rintro e wp6 ⟨Bs, ds, Bd, dd, rfl, hCB1, hKB1, hCB2, hKB2, hbp6⟩; have CB1 := Aside0.mk hCB1; have KB1 := Aside0.mk hKB1; have CB2 := Aside0.mk hCB2; have KB2 := Aside0.mk hKB2; clear hCB1 hKB1 hCB2 hKB2; have nS : Aside0 (Sx w wp6 [(.blk gR #[.bool false, .slice none 0 0, .slice none 0 0] 28), (.blk gB #[.bool b, .slice Ab1 lb1.length cb1, .slice Ab2 lb2.length cb2] 28), (.blk gK #[.bool a, .slice Aa1 la1.length ca1, .slice Aa2 la2.length ca2] 28)]) := Aside0.mk (HS.out.step hbp6); clear HS; have HS := nS; clear nS hbp6) | ((with_reducible refine gate_store rfl ?_); refine store_named rfl 28 (.tmp 3) (.tmp 50) rfl gB #[.bool b, .slice Bs M1.length ds, .slice Bd M2.length dd] rfl rfl 28 #[.bool b, .slice Ab1 lb1.length cb1, .slice Ab2 lb2.length cb2] (HS.out.blk 1 rfl) (by kernel_rfl) rfl (by simp [Value.oneCell']) ?_; intro wp7 hxp7 hbp7; have nCB1 := Aside0.mk (C_but1 CB1.out hbp7 (HS.out.blk 1 rfl) (noInt_A _ _ _ _ _ _ _)); clear CB1; have CB1 := nCB1; clear nCB1; have nCB2 := Aside0.mk (C_but1 CB2.out hbp7 (HS.out.blk 1 rfl) (noInt_A _ _ _ _ _ _ _)); clear CB2; have CB2 := nCB2; clear nCB2; have nS : Aside0 (Sx w wp7 [(.blk gR #[.bool false, .slice none 0 0, .slice none 0 0] 28), (.blk gB #[.bool b, .slice Bs M1.length ds, .slice Bd M2.length dd] 28), (.blk gK #[.bool a, .slice Aa1 la1.length ca1, .slice Aa2 la2.length ca2] 28)]) := Aside0.mk (HS.out.put 1 rfl hxp7 hbp7); clear HS; have HS := nS; clear nS hxp7 hbp7))
        go_meet
        case rel => exact ⟨Aa1, ca1, Aa2, ca2, Bs, ds, Bd, dd, (Kd.C_below Ha1.out HS.out.below), Ka1.out, (Kd.C_below Ha2.out HS.out.below), Ka2.out, CB1.out, KB1.out, CB2.out, KB2.out, HS⟩
      · by_cases y3 : la1.length + 1 = lb1.length
        · have e_ : pq = false := by rw [hpq, decide_eq_false y1]; rfl
          subst e_
          have t1 : (((la1.length : Int) : Int) == 0) = false := beq_eq_false_iff_ne.mpr (by omega)
          have u1_ : (la1.length == 0) = false := beq_eq_false_iff_ne.mpr (by omega)
          have u1_d : decide (la1.length = 0) = false := decide_eq_false (by omega)
          have u1_p : ¬ la1.length = 0 := by omega
          have t2 : (((lb1.length : Int) : Int) == 0) = false := beq_eq_false_iff_ne.mpr (by omega)
          have u2_ : (lb1.length == 0) = false := beq_eq_false_iff_ne.mpr (by omega)
          have u2_d : decide (lb1.length = 0) = false := decide_eq_false (by omega)
          have u2_p : ¬ lb1.length = 0 := by omega
          have t3 : (((la1.length : Int) + 1 : Int) == (lb1.length : Int)) = true := beq_iff_eq.mpr (by omega)
          have wa_ : IntKind.i64.wrap ((la1.length : Int) + 1) = (la1.length : Int) + 1 := IntWalk.i64_in _ (by have := HN5.out; omega)
          have wb_ : IntKind.i64.wrap ((lb1.length : Int) + 1) = (lb1.length : Int) + 1 := IntWalk.i64_in _ (by have := HM5.out; omega)
          obtain ⟨e1_, e2_, e3_, e4_⟩ : L1 = (la1 ++ [1]) ∧ L2 = la2 ∧ M1 = lb1 ∧ M2 = lb2 := by
            have h1 := HL1.out; have h2 := HL2_.out; have h3 := HM1.out; have h4 := HM2_.out
            unfold catL1 at h1 h3; unfold catL2 at h2 h4
            (repeat (first | rw [if_pos (by omega)] at h1 | rw [if_neg (by omega)] at h1)); (repeat (first | rw [if_pos (by omega)] at h2 | rw [if_neg (by omega)] at h2)); (repeat (first | rw [if_pos (by omega)] at h3 | rw [if_neg (by omega)] at h3)); (repeat (first | rw [if_pos (by omega)] at h4 | rw [if_neg (by omega)] at h4))
            exact ⟨h1, h2, h3, h4⟩
          clear HL1 HL2_ HM1 HM2_
          have HWDa := Aside0.mk (show WBesOk #[.agg #[.bool a, .slice Aa1 la1.length ca1, .slice Aa2 la2.length ca2]] a L1 L2 w by rw [e1_, e2_]; exact wbesOk a Aa1 ca1 la1 Aa2 ca2 la2 w Ha1.out Ka1.out Ha2.out Ka2.out HN5.out)
          clear e1_ e2_
          subst M1 M2
          clear y1 y2 y3 hpq hn5 hm5
          go_wp2_with (first | ((with_reducible refine gate_dst (N := 55) rfl ?_); refine wpList_load_row rfl 28 (.tmp 2) rfl gK rfl 28 #[.bool a, .slice Aa1 la1.length ca1, .slice Aa2 la2.length ca2] (0, 0) _ (HS.out.blk 2 rfl) Try.underlying28 rfl (by kernel_rfl) ?_) | (go_at_call_of 85 (Value.agg #[.bool a, .slice Aa1 la1.length ca1, .slice Aa2 la2.length ca2]); refine (HWDa.out.go _ HS.out.below).mono ?_; rintro e wp6 ⟨As, cs, Ad, cd, rfl, hCA1, hKA1, hCA2, hKA2, hbp6⟩; have CA1 := Aside0.mk hCA1; have KA1 := Aside0.mk hKA1; have CA2 := Aside0.mk hCA2; have KA2 := Aside0.mk hKA2; clear hCA1 hKA1 hCA2 hKA2; have nS : Aside0 (Sx w wp6 [(.blk gR #[.bool false, .slice none 0 0, .slice none 0 0] 28), (.blk gB #[.bool b, .slice Ab1 lb1.length cb1, .slice Ab2 lb2.length cb2] 28), (.blk gK #[.bool a, .slice Aa1 la1.length ca1, .slice Aa2 la2.length ca2] 28)]) := Aside0.mk (HS.out.step hbp6); clear HS; have HS := nS; clear nS hbp6) | ((with_reducible refine gate_store rfl ?_); refine store_named rfl 28 (.tmp 2) (.tmp 56) rfl gK #[.bool a, .slice As L1.length cs, .slice Ad L2.length cd] rfl rfl 28 #[.bool a, .slice Aa1 la1.length ca1, .slice Aa2 la2.length ca2] (HS.out.blk 2 rfl) (by kernel_rfl) rfl (by simp [Value.oneCell']) ?_; intro wp7 hxp7 hbp7; have nCA1 := Aside0.mk (C_but1 CA1.out hbp7 (HS.out.blk 2 rfl) (noInt_A _ _ _ _ _ _ _)); clear CA1; have CA1 := nCA1; clear nCA1; have nCA2 := Aside0.mk (C_but1 CA2.out hbp7 (HS.out.blk 2 rfl) (noInt_A _ _ _ _ _ _ _)); clear CA2; have CA2 := nCA2; clear nCA2; have nS : Aside0 (Sx w wp7 [(.blk gR #[.bool false, .slice none 0 0, .slice none 0 0] 28), (.blk gB #[.bool b, .slice Ab1 lb1.length cb1, .slice Ab2 lb2.length cb2] 28), (.blk gK #[.bool a, .slice As L1.length cs, .slice Ad L2.length cd] 28)]) := Aside0.mk (HS.out.put 2 rfl hxp7 hbp7); clear HS; have HS := nS; clear nS hxp7 hbp7))
          go_meet
          case rel => exact ⟨As, cs, Ad, cd, Ab1, cb1, Ab2, cb2, CA1.out, KA1.out, CA2.out, KA2.out, (Kd.C_below Hb1.out HS.out.below), Kb1.out, (Kd.C_below Hb2.out HS.out.below), Kb2.out, HS⟩
        · by_cases y4 : lb1.length + 1 = la1.length
          · have e_ : pq = false := by rw [hpq, decide_eq_false y1]; rfl
            subst e_
            have t1 : (((la1.length : Int) : Int) == 0) = false := beq_eq_false_iff_ne.mpr (by omega)
            have u1_ : (la1.length == 0) = false := beq_eq_false_iff_ne.mpr (by omega)
            have u1_d : decide (la1.length = 0) = false := decide_eq_false (by omega)
            have u1_p : ¬ la1.length = 0 := by omega
            have t2 : (((lb1.length : Int) : Int) == 0) = false := beq_eq_false_iff_ne.mpr (by omega)
            have u2_ : (lb1.length == 0) = false := beq_eq_false_iff_ne.mpr (by omega)
            have u2_d : decide (lb1.length = 0) = false := decide_eq_false (by omega)
            have u2_p : ¬ lb1.length = 0 := by omega
            have t3 : (((la1.length : Int) + 1 : Int) == (lb1.length : Int)) = false := beq_eq_false_iff_ne.mpr (by omega)
            have t3p : ¬ la1.length + 1 = lb1.length := by omega
            have t4 : (((lb1.length : Int) + 1 : Int) == (la1.length : Int)) = true := beq_iff_eq.mpr (by omega)
            have wa_ : IntKind.i64.wrap ((la1.length : Int) + 1) = (la1.length : Int) + 1 := IntWalk.i64_in _ (by have := HN5.out; omega)
            have wb_ : IntKind.i64.wrap ((lb1.length : Int) + 1) = (lb1.length : Int) + 1 := IntWalk.i64_in _ (by have := HM5.out; omega)
            obtain ⟨e1_, e2_, e3_, e4_⟩ : L1 = la1 ∧ L2 = la2 ∧ M1 = (lb1 ++ [1]) ∧ M2 = lb2 := by
              have h1 := HL1.out; have h2 := HL2_.out; have h3 := HM1.out; have h4 := HM2_.out
              unfold catL1 at h1 h3; unfold catL2 at h2 h4
              (repeat (first | rw [if_pos (by omega)] at h1 | rw [if_neg (by omega)] at h1)); (repeat (first | rw [if_pos (by omega)] at h2 | rw [if_neg (by omega)] at h2)); (repeat (first | rw [if_pos (by omega)] at h3 | rw [if_neg (by omega)] at h3)); (repeat (first | rw [if_pos (by omega)] at h4 | rw [if_neg (by omega)] at h4))
              exact ⟨h1, h2, h3, h4⟩
            clear HL1 HL2_ HM1 HM2_
            subst L1 L2
            have HWDb := Aside0.mk (show WBesOk #[.agg #[.bool b, .slice Ab1 lb1.length cb1, .slice Ab2 lb2.length cb2]] b M1 M2 w by rw [e3_, e4_]; exact wbesOk b Ab1 cb1 lb1 Ab2 cb2 lb2 w Hb1.out Kb1.out Hb2.out Kb2.out HM5.out)
            clear e3_ e4_
            clear y1 y2 y3 y4 hpq hn5 hm5
            go_wp2_with (first | ((with_reducible refine gate_dst (N := 61) rfl ?_); refine wpList_load_row rfl 28 (.tmp 3) rfl gB rfl 28 #[.bool b, .slice Ab1 lb1.length cb1, .slice Ab2 lb2.length cb2] (0, 0) _ (HS.out.blk 1 rfl) Try.underlying28 rfl (by kernel_rfl) ?_) | (go_at_call_of 85 (Value.agg #[.bool b, .slice Ab1 lb1.length cb1, .slice Ab2 lb2.length cb2]); refine (HWDb.out.go _ HS.out.below).mono ?_; rintro e wp6 ⟨Bs, ds, Bd, dd, rfl, hCB1, hKB1, hCB2, hKB2, hbp6⟩; have CB1 := Aside0.mk hCB1; have KB1 := Aside0.mk hKB1; have CB2 := Aside0.mk hCB2; have KB2 := Aside0.mk hKB2; clear hCB1 hKB1 hCB2 hKB2; have nS : Aside0 (Sx w wp6 [(.blk gR #[.bool false, .slice none 0 0, .slice none 0 0] 28), (.blk gB #[.bool b, .slice Ab1 lb1.length cb1, .slice Ab2 lb2.length cb2] 28), (.blk gK #[.bool a, .slice Aa1 la1.length ca1, .slice Aa2 la2.length ca2] 28)]) := Aside0.mk (HS.out.step hbp6); clear HS; have HS := nS; clear nS hbp6) | ((with_reducible refine gate_store rfl ?_); refine store_named rfl 28 (.tmp 3) (.tmp 62) rfl gB #[.bool b, .slice Bs M1.length ds, .slice Bd M2.length dd] rfl rfl 28 #[.bool b, .slice Ab1 lb1.length cb1, .slice Ab2 lb2.length cb2] (HS.out.blk 1 rfl) (by kernel_rfl) rfl (by simp [Value.oneCell']) ?_; intro wp7 hxp7 hbp7; have nCB1 := Aside0.mk (C_but1 CB1.out hbp7 (HS.out.blk 1 rfl) (noInt_A _ _ _ _ _ _ _)); clear CB1; have CB1 := nCB1; clear nCB1; have nCB2 := Aside0.mk (C_but1 CB2.out hbp7 (HS.out.blk 1 rfl) (noInt_A _ _ _ _ _ _ _)); clear CB2; have CB2 := nCB2; clear nCB2; have nS : Aside0 (Sx w wp7 [(.blk gR #[.bool false, .slice none 0 0, .slice none 0 0] 28), (.blk gB #[.bool b, .slice Bs M1.length ds, .slice Bd M2.length dd] 28), (.blk gK #[.bool a, .slice Aa1 la1.length ca1, .slice Aa2 la2.length ca2] 28)]) := Aside0.mk (HS.out.put 1 rfl hxp7 hbp7); clear HS; have HS := nS; clear nS hxp7 hbp7))
            go_meet
            case rel => exact ⟨Aa1, ca1, Aa2, ca2, Bs, ds, Bd, dd, (Kd.C_below Ha1.out HS.out.below), Ka1.out, (Kd.C_below Ha2.out HS.out.below), Ka2.out, CB1.out, KB1.out, CB2.out, KB2.out, HS⟩
          · have e_ : pq = false := by rw [hpq, decide_eq_false y1]; rfl
            subst e_
            have y5 : la1.length = lb1.length := by rcases HR4.out with h | h | h | h | h <;> omega
            have t1 : (((la1.length : Int) : Int) == 0) = false := beq_eq_false_iff_ne.mpr (by omega)
            have u1_ : (la1.length == 0) = false := beq_eq_false_iff_ne.mpr (by omega)
            have u1_d : decide (la1.length = 0) = false := decide_eq_false (by omega)
            have u1_p : ¬ la1.length = 0 := by omega
            have t2 : (((lb1.length : Int) : Int) == 0) = false := beq_eq_false_iff_ne.mpr (by omega)
            have u2_ : (lb1.length == 0) = false := beq_eq_false_iff_ne.mpr (by omega)
            have u2_d : decide (lb1.length = 0) = false := decide_eq_false (by omega)
            have u2_p : ¬ lb1.length = 0 := by omega
            have t3 : (((la1.length : Int) + 1 : Int) == (lb1.length : Int)) = false := beq_eq_false_iff_ne.mpr (by omega)
            have t3p : ¬ la1.length + 1 = lb1.length := by omega
            have t4 : (((lb1.length : Int) + 1 : Int) == (la1.length : Int)) = false := beq_eq_false_iff_ne.mpr (by omega)
            have t4p : ¬ lb1.length + 1 = la1.length := by omega
            have u5_ : (la1.length == lb1.length) = true := beq_iff_eq.mpr (by omega)
            have u5_d : decide (la1.length = lb1.length) = true := decide_eq_true (by omega)
            have t6 : ((la1.length : Int) != (lb1.length : Int)) = false := by rw [bne, beq_iff_eq.mpr (by omega)]; rfl
            have wa_ : IntKind.i64.wrap ((la1.length : Int) + 1) = (la1.length : Int) + 1 := IntWalk.i64_in _ (by have := HN5.out; omega)
            have wb_ : IntKind.i64.wrap ((lb1.length : Int) + 1) = (lb1.length : Int) + 1 := IntWalk.i64_in _ (by have := HM5.out; omega)
            obtain ⟨e1_, e2_, e3_, e4_⟩ : L1 = la1 ∧ L2 = la2 ∧ M1 = lb1 ∧ M2 = lb2 := by
              have h1 := HL1.out; have h2 := HL2_.out; have h3 := HM1.out; have h4 := HM2_.out
              unfold catL1 at h1 h3; unfold catL2 at h2 h4
              (repeat (first | rw [if_pos (by omega)] at h1 | rw [if_neg (by omega)] at h1)); (repeat (first | rw [if_pos (by omega)] at h2 | rw [if_neg (by omega)] at h2)); (repeat (first | rw [if_pos (by omega)] at h3 | rw [if_neg (by omega)] at h3)); (repeat (first | rw [if_pos (by omega)] at h4 | rw [if_neg (by omega)] at h4))
              exact ⟨h1, h2, h3, h4⟩
            clear HL1 HL2_ HM1 HM2_
            subst L1 L2
            subst M1 M2
            clear y1 y2 y3 y4 y5 hpq hn5 hm5
            go_wp2_with fail
            go_meet
            case rel => exact ⟨Aa1, ca1, Aa2, ca2, Ab1, cb1, Ab2, cb2, (Kd.C_below Ha1.out HS.out.below), Ka1.out, (Kd.C_below Ha2.out HS.out.below), Ka2.out, (Kd.C_below Hb1.out HS.out.below), Kb1.out, (Kd.C_below Hb2.out HS.out.below), Kb2.out, HS⟩
  clear HS
  obtain ⟨As, cs, Ad, cd, Bs, ds, Bd, dd, hCA1, hKA1, hCA2, hKA2, hCB1, hKB1, hCB2, hKB2, HS⟩ := hcut
  generalize wc = wz7 at *
  have CA1 := Aside0.mk hCA1
  clear hCA1
  have KA1 := Aside0.mk hKA1
  clear hKA1
  have CA2 := Aside0.mk hCA2
  clear hCA2
  have KA2 := Aside0.mk hKA2
  clear hKA2
  have CB1 := Aside0.mk hCB1
  clear hCB1
  have KB1 := Aside0.mk hKB1
  clear hKB1
  have CB2 := Aside0.mk hCB2
  clear hCB2
  have KB2 := Aside0.mk hKB2
  clear hKB2
  have HB0 := Aside0.mk HS.out.below
  have HGR := Aside0.mk (HS.out.get 0 rfl).2
  have HRB := Aside0.mk (HS.out.blk 0 rfl)
  have HBB := Aside0.mk (HS.out.blk 1 rfl)
  have HKB := Aside0.mk (HS.out.blk 2 rfl)
  have HGL := Aside0.mk (blk_lt HRB.out)
  clear HS
  have HS := Aside0.mk (Sx.start wz7)
  go_upto_region 18 with fail
  have nS := Aside0.mk HS.out.drew
  clear HS
  have HS := nS
  clear nS
  refine start_ (n := 8) (S := (fun w' => w'.cell? ⟨gK, 1, none⟩ = some (.slice As L1.length cs) ∧ w'.cell? ⟨gB, 1, none⟩ = some (.slice Bs M1.length ds))) (ds := []) #[false, false, false, false, false, false, false, false] (by kernel_rfl) rfl rfl ⟨(blk_cell (blk_below HKB.out HS.out.below) 1).trans rfl, (blk_cell (blk_below HBB.out HS.out.below) 1).trans rfl⟩ (fun hHeld => ?_)
  refine pure_ (i := 0) (N := (some 67)) (v := ?_) (a' := ?_) #[true, false, false, false, false, false, false, false] rfl rfl (by kernel_rfl) (fun _ _ _ h => h) (Or.inl ⟨by rfl, ?_⟩) ?_ ?_
  rotate_left
  · intro w'
    go_simp
    with_reducible rfl
  rotate_left
  · simp only [Act.put, List.setIfInBounds_toArray, List.set_cons_zero, List.set_cons_succ]
    rfl
  refine take_ (i := 1) (N := (some 68)) (v := ?_) (a' := ?_) #[true, true, false, false, false, false, false, false] rfl rfl (by kernel_rfl) (fun _ _ _ h => h) (Or.inl ⟨by rfl, ?_⟩) hHeld ?_ ?_
  rotate_left
  · rintro w' ⟨s0, s1⟩
    go_simp
    with_reducible rfl
  rotate_left
  · simp only [Act.put, List.setIfInBounds_toArray, List.set_cons_zero, List.set_cons_succ]
    rfl
  refine pure_ (i := 3) (N := (some 70)) (v := ?_) (a' := ?_) #[true, true, false, true, false, false, false, false] rfl rfl (by kernel_rfl) (fun _ _ _ h => h) (Or.inl ⟨by rfl, ?_⟩) ?_ ?_
  rotate_left
  · intro w'
    go_simp
    with_reducible rfl
  rotate_left
  · simp only [Act.put, List.setIfInBounds_toArray, List.set_cons_zero, List.set_cons_succ]
    rfl
  refine take_ (i := 4) (N := (some 71)) (v := ?_) (a' := ?_) #[true, true, false, true, true, false, false, false] rfl rfl (by kernel_rfl) (fun _ _ _ h => h) (Or.inl ⟨by rfl, ?_⟩) hHeld ?_ ?_
  rotate_left
  · rintro w' ⟨s0, s1⟩
    go_simp
    with_reducible rfl
  rotate_left
  · simp only [Act.put, List.setIfInBounds_toArray, List.set_cons_zero, List.set_cons_succ]
    rfl
  refine one_ (i := 2) (N := (some 69)) #[true, true, true, true, true, false, false, false] rfl rfl (by kernel_rfl) (by decide) (fun K hK => ?_)
  refine goes_ Try.func88 (by kernel_rfl) rfl #[.slice As L1.length cs, .bool false] (by rfl) rfl rfl (by (try simp only [List.map_toArray, List.map_cons, List.map_nil]); first | done | rfl) ?_
  with_reducible refine (spec_l4Without.calls As cs L1 false P1 _ (Kd.C_below CA1.out HS.out.below) KA1.out HWA.out).mono ?_
  rintro e ve1 ⟨v_, rfl, hre1, hbe1⟩
  obtain ⟨Ps, pc, hv_⟩ := Kd.R_slice hre1
  subst hv_
  have nS : Aside0 (Sx wz7 ve1 [(.row (.slice Ps P1.length pc) P1)]) := Aside0.mk (HS.out.addRow hbe1 hre1)
  clear HS hbe1
  have HS := nS
  clear nS
  refine ⟨_, rfl, ?_⟩
  refine hK.out _ _ ⟨(blk_cell (blk_below HKB.out HS.out.below) 1).trans rfl, (blk_cell (blk_below HBB.out HS.out.below) 1).trans rfl⟩ (fun hHeld => ?_)
  clear hK K
  refine norm_ (a' := ?_) ?_ ?_
  rotate_left
  · show Act.put _ (some 69) _ = _
    simp only [Act.put, List.setIfInBounds_toArray, List.set_cons_zero, List.set_cons_succ]
    rfl
  refine one_ (i := 5) (N := (some 72)) #[true, true, true, true, true, true, false, false] rfl rfl (by kernel_rfl) (by decide) (fun K hK => ?_)
  refine goes_ Try.func88 (by kernel_rfl) rfl #[.slice Bs M1.length ds, .bool false] (by rfl) rfl rfl (by (try simp only [List.map_toArray, List.map_cons, List.map_nil]); first | done | rfl) ?_
  with_reducible refine (spec_l4Without.calls Bs ds M1 false Q1 _ (Kd.C_below CB1.out HS.out.below) KB1.out HWB.out).mono ?_
  rintro e ve2 ⟨v_, rfl, hre2, hbe2⟩
  obtain ⟨Qs, qc, hv_⟩ := Kd.R_slice hre2
  subst hv_
  have nS : Aside0 (Sx wz7 ve2 [(.row (.slice Qs Q1.length qc) Q1), (.row (.slice Ps P1.length pc) P1)]) := Aside0.mk (HS.out.addRow hbe2 hre2)
  clear HS hbe2
  have HS := nS
  clear nS
  refine ⟨_, rfl, ?_⟩
  refine hK.out _ _ ⟨(blk_cell (blk_below HKB.out HS.out.below) 1).trans rfl, (blk_cell (blk_below HBB.out HS.out.below) 1).trans rfl⟩ (fun hHeld => ?_)
  clear hK K
  refine norm_ (a' := ?_) ?_ ?_
  rotate_left
  · show Act.put _ (some 72) _ = _
    simp only [Act.put, List.setIfInBounds_toArray, List.set_cons_zero, List.set_cons_succ]
    rfl
  refine one_ (i := 6) (N := (some 73)) #[true, true, true, true, true, true, true, false] rfl rfl (by kernel_rfl) (by decide) (fun K hK => ?_)
  refine goes_ Try.func87 (by kernel_rfl) rfl #[.slice Ps P1.length pc, .slice Qs Q1.length qc] (by rfl) rfl rfl (by (try simp only [List.map_toArray, List.map_cons, List.map_nil]); first | done | rfl) ?_
  with_reducible refine (spec_l3Same.calls k2 Ps pc P1 Qs qc Q1 false _ (HS.out.C 1 rfl) (HS.out.cap 1 rfl) (HS.out.C 0 rfl) (HS.out.cap 0 rfl) HEQ.out).mono ?_
  rintro e ve3 ⟨rfl, hd_⟩
  have hbe3 := Drawn0.below hd_
  clear hd_
  have nS : Aside0 (Sx wz7 ve3 [(.row (.slice Qs Q1.length qc) Q1), (.row (.slice Ps P1.length pc) P1)]) := Aside0.mk (HS.out.step hbe3)
  clear HS hbe3
  have HS := nS
  clear nS
  refine ⟨_, rfl, ?_⟩
  refine hK.out _ _ ⟨(blk_cell (blk_below HKB.out HS.out.below) 1).trans rfl, (blk_cell (blk_below HBB.out HS.out.below) 1).trans rfl⟩ (fun hHeld => ?_)
  clear hK K
  refine norm_ (a' := ?_) ?_ ?_
  rotate_left
  · show Act.put _ (some 73) _ = _
    simp only [Act.put, List.setIfInBounds_toArray, List.set_cons_zero, List.set_cons_succ]
    rfl
  refine pure_ (i := 7) (N := (some 74)) (v := ?_) (a' := ?_) #[true, true, true, true, true, true, true, true] rfl rfl (by kernel_rfl) (fun _ _ _ h => h) (Or.inl ⟨by rfl, ?_⟩) ?_ ?_
  rotate_left
  · intro w'
    go_simp
    with_reducible rfl
  rotate_left
  · simp only [Act.put, List.setIfInBounds_toArray, List.set_cons_zero, List.set_cons_succ]
    rfl
  refine done_ (by kernel_rfl) ?_
  go_simp
  go_wp2_with (first | (go_at_call 53; refine (spec_l4None.calls false [] [] _ rfl).mono ?_; rintro e we4 ⟨v1e4, v2e4, rfl, hr1e4, hr2e4, hbe4⟩; obtain ⟨AS, cS, hv_⟩ := Kd.R_slice hr1e4; subst hv_; obtain ⟨AD, cD, hv_⟩ := Kd.R_slice hr2e4; subst hv_; have nS : Aside0 (Sx wz7 we4 [(.row (.slice AS ([] : List Int).length cS) []), (.row (.slice AD ([] : List Int).length cD) []), (.row (.slice Qs Q1.length qc) Q1), (.row (.slice Ps P1.length pc) P1)]) := Aside0.mk (HS.out.addRow2 hbe4 hr1e4 hr2e4); clear HS; have HS := nS; clear nS hbe4 hr1e4 hr2e4) | ((with_reducible refine gate_store rfl ?_); refine store_named rfl 28 (.tmp 4) (.tmp 75) rfl gR #[.bool false, .slice AS ([] : List Int).length cS, .slice AD ([] : List Int).length cD] rfl rfl 28 #[.bool false, .slice none 0 0, .slice none 0 0] (blk_below HRB.out HS.out.below) (by kernel_rfl) rfl (by simp [Value.oneCell']) ?_; intro wF hxF hbF; have HXF := Aside0.mk hxF; have HBF := Aside0.mk hbF; clear hxF hbF))
  have R_ := HS.out.two_but 0 1 (by decide) rfl rfl HBF.out HGL.out w.heap.size HB0.out.size
  refine bodyPost_ret (results_ct rfl _ _ gR 28 #[.bool false, .slice AS ([] : List Int).length cS, .slice AD ([] : List Int).length cD] (0, 0) _ rfl HXF.out Try.underlying28 rfl (by kernel_rfl)) rfl ?_
  exact ⟨_, _, rfl, R_.1, R_.2, (below_step HB0.out HS.out.below).trans (HBF.out.below _ HGR.out)⟩
set_option maxHeartbeats 2000000 in
set_option maxRecDepth 100000 in
theorem scat_char (a : Bool) (Aa1 : Option Addr) (ca1 : Nat) (la1 : List Int) (Aa2 : Option Addr) (ca2 : Nat) (la2 : List Int) (b : Bool) (Ab1 : Option Addr) (cb1 : Nat) (lb1 : List Int) (Ab2 : Option Addr) (cb2 : Nat) (lb2 : List Int) (w : World) (ha1 : Kd.C (Kd.int .i64) w Aa1 la1.length la1) (ka1 : la1.length ≤ ca1) (ha2 : Kd.C (Kd.int .i64) w Aa2 la2.length la2) (ka2 : la2.length ≤ ca2) (hb1 : Kd.C (Kd.int .i64) w Ab1 lb1.length lb1) (kb1 : lb1.length ≤ cb1) (hb2 : Kd.C (Kd.int .i64) w Ab2 lb2.length lb2) (kb2 : lb2.length ≤ cb2) (ka : Nat) (hva : spec_ArrayOk.f ka a la1 la2 = some true) (kb : Nat) (hvb : spec_ArrayOk.f kb b lb1 lb2 = some true) (hn5 : la1.length ≤ 5) (hm5 : lb1.length ≤ 5) (L1 L2 M1 M2 : List Int) (hL1 : L1 = catL1 la1 lb1) (hL2 : L2 = catL2 la1 la2 lb1) (hM1 : M1 = catL1 lb1 la1) (hM2 : M2 = catL2 lb1 lb2 la1) (pq : Bool) (hpq : pq = (decide (la1.length = 0) && decide (lb1.length = 0))) (hd1 : la1.length = 0 → lb1.length = 0 → catL1 la1 lb1 = la1 ++ [1] ∧ catL2 la1 la2 lb1 = la2 ∧ catL1 lb1 la1 = lb1 ++ [1] ∧ catL2 lb1 lb2 la1 = lb2) (hba : la1.length = 0 → lb1.length ≠ 0 → SBesOk #[.agg #[.bool a, .slice Aa1 la1.length ca1, .slice Aa2 la2.length ca2], .agg #[.bool b, .slice Ab1 lb1.length cb1, .slice Ab2 lb2.length cb2]] a (lb1.dropLast ++ [1]) (List.replicate (prod lb1.dropLast).toNat (rd la2 0)) w) (hbb : lb1.length = 0 → la1.length ≠ 0 → SBesOk #[.agg #[.bool b, .slice Ab1 lb1.length cb1, .slice Ab2 lb2.length cb2], .agg #[.bool a, .slice Aa1 la1.length ca1, .slice Aa2 la2.length ca2]] b (la1.dropLast ++ [1]) (List.replicate (prod la1.dropLast).toNat (rd lb2 0)) w) (hr4 : la1.length = 0 ∨ lb1.length = 0 ∨ la1.length + 1 = lb1.length ∨ lb1.length + 1 = la1.length ∨ la1.length = lb1.length) (P1 Q1 : List Int) (hwa : spec_l4Without.f L1 false = some P1) (hwb : spec_l4Without.f M1 false = some Q1) (k2 : Nat) (hq : spec_l3Same.f k2 P1 Q1 = some true) (hab : a ≠ b) (hl2 : 0 < L2.length) (hm2 : 0 < M2.length) :
    Calls Try.prog 37 #[.agg #[.bool a, .slice Aa1 la1.length ca1, .slice Aa2 la2.length ca2], .agg #[.bool b, .slice Ab1 lb1.length cb1, .slice Ab2 lb2.length cb2]] w fun e w' => ∃ v1_ v2_ : Value, e = .returned (.tuple #[.agg #[.bool false, v1_, v2_], .int .i64 3]) ∧ Kd.R (Kd.int .i64) 3 w' w.heap.size (fun k_ => some k_ ≠ (v2_ : Value).ownBlock) v1_ [] ∧ Kd.R (Kd.int .i64) 3 w' w.heap.size (fun k_ => some k_ ≠ (v1_ : Value).ownBlock) v2_ [] ∧ Below w.heap.size w w' := by
  have Ha1 := Aside0.mk ha1
  have Ka1 := Aside0.mk ka1
  clear ha1 ka1
  have Ha2 := Aside0.mk ha2
  have Ka2 := Aside0.mk ka2
  clear ha2 ka2
  have Hb1 := Aside0.mk hb1
  have Kb1 := Aside0.mk kb1
  clear hb1 kb1
  have Hb2 := Aside0.mk hb2
  have Kb2 := Aside0.mk kb2
  clear hb2 kb2
  have HVa := Aside0.mk hva
  clear hva
  have HVb := Aside0.mk hvb
  clear hvb
  have HN5 := Aside0.mk hn5
  have HM5 := Aside0.mk hm5
  have HL1 := Aside0.mk hL1
  have HL2_ := Aside0.mk hL2
  have HM1 := Aside0.mk hM1
  have HM2_ := Aside0.mk hM2
  have HPQ := Aside0.mk hpq
  have HD1 := Aside0.mk hd1
  have HBA0 := Aside0.mk hba
  have HBB0 := Aside0.mk hbb
  have HR4 := Aside0.mk hr4
  clear hL1 hL2 hM1 hM2 hpq hd1 hba hbb hr4
  have HWA := Aside0.mk hwa
  have HWB := Aside0.mk hwb
  clear hwa hwb
  have HEQ := Aside0.mk hq
  clear hq
  have e0 : (a == b) = false := beq_eq_false_iff_ne.mpr hab
  have e1 : (a != b) = true := bne_iff_ne.mpr hab
  have e2 : decide ((L2.length : Int) > 0) = true := decide_eq_true (by omega)
  have e3 : decide ((M2.length : Int) > 0) = true := decide_eq_true (by omega)
  have e4 : (0 : Int) < (L2.length : Int) := by omega
  have e5 : (0 : Int) < (M2.length : Int) := by omega
  clear hl2 hm2
  have HS := Aside0.mk (Sx.start w)
  go_enter Try.func37, Try.ntmps37
  go_upto_region 5 with (first | ((with_reducible refine gate_dst (N := 2) rfl ?_); refine box_event ?hg (N := 2) ?hd (cs := #[.bool a, .slice Aa1 la1.length ca1, .slice Aa2 la2.length ca2]) (t := 28) ?hr ?_; (case hd => rfl); (case hg => rfl); (case hr => first | (go_simp; done) | (go_simp; rfl)); intro gK hg1 w1 hx1 hb1; have nS : Aside0 (Sx w w1 [(.blk gK #[.bool a, .slice Aa1 la1.length ca1, .slice Aa2 la2.length ca2] 28)]) := Aside0.mk (HS.out.box hg1 hx1 hb1); clear HS; have HS := nS; clear nS hg1 hx1 hb1) | ((with_reducible refine gate_dst (N := 3) rfl ?_); refine box_event ?hg (N := 3) ?hd (cs := #[.bool b, .slice Ab1 lb1.length cb1, .slice Ab2 lb2.length cb2]) (t := 28) ?hr ?_; (case hd => rfl); (case hg => rfl); (case hr => first | (go_simp; done) | (go_simp; rfl)); intro gB hg2 w2 hx2 hb2; have nS : Aside0 (Sx w w2 [(.blk gB #[.bool b, .slice Ab1 lb1.length cb1, .slice Ab2 lb2.length cb2] 28), (.blk gK #[.bool a, .slice Aa1 la1.length ca1, .slice Aa2 la2.length ca2] 28)]) := Aside0.mk (HS.out.box hg2 hx2 hb2); clear HS; have HS := nS; clear nS hg2 hx2 hb2) | ((with_reducible refine gate_dst (N := 4) rfl ?_); refine box_event ?hg (N := 4) ?hd (cs := #[.bool false, .slice none 0 0, .slice none 0 0]) (t := 28) ?hr ?_; (case hd => rfl); (case hg => rfl); (case hr => first | (go_simp; done) | (go_simp; rfl)); intro gR hg3 w3 hx3 hb3; have nS : Aside0 (Sx w w3 [(.blk gR #[.bool false, .slice none 0 0, .slice none 0 0] 28), (.blk gB #[.bool b, .slice Ab1 lb1.length cb1, .slice Ab2 lb2.length cb2] 28), (.blk gK #[.bool a, .slice Aa1 la1.length ca1, .slice Aa2 la2.length ca2] 28)]) := Aside0.mk (HS.out.box hg3 hx3 hb3); clear HS; have HS := nS; clear nS hg3 hx3 hb3) | ((with_reducible refine gate_dst (N := 16) rfl ?_); refine wpList_load_row rfl 28 (.tmp 2) rfl gK rfl 28 #[.bool a, .slice Aa1 la1.length ca1, .slice Aa2 la2.length ca2] (0, 0) _ (HS.out.blk 2 rfl) Try.underlying28 rfl (by kernel_rfl) ?_) | (go_at_call 47; with_reducible refine (spec_ArrayOk.calls ka a Aa1 ca1 la1 Aa2 ca2 la2 true _ (Kd.C_below Ha1.out HS.out.below) Ka1.out (Kd.C_below Ha2.out HS.out.below) Ka2.out HVa.out).mono ?_; rintro e w4 ⟨rfl, hb4⟩; have nS : Aside0 (Sx w w4 [(.blk gR #[.bool false, .slice none 0 0, .slice none 0 0] 28), (.blk gB #[.bool b, .slice Ab1 lb1.length cb1, .slice Ab2 lb2.length cb2] 28), (.blk gK #[.bool a, .slice Aa1 la1.length ca1, .slice Aa2 la2.length ca2] 28)]) := Aside0.mk (HS.out.step hb4); clear HS; have HS := nS; clear nS hb4) | ((with_reducible refine wpList_guardedB ?hw ?_); (case hw => first | rfl | (go_simp; done))) | ((with_reducible refine gate_dst (N := 20) rfl ?_); refine wpList_load_row rfl 28 (.tmp 3) rfl gB rfl 28 #[.bool b, .slice Ab1 lb1.length cb1, .slice Ab2 lb2.length cb2] (0, 0) _ (HS.out.blk 1 rfl) Try.underlying28 rfl (by kernel_rfl) ?_) | (go_at_call 47; with_reducible refine (spec_ArrayOk.calls kb b Ab1 cb1 lb1 Ab2 cb2 lb2 true _ (Kd.C_below Hb1.out HS.out.below) Kb1.out (Kd.C_below Hb2.out HS.out.below) Kb2.out HVb.out).mono ?_; rintro e w5 ⟨rfl, hb5⟩; have nS : Aside0 (Sx w w5 [(.blk gR #[.bool false, .slice none 0 0, .slice none 0 0] 28), (.blk gB #[.bool b, .slice Ab1 lb1.length cb1, .slice Ab2 lb2.length cb2] 28), (.blk gK #[.bool a, .slice Aa1 la1.length ca1, .slice Aa2 la2.length ca2] 28)]) := Aside0.mk (HS.out.step hb5); clear HS; have HS := nS; clear nS hb5) | ((with_reducible refine gate_dst (N := 26) rfl ?_); refine ev_load rfl 22 (.tmp 25) rfl ⟨gK, 1, none⟩ rfl (.slice Aa1 la1.length ca1) ((blk_cell (HS.out.blk 2 rfl) 1).trans rfl) (by kernel_rfl) ?_) | ((with_reducible refine gate_dst (N := 29) rfl ?_); refine ev_load rfl 22 (.tmp 28) rfl ⟨gB, 1, none⟩ rfl (.slice Ab1 lb1.length cb1) ((blk_cell (HS.out.blk 1 rfl) 1).trans rfl) (by kernel_rfl) ?_))
  go_cut [36] from 31 to 36 (fun s36 wx => s36 = .bool pq ∧ Aside0 (Sx w wx [(.blk gR #[.bool false, .slice none 0 0, .slice none 0 0] 28), (.blk gB #[.bool b, .slice Ab1 lb1.length cb1, .slice Ab2 lb2.length cb2] 28), (.blk gK #[.bool a, .slice Aa1 la1.length ca1, .slice Aa2 la2.length ca2] 28)]))
  case first =>
    by_cases y1 : la1.length = 0
    · by_cases y2 : lb1.length = 0
      · have t1 : (((la1.length : Int) : Int) == 0) = true := beq_iff_eq.mpr (by omega)
        have u1_ : (la1.length == 0) = true := beq_iff_eq.mpr (by omega)
        have u1_d : decide (la1.length = 0) = true := decide_eq_true (by omega)
        have t2 : (((lb1.length : Int) : Int) == 0) = true := beq_iff_eq.mpr (by omega)
        have u2_ : (lb1.length == 0) = true := beq_iff_eq.mpr (by omega)
        have u2_d : decide (lb1.length = 0) = true := decide_eq_true (by omega)
        have E36 := Aside0.mk (show pq = true by rw [HPQ.out, decide_eq_true y1, decide_eq_true y2]; rfl)
        clear y1 y2
        go_wp2_with (first | ((with_reducible refine wpList_guardedB ?hw ?_); (case hw => first | rfl | (go_simp; done))))
        go_meet
        case rel => exact ⟨by first | (rw [E36.out]; done) | (rw [E36.out, u2_d]), HS⟩
      · have t1 : (((la1.length : Int) : Int) == 0) = true := beq_iff_eq.mpr (by omega)
        have u1_ : (la1.length == 0) = true := beq_iff_eq.mpr (by omega)
        have u1_d : decide (la1.length = 0) = true := decide_eq_true (by omega)
        have t2 : (((lb1.length : Int) : Int) == 0) = false := beq_eq_false_iff_ne.mpr (by omega)
        have u2_ : (lb1.length == 0) = false := beq_eq_false_iff_ne.mpr (by omega)
        have u2_d : decide (lb1.length = 0) = false := decide_eq_false (by omega)
        have u2_p : ¬ lb1.length = 0 := by omega
        have E36 := Aside0.mk (show pq = false by rw [HPQ.out, decide_eq_true y1, decide_eq_false y2]; rfl)
        clear y1 y2
        go_wp2_with (first | ((with_reducible refine wpList_guardedB ?hw ?_); (case hw => first | rfl | (go_simp; done))))
        go_meet
        case rel => exact ⟨by first | (rw [E36.out]; done) | (rw [E36.out, u2_d]), HS⟩
    · have t1 : (((la1.length : Int) : Int) == 0) = false := beq_eq_false_iff_ne.mpr (by omega)
      have u1_ : (la1.length == 0) = false := beq_eq_false_iff_ne.mpr (by omega)
      have u1_d : decide (la1.length = 0) = false := decide_eq_false (by omega)
      have u1_p : ¬ la1.length = 0 := by omega
      have E36 := Aside0.mk (show pq = false by rw [HPQ.out, decide_eq_false y1]; rfl)
      clear y1
      go_wp2_with (first | ((with_reducible refine wpList_guardedB ?hw ?_); (case hw => first | rfl | (go_simp; done))))
      go_meet
      case rel => exact ⟨by first | (rw [E36.out]; done) | (rw [E36.out, u2_d]), HS⟩
  clear HS
  obtain ⟨e36, HS⟩ := hcut
  subst e36
  go_upto_if 36 with fail
  go_cut [] from 37 to 66 (fun wx => ∃ As cs Ad cd Bs ds Bd dd, Kd.C (Kd.int .i64) wx As L1.length L1 ∧ L1.length ≤ cs ∧ Kd.C (Kd.int .i64) wx Ad L2.length L2 ∧ L2.length ≤ cd ∧ Kd.C (Kd.int .i64) wx Bs M1.length M1 ∧ M1.length ≤ ds ∧ Kd.C (Kd.int .i64) wx Bd M2.length M2 ∧ M2.length ≤ dd ∧ Aside0 (Sx w wx [(.blk gR #[.bool false, .slice none 0 0, .slice none 0 0] 28), (.blk gB #[.bool b, .slice Bs M1.length ds, .slice Bd M2.length dd] 28), (.blk gK #[.bool a, .slice As L1.length cs, .slice Ad L2.length cd] 28)]))
  case first =>
    have hpq := HPQ.out
    clear HPQ
    by_cases y1 : la1.length = 0
    · by_cases y2 : lb1.length = 0
      · have e_ : pq = true := by rw [hpq, decide_eq_true y1, decide_eq_true y2]; rfl
        subst e_
        have f1 := HD1.out y1 y2
        obtain ⟨e1_, e2_, e3_, e4_⟩ : L1 = (la1 ++ [1]) ∧ L2 = la2 ∧ M1 = (lb1 ++ [1]) ∧ M2 = lb2 := ⟨HL1.out.trans f1.1, HL2_.out.trans f1.2.1, HM1.out.trans f1.2.2.1, HM2_.out.trans f1.2.2.2⟩
        clear HL1 HL2_ HM1 HM2_
        have HWDa := Aside0.mk (show WBesOk #[.agg #[.bool a, .slice Aa1 la1.length ca1, .slice Aa2 la2.length ca2]] a L1 L2 w by rw [e1_, e2_]; exact wbesOk a Aa1 ca1 la1 Aa2 ca2 la2 w Ha1.out Ka1.out Ha2.out Ka2.out HN5.out)
        clear e1_ e2_
        have HWDb := Aside0.mk (show WBesOk #[.agg #[.bool b, .slice Ab1 lb1.length cb1, .slice Ab2 lb2.length cb2]] b M1 M2 w by rw [e3_, e4_]; exact wbesOk b Ab1 cb1 lb1 Ab2 cb2 lb2 w Hb1.out Kb1.out Hb2.out Kb2.out HM5.out)
        clear e3_ e4_
        clear y1 y2 hpq f1 hn5 hm5
        go_wp2_with (first | ((with_reducible refine gate_dst (N := 37) rfl ?_); refine wpList_load_row rfl 28 (.tmp 2) rfl gK rfl 28 #[.bool a, .slice Aa1 la1.length ca1, .slice Aa2 la2.length ca2] (0, 0) _ (HS.out.blk 2 rfl) Try.underlying28 rfl (by kernel_rfl) ?_) | (go_at_call_of 85 (Value.agg #[.bool a, .slice Aa1 la1.length ca1, .slice Aa2 la2.length ca2]); refine (HWDa.out.go _ HS.out.below).mono ?_; rintro e wp6 ⟨As, cs, Ad, cd, rfl, hCA1, hKA1, hCA2, hKA2, hbp6⟩; have CA1 := Aside0.mk hCA1; have KA1 := Aside0.mk hKA1; have CA2 := Aside0.mk hCA2; have KA2 := Aside0.mk hKA2; clear hCA1 hKA1 hCA2 hKA2; have nS : Aside0 (Sx w wp6 [(.blk gR #[.bool false, .slice none 0 0, .slice none 0 0] 28), (.blk gB #[.bool b, .slice Ab1 lb1.length cb1, .slice Ab2 lb2.length cb2] 28), (.blk gK #[.bool a, .slice Aa1 la1.length ca1, .slice Aa2 la2.length ca2] 28)]) := Aside0.mk (HS.out.step hbp6); clear HS; have HS := nS; clear nS hbp6) | ((with_reducible refine gate_store rfl ?_); refine store_named rfl 28 (.tmp 2) (.tmp 38) rfl gK #[.bool a, .slice As L1.length cs, .slice Ad L2.length cd] rfl rfl 28 #[.bool a, .slice Aa1 la1.length ca1, .slice Aa2 la2.length ca2] (HS.out.blk 2 rfl) (by kernel_rfl) rfl (by simp [Value.oneCell']) ?_; intro wp7 hxp7 hbp7; have nCA1 := Aside0.mk (C_but1 CA1.out hbp7 (HS.out.blk 2 rfl) (noInt_A _ _ _ _ _ _ _)); clear CA1; have CA1 := nCA1; clear nCA1; have nCA2 := Aside0.mk (C_but1 CA2.out hbp7 (HS.out.blk 2 rfl) (noInt_A _ _ _ _ _ _ _)); clear CA2; have CA2 := nCA2; clear nCA2; have nS : Aside0 (Sx w wp7 [(.blk gR #[.bool false, .slice none 0 0, .slice none 0 0] 28), (.blk gB #[.bool b, .slice Ab1 lb1.length cb1, .slice Ab2 lb2.length cb2] 28), (.blk gK #[.bool a, .slice As L1.length cs, .slice Ad L2.length cd] 28)]) := Aside0.mk (HS.out.put 2 rfl hxp7 hbp7); clear HS; have HS := nS; clear nS hxp7 hbp7) | ((with_reducible refine gate_dst (N := 39) rfl ?_); refine wpList_load_row rfl 28 (.tmp 3) rfl gB rfl 28 #[.bool b, .slice Ab1 lb1.length cb1, .slice Ab2 lb2.length cb2] (0, 0) _ (HS.out.blk 1 rfl) Try.underlying28 rfl (by kernel_rfl) ?_) | (go_at_call_of 85 (Value.agg #[.bool b, .slice Ab1 lb1.length cb1, .slice Ab2 lb2.length cb2]); refine (HWDb.out.go _ HS.out.below).mono ?_; rintro e wp8 ⟨Bs, ds, Bd, dd, rfl, hCB1, hKB1, hCB2, hKB2, hbp8⟩; have CB1 := Aside0.mk hCB1; have KB1 := Aside0.mk hKB1; have CB2 := Aside0.mk hCB2; have KB2 := Aside0.mk hKB2; clear hCB1 hKB1 hCB2 hKB2; have nCA1 := Aside0.mk (Kd.C_below CA1.out hbp8); clear CA1; have CA1 := nCA1; clear nCA1; have nCA2 := Aside0.mk (Kd.C_below CA2.out hbp8); clear CA2; have CA2 := nCA2; clear nCA2; have nS : Aside0 (Sx w wp8 [(.blk gR #[.bool false, .slice none 0 0, .slice none 0 0] 28), (.blk gB #[.bool b, .slice Ab1 lb1.length cb1, .slice Ab2 lb2.length cb2] 28), (.blk gK #[.bool a, .slice As L1.length cs, .slice Ad L2.length cd] 28)]) := Aside0.mk (HS.out.step hbp8); clear HS; have HS := nS; clear nS hbp8) | ((with_reducible refine gate_store rfl ?_); refine store_named rfl 28 (.tmp 3) (.tmp 40) rfl gB #[.bool b, .slice Bs M1.length ds, .slice Bd M2.length dd] rfl rfl 28 #[.bool b, .slice Ab1 lb1.length cb1, .slice Ab2 lb2.length cb2] (HS.out.blk 1 rfl) (by kernel_rfl) rfl (by simp [Value.oneCell']) ?_; intro wp9 hxp9 hbp9; have nCA1 := Aside0.mk (C_but1 CA1.out hbp9 (HS.out.blk 1 rfl) (noInt_A _ _ _ _ _ _ _)); clear CA1; have CA1 := nCA1; clear nCA1; have nCA2 := Aside0.mk (C_but1 CA2.out hbp9 (HS.out.blk 1 rfl) (noInt_A _ _ _ _ _ _ _)); clear CA2; have CA2 := nCA2; clear nCA2; have nCB1 := Aside0.mk (C_but1 CB1.out hbp9 (HS.out.blk 1 rfl) (noInt_A _ _ _ _ _ _ _)); clear CB1; have CB1 := nCB1; clear nCB1; have nCB2 := Aside0.mk (C_but1 CB2.out hbp9 (HS.out.blk 1 rfl) (noInt_A _ _ _ _ _ _ _)); clear CB2; have CB2 := nCB2; clear nCB2; have nS : Aside0 (Sx w wp9 [(.blk gR #[.bool false, .slice none 0 0, .slice none 0 0] 28), (.blk gB #[.bool b, .slice Bs M1.length ds, .slice Bd M2.length dd] 28), (.blk gK #[.bool a, .slice As L1.length cs, .slice Ad L2.length cd] 28)]) := Aside0.mk (HS.out.put 1 rfl hxp9 hbp9); clear HS; have HS := nS; clear nS hxp9 hbp9))
        go_meet
        case rel => exact ⟨As, cs, Ad, cd, Bs, ds, Bd, dd, CA1.out, KA1.out, CA2.out, KA2.out, CB1.out, KB1.out, CB2.out, KB2.out, HS⟩
      · have e_ : pq = false := by rw [hpq, decide_eq_true y1, decide_eq_false y2]; rfl
        subst e_
        have t1 : (((la1.length : Int) : Int) == 0) = true := beq_iff_eq.mpr (by omega)
        have u1_ : (la1.length == 0) = true := beq_iff_eq.mpr (by omega)
        have u1_d : decide (la1.length = 0) = true := decide_eq_true (by omega)
        obtain ⟨e1_, e2_, e3_, e4_⟩ : L1 = (lb1.dropLast ++ [1]) ∧ L2 = (List.replicate (prod lb1.dropLast).toNat (rd la2 0)) ∧ M1 = lb1 ∧ M2 = lb2 := by
          have h1 := HL1.out; have h2 := HL2_.out; have h3 := HM1.out; have h4 := HM2_.out
          unfold catL1 at h1 h3; unfold catL2 at h2 h4
          (repeat (first | rw [if_pos (by omega)] at h1 | rw [if_neg (by omega)] at h1)); (repeat (first | rw [if_pos (by omega)] at h2 | rw [if_neg (by omega)] at h2)); (repeat (first | rw [if_pos (by omega)] at h3 | rw [if_neg (by omega)] at h3)); (repeat (first | rw [if_pos (by omega)] at h4 | rw [if_neg (by omega)] at h4))
          exact ⟨h1, h2, h3, h4⟩
        clear HL1 HL2_ HM1 HM2_
        have HBA := Aside0.mk (show SBesOk #[.agg #[.bool a, .slice Aa1 la1.length ca1, .slice Aa2 la2.length ca2], .agg #[.bool b, .slice Ab1 lb1.length cb1, .slice Ab2 lb2.length cb2]] a L1 L2 w by rw [e1_, e2_]; exact HBA0.out y1 y2)
        clear e1_ e2_
        subst M1 M2
        clear y1 y2 hpq hn5 hm5
        go_wp2_with (first | ((with_reducible refine gate_dst (N := 43) rfl ?_); refine wpList_load_row rfl 28 (.tmp 2) rfl gK rfl 28 #[.bool a, .slice Aa1 la1.length ca1, .slice Aa2 la2.length ca2] (0, 0) _ (HS.out.blk 2 rfl) Try.underlying28 rfl (by kernel_rfl) ?_) | ((with_reducible refine gate_dst (N := 44) rfl ?_); refine wpList_load_row rfl 28 (.tmp 3) rfl gB rfl 28 #[.bool b, .slice Ab1 lb1.length cb1, .slice Ab2 lb2.length cb2] (0, 0) _ (HS.out.blk 1 rfl) Try.underlying28 rfl (by kernel_rfl) ?_) | (go_at_call 86; refine (HBA.out.go _ HS.out.below).mono ?_; rintro e wp6 ⟨As, cs, Ad, cd, rfl, hCA1, hKA1, hCA2, hKA2, hbp6⟩; have CA1 := Aside0.mk hCA1; have KA1 := Aside0.mk hKA1; have CA2 := Aside0.mk hCA2; have KA2 := Aside0.mk hKA2; clear hCA1 hKA1 hCA2 hKA2; have nS : Aside0 (Sx w wp6 [(.blk gR #[.bool false, .slice none 0 0, .slice none 0 0] 28), (.blk gB #[.bool b, .slice Ab1 lb1.length cb1, .slice Ab2 lb2.length cb2] 28), (.blk gK #[.bool a, .slice Aa1 la1.length ca1, .slice Aa2 la2.length ca2] 28)]) := Aside0.mk (HS.out.step hbp6); clear HS; have HS := nS; clear nS hbp6) | ((with_reducible refine gate_store rfl ?_); refine store_named rfl 28 (.tmp 2) (.tmp 45) rfl gK #[.bool a, .slice As L1.length cs, .slice Ad L2.length cd] rfl rfl 28 #[.bool a, .slice Aa1 la1.length ca1, .slice Aa2 la2.length ca2] (HS.out.blk 2 rfl) (by kernel_rfl) rfl (by simp [Value.oneCell']) ?_; intro wp7 hxp7 hbp7; have nCA1 := Aside0.mk (C_but1 CA1.out hbp7 (HS.out.blk 2 rfl) (noInt_A _ _ _ _ _ _ _)); clear CA1; have CA1 := nCA1; clear nCA1; have nCA2 := Aside0.mk (C_but1 CA2.out hbp7 (HS.out.blk 2 rfl) (noInt_A _ _ _ _ _ _ _)); clear CA2; have CA2 := nCA2; clear nCA2; have nS : Aside0 (Sx w wp7 [(.blk gR #[.bool false, .slice none 0 0, .slice none 0 0] 28), (.blk gB #[.bool b, .slice Ab1 lb1.length cb1, .slice Ab2 lb2.length cb2] 28), (.blk gK #[.bool a, .slice As L1.length cs, .slice Ad L2.length cd] 28)]) := Aside0.mk (HS.out.put 2 rfl hxp7 hbp7); clear HS; have HS := nS; clear nS hxp7 hbp7))
        go_meet
        case rel => exact ⟨As, cs, Ad, cd, Ab1, cb1, Ab2, cb2, CA1.out, KA1.out, CA2.out, KA2.out, (Kd.C_below Hb1.out HS.out.below), Kb1.out, (Kd.C_below Hb2.out HS.out.below), Kb2.out, HS⟩
    · by_cases y2 : lb1.length = 0
      · have e_ : pq = false := by rw [hpq, decide_eq_false y1]; rfl
        subst e_
        have t1 : (((la1.length : Int) : Int) == 0) = false := beq_eq_false_iff_ne.mpr (by omega)
        have u1_ : (la1.length == 0) = false := beq_eq_false_iff_ne.mpr (by omega)
        have u1_d : decide (la1.length = 0) = false := decide_eq_false (by omega)
        have u1_p : ¬ la1.length = 0 := by omega
        have t2 : (((lb1.length : Int) : Int) == 0) = true := beq_iff_eq.mpr (by omega)
        have u2_ : (lb1.length == 0) = true := beq_iff_eq.mpr (by omega)
        have u2_d : decide (lb1.length = 0) = true := decide_eq_true (by omega)
        obtain ⟨e1_, e2_, e3_, e4_⟩ : L1 = la1 ∧ L2 = la2 ∧ M1 = (la1.dropLast ++ [1]) ∧ M2 = (List.replicate (prod la1.dropLast).toNat (rd lb2 0)) := by
          have h1 := HL1.out; have h2 := HL2_.out; have h3 := HM1.out; have h4 := HM2_.out
          unfold catL1 at h1 h3; unfold catL2 at h2 h4
          (repeat (first | rw [if_pos (by omega)] at h1 | rw [if_neg (by omega)] at h1)); (repeat (first | rw [if_pos (by omega)] at h2 | rw [if_neg (by omega)] at h2)); (repeat (first | rw [if_pos (by omega)] at h3 | rw [if_neg (by omega)] at h3)); (repeat (first | rw [if_pos (by omega)] at h4 | rw [if_neg (by omega)] at h4))
          exact ⟨h1, h2, h3, h4⟩
        clear HL1 HL2_ HM1 HM2_
        subst L1 L2
        have HBB := Aside0.mk (show SBesOk #[.agg #[.bool b, .slice Ab1 lb1.length cb1, .slice Ab2 lb2.length cb2], .agg #[.bool a, .slice Aa1 la1.length ca1, .slice Aa2 la2.length ca2]] b M1 M2 w by rw [e3_, e4_]; exact HBB0.out y2 y1)
        clear e3_ e4_
        clear y1 y2 hpq hn5 hm5
        go_wp2_with (first | ((with_reducible refine gate_dst (N := 48) rfl ?_); refine wpList_load_row rfl 28 (.tmp 3) rfl gB rfl 28 #[.bool b, .slice Ab1 lb1.length cb1, .slice Ab2 lb2.length cb2] (0, 0) _ (HS.out.blk 1 rfl) Try.underlying28 rfl (by kernel_rfl) ?_) | ((with_reducible refine gate_dst (N := 49) rfl ?_); refine wpList_load_row rfl 28 (.tmp 2) rfl gK rfl 28 #[.bool a, .slice Aa1 la1.length ca1, .slice Aa2 la2.length ca2] (0, 0) _ (HS.out.blk 2 rfl) Try.underlying28 rfl (by kernel_rfl) ?_) | (go_at_call 86; refine (HBB.out.go _ HS.out.below).mono ?_; rintro e wp6 ⟨Bs, ds, Bd, dd, rfl, hCB1, hKB1, hCB2, hKB2, hbp6⟩; have CB1 := Aside0.mk hCB1; have KB1 := Aside0.mk hKB1; have CB2 := Aside0.mk hCB2; have KB2 := Aside0.mk hKB2; clear hCB1 hKB1 hCB2 hKB2; have nS : Aside0 (Sx w wp6 [(.blk gR #[.bool false, .slice none 0 0, .slice none 0 0] 28), (.blk gB #[.bool b, .slice Ab1 lb1.length cb1, .slice Ab2 lb2.length cb2] 28), (.blk gK #[.bool a, .slice Aa1 la1.length ca1, .slice Aa2 la2.length ca2] 28)]) := Aside0.mk (HS.out.step hbp6); clear HS; have HS := nS; clear nS hbp6) | ((with_reducible refine gate_store rfl ?_); refine store_named rfl 28 (.tmp 3) (.tmp 50) rfl gB #[.bool b, .slice Bs M1.length ds, .slice Bd M2.length dd] rfl rfl 28 #[.bool b, .slice Ab1 lb1.length cb1, .slice Ab2 lb2.length cb2] (HS.out.blk 1 rfl) (by kernel_rfl) rfl (by simp [Value.oneCell']) ?_; intro wp7 hxp7 hbp7; have nCB1 := Aside0.mk (C_but1 CB1.out hbp7 (HS.out.blk 1 rfl) (noInt_A _ _ _ _ _ _ _)); clear CB1; have CB1 := nCB1; clear nCB1; have nCB2 := Aside0.mk (C_but1 CB2.out hbp7 (HS.out.blk 1 rfl) (noInt_A _ _ _ _ _ _ _)); clear CB2; have CB2 := nCB2; clear nCB2; have nS : Aside0 (Sx w wp7 [(.blk gR #[.bool false, .slice none 0 0, .slice none 0 0] 28), (.blk gB #[.bool b, .slice Bs M1.length ds, .slice Bd M2.length dd] 28), (.blk gK #[.bool a, .slice Aa1 la1.length ca1, .slice Aa2 la2.length ca2] 28)]) := Aside0.mk (HS.out.put 1 rfl hxp7 hbp7); clear HS; have HS := nS; clear nS hxp7 hbp7))
        go_meet
        case rel => exact ⟨Aa1, ca1, Aa2, ca2, Bs, ds, Bd, dd, (Kd.C_below Ha1.out HS.out.below), Ka1.out, (Kd.C_below Ha2.out HS.out.below), Ka2.out, CB1.out, KB1.out, CB2.out, KB2.out, HS⟩
      · by_cases y3 : la1.length + 1 = lb1.length
        · have e_ : pq = false := by rw [hpq, decide_eq_false y1]; rfl
          subst e_
          have t1 : (((la1.length : Int) : Int) == 0) = false := beq_eq_false_iff_ne.mpr (by omega)
          have u1_ : (la1.length == 0) = false := beq_eq_false_iff_ne.mpr (by omega)
          have u1_d : decide (la1.length = 0) = false := decide_eq_false (by omega)
          have u1_p : ¬ la1.length = 0 := by omega
          have t2 : (((lb1.length : Int) : Int) == 0) = false := beq_eq_false_iff_ne.mpr (by omega)
          have u2_ : (lb1.length == 0) = false := beq_eq_false_iff_ne.mpr (by omega)
          have u2_d : decide (lb1.length = 0) = false := decide_eq_false (by omega)
          have u2_p : ¬ lb1.length = 0 := by omega
          have t3 : (((la1.length : Int) + 1 : Int) == (lb1.length : Int)) = true := beq_iff_eq.mpr (by omega)
          have wa_ : IntKind.i64.wrap ((la1.length : Int) + 1) = (la1.length : Int) + 1 := IntWalk.i64_in _ (by have := HN5.out; omega)
          have wb_ : IntKind.i64.wrap ((lb1.length : Int) + 1) = (lb1.length : Int) + 1 := IntWalk.i64_in _ (by have := HM5.out; omega)
          obtain ⟨e1_, e2_, e3_, e4_⟩ : L1 = (la1 ++ [1]) ∧ L2 = la2 ∧ M1 = lb1 ∧ M2 = lb2 := by
            have h1 := HL1.out; have h2 := HL2_.out; have h3 := HM1.out; have h4 := HM2_.out
            unfold catL1 at h1 h3; unfold catL2 at h2 h4
            (repeat (first | rw [if_pos (by omega)] at h1 | rw [if_neg (by omega)] at h1)); (repeat (first | rw [if_pos (by omega)] at h2 | rw [if_neg (by omega)] at h2)); (repeat (first | rw [if_pos (by omega)] at h3 | rw [if_neg (by omega)] at h3)); (repeat (first | rw [if_pos (by omega)] at h4 | rw [if_neg (by omega)] at h4))
            exact ⟨h1, h2, h3, h4⟩
          clear HL1 HL2_ HM1 HM2_
          have HWDa := Aside0.mk (show WBesOk #[.agg #[.bool a, .slice Aa1 la1.length ca1, .slice Aa2 la2.length ca2]] a L1 L2 w by rw [e1_, e2_]; exact wbesOk a Aa1 ca1 la1 Aa2 ca2 la2 w Ha1.out Ka1.out Ha2.out Ka2.out HN5.out)
          clear e1_ e2_
          subst M1 M2
          clear y1 y2 y3 hpq hn5 hm5
          go_wp2_with (first | ((with_reducible refine gate_dst (N := 55) rfl ?_); refine wpList_load_row rfl 28 (.tmp 2) rfl gK rfl 28 #[.bool a, .slice Aa1 la1.length ca1, .slice Aa2 la2.length ca2] (0, 0) _ (HS.out.blk 2 rfl) Try.underlying28 rfl (by kernel_rfl) ?_) | (go_at_call_of 85 (Value.agg #[.bool a, .slice Aa1 la1.length ca1, .slice Aa2 la2.length ca2]); refine (HWDa.out.go _ HS.out.below).mono ?_; rintro e wp6 ⟨As, cs, Ad, cd, rfl, hCA1, hKA1, hCA2, hKA2, hbp6⟩; have CA1 := Aside0.mk hCA1; have KA1 := Aside0.mk hKA1; have CA2 := Aside0.mk hCA2; have KA2 := Aside0.mk hKA2; clear hCA1 hKA1 hCA2 hKA2; have nS : Aside0 (Sx w wp6 [(.blk gR #[.bool false, .slice none 0 0, .slice none 0 0] 28), (.blk gB #[.bool b, .slice Ab1 lb1.length cb1, .slice Ab2 lb2.length cb2] 28), (.blk gK #[.bool a, .slice Aa1 la1.length ca1, .slice Aa2 la2.length ca2] 28)]) := Aside0.mk (HS.out.step hbp6); clear HS; have HS := nS; clear nS hbp6) | ((with_reducible refine gate_store rfl ?_); refine store_named rfl 28 (.tmp 2) (.tmp 56) rfl gK #[.bool a, .slice As L1.length cs, .slice Ad L2.length cd] rfl rfl 28 #[.bool a, .slice Aa1 la1.length ca1, .slice Aa2 la2.length ca2] (HS.out.blk 2 rfl) (by kernel_rfl) rfl (by simp [Value.oneCell']) ?_; intro wp7 hxp7 hbp7; have nCA1 := Aside0.mk (C_but1 CA1.out hbp7 (HS.out.blk 2 rfl) (noInt_A _ _ _ _ _ _ _)); clear CA1; have CA1 := nCA1; clear nCA1; have nCA2 := Aside0.mk (C_but1 CA2.out hbp7 (HS.out.blk 2 rfl) (noInt_A _ _ _ _ _ _ _)); clear CA2; have CA2 := nCA2; clear nCA2; have nS : Aside0 (Sx w wp7 [(.blk gR #[.bool false, .slice none 0 0, .slice none 0 0] 28), (.blk gB #[.bool b, .slice Ab1 lb1.length cb1, .slice Ab2 lb2.length cb2] 28), (.blk gK #[.bool a, .slice As L1.length cs, .slice Ad L2.length cd] 28)]) := Aside0.mk (HS.out.put 2 rfl hxp7 hbp7); clear HS; have HS := nS; clear nS hxp7 hbp7))
          go_meet
          case rel => exact ⟨As, cs, Ad, cd, Ab1, cb1, Ab2, cb2, CA1.out, KA1.out, CA2.out, KA2.out, (Kd.C_below Hb1.out HS.out.below), Kb1.out, (Kd.C_below Hb2.out HS.out.below), Kb2.out, HS⟩
        · by_cases y4 : lb1.length + 1 = la1.length
          · have e_ : pq = false := by rw [hpq, decide_eq_false y1]; rfl
            subst e_
            have t1 : (((la1.length : Int) : Int) == 0) = false := beq_eq_false_iff_ne.mpr (by omega)
            have u1_ : (la1.length == 0) = false := beq_eq_false_iff_ne.mpr (by omega)
            have u1_d : decide (la1.length = 0) = false := decide_eq_false (by omega)
            have u1_p : ¬ la1.length = 0 := by omega
            have t2 : (((lb1.length : Int) : Int) == 0) = false := beq_eq_false_iff_ne.mpr (by omega)
            have u2_ : (lb1.length == 0) = false := beq_eq_false_iff_ne.mpr (by omega)
            have u2_d : decide (lb1.length = 0) = false := decide_eq_false (by omega)
            have u2_p : ¬ lb1.length = 0 := by omega
            have t3 : (((la1.length : Int) + 1 : Int) == (lb1.length : Int)) = false := beq_eq_false_iff_ne.mpr (by omega)
            have t3p : ¬ la1.length + 1 = lb1.length := by omega
            have t4 : (((lb1.length : Int) + 1 : Int) == (la1.length : Int)) = true := beq_iff_eq.mpr (by omega)
            have wa_ : IntKind.i64.wrap ((la1.length : Int) + 1) = (la1.length : Int) + 1 := IntWalk.i64_in _ (by have := HN5.out; omega)
            have wb_ : IntKind.i64.wrap ((lb1.length : Int) + 1) = (lb1.length : Int) + 1 := IntWalk.i64_in _ (by have := HM5.out; omega)
            obtain ⟨e1_, e2_, e3_, e4_⟩ : L1 = la1 ∧ L2 = la2 ∧ M1 = (lb1 ++ [1]) ∧ M2 = lb2 := by
              have h1 := HL1.out; have h2 := HL2_.out; have h3 := HM1.out; have h4 := HM2_.out
              unfold catL1 at h1 h3; unfold catL2 at h2 h4
              (repeat (first | rw [if_pos (by omega)] at h1 | rw [if_neg (by omega)] at h1)); (repeat (first | rw [if_pos (by omega)] at h2 | rw [if_neg (by omega)] at h2)); (repeat (first | rw [if_pos (by omega)] at h3 | rw [if_neg (by omega)] at h3)); (repeat (first | rw [if_pos (by omega)] at h4 | rw [if_neg (by omega)] at h4))
              exact ⟨h1, h2, h3, h4⟩
            clear HL1 HL2_ HM1 HM2_
            subst L1 L2
            have HWDb := Aside0.mk (show WBesOk #[.agg #[.bool b, .slice Ab1 lb1.length cb1, .slice Ab2 lb2.length cb2]] b M1 M2 w by rw [e3_, e4_]; exact wbesOk b Ab1 cb1 lb1 Ab2 cb2 lb2 w Hb1.out Kb1.out Hb2.out Kb2.out HM5.out)
            clear e3_ e4_
            clear y1 y2 y3 y4 hpq hn5 hm5
            go_wp2_with (first | ((with_reducible refine gate_dst (N := 61) rfl ?_); refine wpList_load_row rfl 28 (.tmp 3) rfl gB rfl 28 #[.bool b, .slice Ab1 lb1.length cb1, .slice Ab2 lb2.length cb2] (0, 0) _ (HS.out.blk 1 rfl) Try.underlying28 rfl (by kernel_rfl) ?_) | (go_at_call_of 85 (Value.agg #[.bool b, .slice Ab1 lb1.length cb1, .slice Ab2 lb2.length cb2]); refine (HWDb.out.go _ HS.out.below).mono ?_; rintro e wp6 ⟨Bs, ds, Bd, dd, rfl, hCB1, hKB1, hCB2, hKB2, hbp6⟩; have CB1 := Aside0.mk hCB1; have KB1 := Aside0.mk hKB1; have CB2 := Aside0.mk hCB2; have KB2 := Aside0.mk hKB2; clear hCB1 hKB1 hCB2 hKB2; have nS : Aside0 (Sx w wp6 [(.blk gR #[.bool false, .slice none 0 0, .slice none 0 0] 28), (.blk gB #[.bool b, .slice Ab1 lb1.length cb1, .slice Ab2 lb2.length cb2] 28), (.blk gK #[.bool a, .slice Aa1 la1.length ca1, .slice Aa2 la2.length ca2] 28)]) := Aside0.mk (HS.out.step hbp6); clear HS; have HS := nS; clear nS hbp6) | ((with_reducible refine gate_store rfl ?_); refine store_named rfl 28 (.tmp 3) (.tmp 62) rfl gB #[.bool b, .slice Bs M1.length ds, .slice Bd M2.length dd] rfl rfl 28 #[.bool b, .slice Ab1 lb1.length cb1, .slice Ab2 lb2.length cb2] (HS.out.blk 1 rfl) (by kernel_rfl) rfl (by simp [Value.oneCell']) ?_; intro wp7 hxp7 hbp7; have nCB1 := Aside0.mk (C_but1 CB1.out hbp7 (HS.out.blk 1 rfl) (noInt_A _ _ _ _ _ _ _)); clear CB1; have CB1 := nCB1; clear nCB1; have nCB2 := Aside0.mk (C_but1 CB2.out hbp7 (HS.out.blk 1 rfl) (noInt_A _ _ _ _ _ _ _)); clear CB2; have CB2 := nCB2; clear nCB2; have nS : Aside0 (Sx w wp7 [(.blk gR #[.bool false, .slice none 0 0, .slice none 0 0] 28), (.blk gB #[.bool b, .slice Bs M1.length ds, .slice Bd M2.length dd] 28), (.blk gK #[.bool a, .slice Aa1 la1.length ca1, .slice Aa2 la2.length ca2] 28)]) := Aside0.mk (HS.out.put 1 rfl hxp7 hbp7); clear HS; have HS := nS; clear nS hxp7 hbp7))
            go_meet
            case rel => exact ⟨Aa1, ca1, Aa2, ca2, Bs, ds, Bd, dd, (Kd.C_below Ha1.out HS.out.below), Ka1.out, (Kd.C_below Ha2.out HS.out.below), Ka2.out, CB1.out, KB1.out, CB2.out, KB2.out, HS⟩
          · have e_ : pq = false := by rw [hpq, decide_eq_false y1]; rfl
            subst e_
            have y5 : la1.length = lb1.length := by rcases HR4.out with h | h | h | h | h <;> omega
            have t1 : (((la1.length : Int) : Int) == 0) = false := beq_eq_false_iff_ne.mpr (by omega)
            have u1_ : (la1.length == 0) = false := beq_eq_false_iff_ne.mpr (by omega)
            have u1_d : decide (la1.length = 0) = false := decide_eq_false (by omega)
            have u1_p : ¬ la1.length = 0 := by omega
            have t2 : (((lb1.length : Int) : Int) == 0) = false := beq_eq_false_iff_ne.mpr (by omega)
            have u2_ : (lb1.length == 0) = false := beq_eq_false_iff_ne.mpr (by omega)
            have u2_d : decide (lb1.length = 0) = false := decide_eq_false (by omega)
            have u2_p : ¬ lb1.length = 0 := by omega
            have t3 : (((la1.length : Int) + 1 : Int) == (lb1.length : Int)) = false := beq_eq_false_iff_ne.mpr (by omega)
            have t3p : ¬ la1.length + 1 = lb1.length := by omega
            have t4 : (((lb1.length : Int) + 1 : Int) == (la1.length : Int)) = false := beq_eq_false_iff_ne.mpr (by omega)
            have t4p : ¬ lb1.length + 1 = la1.length := by omega
            have u5_ : (la1.length == lb1.length) = true := beq_iff_eq.mpr (by omega)
            have u5_d : decide (la1.length = lb1.length) = true := decide_eq_true (by omega)
            have t6 : ((la1.length : Int) != (lb1.length : Int)) = false := by rw [bne, beq_iff_eq.mpr (by omega)]; rfl
            have wa_ : IntKind.i64.wrap ((la1.length : Int) + 1) = (la1.length : Int) + 1 := IntWalk.i64_in _ (by have := HN5.out; omega)
            have wb_ : IntKind.i64.wrap ((lb1.length : Int) + 1) = (lb1.length : Int) + 1 := IntWalk.i64_in _ (by have := HM5.out; omega)
            obtain ⟨e1_, e2_, e3_, e4_⟩ : L1 = la1 ∧ L2 = la2 ∧ M1 = lb1 ∧ M2 = lb2 := by
              have h1 := HL1.out; have h2 := HL2_.out; have h3 := HM1.out; have h4 := HM2_.out
              unfold catL1 at h1 h3; unfold catL2 at h2 h4
              (repeat (first | rw [if_pos (by omega)] at h1 | rw [if_neg (by omega)] at h1)); (repeat (first | rw [if_pos (by omega)] at h2 | rw [if_neg (by omega)] at h2)); (repeat (first | rw [if_pos (by omega)] at h3 | rw [if_neg (by omega)] at h3)); (repeat (first | rw [if_pos (by omega)] at h4 | rw [if_neg (by omega)] at h4))
              exact ⟨h1, h2, h3, h4⟩
            clear HL1 HL2_ HM1 HM2_
            subst L1 L2
            subst M1 M2
            clear y1 y2 y3 y4 y5 hpq hn5 hm5
            go_wp2_with fail
            go_meet
            case rel => exact ⟨Aa1, ca1, Aa2, ca2, Ab1, cb1, Ab2, cb2, (Kd.C_below Ha1.out HS.out.below), Ka1.out, (Kd.C_below Ha2.out HS.out.below), Ka2.out, (Kd.C_below Hb1.out HS.out.below), Kb1.out, (Kd.C_below Hb2.out HS.out.below), Kb2.out, HS⟩
  clear HS
  obtain ⟨As, cs, Ad, cd, Bs, ds, Bd, dd, hCA1, hKA1, hCA2, hKA2, hCB1, hKB1, hCB2, hKB2, HS⟩ := hcut
  generalize wc = wz7 at *
  have CA1 := Aside0.mk hCA1
  clear hCA1
  have KA1 := Aside0.mk hKA1
  clear hKA1
  have CA2 := Aside0.mk hCA2
  clear hCA2
  have KA2 := Aside0.mk hKA2
  clear hKA2
  have CB1 := Aside0.mk hCB1
  clear hCB1
  have KB1 := Aside0.mk hKB1
  clear hKB1
  have CB2 := Aside0.mk hCB2
  clear hCB2
  have KB2 := Aside0.mk hKB2
  clear hKB2
  have HB0 := Aside0.mk HS.out.below
  have HGR := Aside0.mk (HS.out.get 0 rfl).2
  have HRB := Aside0.mk (HS.out.blk 0 rfl)
  have HBB := Aside0.mk (HS.out.blk 1 rfl)
  have HKB := Aside0.mk (HS.out.blk 2 rfl)
  have HGL := Aside0.mk (blk_lt HRB.out)
  clear HS
  have HS := Aside0.mk (Sx.start wz7)
  go_upto_region 18 with fail
  have nS := Aside0.mk HS.out.drew
  clear HS
  have HS := nS
  clear nS
  refine start_ (n := 8) (S := (fun w' => w'.cell? ⟨gK, 1, none⟩ = some (.slice As L1.length cs) ∧ w'.cell? ⟨gB, 1, none⟩ = some (.slice Bs M1.length ds))) (ds := []) #[false, false, false, false, false, false, false, false] (by kernel_rfl) rfl rfl ⟨(blk_cell (blk_below HKB.out HS.out.below) 1).trans rfl, (blk_cell (blk_below HBB.out HS.out.below) 1).trans rfl⟩ (fun hHeld => ?_)
  refine pure_ (i := 0) (N := (some 67)) (v := ?_) (a' := ?_) #[true, false, false, false, false, false, false, false] rfl rfl (by kernel_rfl) (fun _ _ _ h => h) (Or.inl ⟨by rfl, ?_⟩) ?_ ?_
  rotate_left
  · intro w'
    go_simp
    with_reducible rfl
  rotate_left
  · simp only [Act.put, List.setIfInBounds_toArray, List.set_cons_zero, List.set_cons_succ]
    rfl
  refine take_ (i := 1) (N := (some 68)) (v := ?_) (a' := ?_) #[true, true, false, false, false, false, false, false] rfl rfl (by kernel_rfl) (fun _ _ _ h => h) (Or.inl ⟨by rfl, ?_⟩) hHeld ?_ ?_
  rotate_left
  · rintro w' ⟨s0, s1⟩
    go_simp
    with_reducible rfl
  rotate_left
  · simp only [Act.put, List.setIfInBounds_toArray, List.set_cons_zero, List.set_cons_succ]
    rfl
  refine pure_ (i := 3) (N := (some 70)) (v := ?_) (a' := ?_) #[true, true, false, true, false, false, false, false] rfl rfl (by kernel_rfl) (fun _ _ _ h => h) (Or.inl ⟨by rfl, ?_⟩) ?_ ?_
  rotate_left
  · intro w'
    go_simp
    with_reducible rfl
  rotate_left
  · simp only [Act.put, List.setIfInBounds_toArray, List.set_cons_zero, List.set_cons_succ]
    rfl
  refine take_ (i := 4) (N := (some 71)) (v := ?_) (a' := ?_) #[true, true, false, true, true, false, false, false] rfl rfl (by kernel_rfl) (fun _ _ _ h => h) (Or.inl ⟨by rfl, ?_⟩) hHeld ?_ ?_
  rotate_left
  · rintro w' ⟨s0, s1⟩
    go_simp
    with_reducible rfl
  rotate_left
  · simp only [Act.put, List.setIfInBounds_toArray, List.set_cons_zero, List.set_cons_succ]
    rfl
  refine one_ (i := 2) (N := (some 69)) #[true, true, true, true, true, false, false, false] rfl rfl (by kernel_rfl) (by decide) (fun K hK => ?_)
  refine goes_ Try.func88 (by kernel_rfl) rfl #[.slice As L1.length cs, .bool false] (by rfl) rfl rfl (by (try simp only [List.map_toArray, List.map_cons, List.map_nil]); first | done | rfl) ?_
  with_reducible refine (spec_l4Without.calls As cs L1 false P1 _ (Kd.C_below CA1.out HS.out.below) KA1.out HWA.out).mono ?_
  rintro e ve1 ⟨v_, rfl, hre1, hbe1⟩
  obtain ⟨Ps, pc, hv_⟩ := Kd.R_slice hre1
  subst hv_
  have nS : Aside0 (Sx wz7 ve1 [(.row (.slice Ps P1.length pc) P1)]) := Aside0.mk (HS.out.addRow hbe1 hre1)
  clear HS hbe1
  have HS := nS
  clear nS
  refine ⟨_, rfl, ?_⟩
  refine hK.out _ _ ⟨(blk_cell (blk_below HKB.out HS.out.below) 1).trans rfl, (blk_cell (blk_below HBB.out HS.out.below) 1).trans rfl⟩ (fun hHeld => ?_)
  clear hK K
  refine norm_ (a' := ?_) ?_ ?_
  rotate_left
  · show Act.put _ (some 69) _ = _
    simp only [Act.put, List.setIfInBounds_toArray, List.set_cons_zero, List.set_cons_succ]
    rfl
  refine one_ (i := 5) (N := (some 72)) #[true, true, true, true, true, true, false, false] rfl rfl (by kernel_rfl) (by decide) (fun K hK => ?_)
  refine goes_ Try.func88 (by kernel_rfl) rfl #[.slice Bs M1.length ds, .bool false] (by rfl) rfl rfl (by (try simp only [List.map_toArray, List.map_cons, List.map_nil]); first | done | rfl) ?_
  with_reducible refine (spec_l4Without.calls Bs ds M1 false Q1 _ (Kd.C_below CB1.out HS.out.below) KB1.out HWB.out).mono ?_
  rintro e ve2 ⟨v_, rfl, hre2, hbe2⟩
  obtain ⟨Qs, qc, hv_⟩ := Kd.R_slice hre2
  subst hv_
  have nS : Aside0 (Sx wz7 ve2 [(.row (.slice Qs Q1.length qc) Q1), (.row (.slice Ps P1.length pc) P1)]) := Aside0.mk (HS.out.addRow hbe2 hre2)
  clear HS hbe2
  have HS := nS
  clear nS
  refine ⟨_, rfl, ?_⟩
  refine hK.out _ _ ⟨(blk_cell (blk_below HKB.out HS.out.below) 1).trans rfl, (blk_cell (blk_below HBB.out HS.out.below) 1).trans rfl⟩ (fun hHeld => ?_)
  clear hK K
  refine norm_ (a' := ?_) ?_ ?_
  rotate_left
  · show Act.put _ (some 72) _ = _
    simp only [Act.put, List.setIfInBounds_toArray, List.set_cons_zero, List.set_cons_succ]
    rfl
  refine one_ (i := 6) (N := (some 73)) #[true, true, true, true, true, true, true, false] rfl rfl (by kernel_rfl) (by decide) (fun K hK => ?_)
  refine goes_ Try.func87 (by kernel_rfl) rfl #[.slice Ps P1.length pc, .slice Qs Q1.length qc] (by rfl) rfl rfl (by (try simp only [List.map_toArray, List.map_cons, List.map_nil]); first | done | rfl) ?_
  with_reducible refine (spec_l3Same.calls k2 Ps pc P1 Qs qc Q1 true _ (HS.out.C 1 rfl) (HS.out.cap 1 rfl) (HS.out.C 0 rfl) (HS.out.cap 0 rfl) HEQ.out).mono ?_
  rintro e ve3 ⟨rfl, hd_⟩
  have hbe3 := Drawn0.below hd_
  clear hd_
  have nS : Aside0 (Sx wz7 ve3 [(.row (.slice Qs Q1.length qc) Q1), (.row (.slice Ps P1.length pc) P1)]) := Aside0.mk (HS.out.step hbe3)
  clear HS hbe3
  have HS := nS
  clear nS
  refine ⟨_, rfl, ?_⟩
  refine hK.out _ _ ⟨(blk_cell (blk_below HKB.out HS.out.below) 1).trans rfl, (blk_cell (blk_below HBB.out HS.out.below) 1).trans rfl⟩ (fun hHeld => ?_)
  clear hK K
  refine norm_ (a' := ?_) ?_ ?_
  rotate_left
  · show Act.put _ (some 73) _ = _
    simp only [Act.put, List.setIfInBounds_toArray, List.set_cons_zero, List.set_cons_succ]
    rfl
  refine pure_ (i := 7) (N := (some 74)) (v := ?_) (a' := ?_) #[true, true, true, true, true, true, true, true] rfl rfl (by kernel_rfl) (fun _ _ _ h => h) (Or.inl ⟨by rfl, ?_⟩) ?_ ?_
  rotate_left
  · intro w'
    go_simp
    with_reducible rfl
  rotate_left
  · simp only [Act.put, List.setIfInBounds_toArray, List.set_cons_zero, List.set_cons_succ]
    rfl
  refine done_ (by kernel_rfl) ?_
  go_simp
  go_wp2_with (first | ((with_reducible refine wpList_guardedB ?hw ?_); (case hw => first | rfl | (go_simp; done))) | ((with_reducible refine gate_dst (N := 77) rfl ?_); refine ev_load rfl 4 (.tmp 76) rfl ⟨gK, 0, none⟩ rfl (.bool a) ((blk_cell (blk_below HKB.out HS.out.below) 0).trans rfl) (by kernel_rfl) ?_) | ((with_reducible refine gate_dst (N := 79) rfl ?_); refine ev_load rfl 4 (.tmp 78) rfl ⟨gB, 0, none⟩ rfl (.bool b) ((blk_cell (blk_below HBB.out HS.out.below) 0).trans rfl) (by kernel_rfl) ?_) | ((with_reducible refine gate_dst (N := 83) rfl ?_); refine ev_load rfl 22 (.tmp 82) rfl ⟨gK, 2, none⟩ rfl (.slice Ad L2.length cd) ((blk_cell (blk_below HKB.out HS.out.below) 2).trans rfl) (by kernel_rfl) ?_) | ((with_reducible refine gate_dst (N := 89) rfl ?_); refine ev_load rfl 22 (.tmp 88) rfl ⟨gB, 2, none⟩ rfl (.slice Bd M2.length dd) ((blk_cell (blk_below HBB.out HS.out.below) 2).trans rfl) (by kernel_rfl) ?_) | (go_at_call 53; refine (spec_l4None.calls false [] [] _ rfl).mono ?_; rintro e we4 ⟨v1e4, v2e4, rfl, hr1e4, hr2e4, hbe4⟩; obtain ⟨AS, cS, hv_⟩ := Kd.R_slice hr1e4; subst hv_; obtain ⟨AD, cD, hv_⟩ := Kd.R_slice hr2e4; subst hv_; have nS : Aside0 (Sx wz7 we4 [(.row (.slice AS ([] : List Int).length cS) []), (.row (.slice AD ([] : List Int).length cD) []), (.row (.slice Qs Q1.length qc) Q1), (.row (.slice Ps P1.length pc) P1)]) := Aside0.mk (HS.out.addRow2 hbe4 hr1e4 hr2e4); clear HS; have HS := nS; clear nS hbe4 hr1e4 hr2e4) | ((with_reducible refine gate_store rfl ?_); refine store_named rfl 28 (.tmp 4) (.tmp 93) rfl gR #[.bool false, .slice AS ([] : List Int).length cS, .slice AD ([] : List Int).length cD] rfl rfl 28 #[.bool false, .slice none 0 0, .slice none 0 0] (blk_below HRB.out HS.out.below) (by kernel_rfl) rfl (by simp [Value.oneCell']) ?_; intro wF hxF hbF; have HXF := Aside0.mk hxF; have HBF := Aside0.mk hbF; clear hxF hbF))
  have R_ := HS.out.two_but 0 1 (by decide) rfl rfl HBF.out HGL.out w.heap.size HB0.out.size
  refine bodyPost_ret (results_ct rfl _ _ gR 28 #[.bool false, .slice AS ([] : List Int).length cS, .slice AD ([] : List Int).length cD] (0, 0) _ rfl HXF.out Try.underlying28 rfl (by kernel_rfl)) rfl ?_
  exact ⟨_, _, rfl, R_.1, R_.2, (below_step HB0.out HS.out.below).trans (HBF.out.below _ HGR.out)⟩
theorem l3ShapeOk_n (k n : Nat) (A : Option Addr) (c : Nat) (l : List Int) (r : Bool) (w : World) (h : Kd.C (Kd.int .i64) w A l.length l) (hc : l.length ≤ c) (hn : l.length = n) (hf : spec_l3ShapeOk.f k l = some r) :
    Calls Try.prog 72 #[.slice A n c] w fun e w' => e = .returned (.bool r) ∧ Drawn0 w w' := by
  subst hn; exact spec_l3ShapeOk.calls k A c l r w h hc hf

end Go.Proofs.Ytehfcnndjhjkoaa.PA
