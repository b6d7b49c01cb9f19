import Derived.Test.YtehfcnndjhjkoaaKFnExactDrop2
import Derived.Shelf.RegionOpen
import Derived.Sort.BigQuietIn
import Derived.WalkSpells
import Derived.RegionTactic
import Derived.ChangeAlike
import Derived.BigRegion
import Derived.Laws.CopyOwn
import Derived.Outline
import Derived.OwnWalkIn
import Derived.Stop.RegionWithIn
import Derived.StillTailTactics
import Derived.IntWalk
import Derived.Deep.RegionLaw
import Derived.Laws.BitsLemmas
import Derived.Deep.QuietTactic
import Derived.BigQuiet
import Derived.Deep.RegionHeld3

namespace Go.Proofs.Ytehfcnndjhjkoaa.PA
open Go.RowKit Go.Shelf
set_option linter.unusedVariables false
theorem opIn_round {F : Fence} {n : Nat} {P : Program} {ops : Array Oper} {Q : Exit → Act → World → Prop} (l : Nat) (hd : ∀ (i : Nat) (o : Oper), ops[i]? = some o → ∀ c, o.op ≠ .defer c) {i : Nat} {K K' : Act → World → Prop} {a : Act} {w : World}
    (hK : ∀ a w, K a w → K' a w) (h : wpOpIn F n P ops Q i K a w) : wpOpIn (F.inRound l) n P ops Q i K' a w := by
  unfold wpOpIn at *
  cases ho : ops[i]? with
  | none => simp only [ho] at h ⊢; exact hK _ _ h
  | some o =>
    simp only [ho] at h ⊢
    split at h
    · rename_i hw
      rw [if_pos hw]
      have h' : o.wpIn F n P a w K' Q := Oper.wpIn_mono hK h
      unfold Oper.wpIn at *
      refine ⟨h'.1, ?_⟩
      have e := h'.2
      rw [Oper.semAt_eq _ _ _ (hd i o ho)] at e ⊢
      exact e
    · rename_i hw
      rw [if_neg hw]
      exact ⟨h.1, hK _ _ h.2⟩
theorem anyIn_round {F : Fence} {n : Nat} {P : Program} {md : Region.Mode} {ops : Array Oper} {Q : Exit → Act → World → Prop} (l : Nat) (hd : ∀ (i : Nat) (o : Oper), ops[i]? = some o → ∀ c, o.op ≠ .defer c) :
    ∀ (fuel : Nat) (listed : Array Bool) (a : Act) (w : World), wpAnyIn F n P md ops Q fuel listed a w → wpAnyIn (F.inRound l) n P md ops Q fuel listed a w
  | 0, _, _, _, h => h
  | fuel + 1, listed, a, w, h => ⟨h.1, fun i hi => opIn_round l hd (fun a' w' hh => anyIn_round l hd fuel _ a' w' hh) (h.2 i hi)⟩
/-- No operation of the list defers. -/
def noDefer (ops : Array Oper) : Bool := ops.toList.all fun o => match o.op with | .defer _ => false | _ => true
theorem noDefer_spec {ops : Array Oper} (h : noDefer ops = true) (i : Nat) (o : Oper) (ho : ops[i]? = some o) : ∀ c, o.op ≠ .defer c := by
  intro c hc
  have hm : o ∈ ops.toList := by
    rw [← Array.getElem?_toList] at ho
    exact List.mem_of_getElem? ho
  have := List.all_eq_true.1 h o hm
  rw [hc] at this
  cases this
/-- The region's any order, walked outside the round. -/
theorem region_round {id n l : Nat} {P : Program} {F : Fence} {ops : Array Oper} {Q : Exit → Act → World → Prop} {a : Act} {w : World} (hm : P.follows .mixedOrders = true) (hd : noDefer ops = true)
    (h : wpAnyIn F n P .any ops Q ops.size (Array.replicate ops.size false) a w.drew) : (Code.region id ops true).wpIn (F.inRound l) n P Q a w :=
  wpIn_region_any hm (anyIn_round l (noDefer_spec hd) _ _ _ _ h)
/-- A quiet region, walked in its lexical order outside the round. -/
theorem quiet_round {id n lo : Nat} {P : Program} {F : Fence} {Q : Exit → Act → World → Prop} {a : Act} {w : World} {l : List Oper} (hro : F.round = none) (hm : P.follows .mixedOrders = true) (hd : noDefer l.toArray = true) (hB : Region.lexB .any l.toArray = true)
    (h : wpQuietIn F n P l.toArray (fun w' => ∃ n, w' = w.drewN n) (fun a' => ∀ w', (∃ n, w' = w.drewN n) → Q .normal a' w') l a) : (Code.region id l.toArray true).wpIn (F.inRound lo) n P Q a w := by
  simp only [Region.lexB, Bool.and_eq_true] at hB
  refine region_round hm hd (wpAnyIn_of_quiet (Q := fun a' => ∀ w', (∃ n, w' = w.drewN n) → Q .normal a' w') hro (fun _ w' hw' h => h w' hw') _ _ _ _ ⟨1, rfl⟩ ?_)
  have := wpAnyQIn_lex (F := F) (n := n) (C := fun w' => ∃ n, w' = w.drewN n) (md := .any) hB.1 l 0 (Array.replicate l.toArray.size false) a (by simp) (by simpa using hB.2) h
  simpa using this
end Go.Proofs.Ytehfcnndjhjkoaa.PA

namespace Go.Proofs.Ytehfcnndjhjkoaa.PA
open Go.RowKit Go.Proofs.YtehfcnndjhjkoaaW.PrintWords Go.Proofs.YtehfcnndjhjkoaaW.PrintLast Go.Proofs.YtehfcnndjhjkoaaW.PrintMore
set_option linter.unusedVariables false
set_option linter.unusedSimpArgs false
/-- The number of an element, from an axis and a number on, over the numbers that are left (as the program reckons it). -/
def numGo (sh : List Int) : Nat → Int → List Int → Int
  | _, n, [] => n
  | k, n, i :: t => numGo sh (k + 1) (wrap64 (wrap64 (n * rd sh (k : Int)) + i)) t
/-- The same without bounds. -/
def hor : Int → List Int → List Int → Int
  | n, a :: sh, d :: ds => hor (n * a + d) sh ds
  | n, _, _ => n
theorem prod_snoc (p : List Int) (a : Int) : prod (p ++ [a]) = prod p * a := by rw [prod_app]; simp [prod]
theorem prod_pos : ∀ {p : List Int}, (∀ a ∈ p, 1 ≤ a) → 1 ≤ prod p
  | [], _ => by simp [prod]
  | a :: p, h => by
    have h1 := h a (by simp)
    have h2 := prod_pos (p := p) (fun x hx => h x (by simp [hx]))
    have := Int.mul_le_mul h1 h2 (by omega) (by omega)
    simpa [prod] using this
theorem digs_range : ∀ (n : Nat) (s : List Int) (c : Int), s.length = n → (∀ a ∈ s, 1 ≤ a) → 0 ≤ c → ∀ k : Nat, k < n → 0 ≤ rd (digs s c) (k : Int) ∧ rd (digs s c) (k : Int) < rd s (k : Int)
  | 0, s, c, hn, _, _, k, hk => by omega
  | n + 1, s, c, hn, hs, h0, k, hk => by
    obtain ⟨p, a, rfl, hp⟩ := snocI hn
    have ha := hs a (by simp)
    rw [digs_snoc]
    by_cases e : k = n
    · subst e
      rw [rd_last _ [] _ k (by rw [digs_len, hp]), rd_last p [] a k hp]
      exact ⟨Int.emod_nonneg _ (by omega), Int.emod_lt_of_pos _ (by omega)⟩
    · have ih := digs_range n p (c / a) hp (fun x hx => hs x (by simp [hx])) (Int.ediv_nonneg h0 (by omega)) k (by omega)
      have e1 : rd (digs p (c / a) ++ [c % a]) (k : Int) = rd (digs p (c / a)) (k : Int) := by
        simp only [rd, Int.toNat_natCast, List.getD_eq_getElem?_getD]; rw [List.getElem?_append_left (by rw [digs_len]; omega)]
      have e2 : rd (p ++ [a]) (k : Int) = rd p (k : Int) := by
        simp only [rd, Int.toNat_natCast, List.getD_eq_getElem?_getD]; rw [List.getElem?_append_left (by omega)]
      rw [e1, e2]; exact ih
/-- The program's number is the plain one where each digit is in range. -/
theorem numGo_hor (sh : List Int) (hs : ∀ a ∈ sh, 1 ≤ a) (hp : prod sh ≤ 1000000000) : ∀ (t : List Int) (p q : List Int) (n : Int), p ++ q = sh → q.length = t.length → 0 ≤ n → n < prod p → (∀ k : Nat, k < t.length → 0 ≤ rd t (k : Int) ∧ rd t (k : Int) < rd q (k : Int)) →
    numGo sh p.length n t = hor n q t
  | [], p, q, n, e, hl, h0, h1, hr => by
    obtain rfl := List.eq_nil_of_length_eq_zero hl
    simp [numGo, hor]
  | d :: t, p, [], n, e, hl, h0, h1, hr => by simp at hl
  | d :: t, p, a :: q, n, e, hl, h0, h1, hr => by
    have ha : 1 ≤ a := hs a (by rw [← e]; simp)
    have hd := hr 0 (by simp)
    simp only [rd, Int.ofNat_zero, Int.toNat_zero, List.getD_cons_zero] at hd
    have hd : 0 ≤ d ∧ d < a := hd
    have hq1 : 1 ≤ prod q := prod_pos (fun x hx => hs x (by rw [← e]; simp [hx]))
    have hp1 : 1 ≤ prod p := prod_pos (fun x hx => hs x (by rw [← e]; simp [hx]))
    have hpp : prod p * a * prod q ≤ 1000000000 := by
      have h := hp
      rw [← e, prod_app] at h; simp only [prod] at h; rw [Int.mul_assoc]; exact h
    have hpa : prod p * a ≤ 1000000000 := by
      have h1 := Int.mul_le_mul_of_nonneg_left hq1 (show 0 ≤ prod p * a from Int.mul_nonneg (by omega) (by omega))
      omega
    have hna : n * a + d < prod p * a := by
      have h := Int.mul_le_mul_of_nonneg_right (show n + 1 ≤ prod p by omega) (show 0 ≤ a by omega)
      rw [Int.add_mul] at h; omega
    have hn0 : 0 ≤ n * a := Int.mul_nonneg h0 (by omega)
    have hrd : rd sh (p.length : Int) = a := by rw [← e]; exact rd_last p q a _ rfl
    rw [numGo, hrd, w64 (x := n * a) (by omega) (by omega), w64 (by omega) (by omega), hor]
    have := numGo_hor sh hs hp t (p ++ [a]) q (n * a + d) (by rw [← e]; simp) (by simpa using hl) (by omega) (by rw [prod_snoc]; exact hna) (fun k hk => by
      have h := hr (k + 1) (by simp; omega)
      simp only [rd, Int.toNat_natCast, List.getD_cons_succ] at h ⊢
      exact h)
    simpa using this
end Go.Proofs.Ytehfcnndjhjkoaa.PA

-- By a program (prt.py, over the print of the kit), for this claim. Not trusted: Lean checks it.
namespace Go.Proofs.Ytehfcnndjhjkoaa.PA
open Go.RowKit Go.Proofs.YtehfcnndjhjkoaaW.PrintWords Go.Proofs.YtehfcnndjhjkoaaW.PrintLast Go.Proofs.YtehfcnndjhjkoaaW.PrintMore
attribute [local go_sem] max2_int min2_int max_two min_two max_three min_three max_four min_four   -- for this text's walks alone
set_option linter.unusedVariables false
set_option linter.unusedSimpArgs false

/-! ### impl_number: function 120 -/
def impl_number.l0 : Nat → List Int → Int → List Int → Int → Int → Option (Int)
  | 0, _, _, _, _, _ => none
  | k + 1, x0, x5, x8, x9, x10 => if x10 < x9 then (if 0 ≤ x10 then (if x10 < (x8.length : Int) then (if x10 < (x0.length : Int) then (impl_number.l0 k x0 (wrap64 ((wrap64 (x5 * (rd x0 x10))) + (rd x8 x10))) x8 x9 (wrap64 (x10 + 1))) else (none)) else (none)) else (none)) else (some x5)
def impl_number.f (k : Nat) (l0 : List Int) (l1 : List Int) : Option (Int) := impl_number.l0 k l0 0 l1 (l1.length : Int) 0
theorem impl_number.mono_l : ∀ k, (∀ y0 y1 y2 y3 y4, LeO (impl_number.l0 k y0 y1 y2 y3 y4) (impl_number.l0 (k + 1) y0 y1 y2 y3 y4))
  | 0 => fun _ _ _ _ _ r h => by simp [impl_number.l0] at h
  | k + 1 => by
    have ih0 := impl_number.mono_l k
    · intro y0 y1 y2 y3 y4
      unfold impl_number.l0
      repeat' first
      | (with_reducible exact ih0 _ _ _ _ _)
      | (with_reducible exact LeO.refl _)
      | (with_reducible exact LeO.none _)
      | (with_reducible refine LeO.ite ?_ ?_)
      | (with_reducible refine LeO.bind ?_ (fun _ => ?_))
      | exact ih0 _ _ _ _ _
      | exact LeO.none _
      | refine LeO.ite ?_ ?_
      | refine LeO.bind ?_ (fun _ => ?_)
theorem impl_number.mono : ∀ a0 a1 k, LeO (impl_number.f k a0 a1) (impl_number.f (k + 1) a0 a1) := by
  intro a0 a1 k
  have ih0 := impl_number.mono_l k
  unfold impl_number.f
  repeat' first
      | (with_reducible exact ih0 _ _ _ _ _)
      | (with_reducible exact LeO.refl _)
      | (with_reducible exact LeO.none _)
      | (with_reducible refine LeO.ite ?_ ?_)
      | (with_reducible refine LeO.bind ?_ (fun _ => ?_))
      | exact ih0 _ _ _ _ _
      | exact LeO.none _
      | refine LeO.ite ?_ ?_
      | refine LeO.bind ?_ (fun _ => ?_)
set_option maxHeartbeats 8000000 in
set_option maxRecDepth 100000 in
theorem impl_number.calls (k : Nat) (A0 : Option Addr) (c0 : Nat) (l0 : List Int) (A1 : Option Addr) (c1 : Nat) (l1 : List Int) (r : Int) (w : World) (hr0 : Kd.C (Kd.int .i64) w A0 l0.length l0) (hc0 : l0.length ≤ c0) (hr1 : Kd.C (Kd.int .i64) w A1 l1.length l1) (hc1 : l1.length ≤ c1) (h : impl_number.f k l0 l1 = some r) :
    Calls Try.prog 120 #[.slice A0 l0.length c0, .slice A1 l1.length c1] w fun e w' => e = .returned (.int .i64 r) ∧ Drawn0 w w' := by
  have HR0 := Aside0.mk hr0
  have HC0 := Aside0.mk hc0
  clear hr0 hc0
  have HR1 := Aside0.mk hr1
  have HC1 := Aside0.mk hc1
  clear hr1 hc1
  have H : (impl_number.l0 k l0 0 l1 (l1.length : Int) 0) = some r := h
  clear h
  have H' := Aside0.mk H
  clear H
  go_enter Try.func120, Try.ntmps120
  go_wp2
  go_loopg [5, 10] k (fun kq v5 v10 w' => ∃ (x5_1 : Int) (x10_1 : Int), v5 = .int .i64 x5_1 ∧ v10 = .int .i64 x10_1 ∧ Aside0 (impl_number.l0 kq l0 x5_1 l1 (l1.length : Int) x10_1 = some r) ∧ Aside0 (kq ≤ k) ∧ Drawn0 w w')
  case atStart => exact ⟨(0), (0), (by first | rfl | (simp; done) | (simp [*]; done)), (by first | rfl | (simp; done) | (simp [*]; done)), H', ⟨Nat.le_refl _⟩, by repeat (first | exact Drawn0.refl _ | apply Drawn0.step)⟩
  case round =>
    clear H'
    try clear c1
    try clear p2
    obtain ⟨x5_1, x10_1, rfl, rfl, HA, HK1, ⟨m1, rfl⟩⟩ := hrel
    cases gk with
    | zero => exact absurd HA.out (by simp [impl_number.l0])
    | succ k1 =>
      have H := HA.out
      clear HA
      simp only [impl_number.l0] at H
      by_cases c3 : x10_1 < (l1.length : Int)
      · rw [if_pos c3] at H
        have c3b0 : decide (x10_1 < (l1.length : Int)) = true := decide_eq_true c3
        clear c3
        by_cases c4 : 0 ≤ x10_1
        · rw [if_pos c4] at H
          have c4b0 : decide (0 ≤ x10_1) = true := decide_eq_true c4
          clear c4
          by_cases c5 : x10_1 < (l1.length : Int)
          · rw [if_pos c5] at H
            have c5b0 : decide (x10_1 < (l1.length : Int)) = true := decide_eq_true c5
            clear c5
            by_cases c6 : x10_1 < (l0.length : Int)
            · rw [if_pos c6] at H
              have c6b0 : decide (x10_1 < (l0.length : Int)) = true := decide_eq_true c6
              clear c6
              have H' := Aside0.mk H
              clear H
              have p101 : 0 ≤ (x10_1 : Int) := of_decide_eq_true (by first | (with_reducible assumption) | assumption)
              have q101 : x10_1 < (l1.length : Int) := of_decide_eq_true (by first | (with_reducible assumption) | assumption)
              obtain ⟨ad101, e101, hx101_0⟩ := Kd.at_int HR1.out x10_1 p101 q101
              cases e101
              replace p101 := eq_true p101
              replace q101 := eq_true q101
              have p102 : 0 ≤ (x10_1 : Int) := of_decide_eq_true (by first | (with_reducible assumption) | assumption)
              have q102 : x10_1 < (l0.length : Int) := of_decide_eq_true (by first | (with_reducible assumption) | assumption)
              obtain ⟨ad102, e102, hx102_0⟩ := Kd.at_int HR0.out x10_1 p102 q102
              cases e102
              replace p102 := eq_true p102
              replace q102 := eq_true q102
              go_wp2
              go_roundg k1
              case measure => have := HK1.out; omega
              case rel => exact ⟨(wrap64 ((wrap64 (x5_1 * (rd l0 x10_1))) + (rd l1 x10_1))), (wrap64 (x10_1 + 1)), (by first | rfl | (simp; done) | (simp [*]; done)), (by first | rfl | (simp; done) | (simp [*]; done)), H', ⟨by have := HK1.out; omega⟩, by repeat (first | exact Drawn0.refl _ | apply Drawn0.step)⟩
            · rw [if_neg c6] at H
              exact absurd H (by simp)
          · rw [if_neg c5] at H
            exact absurd H (by simp)
        · rw [if_neg c4] at H
          exact absurd H (by simp)
      · rw [if_neg c3] at H
        have c3b0 : decide (x10_1 < (l1.length : Int)) = false := decide_eq_false c3
        clear c3
        obtain rfl := Option.some.inj H
        go_wp2
        go_ret
        exact ⟨by first | rfl | (simp; done) | (simp [*]; done), by repeat (first | exact Drawn0.refl _ | apply Drawn0.step)⟩

end Go.Proofs.Ytehfcnndjhjkoaa.PA

namespace Go.Proofs.Ytehfcnndjhjkoaa.PA
open Go.RowKit Go.Proofs.YtehfcnndjhjkoaaW.PrintWords Go.Proofs.YtehfcnndjhjkoaaW.PrintLast Go.Proofs.YtehfcnndjhjkoaaW.PrintMore
set_option linter.unusedVariables false
theorem number_go (sh src : List Int) (h : src.length ≤ sh.length) (hb : src.length ≤ 1000000) : ∀ (m j : Nat) (n : Int), j + m = src.length →
    impl_number.l0 (m + 1) sh n src (src.length : Int) (j : Int) = some (numGo sh j n (src.drop j))
  | 0, j, n, hj => by
    rw [impl_number.l0, if_neg (by omega), List.drop_eq_nil_of_le (by omega), numGo]
  | m + 1, j, n, hj => by
    have hlt : j < src.length := by omega
    rw [impl_number.l0, if_pos (by omega), if_pos (by omega), if_pos (by omega), if_pos (by omega), show wrap64 ((j : Int) + 1) = ((j + 1 : Nat) : Int) from by rw [w64 (by omega) (by omega)]; push_cast; rfl]
    rw [number_go sh src h hb m (j + 1) _ (by omega), List.drop_eq_getElem_cons hlt, numGo]
    simp [rd, List.getD_eq_getElem?_getD, hlt]
theorem number_ev (sh src : List Int) (h : src.length ≤ sh.length) (hb : src.length ≤ 1000000) : impl_number.f (src.length + 1) sh src = some (numGo sh 0 0 src) :=
  number_go sh src h hb src.length 0 0 (by omega)
end Go.Proofs.Ytehfcnndjhjkoaa.PA

namespace Go.Proofs.Ytehfcnndjhjkoaa.PA
open Go.RowKit Go.Proofs.YtehfcnndjhjkoaaW.PrintWords Go.Proofs.YtehfcnndjhjkoaaW.PrintLast Go.Proofs.YtehfcnndjhjkoaaW.PrintMore
set_option linter.unusedVariables false
set_option linter.unusedSimpArgs false
section
variable {P : Program} {ops : Array Oper} {rest : List Oper} {o : Oper} {a : Act} {Q : Exit → Act → World → Prop}
theorem lit_event {W : World} (hgd : o.guard = none) {N : Tmp} (_hd : o.dst = some N) {cs : Array Value} {t : TypeId} {n : Nat}
    (hrun : (execOp a.eval o).run P W = .ok (.value (.slice (some ⟨W.heap.size, 0, none⟩) n n)) (W.alloc (.cells cs t (0, 0))))
    (h : ∀ g, g = W.heap.size → ∀ w1, w1.heap[g]? = some (.cells cs t (0, 0)) → Below W.heap.size W w1 → wpList P ops Q rest (a.put o.dst (.slice (some ⟨g, 0, none⟩) n n)) w1) : wpList P ops Q (o :: rest) a W :=
  Kd.event_run hgd hrun (h _ rfl _ (blk_new W _) (below_alloc (Below.refl _ _) _))
/-- Between two worlds all blocks but g are alike. -/
structure But1 (g : Nat) (W w1 : World) : Prop where
  same : ∀ k, k ≠ g → w1.heap[k]? = W.heap[k]?
  below : ∀ B, B ≤ g → Below B W w1
theorem store_named {W : World} (hgd : o.guard = none) (ty : TypeId) (x y : Operand) (ho : o.op = .store ty x y)
    (g : Nat) (cells : Array Value) (hx : a.eval x = .pointer (some ⟨g, 0, none⟩)) (hy : a.eval y = .agg cells)
    (t : TypeId) (old : Array Value) (hg : W.heap[g]? = some (.cells old t (0, 0))) (hi : (P.info? ty).map (·.size) = some cells.size)
    (hold : old.size = cells.size) (h1 : cells.all (·.oneCell') = true)
    (h : ∀ w1, w1.heap[g]? = some (.cells cells t (0, 0)) → But1 g W w1 → wpList P ops Q rest (a.put o.dst undef) w1) : wpList P ops Q (o :: rest) a W :=
  wpList_store_row hgd ty x y ho g cells hx hy t old hg hi hold h1 (h _ (setRow_heap _ g _ _ _ _ hg) ⟨fun k hk => setRow_other _ g k _ hk, fun B hB => below_setRow (Below.refl B W) hB _⟩)
end
theorem But1.blk {g k : Nat} {W w1 : World} {ob : Obj} (h : But1 g W w1) (hk : W.heap[k]? = some ob) (hne : k ≠ g) : w1.heap[k]? = some ob := (h.same k hne).trans hk
/-- Rows of numbers stand where a block of another type is written. -/
theorem But1.row {g : Nat} {W w1 : World} {base : Nat} {ok : Nat → Prop} {v : Value} {xs : List Int} {cells : Array Value} {t : TypeId} (h : But1 g W w1) (hr : (Kd.int .i64).R 3 W base ok v xs) (hb : W.heap[g]? = some (.cells cells t (0, 0))) (ht : 3 ≠ t) : (Kd.int .i64).R 3 w1 base ok v xs :=
  Kd.R_mono (Kd.R_move (Kd.R_types hr hb (fun q hq => by simp [Kd.int, Kd.scalar] at hq; subst hq; exact ht)) (fun k hk => h.same k hk.2)) (fun _ hk => hk.1)
theorem pair_C {W : World} {g : Nat} {b c : Bool} {A1 A2 B1 B2 : Option Addr} {l1 l2 m1 m2 : List Int} {c1 c2 d1 d2 : Nat}
    (hb : W.heap[g]? = some (.cells #[.bool b, .slice A1 l1.length c1, .slice A2 l2.length c2, .bool c, .slice B1 m1.length d1, .slice B2 m2.length d2] 28 (0, 0)))
    (h1 : Kd.C (Kd.int .i64) W A1 l1.length l1) (k1 : l1.length ≤ c1) (h2 : Kd.C (Kd.int .i64) W A2 l2.length l2) (k2 : l2.length ≤ c2)
    (h3 : Kd.C (Kd.int .i64) W B1 m1.length m1) (k3 : m1.length ≤ d1) (h4 : Kd.C (Kd.int .i64) W B2 m2.length m2) (k4 : m2.length ≤ d2) :
    Kd.C k28 W (some ⟨g, 0, none⟩) 2 [⟨b, l1, l2⟩, ⟨c, m1, m2⟩] := by
  have ha : ∀ n, (⟨g, 0, none⟩ : Addr).add n = ⟨g, n, none⟩ := fun n => add_plain g n
  refine ⟨rfl, by decide, fun _ => ⟨_, rfl, fun j p hj => ?_⟩⟩
  match j, hj with
  | 0, hj =>
    simp only [List.getElem?_cons_zero, Option.some.injEq] at hj; subst hj
    refine ⟨_, rfl, k28_mk W ⟨b, l1, l2⟩ k1 h1 k2 h2, fun i u hu => ?_⟩
    rw [ha, blk_cell hb]
    match i, hu with
    | 0, hu => simpa using hu
    | 1, hu => simpa using hu
    | 2, hu => simpa using hu
    | i + 3, hu => simp at hu
  | 1, hj =>
    simp only [List.getElem?_cons_succ, List.getElem?_cons_zero, Option.some.injEq] at hj; subst hj
    refine ⟨_, rfl, k28_mk W ⟨c, m1, m2⟩ k3 h3 k4 h4, fun i u hu => ?_⟩
    rw [ha, blk_cell hb]
    match i, hu with
    | 0, hu => simpa [k28, Kd.iso, Kd.pair, Kd.bool, Kd.slice, Kd.int, Kd.scalar] using hu
    | 1, hu => simpa [k28, Kd.iso, Kd.pair, Kd.bool, Kd.slice, Kd.int, Kd.scalar] using hu
    | 2, hu => simpa [k28, Kd.iso, Kd.pair, Kd.bool, Kd.slice, Kd.int, Kd.scalar] using hu
    | i + 3, hu => simp at hu
  | j + 2, hj => simp at hj
end Go.Proofs.Ytehfcnndjhjkoaa.PA

namespace Go.Proofs.Ytehfcnndjhjkoaa.PA
open Go.RowKit
set_option linter.unusedVariables false
section
variable {F : Fence} {n : Nat} {P : Program} {ops : Array Oper} {rest : List Oper} {o : Oper} {a : Act} {Q : Exit → Act → World → Prop}
theorem wpListIn_run {w w1 : World} {v : Value} (hgd : o.guard = none) (hnd : ∀ c, o.op ≠ .defer c) (hab : o.about P w a.eval = none) (hrun : (execOp a.eval o).run P w = .ok (.value v) w1)
    (h : wpListIn F n P ops Q rest (a.put o.dst v) w1) : wpListIn F n P ops Q (o :: rest) a w := by
  refine wpListIn_plain hgd fun K hK => ?_
  unfold Oper.wpIn
  refine ⟨by simp [hab], ?_⟩
  rw [Oper.semAt_plain F _ _ hnd, hrun]
  exact hK _ _ h
theorem wpListIn_load_row {w : World} (hgd : o.guard = none) (ty : TypeId) (x : Operand) (ho : o.op = .load ty x)
    (g : Nat) (hx : a.eval x = .pointer (some ⟨g, 0, none⟩)) (t : TypeId) (cs : Array Value) (fr : Nat × Nat) (d : TypeDesc) (hg : w.heap[g]? = some (.cells cs t fr))
    (hu : P.underlying ty = some d) (hd : (match d with | .struct _ | .array _ _ => true | _ => false) = true) (hi : (P.info? ty).map (·.size) = some cs.size)
    (h : wpListIn F n P ops Q rest (a.put o.dst (.agg cs)) w) : wpListIn F n P ops Q (o :: rest) a w := by
  refine wpListIn_run (v := .agg cs) hgd (by rw [ho]; intro c e; cases e) (by simp [Oper.about, ho]) ?_ h
  unfold execOp
  simp only [ho, hx, Instr.loadAt, Instr.sureAddr, Sem.run_bind, Sem.run_pure, Result.andThen_ok, run_loadVar_row w g t ty cs fr d hg hu hd hi]
theorem wpListIn_store_named {W : World} (hgd : o.guard = none) (ty : TypeId) (x y : Operand) (ho : o.op = .store ty x y)
    (g : Nat) (cells : Array Value) (hx : a.eval x = .pointer (some ⟨g, 0, none⟩)) (hy : a.eval y = .agg cells)
    (t : TypeId) (old : Array Value) (hg : W.heap[g]? = some (.cells old t (0, 0))) (hi : (P.info? ty).map (·.size) = some cells.size)
    (hold : old.size = cells.size) (h1 : cells.all (·.oneCell') = true)
    (h : ∀ w1, w1.heap[g]? = some (.cells cells t (0, 0)) → But1 g W w1 → wpListIn F n P ops Q rest (a.put o.dst undef) w1) : wpListIn F n P ops Q (o :: rest) a W := by
  refine wpListIn_plain hgd fun K hK => ?_
  unfold Oper.wpIn
  refine ⟨by simp [Oper.about, ho], ?_⟩
  rw [Oper.semAt_plain F _ _ (by rw [ho]; intro c hc'; cases hc')]
  unfold execOp
  simp only [ho, hx, hy, Instr.storeAt, Instr.sureAddr, Sem.run_bind, Sem.run_pure, Result.andThen_ok, run_storeVar_row W g t ty old cells hg hi hold h1]
  exact hK _ _ (h _ (setRow_heap _ g _ _ _ _ hg) ⟨fun k hk => setRow_other _ g k _ hk, fun B hB => below_setRow (Below.refl B W) hB _⟩)
end
end Go.Proofs.Ytehfcnndjhjkoaa.PA

namespace Go.Proofs.Ytehfcnndjhjkoaa.PA
open Go.RowKit Go.Proofs.YtehfcnndjhjkoaaW.PrintWords Go.Proofs.YtehfcnndjhjkoaaW.PrintLast Go.Proofs.YtehfcnndjhjkoaaW.PrintMore
set_option linter.unusedVariables false
theorem pair_appended {W w1 : World} {n₁ B : Nat} {t e : TypeId} {size : Nat} {a v v' : Value} {k m : Nat} {xs ys : List Value} {tmp : Obj}
    (hv : W.heap[B]? = some (.cells #[a, v] t (0, 0))) (hte : t ≠ e) (hrow : W.ownsRow n₁ e size v k xs) (hown' : w1.ownsRow n₁ e size v' m ys) (hgrow : (W.alloc tmp).grownBy w1 v.ownBlock) :
    w1.heap[B]? = some (.cells #[a, v] t (0, 0)) ∧ (w1.setCell ⟨B, 1, none⟩ v').heap[B]? = some (.cells #[a, v'] t (0, 0)) ∧ (w1.setCell ⟨B, 1, none⟩ v').ownsRow n₁ e size v' m ys ∧ KeepsOthers W (w1.setCell ⟨B, 1, none⟩ v') ∧ ButS (fun k => k = B ∨ n₁ ≤ k) W (w1.setCell ⟨B, 1, none⟩ v') := by
  have hne : v.ownBlock ≠ some B := fun h => by
    obtain ⟨cs, hc⟩ := own_typed hrow B h
    rw [hv] at hc; cases hc; exact hte rfl
  have hl : B < W.heap.size := blk_lt hv
  have hv1 : w1.heap[B]? = some (.cells #[a, v] t (0, 0)) := (hgrow.block B (by simp; omega) (Ne.symm hne)).trans (blk_alloc hv tmp)
  have hne' : v'.ownBlock ≠ some B := fun h => by
    obtain ⟨cs, hc⟩ := own_typed hown' B h
    rw [hv1] at hc; cases hc; exact hte rfl
  refine ⟨hv1, blk_set hv1 1 v', hown'.kept (w' := w1.setCell ⟨B, 1, none⟩ v') (row := some B) ⟨rfl, rfl, rfl, (KeepsOthers.setCell w1 _ v').size, fun k _ hk => Below.heap_setCell _ _ _ k (fun e => hk (by rw [e]))⟩ (.inr hne'), ?_, ?_⟩
  · refine ((KeepsOthers.alloc W tmp).trans (KeepsOthers.of_grownBy hgrow fun j o ej hj => ?_)).trans (KeepsOthers.setCell _ _ _)
    obtain ⟨cs, hc⟩ := own_typed (hrow.alloc tmp) j ej
    rw [hc] at hj; cases hj; rfl
  refine ⟨?_, fun j hj hn => ?_, hgrow.os, hgrow.tape, hgrow.output⟩
  · have := hgrow.size; have := (KeepsOthers.setCell w1 ⟨B, 1, none⟩ v').size; simp at *; omega
  · refine (Below.heap_setCell _ _ _ j (fun e => hn (.inl e))).trans ((hgrow.block j (by simp; omega) fun e => ?_).trans (Below.heap_alloc W tmp j hj))
    exact hn (.inr (own_base hrow j e.symm))
end Go.Proofs.Ytehfcnndjhjkoaa.PA

namespace Go.Proofs.Ytehfcnndjhjkoaa.PA
open Go.RowKit Go.Shelf Go.Proofs.YtehfcnndjhjkoaaW.PrintWords Go.Proofs.YtehfcnndjhjkoaaW.PrintLast Go.Proofs.YtehfcnndjhjkoaaW.PrintMore
attribute [local go_sem] Oper.semAt_some
set_option linter.unusedVariables false
set_option linter.unusedSimpArgs false
def srcGo (f : Nat → Int → Int) : Nat → List Int → List Int
  | _, [] => []
  | k, i :: t => f k i :: srcGo f (k + 1) t
def thrGo (sh : List Int) (f : Nat → Int → Int) : Nat → Bool → List Int → Bool
  | _, b, [] => b
  | k, b, i :: t => thrGo sh f (k + 1) (b && decide (0 ≤ f k i ∧ f k i ≤ wrap64 (rd sh (k : Int) - 1))) t
def fromOne (sh : List Int) (f : Nat → Int → Int) (cur : List Int) : Int := if thrGo sh f 0 true cur then numGo sh 0 0 (srcGo f 0 cur) else -1
def fromL (sh s : List Int) (f : Nat → Int → Int) : Nat → List Int
  | 0 => []
  | t + 1 => fromL sh s f t ++ [fromOne sh f (idxL s t)]
theorem fromL_len (sh s : List Int) (f : Nat → Int → Int) : ∀ t, (fromL sh s f t).length = t
  | 0 => rfl
  | t + 1 => by simp [fromL, fromL_len sh s f t]
/-- What is asked of the function: it answers f at each index of the shape, and only draws. -/
def Gives2 (g : Nat) (lb : Array Value) (f : Nat → Int → Int) (s : List Int) (w : World) : Prop := ∀ (W : World) (k : Nat) (i : Int), Below w.heap.size w W → k < s.length → 0 ≤ i → i < rd s (k : Int) →
  Calls Try.prog g (#[.int .i64 (k : Int), .int .i64 i] ++ lb) W fun e w' => e = .returned (.int .i64 (f k i)) ∧ ∃ q, w' = W.drewN q
theorem rowI_C {w : World} {g : Nat} {t : TypeId} {l : List Int} (h : w.heap[g]? = some (.cells (rowI l) t (0, 0))) (hm : l.length ≤ 9223372036854775807) : Kd.C (Kd.int .i64) w (some ⟨g, 0, none⟩) l.length l := by
  refine Kd.C_of_reads (d := (0 : Int)) (h1 := fun _ => rfl) ⟨rfl, by omega, fun _ => ⟨_, rfl, fun j hj => ?_⟩⟩
  have ha : (⟨g, 0, none⟩ : Addr).add j = ⟨g, j, none⟩ := by unfold Addr.add; split <;> simp_all
  rw [ha, rowI_cell h j hj]
  simp only [rd, Int.toNat_natCast]
theorem src_step (f : Nat → Int → Int) (sr cur : List Int) (j : Nat) (h1 : j < sr.length) (h2 : j < cur.length) :
    (sr.set j (f j (rd cur (j : Int)))).take (j + 1) ++ srcGo f (j + 1) (cur.drop (j + 1)) = sr.take j ++ srcGo f j (cur.drop j) := by
  rw [List.drop_eq_getElem_cons h2, srcGo, List.take_succ_eq_append_getElem (by simpa using h1), List.take_set_of_le (Nat.le_refl j)]
  simp [rd, List.getD_eq_getElem?_getD, h2]
theorem thr_step (sh : List Int) (f : Nat → Int → Int) (cur : List Int) (j : Nat) (q : Bool) (h2 : j < cur.length) :
    thrGo sh f j q (cur.drop j) = thrGo sh f (j + 1) (q && decide (0 ≤ f j (rd cur (j : Int)) ∧ f j (rd cur (j : Int)) ≤ wrap64 (rd sh (j : Int) - 1))) (cur.drop (j + 1)) := by
  rw [List.drop_eq_getElem_cons h2, thrGo]
  simp [rd, List.getD_eq_getElem?_getD, h2]
theorem rd_set (l : List Int) (i : Nat) (x : Int) (h : i < l.length) : rd (l.set i x) (i : Int) = x := by simp [rd, List.getD_eq_getElem?_getD, List.getElem?_set, h]
theorem within_ev (a c : Int) : impl_within.f a 0 c = some (decide (0 ≤ a ∧ a ≤ c)) := by
  unfold impl_within.f
  by_cases h : a ≥ 0
  · rw [if_pos h]; congr 1; by_cases h2 : a ≤ c <;> simp [h2]; omega
  · rw [if_neg h]; congr 1; simp; omega
theorem blk_of {W : World} {G t : Nat} {s : List Int} (h : AtI s G t W) : W.heap[G]? = some (.cells (rowI (idxL s t)) 3 (0, 0)) := h
theorem new_at (W : World) (o : Obj) (n : Nat) (h : n = W.heap.size) : (W.alloc o).heap[n]? = some o := h ▸ blk_new W o
theorem alloc7 (w : World) (o0 o1 o2 o3 o4 o5 o6 : Obj) :
    (((((((w.alloc o0).alloc o1).alloc o2).alloc o3).alloc o4).alloc o5).alloc o6).heap[w.heap.size]? = some o0 ∧
    (((((((w.alloc o0).alloc o1).alloc o2).alloc o3).alloc o4).alloc o5).alloc o6).heap[w.heap.size + 1]? = some o1 ∧
    (((((((w.alloc o0).alloc o1).alloc o2).alloc o3).alloc o4).alloc o5).alloc o6).heap[w.heap.size + 1 + 1]? = some o2 ∧
    (((((((w.alloc o0).alloc o1).alloc o2).alloc o3).alloc o4).alloc o5).alloc o6).heap[w.heap.size + 1 + 1 + 1]? = some o3 ∧
    (((((((w.alloc o0).alloc o1).alloc o2).alloc o3).alloc o4).alloc o5).alloc o6).heap[w.heap.size + 1 + 1 + 1 + 1]? = some o4 ∧
    (((((((w.alloc o0).alloc o1).alloc o2).alloc o3).alloc o4).alloc o5).alloc o6).heap[w.heap.size + 1 + 1 + 1 + 1 + 1]? = some o5 ∧
    (((((((w.alloc o0).alloc o1).alloc o2).alloc o3).alloc o4).alloc o5).alloc o6).heap[w.heap.size + 1 + 1 + 1 + 1 + 1 + 1]? = some o6 ∧
    (((((((w.alloc o0).alloc o1).alloc o2).alloc o3).alloc o4).alloc o5).alloc o6).heap.size = w.heap.size + 7 ∧
    Below w.heap.size w (((((((w.alloc o0).alloc o1).alloc o2).alloc o3).alloc o4).alloc o5).alloc o6) := by
  refine ⟨?_, ?_, ?_, ?_, ?_, ?_, ?_, ?_, ?_⟩
  · exact blk_alloc (blk_alloc (blk_alloc (blk_alloc (blk_alloc (blk_alloc (new_at _ _ _ rfl) _) _) _) _) _) _
  · exact blk_alloc (blk_alloc (blk_alloc (blk_alloc (blk_alloc (new_at _ _ _ (by simp)) _) _) _) _) _
  · exact blk_alloc (blk_alloc (blk_alloc (blk_alloc (new_at _ _ _ (by simp)) _) _) _) _
  · exact blk_alloc (blk_alloc (blk_alloc (new_at _ _ _ (by simp)) _) _) _
  · exact blk_alloc (blk_alloc (new_at _ _ _ (by simp)) _) _
  · exact blk_alloc (new_at _ _ _ (by simp)) _
  · exact new_at _ _ _ (by simp)
  · simp
  · exact below_alloc (below_alloc (below_alloc (below_alloc (below_alloc (below_alloc (below_alloc (Below.refl _ _) _) _) _) _) _) _) _
theorem keeps_butS {S : Nat → Prop} {A B : World} (h : ButS S A B) (hS : ∀ k, S k → ∀ o, A.heap[k]? = some o → o.isCells = true) : KeepsOthers A B :=
  ⟨h.size, fun k o hk ho => (h.same k (blk_lt hk) (fun hs => by rw [hS k hs o hk] at ho; cases ho)).trans hk⟩
theorem C_block {w : World} {A : Option Addr} {l : List Int} (h : Kd.C (Kd.int .i64) w A l.length l) {k : Nat} (h0 : 0 < l.length) (hk : some k = A.map (·.block)) : k < w.heap.size := by
  obtain ⟨ad, rfl, hx⟩ := Kd.at_int h 0 (by omega) (by omega)
  cases Option.some.inj hk
  have := World.block_lt_of_cell? w _ hx
  rwa [show (ad.add (0 : Int).toNat).block = ad.block by unfold Addr.add; split <;> rfl] at this
end Go.Proofs.Ytehfcnndjhjkoaa.PA

-- By a program (prt.py, over the print of the kit), for this claim. Not trusted: Lean checks it.
namespace Go.Proofs.Ytehfcnndjhjkoaa.PA
open Go.RowKit Go.Proofs.YtehfcnndjhjkoaaW.PrintWords Go.Proofs.YtehfcnndjhjkoaaW.PrintLast Go.Proofs.YtehfcnndjhjkoaaW.PrintMore
attribute [local go_sem] max2_int min2_int max_two min_two max_three min_three max_four min_four   -- for this text's walks alone
set_option linter.unusedVariables false
set_option linter.unusedSimpArgs false

/-! ### spec_l5At: function 78 -/
def spec_l5At.l0 : Nat → List Int → List Int → Int → Int → Option (Int)
  | 0, _, _, _, _ => none
  | k + 1, x0, x1, x5, x6 => if x6 < (x0.length : Int) then (if 0 ≤ x6 then (if x6 < (x1.length : Int) then (spec_l5At.l0 k x0 x1 (wrap64 ((wrap64 (x5 * (rd x0 x6))) + (rd x1 x6))) (wrap64 (x6 + 1))) else (none)) else (none)) else (some x5)
def spec_l5At.f (k : Nat) (l0 : List Int) (l1 : List Int) : Option (Int) := spec_l5At.l0 k l0 l1 0 0
theorem spec_l5At.mono_l : ∀ k, (∀ y0 y1 y2 y3, LeO (spec_l5At.l0 k y0 y1 y2 y3) (spec_l5At.l0 (k + 1) y0 y1 y2 y3))
  | 0 => fun _ _ _ _ r h => by simp [spec_l5At.l0] at h
  | k + 1 => by
    have ih0 := spec_l5At.mono_l k
    · intro y0 y1 y2 y3
      unfold spec_l5At.l0
      repeat' first
      | (with_reducible exact ih0 _ _ _ _)
      | (with_reducible exact LeO.refl _)
      | (with_reducible exact LeO.none _)
      | (with_reducible refine LeO.ite ?_ ?_)
      | (with_reducible refine LeO.bind ?_ (fun _ => ?_))
      | exact ih0 _ _ _ _
      | exact LeO.none _
      | refine LeO.ite ?_ ?_
      | refine LeO.bind ?_ (fun _ => ?_)
theorem spec_l5At.mono : ∀ a0 a1 k, LeO (spec_l5At.f k a0 a1) (spec_l5At.f (k + 1) a0 a1) := by
  intro a0 a1 k
  have ih0 := spec_l5At.mono_l k
  unfold spec_l5At.f
  repeat' first
      | (with_reducible exact ih0 _ _ _ _)
      | (with_reducible exact LeO.refl _)
      | (with_reducible exact LeO.none _)
      | (with_reducible refine LeO.ite ?_ ?_)
      | (with_reducible refine LeO.bind ?_ (fun _ => ?_))
      | exact ih0 _ _ _ _
      | exact LeO.none _
      | refine LeO.ite ?_ ?_
      | refine LeO.bind ?_ (fun _ => ?_)
set_option maxHeartbeats 8000000 in
set_option maxRecDepth 100000 in
theorem spec_l5At.calls (k : Nat) (A0 : Option Addr) (c0 : Nat) (l0 : List Int) (A1 : Option Addr) (c1 : Nat) (l1 : List Int) (r : Int) (w : World) (hr0 : Kd.C (Kd.int .i64) w A0 l0.length l0) (hc0 : l0.length ≤ c0) (hr1 : Kd.C (Kd.int .i64) w A1 l1.length l1) (hc1 : l1.length ≤ c1) (h : spec_l5At.f k l0 l1 = some r) :
    Calls Try.prog 78 #[.slice A0 l0.length c0, .slice A1 l1.length c1] w fun e w' => e = .returned (.int .i64 r) ∧ Drawn0 w w' := by
  have HR0 := Aside0.mk hr0
  have HC0 := Aside0.mk hc0
  clear hr0 hc0
  have HR1 := Aside0.mk hr1
  have HC1 := Aside0.mk hc1
  clear hr1 hc1
  have H : (spec_l5At.l0 k l0 l1 0 0) = some r := h
  clear h
  have H' := Aside0.mk H
  clear H
  go_enter Try.func78, Try.ntmps78
  go_wp2
  repeat (go_quiet (fail); try go_wp2)
  go_loopg [5, 6] k (fun kq v5 v6 w' => ∃ (x5_1 : Int) (x6_1 : Int), v5 = .int .i64 x5_1 ∧ v6 = .int .i64 x6_1 ∧ Aside0 (spec_l5At.l0 kq l0 l1 x5_1 x6_1 = some r) ∧ Aside0 (kq ≤ k) ∧ Drawn0 w w')
  case atStart => exact ⟨(0), (0), (by first | rfl | (simp; done) | (simp [*]; done)), (by first | rfl | (simp; done) | (simp [*]; done)), H', ⟨Nat.le_refl _⟩, by repeat (first | exact Drawn0.refl _ | apply Drawn0.step)⟩
  case round =>
    clear H'
    try clear c1
    try clear p2
    obtain ⟨x5_1, x6_1, rfl, rfl, HA, HK1, ⟨m1, rfl⟩⟩ := hrel
    cases gk with
    | zero => exact absurd HA.out (by simp [spec_l5At.l0])
    | succ k1 =>
      have H := HA.out
      clear HA
      simp only [spec_l5At.l0] at H
      by_cases c3 : x6_1 < (l0.length : Int)
      · rw [if_pos c3] at H
        have c3b0 : decide (x6_1 < (l0.length : Int)) = true := decide_eq_true c3
        clear c3
        by_cases c4 : 0 ≤ x6_1
        · rw [if_pos c4] at H
          have c4b0 : decide (0 ≤ x6_1) = true := decide_eq_true c4
          clear c4
          by_cases c5 : x6_1 < (l1.length : Int)
          · rw [if_pos c5] at H
            have c5b0 : decide (x6_1 < (l1.length : Int)) = true := decide_eq_true c5
            clear c5
            have H' := Aside0.mk H
            clear H
            have p101 : 0 ≤ (x6_1 : Int) := of_decide_eq_true (by first | (with_reducible assumption) | assumption)
            have q101 : x6_1 < (l0.length : Int) := of_decide_eq_true (by first | (with_reducible assumption) | assumption)
            obtain ⟨ad101, e101, hx101_0⟩ := Kd.at_int HR0.out x6_1 p101 q101
            cases e101
            replace p101 := eq_true p101
            replace q101 := eq_true q101
            have p102 : 0 ≤ (x6_1 : Int) := of_decide_eq_true (by first | (with_reducible assumption) | assumption)
            have q102 : x6_1 < (l1.length : Int) := of_decide_eq_true (by first | (with_reducible assumption) | assumption)
            obtain ⟨ad102, e102, hx102_0⟩ := Kd.at_int HR1.out x6_1 p102 q102
            cases e102
            replace p102 := eq_true p102
            replace q102 := eq_true q102
            go_wp2
            repeat (go_quiet (fail); try go_wp2)
            go_roundg k1
            case measure => have := HK1.out; omega
            case rel => exact ⟨(wrap64 ((wrap64 (x5_1 * (rd l0 x6_1))) + (rd l1 x6_1))), (wrap64 (x6_1 + 1)), (by first | rfl | (simp; done) | (simp [*]; done)), (by first | rfl | (simp; done) | (simp [*]; done)), H', ⟨by have := HK1.out; omega⟩, by repeat (first | exact Drawn0.refl _ | apply Drawn0.step)⟩
          · rw [if_neg c5] at H
            exact absurd H (by simp)
        · rw [if_neg c4] at H
          exact absurd H (by simp)
      · rw [if_neg c3] at H
        have c3b0 : decide (x6_1 < (l0.length : Int)) = false := decide_eq_false c3
        clear c3
        obtain rfl := Option.some.inj H
        go_wp2
        repeat (go_quiet (fail); try go_wp2)
        go_ret
        exact ⟨by first | rfl | (simp; done) | (simp [*]; done), by repeat (first | exact Drawn0.refl _ | apply Drawn0.step)⟩

end Go.Proofs.Ytehfcnndjhjkoaa.PA

namespace Go.Proofs.Ytehfcnndjhjkoaa.PA
open Go.RowKit Go.Proofs.YtehfcnndjhjkoaaW.PrintWords Go.Proofs.YtehfcnndjhjkoaaW.PrintLast Go.Proofs.YtehfcnndjhjkoaaW.PrintMore
set_option linter.unusedVariables false
set_option linter.unusedSimpArgs false
theorem l5At_loop (sh src : List Int) (h : sh.length = src.length) (hb : sh.length ≤ 1000000) : ∀ (m j : Nat) (n : Int), j + m = src.length → Ev (fun k => spec_l5At.l0 k sh src n (j : Int)) (numGo sh j n (src.drop j))
  | 0, j, n, hj => by
    refine evVal (evRound (Ev.now n) fun k => ?_) (by rw [List.drop_eq_nil_of_le (by omega), numGo])
    rw [spec_l5At.l0, if_neg (by omega)]
  | m + 1, j, n, hj => by
    have hlt : j < src.length := by omega
    have ih := l5At_loop sh src h hb m (j + 1) (wrap64 (wrap64 (n * rd sh (j : Int)) + rd src (j : Int))) (by omega)
    refine evVal (evRound ih fun k => ?_) (by
      rw [List.drop_eq_getElem_cons hlt, numGo]; simp [rd, List.getD_eq_getElem?_getD, hlt])
    rw [spec_l5At.l0, if_pos (by omega), if_pos (by omega), if_pos (by omega), w64 (x := (j : Int) + 1) (by omega) (by omega)]
    rfl
theorem l5At_ev (sh src : List Int) (h : sh.length = src.length) (hb : sh.length ≤ 1000000) : Ev (fun k => spec_l5At.f k sh src) (numGo sh 0 0 src) := by
  have := l5At_loop sh src h hb src.length 0 0 (by omega)
  simpa [spec_l5At.f] using this
/-- The number of an index in range is a place. -/
theorem num_range {sh src : List Int} (hs : ∀ a ∈ sh, 1 ≤ a) (hp : prod sh ≤ 1000000000) (hl : sh.length = src.length) (hr : ∀ k : Nat, k < src.length → 0 ≤ rd src (k : Int) ∧ rd src (k : Int) < rd sh (k : Int)) : 0 ≤ numGo sh 0 0 src ∧ numGo sh 0 0 src < prod sh := by
  have h := numGo_hor sh hs hp src [] sh 0 rfl hl (by omega) (by simp [prod]) hr
  simp only [List.length_nil] at h
  rw [h]
  have key : ∀ (s d : List Int) (n b : Int), s.length = d.length → (∀ a ∈ s, 1 ≤ a) → (∀ k : Nat, k < d.length → 0 ≤ rd d (k : Int) ∧ rd d (k : Int) < rd s (k : Int)) → 0 ≤ n → n < b → 0 ≤ hor n s d ∧ hor n s d < b * prod s := by
    intro s
    induction s with
    | nil => intro d n b hl _ _ h0 h1; obtain rfl := List.eq_nil_of_length_eq_zero hl.symm; simp [hor, prod]; omega
    | cons a s ih =>
      intro d n b hl ha hr h0 h1
      cases d with
      | nil => simp at hl
      | cons x d =>
        have hx := hr 0 (by simp)
        have e1 : rd (x :: d) ((0 : Nat) : Int) = x := by simp [rd]
        have e2 : rd (a :: s) ((0 : Nat) : Int) = a := by simp [rd]
        rw [e1, e2] at hx
        have h3 : n * a + x < b * a := by
          have h := Int.mul_le_mul_of_nonneg_right (show n + 1 ≤ b by omega) (show 0 ≤ a by omega)
          rw [Int.add_mul] at h; omega
        have h4 : 0 ≤ n * a := Int.mul_nonneg h0 (by omega)
        have := ih d (n * a + x) (b * a) (by simpa using hl) (fun y hy => ha y (by simp [hy])) (fun k hk => by
          have h := hr (k + 1) (by simp; omega)
          simp only [rd, Int.toNat_natCast, List.getD_cons_succ] at h ⊢
          exact h) (by omega) h3
        simp only [hor, prod]
        rw [← Int.mul_assoc]
        exact this
  have := key sh src 0 1 hl hs hr (by omega) (by omega)
  rwa [Int.one_mul] at this
end Go.Proofs.Ytehfcnndjhjkoaa.PA

namespace Go.Proofs.Ytehfcnndjhjkoaa.PA
open Go.RowKit Go.Proofs.YtehfcnndjhjkoaaW.PrintWords Go.Proofs.YtehfcnndjhjkoaaW.PrintLast Go.Proofs.YtehfcnndjhjkoaaW.PrintMore
set_option linter.unusedVariables false
set_option linter.unusedSimpArgs false
theorem srcGo_rd (f : Nat → Int → Int) : ∀ (c : List Int) (k j : Nat), j < c.length → rd (srcGo f k c) (j : Int) = f (k + j) (rd c (j : Int))
  | a :: c, k, 0, _ => by simp [srcGo, rd]
  | a :: c, k, j + 1, h => by
    have := srcGo_rd f c (k + 1) j (by simpa using h)
    simp only [rd, Int.toNat_natCast, srcGo, List.getD_cons_succ] at this ⊢
    rw [this, Nat.add_assoc, Nat.add_comm 1]
end Go.Proofs.Ytehfcnndjhjkoaa.PA

namespace Go.Proofs.Ytehfcnndjhjkoaa.PA
open Go.RowKit Go.Proofs.YtehfcnndjhjkoaaW.PrintWords Go.Proofs.YtehfcnndjhjkoaaW.PrintLast Go.Proofs.YtehfcnndjhjkoaaW.PrintMore
set_option linter.unusedVariables false
set_option linter.unusedSimpArgs false
inductive Th where
  | blk (g : Nat) (cs : Array Value) (t : TypeId)
  | row (v : Value) (xs : List Int)
def Th.on : Th → Nat → Prop
  | .blk g _ _, k => k = g
  | .row v _, k => v.ownBlock = some k
def Th.ok (B : Nat) (W : World) : Th → Prop
  | .blk g cs t => W.heap[g]? = some (.cells cs t (0, 0)) ∧ B ≤ g
  | .row v xs => Kd.R (Kd.int .i64) 3 W B (fun _ => True) v xs
structure Sx (w W : World) (Ts : List Th) : Prop where
  below : Below w.heap.size w W
  ok : ∀ T ∈ Ts, T.ok w.heap.size W
  nod : Ts.Pairwise (fun a b => ∀ k, a.on k → ¬ b.on k)
theorem Th.lt {B : Nat} {W : World} {T : Th} (h : T.ok B W) : ∀ k, T.on k → B ≤ k ∧ k < W.heap.size := by
  cases T with
  | blk g cs t => rintro k rfl; exact ⟨h.2, blk_lt h.1⟩
  | row v xs => intro k hk; exact ⟨Kd.R_base h k hk, Kd.R_lt h k hk⟩
theorem Th.keep {B : Nat} {W W' : World} {T : Th} (h : T.ok B W) (hk : ∀ k, T.on k → k < W.heap.size → W'.heap[k]? = W.heap[k]?) : T.ok B W' := by
  cases T with
  | blk g cs t => exact ⟨(hk g rfl (blk_lt h.1)).trans h.1, h.2⟩
  | row v xs => exact Kd.R_mono (Kd.R_step (Kd.R_tight rfl h) (fun k hok hlt => hk k hok.symm hlt)) (fun _ _ => trivial)
theorem Sx.start (w : World) : Sx w w [] := ⟨Below.refl _ _, by simp, .nil⟩
theorem Sx.step {w W W' : World} {Ts : List Th} (h : Sx w W Ts) (hb : Below W.heap.size W W') : Sx w W' Ts :=
  ⟨below_step h.below hb, fun T hT => Th.keep (h.ok T hT) fun k _ hlt => hb.block k hlt, h.nod⟩
theorem Sx.add {w W W' : World} {Ts : List Th} (h : Sx w W Ts) (hb : Below W.heap.size W W') {T : Th} (hT : T.ok W.heap.size W') : Sx w W' (T :: Ts) := by
  have h' := h.step hb
  refine ⟨h'.below, fun U hU => ?_, .cons (fun U hU k hk hU' => ?_) h'.nod⟩
  · rcases List.mem_cons.1 hU with rfl | hU
    · cases U with
      | blk g cs t => exact ⟨hT.1, Nat.le_trans h.below.size hT.2⟩
      | row v xs => exact Kd.R_lower hT h.below.size
    · exact h'.ok U hU
  · have h1 := (Th.lt hT k hk).1
    have h2 := (Th.lt (h.ok U hU) k hU').2
    omega
theorem Sx.box {w W W' : World} {Ts : List Th} {g : Nat} {cs : Array Value} {t : TypeId} (h : Sx w W Ts) (hg : g = W.heap.size) (hB : W'.heap[g]? = some (.cells cs t (0, 0))) (hb : Below W.heap.size W W') : Sx w W' (.blk g cs t :: Ts) :=
  h.add hb ⟨hB, by omega⟩
theorem Sx.addRow {w W W' : World} {Ts : List Th} (h : Sx w W Ts) (hb : Below W.heap.size W W') {ok : Nat → Prop} {v : Value} {xs : List Int} (hr : Kd.R (Kd.int .i64) 3 W' W.heap.size ok v xs) : Sx w W' (.row v xs :: Ts) :=
  h.add hb (Kd.R_mono hr (fun _ _ => trivial))
theorem Sx.addRow2 {w W W' : World} {Ts : List Th} (h : Sx w W Ts) (hb : Below W.heap.size W W') {ok2 : Nat → Prop} {v1 v2 : Value} {l1 l2 : List Int}
    (R1 : Kd.R (Kd.int .i64) 3 W' W.heap.size (fun k => some k ≠ v2.ownBlock) v1 l1) (R2 : Kd.R (Kd.int .i64) 3 W' W.heap.size ok2 v2 l2) : Sx w W' (.row v1 l1 :: .row v2 l2 :: Ts) := by
  have h2 := h.addRow hb R2
  have h1 := h.addRow hb R1
  refine ⟨h2.below, fun T hT => ?_, .cons (fun U hU k hk hU' => ?_) h2.nod⟩
  · rcases List.mem_cons.1 hT with rfl | hT
    · exact h1.ok _ List.mem_cons_self
    · exact h2.ok T hT
  · rcases List.mem_cons.1 hU with rfl | hU
    · exact R1.1 k hk hU'.symm
    · exact (List.pairwise_cons.1 h1.nod).1 U hU k hk hU'
theorem Sx.repl {w W W' : World} {Ts : List Th} (h : Sx w W Ts) (i : Nat) {T T' : Th} (hi : Ts[i]? = some T) (hT : T'.ok w.heap.size W') (hf : ∀ k, ¬ T.on k → k < W.heap.size → W'.heap[k]? = W.heap[k]?) (hon : ∀ k, T'.on k → T.on k ∨ W.heap.size ≤ k) (hb : Below w.heap.size w W') : Sx w W' (Ts.set i T') := by
  obtain ⟨hlt, hie⟩ := List.getElem?_eq_some_iff.1 hi
  have hnod := List.pairwise_iff_getElem.1 h.nod
  have hoth : ∀ (j : Nat) (hj : j < Ts.length), j ≠ i → ∀ k, (Ts[j]).on k → ¬ T.on k := fun j hj hne k hk hk' => by
    rcases Nat.lt_or_gt_of_ne hne with hl | hl
    · have := hnod j i hj hlt hl; rw [hie] at this; exact this k hk hk'
    · have := hnod i j hlt hj hl; rw [hie] at this; exact this k hk' hk
  have hfar : ∀ (j : Nat) (hj : j < Ts.length), j ≠ i → ∀ k, (Ts[j]).on k → ¬ T'.on k := fun j hj hne k hk hk' => by
    rcases hon k hk' with h1 | h1
    · exact hoth j hj hne k hk h1
    · have := (Th.lt (h.ok _ (List.getElem_mem hj)) k hk).2; omega
  refine ⟨hb, fun U hU => ?_, List.pairwise_iff_getElem.2 fun a b ha hb' hab => ?_⟩
  · obtain ⟨j, hj, e⟩ := List.getElem_of_mem hU
    rw [List.length_set] at hj
    rw [List.getElem_set] at e
    split at e
    · subst e; exact hT
    · rename_i hne
      subst e
      exact Th.keep (h.ok _ (List.getElem_mem hj)) fun k hk hlt' => hf k (hoth j hj (fun e => hne e.symm) k hk) hlt'
  · rw [List.length_set] at ha hb'
    rw [List.getElem_set, List.getElem_set]
    split
    · rename_i e1
      split
      · rename_i e2; omega
      · rename_i e2; exact fun k hk hk' => hfar b hb' (fun e => e2 e.symm) k hk' hk
    · rename_i e1
      split
      · exact fun k hk hk' => hfar a ha (fun e => e1 e.symm) k hk hk'
      · exact hnod a b ha hb' hab
theorem Sx.get {w W : World} {Ts : List Th} (h : Sx w W Ts) (i : Nat) {T : Th} (hi : Ts[i]? = some T) : T.ok w.heap.size W := h.ok _ (List.mem_of_getElem? hi)
theorem Sx.blk {w W : World} {Ts : List Th} (h : Sx w W Ts) (i : Nat) {g : Nat} {cs : Array Value} {t : TypeId} (hi : Ts[i]? = some (.blk g cs t)) : W.heap[g]? = some (.cells cs t (0, 0)) := (h.get i hi).1
theorem Sx.row {w W : World} {Ts : List Th} (h : Sx w W Ts) (i : Nat) {v : Value} {xs : List Int} (hi : Ts[i]? = some (.row v xs)) : Kd.R (Kd.int .i64) 3 W w.heap.size (fun _ => True) v xs := h.get i hi
theorem Sx.C {w W : World} {Ts : List Th} (h : Sx w W Ts) (i : Nat) {A : Option Addr} {n c : Nat} {xs : List Int} (hi : Ts[i]? = some (.row (.slice A n c) xs)) : Kd.C (Kd.int .i64) W A xs.length xs := (Kd.R_reads' (h.row i hi)).2.2
theorem Sx.cap {w W : World} {Ts : List Th} (h : Sx w W Ts) (i : Nat) {A : Option Addr} {n c : Nat} {xs : List Int} (hi : Ts[i]? = some (.row (.slice A n c) xs)) : xs.length ≤ c := by
  have := Kd.R_reads' (h.row i hi); omega
theorem Sx.put {w W W' : World} {Ts : List Th} (h : Sx w W Ts) (i : Nat) {g : Nat} {cs cs' : Array Value} {t : TypeId} (hi : Ts[i]? = some (.blk g cs t)) (hs : W'.heap[g]? = some (.cells cs' t (0, 0))) (hk : But1 g W W') : Sx w W' (Ts.set i (.blk g cs' t)) :=
  h.repl i hi ⟨hs, (h.get i hi).2⟩ (fun k hk' _ => hk.same k hk') (fun k hk' => .inl hk') (h.below.trans (hk.below _ (h.get i hi).2))
theorem Sx.grow {w W W' : World} {Ts : List Th} (h : Sx w W Ts) (i : Nat) {v v' : Value} {xs xs' : List Int} (hi : Ts[i]? = some (.row v xs)) (hr : Kd.R (Kd.int .i64) 3 W' w.heap.size (fun _ => True) v' xs') (hg : W.grownBy W' v.ownBlock)
    (hat : v'.ownBlock = v.ownBlock ∨ ∃ b, v'.ownBlock = some b ∧ W.heap.size ≤ b) : Sx w W' (Ts.set i (.row v' xs')) :=
  h.repl i hi hr (fun k hk hlt => hg.block k hlt fun e => hk e.symm) (fun k hk => by
    rcases hat with e | ⟨b, e, hb⟩
    · exact .inl (show v.ownBlock = some k from e.symm.trans hk)
    · rw [show (Th.row v' xs').on k = (v'.ownBlock = some k) from rfl, e] at hk; cases hk; exact .inr hb) (pw_below_grown h.below _ h.below.size hg fun k e => Kd.R_base (h.row i hi) k e)
theorem Sx.sub {w W : World} {Ts Ts' : List Th} (h : Sx w W Ts) (hs : Ts'.Sublist Ts) : Sx w W Ts' := ⟨h.below, fun T hT => h.ok T (hs.subset hT), h.nod.sublist hs⟩
theorem Sx.alloc {w W : World} {Ts : List Th} (h : Sx w W Ts) (cs : Array Value) (t : TypeId) : Sx w (W.alloc (.cells cs t)) (.blk W.heap.size cs t :: Ts) := h.box rfl (blk_new W _) (below_alloc (Below.refl _ _) _)
theorem Sx.drew {w W : World} {Ts : List Th} (h : Sx w W Ts) : Sx w W.drew Ts := h.step (below_drew (Below.refl _ _))
theorem Sx.drewN {w W : World} {Ts : List Th} (h : Sx w W Ts) (n : Nat) : Sx w (W.drewN n) Ts := h.step (pw_below_drewN (Below.refl _ _) n)
/-- Rows apart, as a contract's answer says it. -/
theorem Sx.two {w W : World} {Ts : List Th} (h : Sx w W Ts) (i j : Nat) (hne : i ≠ j) {v1 v2 : Value} {l1 l2 : List Int} (hi : Ts[i]? = some (.row v1 l1)) (hj : Ts[j]? = some (.row v2 l2)) :
    Kd.R (Kd.int .i64) 3 W w.heap.size (fun k => some k ≠ v2.ownBlock) v1 l1 ∧ Kd.R (Kd.int .i64) 3 W w.heap.size (fun k => some k ≠ v1.ownBlock) v2 l2 := by
  obtain ⟨hil, hie⟩ := List.getElem?_eq_some_iff.1 hi
  obtain ⟨hjl, hje⟩ := List.getElem?_eq_some_iff.1 hj
  have hnod := List.pairwise_iff_getElem.1 h.nod
  have hd : ∀ k, v1.ownBlock = some k → ¬ v2.ownBlock = some k := fun k h1 h2 => by
    rcases Nat.lt_or_gt_of_ne hne with hl | hl
    · have := hnod i j hil hjl hl; rw [hie, hje] at this; exact this k h1 h2
    · have := hnod j i hjl hil hl; rw [hie, hje] at this; exact this k h2 h1
  exact ⟨Kd.R_reok rfl (h.row i hi) fun k hk e => hd k hk e.symm, Kd.R_reok rfl (h.row j hj) fun k hk e => hd k e.symm hk⟩
section
variable {P : Program} {ops : Array Oper} {rest : List Oper} {o : Oper} {a : Act} {Q : Exit → Act → World → Prop}
def plainTy (P : Program) (ty : TypeId) : Bool := match P.underlying ty with
  | some (.struct _) | some (.array _ _) | none => false
  | _ => true
theorem run_load_cell {W : World} {ty : TypeId} {ad : Addr} {v : Value} (hc : W.cell? ad = some v) (hty : plainTy P ty = true) : (loadVar ty ad).run P W = .ok v W := by
  unfold plainTy at hty
  cases hu : P.underlying ty with
  | none => rw [hu] at hty; cases hty
  | some d =>
    have hagg : (isAgg ty).run P W = .ok false W := by
      unfold isAgg
      rw [Sem.run_bind, run_underlying hu W]
      rw [hu] at hty
      cases d <;> first | rfl | cases hty
    simp [loadVar, Sem.run_bind, hagg, hc]
theorem ev_load {W : World} (hgd : o.guard = none) (ty : TypeId) (x : Operand) (ho : o.op = .load ty x) (ad : Addr) (hx : a.eval x = .pointer (some ad)) (v : Value) (hc : W.cell? ad = some v) (hty : plainTy P ty = true)
    (h : wpList P ops Q rest (a.put o.dst v) W) : wpList P ops Q (o :: rest) a W := by
  refine Kd.event_run hgd ?_ h
  unfold execOp
  simp only [ho, hx, Instr.loadAt, Instr.sureAddr, Sem.run_bind, Sem.run_pure, Result.andThen_ok, run_load_cell hc hty]
theorem run_store_cell {W : World} {ty : TypeId} {g j : Nat} {cs : Array Value} {t : TypeId} {v : Value} (hg : W.heap[g]? = some (.cells cs t (0, 0))) (hj : j < cs.size) (h1 : v.oneCell' = true) (hi : (P.info? ty).map (·.size) = some 1) :
    (storeVar ty ⟨g, j, none⟩ v).run P W = .ok () (W.setCell ⟨g, j, none⟩ v) := by
  have hcs : v.cells = #[v] := by cases v <;> first | rfl | cases h1
  have hcell : W.cell? ⟨g, j, none⟩ = some cs[j] := (blk_cell hg j).trans (Array.getElem?_eq_getElem hj)
  have hfr := blk_frozen hg j
  cases hq : P.info? ty with
  | none => simp [hq] at hi
  | some i =>
    have hs : i.size = 1 := by simpa [hq] using hi
    have hadd : ∀ m, (⟨g, j, none⟩ : Addr).add m = ⟨g, j + m, none⟩ := fun m => by unfold Addr.add; split <;> simp_all
    simp [storeVar, sizeOf, typeInfo, hq, hcs, hs, storeCells, hadd, run_store P W _ v _ h1, hcell, hfr]
theorem ev_store {W : World} (hgd : o.guard = none) (ty : TypeId) (x y : Operand) (ho : o.op = .store ty x y) (g j : Nat) (hx : a.eval x = .pointer (some ⟨g, j, none⟩)) (v : Value) (hy : a.eval y = v)
    (cs : Array Value) (t : TypeId) (hg : W.heap[g]? = some (.cells cs t (0, 0))) (hj : j < cs.size) (h1 : v.oneCell' = true) (hi : (P.info? ty).map (·.size) = some 1)
    (h : ∀ w1, w1.heap[g]? = some (.cells (cs.setIfInBounds j v) t (0, 0)) → But1 g W w1 → wpList P ops Q rest (a.put o.dst undef) w1) : wpList P ops Q (o :: rest) a W := by
  refine wpList_plain hgd fun K hK => ?_
  unfold Oper.wp execOp
  simp only [ho, hx, hy, Instr.storeAt, Instr.sureAddr, Sem.run_bind, Sem.run_pure, Result.andThen_ok, run_store_cell hg hj h1 hi]
  exact hK _ _ (h _ (blk_set hg j v) ⟨fun k hk => Below.heap_setCell W _ v k hk, fun B hB => (Below.refl B W).setCell (p := ⟨g, j, none⟩) hB v⟩)
end
theorem But1.set1 (g j : Nat) (W : World) (v : Value) : But1 g W (W.setCell ⟨g, j, none⟩ v) := ⟨fun k hk => Below.heap_setCell W _ v k hk, fun B hB => (Below.refl B W).setCell (p := ⟨g, j, none⟩) hB v⟩
theorem Sx.blkM {w W : World} {Ts : List Th} (h : Sx w W Ts) {g : Nat} {cs : Array Value} {t : TypeId} (hm : Th.blk g cs t ∈ Ts) : W.heap[g]? = some (.cells cs t (0, 0)) := (h.ok _ hm).1
end Go.Proofs.Ytehfcnndjhjkoaa.PA

namespace Go.Proofs.Ytehfcnndjhjkoaa.PA
open Go.RowKit Go.Proofs.YtehfcnndjhjkoaaW.PrintWords Go.Proofs.YtehfcnndjhjkoaaW.PrintLast Go.Proofs.YtehfcnndjhjkoaaW.PrintMore
set_option linter.unusedVariables false
set_option linter.unusedSimpArgs false
theorem ButS.refl (S : Nat → Prop) (A : World) : ButS S A A := ⟨Nat.le_refl _, fun _ _ _ => rfl, rfl, rfl, rfl⟩
theorem ButS.then_ {S : Nat → Prop} {A B C : World} (h : ButS S A B) (hs : B.heap.size ≤ C.heap.size) (hk : ∀ k, k < B.heap.size → ¬ (S k ∨ A.heap.size ≤ k) → C.heap[k]? = B.heap[k]?) (ho : C.os = B.os) (ht : C.tape = B.tape) (hu : C.output = B.output) : ButS S A C :=
  ⟨Nat.le_trans h.size hs, fun k hk' hn => (hk k (Nat.lt_of_lt_of_le hk' h.size) (fun e => e.elim hn (fun e => by omega))).trans (h.same k hk' hn), ho.trans h.os, ht.trans h.tape, hu.trans h.output⟩
structure Rx (O : Nat → Prop) (w W : World) (Ts : List Th) : Prop where
  fr : ButS O w W
  ok : ∀ T ∈ Ts, T.ok 0 W
  nod : Ts.Pairwise (fun a b => ∀ k, a.on k → ¬ b.on k)
theorem Th.low {B B' : Nat} {W : World} {T : Th} (h : T.ok B W) (hb : B' ≤ B) : T.ok B' W := by
  cases T with
  | blk g cs t => exact ⟨h.1, Nat.le_trans hb h.2⟩
  | row v xs => exact Kd.R_lower h hb
theorem Rx.start {O : Nat → Prop} {w W : World} {Ts : List Th} (h : Sx w W Ts) : Rx O W W Ts := ⟨ButS.refl _ _, fun T hT => Th.low (h.ok T hT) (Nat.zero_le _), h.nod⟩
theorem Rx.step {O : Nat → Prop} {w W W' : World} {Ts : List Th} (h : Rx O w W Ts) (hb : Below W.heap.size W W') : Rx O w W' Ts :=
  ⟨h.fr.then_ hb.size (fun k hk _ => hb.block k hk) hb.os hb.tape hb.output, fun T hT => Th.keep (h.ok T hT) fun k _ hlt => hb.block k hlt, h.nod⟩
theorem Rx.add {O : Nat → Prop} {w W W' : World} {Ts : List Th} (h : Rx O w W Ts) (hb : Below W.heap.size W W') {T : Th} (hT : T.ok W.heap.size W') : Rx O w W' (T :: Ts) := by
  have h' := h.step hb
  refine ⟨h'.fr, fun U hU => ?_, .cons (fun U hU k hk hU' => ?_) h'.nod⟩
  · rcases List.mem_cons.1 hU with rfl | hU
    · exact Th.low hT (Nat.zero_le _)
    · exact h'.ok U hU
  · have h1 := (Th.lt hT k hk).1
    have h2 := (Th.lt (h.ok U hU) k hU').2
    omega
theorem Rx.box {O : Nat → Prop} {w W W' : World} {Ts : List Th} {g : Nat} {cs : Array Value} {t : TypeId} (h : Rx O w W Ts) (hg : g = W.heap.size) (hB : W'.heap[g]? = some (.cells cs t (0, 0))) (hb : Below W.heap.size W W') : Rx O w W' (.blk g cs t :: Ts) :=
  h.add hb ⟨hB, by omega⟩
theorem Rx.repl {O : Nat → Prop} {w W W' : World} {Ts : List Th} (h : Rx O w W Ts) (i : Nat) {T T' : Th} (hi : Ts[i]? = some T) (hO : ∀ k, T.on k → O k ∨ w.heap.size ≤ k) (hT : T'.ok 0 W') (hsz : W.heap.size ≤ W'.heap.size) (hf : ∀ k, ¬ T.on k → k < W.heap.size → W'.heap[k]? = W.heap[k]?) (hon : ∀ k, T'.on k → T.on k ∨ W.heap.size ≤ k)
    (ho : W'.os = W.os) (ht : W'.tape = W.tape) (hu : W'.output = W.output) : Rx O w W' (Ts.set i T') := by
  obtain ⟨hlt, hie⟩ := List.getElem?_eq_some_iff.1 hi
  have hnod := List.pairwise_iff_getElem.1 h.nod
  have hoth : ∀ (j : Nat) (hj : j < Ts.length), j ≠ i → ∀ k, (Ts[j]).on k → ¬ T.on k := fun j hj hne k hk hk' => by
    rcases Nat.lt_or_gt_of_ne hne with hl | hl
    · have := hnod j i hj hlt hl; rw [hie] at this; exact this k hk hk'
    · have := hnod i j hlt hj hl; rw [hie] at this; exact this k hk' hk
  have hfar : ∀ (j : Nat) (hj : j < Ts.length), j ≠ i → ∀ k, (Ts[j]).on k → ¬ T'.on k := fun j hj hne k hk hk' => by
    rcases hon k hk' with h1 | h1
    · exact hoth j hj hne k hk h1
    · have := (Th.lt (h.ok _ (List.getElem_mem hj)) k hk).2; omega
  refine ⟨h.fr.then_ hsz (fun k hk hn => hf k (fun hT => hn (hO k hT)) hk) ho ht hu, fun U hU => ?_, List.pairwise_iff_getElem.2 fun a b ha hb' hab => ?_⟩
  · obtain ⟨j, hj, e⟩ := List.getElem_of_mem hU
    rw [List.length_set] at hj
    rw [List.getElem_set] at e
    split at e
    · subst e; exact hT
    · rename_i hne
      subst e
      exact Th.keep (h.ok _ (List.getElem_mem hj)) fun k hk hlt' => hf k (hoth j hj (fun e => hne e.symm) k hk) hlt'
  · rw [List.length_set] at ha hb'
    rw [List.getElem_set, List.getElem_set]
    split
    · rename_i e1
      split
      · rename_i e2; omega
      · rename_i e2; exact fun k hk hk' => hfar b hb' (fun e => e2 e.symm) k hk' hk
    · rename_i e1
      split
      · exact fun k hk hk' => hfar a ha (fun e => e1 e.symm) k hk hk'
      · exact hnod a b ha hb' hab
theorem Rx.get {O : Nat → Prop} {w W : World} {Ts : List Th} (h : Rx O w W Ts) (i : Nat) {T : Th} (hi : Ts[i]? = some T) : T.ok 0 W := h.ok _ (List.mem_of_getElem? hi)
theorem Rx.blk {O : Nat → Prop} {w W : World} {Ts : List Th} (h : Rx O w W Ts) (i : Nat) {g : Nat} {cs : Array Value} {t : TypeId} (hi : Ts[i]? = some (.blk g cs t)) : W.heap[g]? = some (.cells cs t (0, 0)) := (h.get i hi).1
theorem Rx.row {O : Nat → Prop} {w W : World} {Ts : List Th} (h : Rx O w W Ts) (i : Nat) {v : Value} {xs : List Int} (hi : Ts[i]? = some (.row v xs)) : Kd.R (Kd.int .i64) 3 W 0 (fun _ => True) v xs := h.get i hi
theorem Rx.C {O : Nat → Prop} {w W : World} {Ts : List Th} (h : Rx O w W Ts) (i : Nat) {A : Option Addr} {n c : Nat} {xs : List Int} (hi : Ts[i]? = some (.row (.slice A n c) xs)) : Kd.C (Kd.int .i64) W A xs.length xs := (Kd.R_reads' (h.row i hi)).2.2
theorem But1.size {g : Nat} {W w1 : World} (h : But1 g W w1) : W.heap.size ≤ w1.heap.size := (h.below 0 (Nat.zero_le _)).size
theorem Rx.put {O : Nat → Prop} {w W W' : World} {Ts : List Th} (h : Rx O w W Ts) (i : Nat) {g : Nat} {cs cs' : Array Value} {t : TypeId} (hi : Ts[i]? = some (.blk g cs t)) (hO : O g ∨ w.heap.size ≤ g) (hs : W'.heap[g]? = some (.cells cs' t (0, 0))) (hk : But1 g W W') : Rx O w W' (Ts.set i (.blk g cs' t)) :=
  h.repl i hi (fun k e => by rw [show k = g from e]; exact hO) ⟨hs, Nat.zero_le _⟩ hk.size (fun k hk' _ => hk.same k hk') (fun k hk' => .inl hk') (hk.below 0 (Nat.zero_le _)).os (hk.below 0 (Nat.zero_le _)).tape (hk.below 0 (Nat.zero_le _)).output
theorem Rx.sub {O : Nat → Prop} {w W : World} {Ts Ts' : List Th} (h : Rx O w W Ts) (hs : Ts'.Sublist Ts) : Rx O w W Ts' := ⟨h.fr, fun T hT => h.ok T (hs.subset hT), h.nod.sublist hs⟩
theorem Rx.drewN {O : Nat → Prop} {w W : World} {Ts : List Th} (h : Rx O w W Ts) (n : Nat) : Rx O w (W.drewN n) Ts := h.step (pw_below_drewN (Below.refl _ _) n)
theorem Rx.alloc {O : Nat → Prop} {w W : World} {Ts : List Th} (h : Rx O w W Ts) (cs : Array Value) (t : TypeId) : Rx O w (W.alloc (.cells cs t)) (.blk W.heap.size cs t :: Ts) := h.box rfl (blk_new W _) (below_alloc (Below.refl _ _) _)
theorem Rx.keeps {O : Nat → Prop} {W W' : World} {Ts : List Th} (h : Rx O W W' Ts) (hS : ∀ k, O k → ∀ o, W.heap[k]? = some o → o.isCells = true) : KeepsOthers W W' :=
  ⟨h.fr.size, fun k o hk ho => (h.fr.same k (blk_lt hk) (fun hs => by rw [hS k hs o hk] at ho; cases ho)).trans hk⟩
theorem Th.cells {B : Nat} {W : World} {T : Th} (h : T.ok B W) : ∀ k, T.on k → ∀ o, W.heap[k]? = some o → o.isCells = true := by
  intro k hk o ho
  cases T with
  | blk g cs t => rw [show k = g from hk, h.1] at ho; cases ho; rfl
  | row v xs => obtain ⟨cs, hc⟩ := Kd.R_typed h k hk; rw [hc] at ho; cases ho; rfl
theorem Sx.apart {w W : World} {Ts : List Th} (h : Sx w W Ts) (i j : Nat) (hne : i ≠ j) {T U : Th} (hi : Ts[i]? = some T) (hj : Ts[j]? = some U) : ∀ k, T.on k → ¬ U.on k := by
  obtain ⟨hil, hie⟩ := List.getElem?_eq_some_iff.1 hi
  obtain ⟨hjl, hje⟩ := List.getElem?_eq_some_iff.1 hj
  have hnod := List.pairwise_iff_getElem.1 h.nod
  intro k h1 h2
  rcases Nat.lt_or_gt_of_ne hne with hl | hl
  · have := hnod i j hil hjl hl; rw [hie, hje] at this; exact this k h1 h2
  · have := hnod j i hjl hil hl; rw [hie, hje] at this; exact this k h2 h1
end Go.Proofs.Ytehfcnndjhjkoaa.PA

-- By a program (prt.py, over the print of the kit), for this claim. Not trusted: Lean checks it.
namespace Go.Proofs.Ytehfcnndjhjkoaa.PA
open Go.RowKit Go.Proofs.YtehfcnndjhjkoaaW.PrintWords Go.Proofs.YtehfcnndjhjkoaaW.PrintLast Go.Proofs.YtehfcnndjhjkoaaW.PrintMore
attribute [local go_sem] max2_int min2_int max_two min_two max_three min_three max_four min_four   -- for this text's walks alone
set_option linter.unusedVariables false
set_option linter.unusedSimpArgs false

/-! ### bits_Mul64: function 142 -/
def bits_Mul64.f (a0 : Int) (a1 : Int) : Option (Int × Int) := some (IntKind.u64.wrap ((IntKind.u64.wrap ((IntKind.u64.wrap ((a0 / 4294967296) * (a1 / 4294967296))) + ((IntKind.u64.wrap ((IntKind.u64.wrap ((a0 / 4294967296) * (Go.bits .and .u64 a1 4294967295))) + ((IntKind.u64.wrap ((Go.bits .and .u64 a0 4294967295) * (Go.bits .and .u64 a1 4294967295))) / 4294967296))) / 4294967296))) + ((IntKind.u64.wrap ((Go.bits .and .u64 (IntKind.u64.wrap ((IntKind.u64.wrap ((a0 / 4294967296) * (Go.bits .and .u64 a1 4294967295))) + ((IntKind.u64.wrap ((Go.bits .and .u64 a0 4294967295) * (Go.bits .and .u64 a1 4294967295))) / 4294967296))) 4294967295) + (IntKind.u64.wrap ((Go.bits .and .u64 a0 4294967295) * (a1 / 4294967296))))) / 4294967296)), IntKind.u64.wrap (a0 * a1))
set_option maxHeartbeats 8000000 in
set_option maxRecDepth 100000 in
theorem bits_Mul64.calls (a0 : Int) (a1 : Int) (r1 : Int) (r2 : Int) (w : World) (h : bits_Mul64.f a0 a1 = some (r1, r2)) :
    Calls Try.prog 142 #[.int .u64 a0, .int .u64 a1] w fun e w' => e = .returned (.tuple #[.int .u64 r1, .int .u64 r2]) ∧ Drawn0 w w' := by
  have H : (some (IntKind.u64.wrap ((IntKind.u64.wrap ((IntKind.u64.wrap ((a0 / 4294967296) * (a1 / 4294967296))) + ((IntKind.u64.wrap ((IntKind.u64.wrap ((a0 / 4294967296) * (Go.bits .and .u64 a1 4294967295))) + ((IntKind.u64.wrap ((Go.bits .and .u64 a0 4294967295) * (Go.bits .and .u64 a1 4294967295))) / 4294967296))) / 4294967296))) + ((IntKind.u64.wrap ((Go.bits .and .u64 (IntKind.u64.wrap ((IntKind.u64.wrap ((a0 / 4294967296) * (Go.bits .and .u64 a1 4294967295))) + ((IntKind.u64.wrap ((Go.bits .and .u64 a0 4294967295) * (Go.bits .and .u64 a1 4294967295))) / 4294967296))) 4294967295) + (IntKind.u64.wrap ((Go.bits .and .u64 a0 4294967295) * (a1 / 4294967296))))) / 4294967296)), IntKind.u64.wrap (a0 * a1))) = some (r1, r2) := h
  clear h
  simp only [Option.some.injEq, Prod.mk.injEq] at H
  obtain ⟨rfl, rfl⟩ := H
  go_enter Try.func142, Try.ntmps142
  go_wp2
  go_ret2
  exact ⟨by first | rfl | (simp; done) | (simp [*]; done), by repeat (first | exact Drawn0.refl _ | apply Drawn0.step)⟩

end Go.Proofs.Ytehfcnndjhjkoaa.PA

-- By a program (prt.py, over the print of the kit), for this claim. Not trusted: Lean checks it.
namespace Go.Proofs.Ytehfcnndjhjkoaa.PA
open Go.RowKit Go.Proofs.YtehfcnndjhjkoaaW.PrintWords Go.Proofs.YtehfcnndjhjkoaaW.PrintLast Go.Proofs.YtehfcnndjhjkoaaW.PrintMore
attribute [local go_sem] max2_int min2_int max_two min_two max_three min_three max_four min_four   -- for this text's walks alone
set_option linter.unusedVariables false
set_option linter.unusedSimpArgs false

/-! ### bits_Mul: function 138 -/
def bits_Mul.f (a0 : Int) (a1 : Int) : Option (Int × Int) := (bits_Mul64.f a0 a1).bind fun bt101 => (some (bt101.1, bt101.2))
set_option maxHeartbeats 8000000 in
set_option maxRecDepth 100000 in
theorem bits_Mul.calls (a0 : Int) (a1 : Int) (r1 : Int) (r2 : Int) (w : World) (h : bits_Mul.f a0 a1 = some (r1, r2)) :
    Calls Try.prog 138 #[.int .u64 a0, .int .u64 a1] w fun e w' => e = .returned (.tuple #[.int .u64 r1, .int .u64 r2]) ∧ Drawn0 w w' := by
  have H : ((bits_Mul64.f a0 a1).bind fun bt101 => (some (bt101.1, bt101.2))) = some (r1, r2) := h
  clear h
  replace H := Option.bind_eq_some_iff.mp H
  obtain ⟨⟨t101, t102⟩, A30, H⟩ := H
  replace H : (some (t101, t102)) = some (r1, r2) := H
  have A3 := Aside0.mk A30
  clear A30
  simp only [Option.some.injEq, Prod.mk.injEq] at H
  obtain ⟨rfl, rfl⟩ := H
  go_enter Try.func138, Try.ntmps138
  go_wp2_with (first | ((with_reducible refine gate_callee (f := 142) rfl ?_); refine goesL_ (some 25) rfl rfl Try.func142 (by kernel_rfl) rfl #[.int .u64 a0, .int .u64 a1] rfl (by (try simp only [List.map_toArray, List.map_cons, List.map_nil]); first | done | rfl | (simp only [List.length_drop, List.length_take]; rfl)) ?_; (with_reducible refine (bits_Mul64.calls a0 a1 t101 t102 _ A3.out).mono ?_); rintro e w' ⟨rfl, ⟨nd, rfl⟩⟩; refine ⟨_, rfl, ?_⟩))
  go_ret2
  exact ⟨by first | rfl | (simp; done) | (simp [*]; done), by repeat (first | exact Drawn0.refl _ | apply Drawn0.step)⟩

end Go.Proofs.Ytehfcnndjhjkoaa.PA

namespace Go.Proofs.Ytehfcnndjhjkoaa.PA
open Go.RowKit Go.Proofs.YtehfcnndjhjkoaaW.PrintWords Go.Proofs.YtehfcnndjhjkoaaW.PrintLast Go.Proofs.YtehfcnndjhjkoaaW.PrintMore
set_option linter.unusedVariables false
set_option linter.unusedSimpArgs false
theorem make_rowN (n : Nat) (hn : n ≤ 1000000) (w : World) : (Instr.makeSlice 22 (.int .i64 (n : Int)) (.int .i64 (n : Int))).run Try.prog w = .ok (.slice (some ⟨w.heap.size, 0, none⟩) n n) (w.alloc (.cells (rowI (List.replicate n 0)) 3)) := by
  obtain ⟨i, hi, hz⟩ := Option.map_eq_some_iff.1 info3
  simp only [Prod.mk.injEq] at hz
  have h := run_make (P := Try.prog) w 22 3 i (.int .i64 0) Try.underlying22 hi hz.1 .i64 .i64 (n : Int) (n : Int) (by omega) (by omega) (by rw [hz.2.2]; omega) (by omega)
  rw [h, hz.2.1]
  have e : madeCells (Value.int .i64 0).cells ((n : Int).toNat * 1) = rowI (List.replicate n 0) := by
    apply Array.ext
    · simp [madeCells, rowI]
    · intro j h1 h2
      simp [madeCells, rowI, Value.cells, Nat.mod_one]
  rw [e]; simp
/-- A block that is a row of numbers, as a row made. -/
theorem R_of_blk {W : World} {g : Nat} {l : List Int} {B : Nat} (h : W.heap[g]? = some (.cells (rowI l) 3 (0, 0))) (hB : B ≤ g) (hm : l.length ≤ 1000000) : Kd.R (Kd.int .i64) 3 W B (fun _ => True) (.slice (some ⟨g, 0, none⟩) l.length l.length) l := by
  refine Kd.R_of_own ⟨by simp [encs], .inr ⟨g, l.length, rowI l, rfl, hB, h, Nat.le_refl _, by unfold maxLen; omega, by simp [rowI], ?_⟩⟩ (fun _ _ => trivial)
  simp only [rowI, encs, Nat.mul_one, List.toList_toArray]
  exact List.take_of_length_le (by simp)
section
variable {P : Program} {ops : Array Oper} {rest : List Oper} {o : Oper} {a : Act} {Q : Exit → Act → World → Prop}
theorem ev_copy {W : World} (hgd : o.guard = none) (d s : Operand) (ho : o.op = .call { callee := .builtin .copy, args := #[d, s], argTypes := #[22, 22] }) (hu : P.underlying 22 = some (.slice 3)) (hsz : (P.info? 3).map (·.size) = some 1)
    (g off dLen dCap : Nat) (ad : Addr) (sLen sCap : Nat) (hd : a.eval d = .slice (some ⟨g, off, none⟩) dLen dCap) (hs : a.eval s = .slice (some ad) sLen sCap) (l ys : List Int) (hg : W.heap[g]? = some (.cells (rowI l) 3 (0, 0))) (hn : ys.length = Nat.min sLen dLen)
    (hsrc : ∀ j : Nat, j < ys.length → W.cell? (ad.add j) = some (.int .i64 (rd ys (j : Int)))) (hfit : off + ys.length ≤ l.length)
    (h : ∀ w1, w1.heap[g]? = some (.cells (rowI (l.take off ++ (ys ++ l.drop (off + ys.length)))) 3 (0, 0)) → But1 g W w1 → wpList P ops Q rest (a.put o.dst (.int .i64 (ys.length : Int))) w1) : wpList P ops Q (o :: rest) a W := by
  refine wpList_copy_own hgd d s 22 22 ho 3 hu hsz g off dLen dCap ad sLen sCap hd hs (rowI l) 3 hg (ys.map (Value.int .i64)) (by simpa using hn) ?_ (by simpa [rowI] using hfit) (by simp [Value.oneCell']) ?_
  · intro j v hv
    obtain ⟨hj, hv⟩ := List.getElem?_eq_some_iff.1 hv
    have hj' : j < ys.length := by simpa using hj
    rw [hsrc j hj']
    simp only [List.getElem_map] at hv
    rw [← hv]; simp [rd, List.getD_eq_getElem?_getD, hj']
  · have e : ((rowI l).toList.take off ++ (ys.map (Value.int .i64) ++ (rowI l).toList.drop (off + (ys.map (Value.int .i64)).length))).toArray = rowI (l.take off ++ (ys ++ l.drop (off + ys.length))) := by
      simp [rowI, List.map_take, List.map_drop]
    rw [e]
    have := h (W.setRow g (rowI (l.take off ++ (ys ++ l.drop (off + ys.length))))) (setRow_heap _ g _ _ _ _ hg) ⟨fun k hk => setRow_other _ g k _ hk, fun B hB => below_setRow (Below.refl B W) hB _⟩
    simpa [goInt] using this
theorem ev_copy_step {W : World} {Kc : Act → World → Prop} (hw : Region.wanted o (yielded ops a.tmps) = true) (d s : Operand) (ho : o.op = .call { callee := .builtin .copy, args := #[d, s], argTypes := #[22, 22] }) (hu : P.underlying 22 = some (.slice 3)) (hsz : (P.info? 3).map (·.size) = some 1)
    (g off dLen dCap : Nat) (ad : Addr) (sLen sCap : Nat) (hd : a.eval d = .slice (some ⟨g, off, none⟩) dLen dCap) (hs : a.eval s = .slice (some ad) sLen sCap) (l ys : List Int) (hg : W.heap[g]? = some (.cells (rowI l) 3 (0, 0))) (hn : ys.length = Nat.min sLen dLen)
    (hsrc : ∀ j : Nat, j < ys.length → W.cell? (ad.add j) = some (.int .i64 (rd ys (j : Int)))) (hfit : off + ys.length ≤ l.length)
    (h : ∀ w1, w1.heap[g]? = some (.cells (rowI (l.take off ++ (ys ++ l.drop (off + ys.length)))) 3 (0, 0)) → But1 g W w1 → Kc (a.put o.dst (.int .i64 (ys.length : Int))) w1) : if Region.wanted o (yielded ops a.tmps) = true then Oper.wp P o a W Kc Q else Kc (a.put o.dst undef) W := by
  rw [if_pos hw]
  have hsrc' : ∀ j v, (ys.map (Value.int .i64))[j]? = some v → W.cell? (ad.add j) = some v := by
    intro j v hv
    obtain ⟨hj, hv⟩ := List.getElem?_eq_some_iff.1 hv
    have hj' : j < ys.length := by simpa using hj
    rw [hsrc j hj']
    simp only [List.getElem_map] at hv
    rw [← hv]; simp [rd, List.getD_eq_getElem?_getD, hj']
  have hrun := run_copy_row (P := P) W 22 22 o.type 3 g off dLen dCap ad sLen sCap (rowI l) 3 (ys.map (Value.int .i64)) hu hsz hg (by simpa using hn) hsrc' (by simpa [rowI] using hfit) (by simp [Value.oneCell'])
  have e : ((rowI l).toList.take off ++ ys.map (Value.int .i64) ++ (rowI l).toList.drop (off + (ys.map (Value.int .i64)).length)).toArray = rowI (l.take off ++ (ys ++ l.drop (off + ys.length))) := by
    simp [rowI, List.map_take, List.map_drop]
  rw [e] at hrun
  unfold Oper.wp
  simp [execOp, ho, resolve, invoke, builtin, hd, hs, hrun, Result.andThen]
  have := h (W.setRow g (rowI (l.take off ++ (ys ++ l.drop (off + ys.length))))) (setRow_heap _ g _ _ _ _ hg) ⟨fun k hk => setRow_other _ g k _ hk, fun B hB => below_setRow (Below.refl B W) hB _⟩
  simpa [goInt, Oper.upon] using this
end
theorem and_low (n : Int) (h0 : 0 ≤ n) (h1 : n < 4294967296) : Go.bits .and .u64 n 4294967295 = n := by
  have := bits_mask .u64 63 (by decide) (fun n h0 h1 => by simp [IntKind.wrap, IntKind.bits, IntKind.signed]; omega) 32 (by decide) n h0 (by omega)
  rw [show ((2 : Int) ^ 32 - 1) = 4294967295 by decide] at this
  rw [this]; omega
theorem mul_one_ev (n : Nat) (h : n ≤ 20000) : bits_Mul.f 1 (n : Int) = some (0, (n : Int)) := by
  have e1 : (1 : Int) / 4294967296 = 0 := by decide
  have e2 : (n : Int) / 4294967296 = 0 := by omega
  have w0 : IntKind.u64.wrap 0 = 0 := by decide
  have wn : IntKind.u64.wrap (n : Int) = n := by simp [IntKind.wrap, IntKind.bits, IntKind.signed]; omega
  unfold bits_Mul.f bits_Mul64.f
  rw [and_low 1 (by omega) (by omega), and_low (n : Int) (by omega) (by omega), e1, e2]
  have z0 := and_low 0 (by omega) (by omega)
  simp [w0, wn, e2, z0]
theorem rep_step (x : Int) (N m q : Nat) (h : m + q ≤ N) : (List.replicate m x ++ List.replicate (N - m) (0 : Int)).take m ++ (List.replicate q x ++ (List.replicate m x ++ List.replicate (N - m) (0 : Int)).drop (m + q)) = List.replicate (m + q) x ++ List.replicate (N - (m + q)) 0 := by
  rw [List.take_append_of_le_length (by simp), List.take_of_length_le (by simp), ← List.append_assoc, List.replicate_append_replicate, List.drop_append, List.drop_of_length_le (by simp), List.nil_append, List.drop_replicate]
  congr 2
  simp; omega
set_option maxHeartbeats 2000000 in
set_option maxRecDepth 100000 in
theorem repeat_one (x : Int) (A : Option Addr) (c n : Nat) (w : World) (hC : Kd.C (Kd.int .i64) w A [x].length [x]) (h1 : 1 ≤ n) (hn : n ≤ 20000) :
    Calls Try.prog 127 #[.slice A 1 c, .int .i64 (n : Int)] w fun e w' => ∃ v, e = .returned v ∧ Kd.R (Kd.int .i64) 3 w' w.heap.size (fun _ => True) v (List.replicate n x) ∧ Below w.heap.size w w' := by
  obtain ⟨ad, rfl, hx0⟩ := Kd.at_int hC 0 (by omega) (by simp)
  have HC := Aside0.mk hC
  have HSRC0 : ∀ W, Below w.heap.size w W → ∀ j : Nat, j < [x].length → W.cell? (ad.add j) = some (.int .i64 (rd [x] (j : Int))) := fun W hW j hj => by
    obtain ⟨ad', e', h⟩ := Kd.at_int (Kd.C_below hC hW) (j : Int) (by omega) (by simp at hj ⊢; omega)
    cases e'; rw [Int.toNat_natCast] at h; exact h
  have HSRC := Aside0.mk HSRC0
  clear hx0 HSRC0
  have HM := Aside0.mk (mul_one_ev n hn)
  have p0 : 0 ≤ (n : Int) := by omega
  have p1 : ¬ (n : Int) < 0 := by omega
  have wn : IntKind.u64.wrap (n : Int) = n := by simp [IntKind.wrap, IntKind.bits, IntKind.signed]; omega
  have wi : IntKind.i64.wrap (n : Int) = n := IntWalk.i64_in _ (by omega)
  have g0 : decide ((n : Int) > 9223372036854775807) = false := decide_eq_false (by omega)
  have g1 : ¬ (9223372036854775807 : Int) < (n : Int) := by omega
  have hmk := make_rowN n (by omega)
  have HS := Aside0.mk (Sx.start w)
  clear hC
  go_enter Try.func127, Try.ntmps127
  go_wp2_with (first | (go_at_call 138; refine (bits_Mul.calls 1 (n : Int) 0 (n : Int) _ HM.out).mono ?_; rintro e w1 ⟨rfl, hd1⟩; have hb1 := Drawn0.below hd1; clear hd1; have nS : Aside0 (Sx w w1 []) := Aside0.mk (HS.out.step hb1); clear HS; have HS := nS; clear nS hb1) | ((with_reducible refine gate_dst (N := 30) rfl ?_); refine lit_event ?hg (N := 30) ?hd (cs := (rowI (List.replicate n 0))) (t := 3) (n := n) ?hr ?_; (case hd => rfl); (case hg => rfl); (case hr => first | (go_simp; done) | (go_simp; rfl)); intro gG hg2 w2 hx2 hb2; have nS : Aside0 (Sx w w2 [(.blk gG (rowI (List.replicate n 0)) 3)]) := Aside0.mk (HS.out.box hg2 hx2 hb2); clear HS; have HS := nS; clear nS hg2 hx2 hb2) | ((with_reducible refine gate_dst (N := 33) rfl ?_); refine ev_copy rfl (.tmp 31) (.tmp 32) rfl Try.underlying22 (by kernel_rfl) gG 0 n n ad 1 c rfl rfl (List.replicate n 0) [x] (HS.out.blk 0 rfl) (show 1 = min 1 n by omega) (HSRC.out _ HS.out.below) (by simp; omega) ?_; intro wc hx hb; have nS : Aside0 (Sx w wc [.blk gG (rowI (List.replicate 1 x ++ List.replicate (n - 1) 0)) 3]) := Aside0.mk (by have := HS.out.put 0 rfl hx hb; rw [show (List.replicate n (0 : Int)).take 0 ++ ([x] ++ (List.replicate n (0 : Int)).drop (0 + [x].length)) = List.replicate 1 x ++ List.replicate (n - 1) 0 by simp [List.drop_replicate]] at this; exact this); clear HS; have HS := nS; clear nS hx hb))
  go_loopw [8] (fun z wr => ∃ m : Nat, z = .int .i64 (m : Int) ∧ Aside0 (1 ≤ m ∧ m ≤ n) ∧ Aside0 (Sx w wr [.blk gG (rowI (List.replicate m x ++ List.replicate (n - m) 0)) 3])) (fun z _ => n - (intOf z).toNat)
  case atStart => exact ⟨1, by simp, ⟨by omega, by omega⟩, HS⟩
  case round =>
    clear HS
    obtain ⟨m, rfl, hm, HS⟩ := hrel
    have b1 := hm.out.1
    have b2 := hm.out.2
    by_cases hlt : m < n
    · have q0 : 0 ≤ (m : Int) := by omega
      have q1 : (m : Int) ≤ (n : Int) := by omega
      have q2 : (m : Int) < (n : Int) := by omega
      have q3 : ¬ n = m := by omega
      have q4 : ¬ (n : Int) < (m : Int) := by omega
      have HQ := Aside0.mk (show (List.replicate (min m (n - m)) x).length = Nat.min m (n - m) from List.length_replicate)
      have HAD := Aside0.mk (show ∀ j : Nat, j < (List.replicate (min m (n - m)) x).length → wr.drew.cell? ((⟨gG, 0, none⟩ : Addr).add j) = some (.int .i64 (rd (List.replicate (min m (n - m)) x) (j : Int))) from fun j hj => by
        have hj' : j < min m (n - m) := by simpa using hj
        have h := rowI_cell (HS.out.drew.blk 0 rfl) j (by simp; omega)
        rw [show (⟨gG, 0, none⟩ : Addr).add j = ⟨gG, j, none⟩ from add_plain gG j, h]
        congr 2
        simp only [rd, Int.toNat_natCast, List.getD_eq_getElem?_getD]
        rw [List.getElem?_append_left (by simp; omega)]
        simp [hj', show j < m by omega])
      have HFT := Aside0.mk (show m + (List.replicate (min m (n - m)) x).length ≤ (List.replicate m x ++ List.replicate (n - m) 0).length by simp; omega)
      go_wp2
      go_region_law (refine ev_copy_step rfl (.tmp 41) (.tmp 44) rfl Try.underlying22 (by kernel_rfl) gG m (n - m) (n - m) ⟨gG, 0, none⟩ m n ?hd ?hs (List.replicate m x ++ List.replicate (n - m) 0) (List.replicate (min m (n - m)) x) (HS.out.drew.blk 0 rfl) HQ.out HAD.out HFT.out ?hn; (case hd => go_simp); (case hs => go_simp); intro wc hx hb; have nS : Aside0 (Sx w wc [.blk gG (rowI (List.replicate (m + min m (n - m)) x ++ List.replicate (n - (m + min m (n - m))) 0)) 3]) := Aside0.mk (by have := HS.out.drew.put 0 rfl hx hb; rw [List.length_replicate, rep_step x n m _ (by omega)] at this; exact this); clear HS; have HS := nS; clear nS hx hb)
      have hwr : IntKind.i64.wrap ((m : Int) + ((min m (n - m) : Nat) : Int)) = (m : Int) + ((min m (n - m) : Nat) : Int) := IntWalk.i64_in _ (by omega)
      go_simp
      go_wp2
      clear hwr
      have hmin : 0 < min m (n - m) := by omega
      go_roundw
      case rel => exact ⟨m + min m (n - m), by push_cast; first | rfl | (congr 1; simp; done) | (simp; done), ⟨by omega, by omega⟩, HS⟩
      case measure => simp [intOf]; omega
    · obtain rfl : m = n := by omega
      go_wp2
      go_ret
      have hr := R_of_blk (HS.out.blk 0 rfl) (HS.out.get 0 rfl).2 (by simp; omega)
      simp only [Nat.sub_self, List.replicate_zero, List.append_nil, List.length_replicate] at hr
      exact ⟨_, rfl, hr, HS.out.below⟩
set_option maxHeartbeats 2000000 in
set_option maxRecDepth 100000 in
theorem repeat_zero (A : Option Addr) (c : Nat) (w : World) :
    Calls Try.prog 127 #[.slice A 1 c, .int .i64 0] w fun e w' => ∃ v, e = .returned v ∧ Kd.R (Kd.int .i64) 3 w' w.heap.size (fun _ => True) v [] ∧ Below w.heap.size w w' := by
  have HM := Aside0.mk (mul_one_ev 0 (by omega))
  have wn : IntKind.u64.wrap 0 = 0 := by decide
  have wi : IntKind.i64.wrap 0 = 0 := by decide
  have hmk : ∀ w, (Instr.makeSlice 22 (.int .i64 0) (.int .i64 0)).run Try.prog w = .ok (.slice (some ⟨w.heap.size, 0, none⟩) 0 0) (w.alloc (.cells (rowI []) 3)) := fun w => make_rowN 0 (by omega) w
  have HS := Aside0.mk (Sx.start w)
  go_enter Try.func127, Try.ntmps127
  go_wp2_with (first | (go_at_call 138; refine (bits_Mul.calls 1 0 0 0 _ HM.out).mono ?_; rintro e w1 ⟨rfl, hd1⟩; have hb1 := Drawn0.below hd1; clear hd1; have nS : Aside0 (Sx w w1 []) := Aside0.mk (HS.out.step hb1); clear HS; have HS := nS; clear nS hb1) | ((with_reducible refine gate_dst (N := 30) rfl ?_); refine lit_event ?hg (N := 30) ?hd (cs := (rowI [])) (t := 3) (n := 0) ?hr ?_; (case hd => rfl); (case hg => rfl); (case hr => first | (go_simp; done) | (go_simp; rfl)); intro gG hg2 w2 hx2 hb2; have nS : Aside0 (Sx w w2 [(.blk gG (rowI []) 3)]) := Aside0.mk (HS.out.box hg2 hx2 hb2); clear HS; have HS := nS; clear nS hg2 hx2 hb2) | ((with_reducible refine gate_dst (N := 33) rfl ?_); refine wpList_copy_nothing rfl (.tmp 31) (.tmp 32) 22 22 rfl 3 Try.underlying22 (by kernel_rfl) _ _ 0 0 1 c rfl rfl (by decide) ?_))
  go_loopw [8] (fun z wr => z = .int .i64 0 ∧ Aside0 (Sx w wr [(.blk gG (rowI []) 3)])) (fun _ _ => 0)
  case atStart => exact ⟨rfl, HS⟩
  case round =>
    clear HS
    obtain ⟨rfl, HS⟩ := hrel
    go_wp2
    go_ret
    have hr := R_of_blk (HS.out.blk 0 rfl) (HS.out.get 0 rfl).2 (by simp)
    exact ⟨_, rfl, hr, HS.out.below⟩
theorem repeat_any (x : Int) (A : Option Addr) (c n : Nat) (w : World) (hC : Kd.C (Kd.int .i64) w A [x].length [x]) (hn : n ≤ 20000) :
    Calls Try.prog 127 #[.slice A 1 c, .int .i64 (n : Int)] w fun e w' => ∃ v, e = .returned v ∧ Kd.R (Kd.int .i64) 3 w' w.heap.size (fun _ => True) v (List.replicate n x) ∧ Below w.heap.size w w' := by
  rcases Nat.eq_zero_or_pos n with rfl | h
  · exact repeat_zero A c w
  · exact repeat_one x A c n w hC h hn
end Go.Proofs.Ytehfcnndjhjkoaa.PA

namespace Go.Proofs.Ytehfcnndjhjkoaa.PA
open Go.RowKit Go.Proofs.YtehfcnndjhjkoaaW.PrintWords Go.Proofs.YtehfcnndjhjkoaaW.PrintLast Go.Proofs.YtehfcnndjhjkoaaW.PrintMore
set_option linter.unusedVariables false
set_option linter.unusedSimpArgs false
section
variable {P : Program} {ops : Array Oper} {rest : List Oper} {o : Oper} {a : Act} {Q : Exit → Act → World → Prop}
theorem Sx.append {w W : World} {Ts : List Th} (h : Sx w W Ts) (i : Nat) {v : Value} {xs : List Int} (hi : Ts[i]? = some (.row v xs)) (hgd : o.guard = none) (s y : Operand)
    (ho : o.op = .call { callee := .builtin .append, args := #[s, y], argTypes := #[22, 22] }) (ht : P.underlying 22 = some (.slice 3)) (hinfo : (P.info? 3).map (fun i => (i.zero, i.size, i.bytes)) = some (some (.int .i64 0), 1, 8))
    (x : Int) (hs : a.eval s = v) (hy : a.eval y = .slice (some ⟨W.heap.size, 0, none⟩) 1 1) (hl : xs.length ≤ 1000000)
    (hK : ∀ A c w1, Sx w w1 (Ts.set i (.row (.slice A (xs.length + 1) c) (xs ++ [x]))) → wpList P ops Q rest (a.put o.dst (.slice A (xs.length + 1) c)) w1) : wpList P ops Q (o :: rest) a (W.alloc (.cells #[.int .i64 x] 3)) := by
  refine Kd.R_append (Kd.int .i64) (w0 := W) w.heap.size hgd s y 22 3 (.int .i64 0) 8 ho ht hinfo rfl (by decide) (by decide) v xs x [.int .i64 x] (fun _ => True) (fun _ => False) hs hy (by rfl) (fun _ h => h.elim) (fun _ _ => trivial) (h.row i hi) ((Below.refl W.heap.size W).mono h.below.size) h.below.size (by omega) ?_
  intro v1 w1 hr hb hg hat
  obtain ⟨A, c, rfl⟩ := Kd.R_slice hr
  have := hK A c w1 (by
    have := h.grow i hi hr hg hat
    rw [List.length_append, List.length_singleton] at this; exact this)
  rw [List.length_append, List.length_singleton]; exact this
/-- .. with the row's length by name. -/
theorem Sx.appendN {w W : World} {Ts : List Th} (h : Sx w W Ts) (i : Nat) {v : Value} {xs : List Int} (hi : Ts[i]? = some (.row v xs)) (n : Nat) (hn : xs.length = n) (hgd : o.guard = none) (s y : Operand)
    (ho : o.op = .call { callee := .builtin .append, args := #[s, y], argTypes := #[22, 22] }) (ht : P.underlying 22 = some (.slice 3)) (hinfo : (P.info? 3).map (fun i => (i.zero, i.size, i.bytes)) = some (some (.int .i64 0), 1, 8))
    (x : Int) (hs : a.eval s = v) (hy : a.eval y = .slice (some ⟨W.heap.size, 0, none⟩) 1 1) (hl : n ≤ 1000000)
    (hK : ∀ A c w1, Sx w w1 (Ts.set i (.row (.slice A (n + 1) c) (xs ++ [x]))) → wpList P ops Q rest (a.put o.dst (.slice A (n + 1) c)) w1) : wpList P ops Q (o :: rest) a (W.alloc (.cells #[.int .i64 x] 3)) := by
  subst hn; exact h.append i hi hgd s y ho ht hinfo x hs hy hl hK
/-- The literal row of no number. -/
theorem ev_nolit {w W : World} {Ts : List Th} (h : Sx w W Ts) (hgd : o.guard = none) {N : Tmp} (_hd : o.dst = some N)
    (hrun : (execOp a.eval o).run P W = .ok (.value (.slice (some ⟨W.heap.size, 0, none⟩) 0 0)) (W.alloc (.cells #[] 3 (0, 0))))
    (hK : ∀ A w1, Sx w w1 (.row (.slice A 0 0) [] :: Ts) → wpList P ops Q rest (a.put o.dst (.slice A 0 0)) w1) : wpList P ops Q (o :: rest) a W := by
  refine Kd.event_run hgd hrun (hK _ _ (h.add (below_alloc (Below.refl _ _) _) ?_))
  have := R_of_blk (W := W.alloc (.cells #[] 3 (0, 0))) (g := W.heap.size) (l := []) (B := W.heap.size) (blk_new W _) (Nat.le_refl _) (by simp)
  exact this
end
/-- An element of a row of the list. -/
theorem Sx.at {w W : World} {Ts : List Th} (h : Sx w W Ts) (i : Nat) {A : Option Addr} {n c : Nat} {xs : List Int} (hi : Ts[i]? = some (.row (.slice A n c) xs)) (j : Nat) (hj : j < xs.length) : ∃ g, A = some ⟨g, 0, none⟩ ∧ W.cell? ⟨g, j, none⟩ = some (.int .i64 (rd xs (j : Int))) ∧ W.frozen? ⟨g, j, none⟩ = false := by
  have hr := h.row i hi
  obtain ⟨g, cap, e, _, _, _⟩ := Kd.R_form hr (by omega)
  injection e with e1 e2 e3
  subst e1 e2 e3
  have := Kd.R_cell (0 : Int) (enc := Value.int .i64) hr (j : Int) (by omega) (by omega)
  rw [Int.toNat_natCast] at this
  exact ⟨g, rfl, this.1, this.2⟩
/-- A store into a row of the list. -/
theorem Sx.setAt {w W : World} {Ts : List Th} (h : Sx w W Ts) (i : Nat) {g n c : Nat} {xs : List Int} (hi : Ts[i]? = some (.row (.slice (some ⟨g, 0, none⟩) n c) xs)) (j : Nat) (x : Int) : Sx w (W.setCell ⟨g, j, none⟩ (.int .i64 x)) (Ts.set i (.row (.slice (some ⟨g, 0, none⟩) n c) (xs.set j x))) := by
  have hr := h.row i hi
  obtain ⟨rfl, _, _⟩ := Kd.R_reads' hr
  have := Kd.R_put (enc := Value.int .i64) hr (j : Int) x
  rw [Int.toNat_natCast] at this
  exact h.grow i hi this.1 this.2 (.inl rfl)
end Go.Proofs.Ytehfcnndjhjkoaa.PA

-- By a program (prt.py, over the print of the kit), for this claim. Not trusted: Lean checks it.
namespace Go.Proofs.Ytehfcnndjhjkoaa.PA
open Go.RowKit Go.Proofs.YtehfcnndjhjkoaaW.PrintWords Go.Proofs.YtehfcnndjhjkoaaW.PrintLast Go.Proofs.YtehfcnndjhjkoaaW.PrintMore
attribute [local go_sem] max2_int min2_int max_two min_two max_three min_three max_four min_four   -- for this text's walks alone
set_option linter.unusedVariables false
set_option linter.unusedSimpArgs false

/-! ### spec_l5Index: function 77 -/
def spec_l5Index.l0 : Nat → List Int → Int → List Int → Int → Option (List Int)
  | 0, _, _, _, _ => none
  | k + 1, x0, x1, x5, x6 => if x6 ≥ 0 then (if 0 ≤ x6 then (if x6 < (x0.length : Int) then (if (rd x0 x6) = 0 then (none) else (if x6 < (x5.length : Int) then (spec_l5Index.l0 k x0 (wrap64 (Int.tdiv x1 (rd x0 x6))) (x5.set (x6 : Int).toNat (Int.tmod x1 (rd x0 x6))) (wrap64 (x6 - 1))) else (none))) else (none)) else (none)) else (some x5)
def spec_l5Index.f (k : Nat) (l0 : List Int) (a1 : Int) : Option (List Int) := if 0 ≤ (l0.length : Int) then (if ((l0.length : Int) : Int).toNat ≤ 35184372088832 then (spec_l5Index.l0 k l0 a1 (List.replicate ((l0.length : Int) : Int).toNat 0) (wrap64 ((l0.length : Int) - 1))) else (none)) else (none)
theorem spec_l5Index.mono_l : ∀ k, (∀ y0 y1 y2 y3, LeO (spec_l5Index.l0 k y0 y1 y2 y3) (spec_l5Index.l0 (k + 1) y0 y1 y2 y3))
  | 0 => fun _ _ _ _ r h => by simp [spec_l5Index.l0] at h
  | k + 1 => by
    have ih0 := spec_l5Index.mono_l k
    · intro y0 y1 y2 y3
      unfold spec_l5Index.l0
      repeat' first
      | (with_reducible exact ih0 _ _ _ _)
      | (with_reducible exact LeO.refl _)
      | (with_reducible exact LeO.none _)
      | (with_reducible refine LeO.ite ?_ ?_)
      | (with_reducible refine LeO.bind ?_ (fun _ => ?_))
      | exact ih0 _ _ _ _
      | exact LeO.none _
      | refine LeO.ite ?_ ?_
      | refine LeO.bind ?_ (fun _ => ?_)
theorem spec_l5Index.mono : ∀ a0 a1 k, LeO (spec_l5Index.f k a0 a1) (spec_l5Index.f (k + 1) a0 a1) := by
  intro a0 a1 k
  have ih0 := spec_l5Index.mono_l k
  unfold spec_l5Index.f
  repeat' first
      | (with_reducible exact ih0 _ _ _ _)
      | (with_reducible exact LeO.refl _)
      | (with_reducible exact LeO.none _)
      | (with_reducible refine LeO.ite ?_ ?_)
      | (with_reducible refine LeO.bind ?_ (fun _ => ?_))
      | exact ih0 _ _ _ _
      | exact LeO.none _
      | refine LeO.ite ?_ ?_
      | refine LeO.bind ?_ (fun _ => ?_)
set_option maxHeartbeats 8000000 in
set_option maxRecDepth 100000 in
theorem spec_l5Index.calls (k : Nat) (A0 : Option Addr) (c0 : Nat) (l0 : List Int) (a1 : Int) (r : List Int) (w : World) (hr0 : Kd.C (Kd.int .i64) w A0 l0.length l0) (hc0 : l0.length ≤ c0) (h : spec_l5Index.f k l0 a1 = some r) :
    Calls Try.prog 77 #[.slice A0 l0.length c0, .int .i64 a1] w fun e w' => ∃ v0_ : Value, e = .returned (v0_) ∧ Kd.R (Kd.int .i64) 3 w' w.heap.size (fun _ => True) v0_ r ∧ Below w.heap.size w w' := by
  have HR0 := Aside0.mk hr0
  have HC0 := Aside0.mk hc0
  clear hr0 hc0
  have HB := Aside0.mk (Below.refl w.heap.size w)
  have H : (if 0 ≤ (l0.length : Int) then (if ((l0.length : Int) : Int).toNat ≤ 35184372088832 then (spec_l5Index.l0 k l0 a1 (List.replicate ((l0.length : Int) : Int).toNat 0) (wrap64 ((l0.length : Int) - 1))) else (none)) else (none)) = some r := h
  clear h
  by_cases c3 : 0 ≤ (l0.length : Int)
  · rw [if_pos c3] at H
    have c3b0 := eq_true c3
    have c3b1 : decide (0 ≤ (l0.length : Int)) = true := decide_eq_true c3
    clear c3
    by_cases c4 : ((l0.length : Int) : Int).toNat ≤ 35184372088832
    · rw [if_pos c4] at H
      have c4b0 := eq_true c4
      have c4b1 : decide (((l0.length : Int) : Int).toNat ≤ 35184372088832) = true := decide_eq_true c4
      clear c4
      obtain ⟨y101, hy101⟩ : ∃ y_ : List Int, y_ = (List.replicate ((l0.length : Int) : Int).toNat 0) := ⟨_, rfl⟩
      replace H : (spec_l5Index.l0 k l0 a1 y101 (wrap64 ((l0.length : Int) - 1))) = some r := by first | (rw [hy101]; with_reducible exact H) | (have H2_ := (Option.bind_some _ _).symm.trans H; rw [hy101]; with_reducible exact H2_) | (have H2_ := (Option.bind_some _ _).symm.trans H; with_reducible exact H2_) | with_reducible exact H | (rw [hy101]; exact H) | exact H
      have Ny101 := Aside0.mk hy101
      clear hy101
      have H' := Aside0.mk H
      clear H
      go_enter Try.func77, Try.ntmps77
      go_wp2_with (first | ((with_reducible refine gate_dst (N := 9) rfl ?_); refine Kd.R_make (Kd.int .i64) _ 3 rfl (N := 9) rfl 22 _ _ rfl (l0.length : Int) rfl rfl Try.underlying22 (.int .i64 0) 8 info3 rfl (by decide) (by omega) 0 (ok := fun _ => True) (okp := fun _ => True) rfl (fun _ hk => hk) trivial (of_decide_eq_true (by first | (with_reducible assumption) | assumption)) (Nat.le_trans (Nat.mul_le_mul_right _ (of_decide_eq_true (by first | (with_reducible assumption) | assumption) : (l0.length : Int).toNat ≤ 35184372088832)) (by omega)) (Below.refl _ _) (Nat.le_refl _) ?_; intro v102 w5 ho6 hb hg_ hnew_; clear hg_ hnew_; (first | rw [← Ny101.out] at ho6 | (simp only [Int.reduceToNat] at ho6; rw [← Ny101.out] at ho6)); have n0_ := Aside0.mk (Kd.R_lower ho6 (below_size (by repeat (first | (with_reducible first | exact HB.out | apply below_alloc | apply pw_below_drewN | apply below_drew1) | exact HB.out)))); have n1_ := Aside0.mk (below_step (by repeat (first | (with_reducible first | exact HB.out | apply below_alloc | apply pw_below_drewN | apply below_drew1) | exact HB.out)) hb); clear HB; have HO103 := n0_; have HB := n1_; clear n0_ n1_; clear hb ho6))
      go_loopg [1, 6] k (fun kq v1 v6 w' => ∃ (x1_1 : Int) (x5_1 : List Int) (x6_1 : Int), v1 = .int .i64 x1_1 ∧ v6 = .int .i64 x6_1 ∧ Aside0 (spec_l5Index.l0 kq l0 x1_1 x5_1 x6_1 = some r) ∧ Aside0 (kq ≤ k) ∧ Aside0 (Kd.R (Kd.int .i64) 3 w' w.heap.size (fun _ => True) v102 x5_1) ∧ Aside0 (Below w.heap.size w w'))
      case atStart => exact ⟨(a1), (y101), (wrap64 ((l0.length : Int) - 1)), (by first | rfl | (simp; done) | (simp [*]; done)), (by first | rfl | (simp; done) | (simp [*]; done)), H', ⟨Nat.le_refl _⟩, ⟨by (with_reducible repeat (first | apply Kd.R_alloc | apply Kd.R_drewN | apply Kd.R_drew)); exact HO103.out⟩, ⟨by repeat (first | (with_reducible first | exact HB.out | apply below_alloc | apply pw_below_drewN | apply below_drew1) | exact HB.out)⟩⟩
      case round =>
        clear H'
        try clear p2
        try clear c3
        try clear c3b0
        try clear c3b1
        try clear c4
        try clear c4b0
        try clear c4b1
        try clear p6
        obtain ⟨x1_1, x5_1, x6_1, rfl, rfl, HA, HK1, HO_5, HB⟩ := hrel
        cases gk with
        | zero => exact absurd HA.out (by simp [spec_l5Index.l0])
        | succ k1 =>
          have H := HA.out
          clear HA
          simp only [spec_l5Index.l0] at H
          by_cases c7 : x6_1 ≥ 0
          · rw [if_pos c7] at H
            have c7b0 : decide (0 ≤ x6_1) = true := decide_eq_true c7
            clear c7
            by_cases c8 : 0 ≤ x6_1
            · rw [if_pos c8] at H
              have c8b0 : decide (0 ≤ x6_1) = true := decide_eq_true c8
              clear c8
              by_cases c9 : x6_1 < (l0.length : Int)
              · rw [if_pos c9] at H
                have c9b0 : decide (x6_1 < (l0.length : Int)) = true := decide_eq_true c9
                clear c9
                by_cases c10 : (rd l0 x6_1) = 0
                · rw [if_pos c10] at H
                  exact absurd H (by simp)
                · rw [if_neg c10] at H
                  have c10b0 : ((rd l0 x6_1) == 0) = false := beq_eq_false_iff_ne.mpr c10
                  have c10b1 : ((rd l0 x6_1) != 0) = true := bne_iff_ne.mpr c10
                  by_cases c11 : x6_1 < (x5_1.length : Int)
                  · rw [if_pos c11] at H
                    have c11b0 : decide (x6_1 < (x5_1.length : Int)) = true := decide_eq_true c11
                    clear c11
                    obtain ⟨y105, hy105⟩ : ∃ y_ : List Int, y_ = (x5_1.set (x6_1 : Int).toNat (Int.tmod x1_1 (rd l0 x6_1))) := ⟨_, rfl⟩
                    replace H : (spec_l5Index.l0 k1 l0 (wrap64 (Int.tdiv x1_1 (rd l0 x6_1))) y105 (wrap64 (x6_1 - 1))) = some r := by first | (rw [hy105]; with_reducible exact H) | (have H2_ := (Option.bind_some _ _).symm.trans H; rw [hy105]; with_reducible exact H2_) | (have H2_ := (Option.bind_some _ _).symm.trans H; with_reducible exact H2_) | with_reducible exact H | (rw [hy105]; exact H) | exact H
                    have Ny105 := Aside0.mk hy105
                    clear hy105
                    have H' := Aside0.mk H
                    clear H
                    have p104 : 0 ≤ (x6_1 : Int) := of_decide_eq_true (by first | (with_reducible assumption) | assumption)
                    have q104 : x6_1 < (l0.length : Int) := of_decide_eq_true (by first | (with_reducible assumption) | assumption)
                    obtain ⟨ad104, e104, hx104_0⟩ := Kd.at_int HR0.out x6_1 p104 q104
                    cases e104
                    replace hx104_0 := (HB.out.cell (World.block_lt_of_cell? w _ hx104_0)).trans hx104_0
                    replace p104 := eq_true p104
                    replace q104 := eq_true q104
                    have p12 : 0 ≤ (x6_1 : Int) := of_decide_eq_true (by first | (with_reducible assumption) | assumption)
                    have q12 : (x6_1 : Int) < ((x5_1.length : Int) : Int) := of_decide_eq_true (by first | (with_reducible assumption) | assumption)
                    obtain ⟨go12, co12, eo12, gb12, gl12, cl12, HG12⟩ := Kd.R_form HO_5.out (by omega)
                    (first | cases eo12 | (injection eo12 with ea_ en_ ec_; (first | subst ea_ | (injection ea_ with ea_; subst ea_)); subst ec_; clear en_))
                    have GB12 := Aside0.mk gb12
                    have GG12 := Aside0.mk HG12
                    clear gb12 gl12 HG12
                    obtain ⟨hx12_0, hf12_0⟩ := Kd.R_celln 0 HO_5.out (x6_1 : Int) p12 q12
                    replace p12 := eq_true p12
                    replace q12 := eq_true q12
                    have HP13 := Kd.R_putg HO_5.out (x6_1 : Int) (Int.tmod x1_1 (rd l0 x6_1))
                    go_wp2_with (first | ((with_reducible refine gate_store (t := 3) (p := 25) rfl ?_); refine store_event (t := 3) (p := 25) (v := ?vo_w14) (w1 := (wr.setCell ⟨go12, (x6_1 : Int).toNat, none⟩ (.int .i64 (Int.tmod x1_1 (rd l0 x6_1))))) ?hg ?ho ?hn ?hr ?_; (case ho => rfl); (case hg => rfl); (case hn => rfl); (case hr => first | (go_simp; done) | (go_simp; rfl)); intro w14 hw; have hg : wr.grownBy w14 (some go12) := (by rw [hw]; exact HP13.2); have hp_ : Kd.R (Kd.int .i64) 3 w14 w.heap.size (fun _ => True) (.slice (some ⟨go12, 0, none⟩) x5_1.length co12) y105 := (by rw [hw, Ny105.out]; exact HP13.1); clear HP13; have n0_ := Aside0.mk (hp_); have n1_ := Aside0.mk ((by rw [hw]; exact below_set (HB.out) GB12.out : Below w.heap.size w w14)); clear HO_5; clear HB; have HO_5 := n0_; have HB := n1_; clear n0_ n1_; clear hg hw hp_; have p106 : 0 ≤ (x6_1 : Int) := of_decide_eq_true (by first | (with_reducible assumption) | assumption); have q106 : x6_1 < (l0.length : Int) := of_decide_eq_true (by first | (with_reducible assumption) | assumption); obtain ⟨ad106, e106, hx106_0⟩ := Kd.at_int HR0.out x6_1 p106 q106; obtain rfl : ad104 = ad106 := (by injection e106); replace hx106_0 := (HB.out.cell (World.block_lt_of_cell? w _ hx106_0)).trans hx106_0; replace p106 := eq_true p106; replace q106 := eq_true q106))
                    go_roundg k1
                    case measure => have := HK1.out; omega
                    case rel => exact ⟨(wrap64 (Int.tdiv x1_1 (rd l0 x6_1))), (y105), (wrap64 (x6_1 - 1)), (by first | rfl | (simp; done) | (simp [*]; done)), (by first | rfl | (simp; done) | (simp [*]; done)), H', ⟨by have := HK1.out; omega⟩, ⟨by (with_reducible repeat (first | apply Kd.R_alloc | apply Kd.R_drewN | apply Kd.R_drew)); exact HO_5.out⟩, ⟨by repeat (first | (with_reducible first | exact HB.out | apply below_alloc | apply pw_below_drewN | apply below_drew1) | exact HB.out)⟩⟩
                  · rw [if_neg c11] at H
                    exact absurd H (by simp)
              · rw [if_neg c9] at H
                exact absurd H (by simp)
            · rw [if_neg c8] at H
              exact absurd H (by simp)
          · rw [if_neg c7] at H
            have c7b0 : decide (0 ≤ x6_1) = false := decide_eq_false c7
            clear c7
            obtain rfl := Option.some.inj H
            go_wp2
            go_ret
            exact ⟨_, by first | rfl | (simp [errW_none, errW_some] <;> rfl) | (simp [*, errW_none, errW_some] <;> rfl), by (with_reducible repeat (first | apply Kd.R_alloc | apply Kd.R_drewN | apply Kd.R_drew)); exact HO_5.out, by repeat (first | (with_reducible first | exact HB.out | apply below_alloc | apply pw_below_drewN | apply below_drew1) | exact HB.out)⟩
    · rw [if_neg c4] at H
      exact absurd H (by simp)
  · rw [if_neg c3] at H
    exact absurd H (by simp)

end Go.Proofs.Ytehfcnndjhjkoaa.PA

namespace Go.Proofs.Ytehfcnndjhjkoaa.PA
open Go.RowKit Go.Proofs.YtehfcnndjhjkoaaW.PrintWords Go.Proofs.YtehfcnndjhjkoaaW.PrintLast Go.Proofs.YtehfcnndjhjkoaaW.PrintMore
set_option linter.unusedVariables false
set_option linter.unusedSimpArgs false
theorem set_backI (n : Nat) (ys : List Int) (x : Int) : (List.replicate (n + 1) (0 : Int) ++ ys).set n x = List.replicate n 0 ++ x :: ys := by
  rw [List.replicate_succ']; simp
theorem l5Index_loop : ∀ (n : Nat) (p q dn : List Int) (c : Int), p.length = n → (p ++ q).length ≤ 1000000 → 0 ≤ c → c ≤ 1000000000 → (∀ a ∈ p, 1 ≤ a ∧ a ≤ 1000000000) →
    Ev (fun k => spec_l5Index.l0 k (p ++ q) c (List.replicate n 0 ++ dn) ((n : Int) - 1)) (digs p c ++ dn)
  | 0, p, q, dn, c, hp, _, _, _, _ => by
    obtain rfl := List.eq_nil_of_length_eq_zero hp
    refine evVal (evRound (Ev.now _) fun k => ?_) rfl
    simp only [spec_l5Index.l0]; rw [if_neg (by omega)]; simp [digs_nil]
  | n + 1, p, q, dn, c, hp, hl, h0, h1, hr => by
    obtain ⟨p, a, rfl, hq⟩ := snocI hp
    have ha := hr a (by simp)
    have ih := l5Index_loop n p (a :: q) (c % a :: dn) (c / a) hq (by simpa using hl) (Int.ediv_nonneg h0 (by omega)) (by have := Int.ediv_le_self a h0; omega) (fun x hx => hr x (by simp [hx]))
    rw [digs_snoc]
    refine evVal (evRound ih fun k => ?_) (by simp)
    have e : p ++ [a] ++ q = p ++ a :: q := by simp
    have hn : ((n + 1 : Nat) : Int) - 1 = (n : Int) := by omega
    have hlen : (p ++ [a] ++ q).length ≤ 1000000 := hl
    rw [e, hn]
    simp only [spec_l5Index.l0]
    rw [if_pos (by omega), if_pos (by omega), if_pos (by simp; omega), rd_last p q a n hq, if_neg (by omega), if_pos (by simp; omega), Int.toNat_natCast, set_backI,
      Int.tdiv_eq_ediv_of_nonneg h0, Int.tmod_eq_emod_of_nonneg h0, w64 (x := c / a) (by have := Int.ediv_nonneg h0 (show 0 ≤ a by omega); omega) (by have := Int.ediv_le_self a h0; omega),
      w64 (by omega) (by simp at hlen; omega)]
theorem l5Index_ev (s : List Int) (c : Int) (hl : s.length ≤ 1000000) (h0 : 0 ≤ c) (h1 : c ≤ 1000000000) (hr : ∀ a ∈ s, 1 ≤ a ∧ a ≤ 1000000000) : Ev (fun k => spec_l5Index.f k s c) (digs s c) := by
  have h := l5Index_loop s.length s [] [] c rfl (by simpa using hl) h0 h1 hr
  simp only [List.append_nil] at h
  refine Ev.congr (fun k => ?_) h
  simp only [spec_l5Index.f]
  rw [if_pos (by omega), if_pos (by omega), w64 (by omega) (by omega)]
  simp
end Go.Proofs.Ytehfcnndjhjkoaa.PA

namespace Go.Proofs.Ytehfcnndjhjkoaa.PA
open Go.RowKit Go.Proofs.YtehfcnndjhjkoaaW.PrintWords Go.Proofs.YtehfcnndjhjkoaaW.PrintLast Go.Proofs.YtehfcnndjhjkoaaW.PrintMore
set_option linter.unusedVariables false
set_option linter.unusedSimpArgs false
/-- The function of a window: each index moved by its start. -/
def winF (lt : List Int) (k : Nat) (i : Int) : Int := i + rd lt (k : Int)
theorem srcGo_snoc (f : Nat → Int → Int) : ∀ (p : List Int) (k : Nat) (x : Int), srcGo f k (p ++ [x]) = srcGo f k p ++ [f (k + p.length) x]
  | [], k, x => by simp [srcGo]
  | a :: p, k, x => by simp only [List.cons_append, srcGo, srcGo_snoc f p (k + 1) x, List.length_cons]; rw [show k + 1 + p.length = k + (p.length + 1) by omega]
theorem thrGo_snoc (sh : List Int) (f : Nat → Int → Int) : ∀ (p : List Int) (k : Nat) (b : Bool) (x : Int), thrGo sh f k b (p ++ [x]) = (thrGo sh f k b p && decide (0 ≤ f (k + p.length) x ∧ f (k + p.length) x ≤ wrap64 (rd sh ((k + p.length : Nat) : Int) - 1)))
  | [], k, b, x => by simp [thrGo]
  | a :: p, k, b, x => by simp only [List.cons_append, thrGo, thrGo_snoc sh f p (k + 1), List.length_cons]; rw [show k + 1 + p.length = k + (p.length + 1) by omega]
theorem srcGo_len' (f : Nat → Int → Int) : ∀ (c : List Int) (k : Nat), (srcGo f k c).length = c.length
  | [], _ => rfl
  | a :: c, k => by simp [srcGo, srcGo_len' f c]
theorem take_snocW (p : List Int) (j : Nat) (h : j < p.length) : p.take (j + 1) = p.take j ++ [rd p (j : Int)] := by
  rw [List.take_succ_eq_append_getElem h]; simp [rd, List.getD_eq_getElem?_getD, h]
theorem rd_memW (l : List Int) (i : Nat) (h : i < l.length) : rd l (i : Int) ∈ l := by
  simp only [rd, Int.toNat_natCast, List.getD_eq_getElem?_getD, List.getElem?_eq_getElem h, Option.getD_some]; exact List.getElem_mem h
/-- The index in the middle of the loop. -/
def midX (f : Nat → Int → Int) (cur : List Int) (j : Nat) : List Int := srcGo f 0 (cur.take j) ++ cur.drop j
theorem midX_len (f : Nat → Int → Int) (cur : List Int) (j : Nat) (h : j ≤ cur.length) : (midX f cur j).length = cur.length := by simp [midX, srcGo_len']; omega
theorem midX_rd (f : Nat → Int → Int) (cur : List Int) (j : Nat) (h : j < cur.length) : rd (midX f cur j) (j : Int) = rd cur (j : Int) := by
  have hl : (srcGo f 0 (cur.take j)).length = j := by simp [srcGo_len']; omega
  simp only [midX, rd, Int.toNat_natCast, List.getD_eq_getElem?_getD]
  rw [List.getElem?_append_right (by omega), hl, Nat.sub_self, List.getElem?_drop]; rfl
theorem midX_set (f : Nat → Int → Int) (cur : List Int) (j : Nat) (h : j < cur.length) : (midX f cur j).set j (f j (rd cur (j : Int))) = midX f cur (j + 1) := by
  have hl : (srcGo f 0 (cur.take j)).length = j := by simp [srcGo_len']; omega
  have hm : min j cur.length = j := by omega
  unfold midX
  rw [List.drop_eq_getElem_cons h, set_last _ _ _ _ j hl, take_snocW cur j h, srcGo_snoc]
  simp [hm]
def midQ (sh : List Int) (f : Nat → Int → Int) (cur : List Int) (j : Nat) : Bool := thrGo sh f 0 true (cur.take j)
theorem midQ_succ (sh : List Int) (f : Nat → Int → Int) (cur : List Int) (j : Nat) (h : j < cur.length) : midQ sh f cur (j + 1) = (midQ sh f cur j && decide (0 ≤ f j (rd cur (j : Int)) ∧ f j (rd cur (j : Int)) ≤ wrap64 (rd sh (j : Int) - 1))) := by
  have hm : min j cur.length = j := by omega
  unfold midQ
  rw [take_snocW cur j h, thrGo_snoc]; simp [hm]
def winL (c : Bool) (m1 m2 ls lt : List Int) (N : Nat) : List Int := ofL c m2 (fromL m1 ls (winF lt) N)
theorem thrGo_false (sh : List Int) (f : Nat → Int → Int) : ∀ (c : List Int) (k : Nat), thrGo sh f k false c = false
  | [], _ => rfl
  | a :: c, k => by simp only [thrGo, Bool.false_and]; exact thrGo_false sh f c (k + 1)
theorem thrGo_only (sh : List Int) (f : Nat → Int → Int) : ∀ (c : List Int) (k : Nat), thrGo sh f k true c = true → ∀ j : Nat, j < c.length → 0 ≤ f (k + j) (rd c (j : Int)) ∧ f (k + j) (rd c (j : Int)) ≤ wrap64 (rd sh ((k + j : Nat) : Int) - 1)
  | [], _, _, j, hj => by simp at hj
  | a :: c, k, h, j, hj => by
    simp only [thrGo, Bool.true_and] at h
    by_cases hd : 0 ≤ f k a ∧ f k a ≤ wrap64 (rd sh (k : Int) - 1)
    · rw [decide_eq_true hd] at h
      cases j with
      | zero => simpa [rd] using hd
      | succ j =>
        have := thrGo_only sh f c (k + 1) h j (by simpa using hj)
        rw [show k + 1 + j = k + (j + 1) by omega] at this
        rw [show rd (a :: c) ((j + 1 : Nat) : Int) = rd c (j : Int) from by simp only [rd, Int.toNat_natCast, List.getD_cons_succ]]
        exact this
    · rw [decide_eq_false hd, thrGo_false] at h; cases h
theorem one_range (sh cur : List Int) (f : Nat → Int → Int) (hl : sh.length = cur.length) (hs : ∀ x ∈ sh, 0 ≤ x ∧ x ≤ 10000) (hp : prod sh ≤ 10000) (h : thrGo sh f 0 true cur = true) : 0 ≤ numGo sh 0 0 (srcGo f 0 cur) ∧ numGo sh 0 0 (srcGo f 0 cur) < prod sh := by
  have hr := thrGo_only sh f cur 0 h
  have hw : ∀ k : Nat, k < cur.length → wrap64 (rd sh ((0 + k : Nat) : Int) - 1) = rd sh (k : Int) - 1 := fun k hk => by
    have := hs _ (rd_memW sh k (by omega)); rw [Nat.zero_add]; exact w64 (by omega) (by omega)
  refine num_range (fun a ha => ?_) (by omega) (by rw [srcGo_len', hl]) (fun k hk => ?_)
  · obtain ⟨k, hk, rfl⟩ := List.mem_iff_getElem.mp ha
    have := hr k (by omega)
    rw [hw k (by omega)] at this
    have e : rd sh (k : Int) = sh[k] := by simp [rd, List.getD_eq_getElem?_getD, hk]
    omega
  · rw [srcGo_len'] at hk
    rw [srcGo_rd f cur 0 k hk]
    have := hr k hk
    rw [hw k hk] at this
    omega
theorem winL_len (c : Bool) (m1 m2 ls lt : List Int) (N : Nat) : (winL c m1 m2 ls lt N).length = N := by rw [winL, ofL_len, fromL_len]
theorem winL_succ (c : Bool) (m1 m2 ls lt : List Int) (N : Nat) : winL c m1 m2 ls lt (N + 1) = winL c m1 m2 ls lt N ++ [ofV c m2 (fromOne m1 (winF lt) (idxL ls N))] := by simp [winL, fromL, ofL]
set_option maxHeartbeats 2000000 in
set_option maxRecDepth 100000 in
theorem l5Window_in (kc : Nat) (a : Bool) (Aa1 : Option Addr) (ca1 : Nat) (la1 : List Int) (Aa2 : Option Addr) (ca2 : Nat) (la2 : List Int) (At : Option Addr) (ct : Nat) (lt : List Int) (As : Option Addr) (cs : Nat) (ls : List Int) (w : World) (ha1 : Kd.C (Kd.int .i64) w Aa1 la1.length la1) (ka1 : la1.length ≤ ca1) (ha2 : Kd.C (Kd.int .i64) w Aa2 la2.length la2) (ka2 : la2.length ≤ ca2) (ht : Kd.C (Kd.int .i64) w At lt.length lt) (kt : lt.length ≤ ct) (hs : Kd.C (Kd.int .i64) w As ls.length ls) (ks : ls.length ≤ cs)
    (hl1 : la1.length = ls.length) (hlt : lt.length = ls.length) (h5 : ls.length ≤ 5) (hso : shOk ls = true) (hcn : spec_l3Count.f kc ls = some (prod ls)) (hr1 : ∀ x ∈ la1, 0 ≤ x ∧ x ≤ 10000) (hrt : ∀ x ∈ lt, -1000000000000000 ≤ x ∧ x ≤ 1000000000000000) (hp1 : prod la1 = la2.length) (hn2 : la2.length ≤ 10000) :
    Calls Try.prog 97 #[.agg #[.bool a, .slice Aa1 la1.length ca1, .slice Aa2 la2.length ca2], .slice At lt.length ct, .slice As ls.length cs] w fun e w' => ∃ v, e = .returned (.agg #[.bool a, .slice As ls.length cs, v]) ∧ Kd.R (Kd.int .i64) 3 w' w.heap.size (fun _ => True) v (winL a la1 la2 ls lt (prod ls).toNat) ∧ Below w.heap.size w w' := by
  have Ha1 := Aside0.mk ha1
  have Ka1 := Aside0.mk ka1
  clear ha1 ka1
  have Ha2 := Aside0.mk ha2
  have Ka2 := Aside0.mk ka2
  clear ha2 ka2
  have Ht := Aside0.mk ht
  have Kt := Aside0.mk kt
  have Hs := Aside0.mk hs
  have Ks := Aside0.mk ks
  have HL1 := Aside0.mk hl1
  have HLT := Aside0.mk hlt
  have HSO := Aside0.mk hso
  have HCN := Aside0.mk hcn
  have HR1 := Aside0.mk hr1
  have HRT := Aside0.mk hrt
  have HP1 := Aside0.mk hp1
  have HPP := Aside0.mk (shOk_prod hso)
  clear ht kt hs ks hl1 hlt hso hcn hr1 hrt hp1
  have HS := Aside0.mk (Sx.start w)
  go_enter Try.func97, Try.ntmps97
  go_wp2_with (first | ((with_reducible refine gate_dst (N := 3) rfl ?_); refine box_event ?hg (N := 3) ?hd (cs := #[.bool a, .slice Aa1 la1.length ca1, .slice Aa2 la2.length ca2]) (t := 28) ?hr ?_; (case hd => rfl); (case hg => rfl); (case hr => first | (go_simp; done) | (go_simp; rfl)); intro gA hg1 w1 hx1 hb1; have nS : Aside0 (Sx w w1 [(.blk gA #[.bool a, .slice Aa1 la1.length ca1, .slice Aa2 la2.length ca2] 28)]) := Aside0.mk (HS.out.box hg1 hx1 hb1); clear HS; have HS := nS; clear nS hg1 hx1 hb1) | ((with_reducible refine gate_dst (N := 6) rfl ?_); refine box_event ?hg (N := 6) ?hd (cs := #[.bool false, .slice none 0 0, .slice none 0 0]) (t := 28) ?hr ?_; (case hd => rfl); (case hg => rfl); (case hr => first | (go_simp; done) | (go_simp; rfl)); intro gR hg2 w2 hx2 hb2; have nS : Aside0 (Sx w w2 [(.blk gR #[.bool false, .slice none 0 0, .slice none 0 0] 28), (.blk gA #[.bool a, .slice Aa1 la1.length ca1, .slice Aa2 la2.length ca2] 28)]) := Aside0.mk (HS.out.box hg2 hx2 hb2); clear HS; have HS := nS; clear nS hg2 hx2 hb2) | ((with_reducible refine gate_dst (N := 15) rfl ?_); refine ev_load rfl 4 (.tmp 14) rfl ⟨gA, 0, none⟩ rfl (.bool a) ((blk_cell (HS.out.blk 1 rfl) 0).trans rfl) (by kernel_rfl) ?_) | ((with_reducible refine gate_dst (N := 17) rfl ?_); refine ev_nolit HS.out rfl (N := 17) rfl ?hr ?_; (case hr => first | (go_simp; done) | (go_simp; rfl)); intro Ad wd hd; have nS : Aside0 (Sx w wd [(.row (.slice Ad 0 0) []), (.blk gR #[.bool false, .slice none 0 0, .slice none 0 0] 28), (.blk gA #[.bool a, .slice Aa1 la1.length ca1, .slice Aa2 la2.length ca2] 28)]) := Aside0.mk hd; clear HS; have HS := nS; clear nS hd) | ((with_reducible refine gate_dst (N := 7) rfl ?_); refine box_event ?hg (N := 7) ?hd (cs := #[.bool false, .slice none 0 0, .slice none 0 0]) (t := 28) ?hr ?_; (case hd => rfl); (case hg => rfl); (case hr => first | (go_simp; done) | (go_simp; rfl)); intro gO hg3 w3 hx3 hb3; have nS : Aside0 (Sx w w3 [(.blk gO #[.bool false, .slice none 0 0, .slice none 0 0] 28), (.row (.slice Ad 0 0) []), (.blk gR #[.bool false, .slice none 0 0, .slice none 0 0] 28), (.blk gA #[.bool a, .slice Aa1 la1.length ca1, .slice Aa2 la2.length ca2] 28)]) := Aside0.mk (HS.out.box hg3 hx3 hb3); clear HS; have HS := nS; clear nS hg3 hx3 hb3) | ((with_reducible refine gate_store rfl ?_); refine store_named rfl 28 (.tmp 7) (.tmp 18) rfl gO #[.bool a, .slice As ls.length cs, .slice Ad 0 0] rfl rfl 28 #[.bool false, .slice none 0 0, .slice none 0 0] (HS.out.blk 0 rfl) (by kernel_rfl) rfl (by simp [Value.oneCell']) ?_; intro w4 hx4 hb4; have nS : Aside0 (Sx w w4 [(.blk gO #[.bool a, .slice As ls.length cs, .slice Ad 0 0] 28), (.row (.slice Ad 0 0) []), (.blk gR #[.bool false, .slice none 0 0, .slice none 0 0] 28), (.blk gA #[.bool a, .slice Aa1 la1.length ca1, .slice Aa2 la2.length ca2] 28)]) := Aside0.mk (HS.out.put 0 rfl hx4 hb4); clear HS; have HS := nS; clear nS hx4 hb4) | (go_at_call 74; refine (spec_l3Count.calls kc As cs ls (prod ls) _ (Kd.C_below Hs.out HS.out.below) Ks.out HCN.out).mono ?_; rintro e w5 ⟨rfl, hd5⟩; have hb5 := Drawn0.below hd5; clear hd5; have nS : Aside0 (Sx w w5 [(.blk gO #[.bool a, .slice As ls.length cs, .slice Ad 0 0] 28), (.row (.slice Ad 0 0) []), (.blk gR #[.bool false, .slice none 0 0, .slice none 0 0] 28), (.blk gA #[.bool a, .slice Aa1 la1.length ca1, .slice Aa2 la2.length ca2] 28)]) := Aside0.mk (HS.out.step hb5); clear HS; have HS := nS; clear nS hb5))
  obtain ⟨N, hN⟩ : ∃ N : Nat, prod ls = (N : Int) := Int.eq_ofNat_of_zero_le HPP.out.1
  have HN := Aside0.mk hN
  rw [hN]
  clear hN
  go_loopw [9, 10, 11, 12, 13] (fun z _ _ _ _ wr => ∃ (t : Nat) (A : Option Addr) (c : Nat), z = .int .i64 (t : Int) ∧ Aside0 (t ≤ N) ∧ Aside0 (Sx w wr [(.blk gO #[.bool a, .slice As ls.length cs, .slice A t c] 28), (.row (.slice A t c) (winL a la1 la2 ls lt t)), (.blk gR #[.bool false, .slice none 0 0, .slice none 0 0] 28), (.blk gA #[.bool a, .slice Aa1 la1.length ca1, .slice Aa2 la2.length ca2] 28)])) (fun z _ _ _ _ _ => N - (intOf z).toNat)
  case atStart => exact ⟨0, Ad, 0, rfl, ⟨Nat.zero_le _⟩, HS⟩
  case round =>
    clear HS
    obtain ⟨t, A, c, rfl, hj, HS⟩ := hrel
    have HB0 := Aside0.mk (show N ≤ 10000 by have := HPP.out; have := HN.out; omega)
    by_cases hlt : t < N
    · have hb0 := HB0.out
      have hidx := idxL_of (shOk_range HSO.out) (t := t) (by have := HN.out; omega)
      have HPOS := Aside0.mk (pos_of_prod (fun x hx => (shOk_range HSO.out x hx).1) (by have := HN.out; omega))
      obtain ⟨ki, hki⟩ := (l5Index_ev ls (t : Int) (by omega) (by omega) (by omega) (fun x hx => ⟨HPOS.out x hx, by have := (shOk_range HSO.out x hx).2; omega⟩)).rounds
      rw [← hidx] at hki
      have HKI := Aside0.mk hki
      have HCL := Aside0.mk (idxL_len ls t)
      have HRNG := Aside0.mk (show ∀ k : Nat, k < ls.length → 0 ≤ rd (idxL ls t) (k : Int) ∧ rd (idxL ls t) (k : Int) < rd ls (k : Int) from by rw [hidx]; exact digs_range ls.length ls (t : Int) rfl HPOS.out (by omega))
      clear hki hidx
      go_wp2_with (first | (go_at_call 77; refine (spec_l5Index.calls ki As cs ls (t : Int) (idxL ls t) _ (Kd.C_below Hs.out HS.out.below) Ks.out HKI.out).mono ?_; rintro e wy1 ⟨v, rfl, hry1, hby1⟩; obtain ⟨Ax, cx, hv_⟩ := Kd.R_slice hry1; rw [HCL.out] at hv_; subst hv_; have nS : Aside0 (Sx w wy1 [(.row (.slice Ax ls.length cx) (idxL ls t)), (.blk gO #[.bool a, .slice As ls.length cs, .slice A t c] 28), (.row (.slice A t c) (winL a la1 la2 ls lt t)), (.blk gR #[.bool false, .slice none 0 0, .slice none 0 0] 28), (.blk gA #[.bool a, .slice Aa1 la1.length ca1, .slice Aa2 la2.length ca2] 28)]) := Aside0.mk (HS.out.addRow hby1 hry1); clear HS; have HS := nS; clear nS hby1 hry1))
      go_loopw [11, 12] (fun q z wr => ∃ (j : Nat), z = .int .i64 (j : Int) ∧ q = .bool (midQ la1 (winF lt) (idxL ls t) j) ∧ Aside0 (j ≤ ls.length) ∧ Aside0 (Sx w wr [.row (.slice Ax ls.length cx) (midX (winF lt) (idxL ls t) j), (.blk gO #[.bool a, .slice As ls.length cs, .slice A t c] 28), (.row (.slice A t c) (winL a la1 la2 ls lt t)), (.blk gR #[.bool false, .slice none 0 0, .slice none 0 0] 28), (.blk gA #[.bool a, .slice Aa1 la1.length ca1, .slice Aa2 la2.length ca2] 28)])) (fun _ z _ => ls.length - (intOf z).toNat)
      case atStart => exact ⟨0, rfl, rfl, ⟨Nat.zero_le _⟩, by simpa [midX, srcGo] using HS⟩
      case round =>
        clear HS
        obtain ⟨j, rfl, rfl, hj', HS⟩ := hrel
        by_cases hlj : j < ls.length
        · have hcl : j < (idxL ls t).length := by have := HCL.out; omega
          have hml := midX_len (winF lt) (idxL ls t) j (Nat.le_of_lt hcl)
          have hcur := HRNG.out j hlj
          obtain ⟨gX, rfl, xX, fX⟩ := HS.out.at 0 rfl j (by omega)
          rw [midX_rd _ _ _ hcl] at xX
          obtain ⟨ad, rfl, y1⟩ := Kd.at_int (Kd.C_below Ht.out HS.out.below) (j : Int) (by omega) (by have := HLT.out; omega)
          obtain ⟨ad2, rfl, y2⟩ := Kd.at_int (Kd.C_below Ha1.out HS.out.below) (j : Int) (by omega) (by have := HL1.out; omega)
          rw [Int.toNat_natCast] at y1 y2
          have hst := HRT.out _ (rd_memW lt j (by have := HLT.out; omega))
          have hsh := HR1.out _ (rd_memW la1 j (by have := HL1.out; omega))
          have hqs := midQ_succ la1 (winF lt) (idxL ls t) j hcl
          have hxs := midX_set (winF lt) (idxL ls t) j hcl
          obtain ⟨x, hx⟩ : ∃ x, rd (idxL ls t) (j : Int) = x := ⟨_, rfl⟩
          obtain ⟨d, hd⟩ : ∃ d, rd lt (j : Int) = d := ⟨_, rfl⟩
          obtain ⟨z, hz⟩ : ∃ z, rd la1 (j : Int) = z := ⟨_, rfl⟩
          obtain ⟨q, hq⟩ : ∃ q, midQ la1 (winF lt) (idxL ls t) j = q := ⟨_, rfl⟩
          rw [hx] at xX hcur hqs hxs
          rw [hd] at y1 hst
          rw [hz] at y2 hsh hqs
          rw [hq] at hqs ⊢
          rw [show winF lt j x = x + d by unfold winF; rw [hd]] at hqs hxs
          rw [w64 (by omega) (by omega)] at hqs
          have HZE := Aside0.mk hz
          have HQS := Aside0.mk hqs
          have HXS := Aside0.mk hxs
          have HML := Aside0.mk hml
          have HBJ := Aside0.mk (show (j : Int) < (ls.length : Int) by omega)
          have hx0 := hcur.1
          have hx1 : x < 10001 := by have := HSO.out; have := (shOk_range HSO.out _ (rd_memW ls j hlj)).2; omega
          obtain ⟨d0, d1⟩ := hst
          obtain ⟨z0, z1⟩ := hsh
          have hw : IntKind.i64.wrap (x + d) = x + d := IntWalk.i64_in _ (by omega)
          have p0 : 0 ≤ (j : Int) := by omega
          have p1 : (j : Int) < (ls.length : Int) := by omega
          have p2 : (j : Int) < (lt.length : Int) := by have := HLT.out; omega
          have p3 : (j : Int) < (la1.length : Int) := by have := HL1.out; omega
          clear hqs hxs hml hcur hx hd hz hq hcl
          go_wp2
          go_still_tail 10, (by kernel_rfl)
          clear hw
          go_wp2
          obtain ⟨W2, hW2⟩ : ∃ W2, wr.drew.setCell ⟨gX, j, none⟩ (.int .i64 (x + d)) = W2 := ⟨_, rfl⟩
          have HS2 : Aside0 (Sx w W2 [.row (.slice (some ⟨gX, 0, none⟩) ls.length cx) (midX (winF lt) (idxL ls t) (j + 1)), (.blk gO #[.bool a, .slice As ls.length cs, .slice A t c] 28), (.row (.slice A t c) (winL a la1 la2 ls lt t)), (.blk gR #[.bool false, .slice none 0 0, .slice none 0 0] 28), (.blk gA #[.bool a, .slice (some ad2) la1.length ca1, .slice Aa2 la2.length ca2] 28)]) := Aside0.mk (by have := HS.out.drew.setAt 0 rfl j (x + d); rw [HXS.out] at this; rw [← hW2]; exact this)
          change Code.wp _ _ _ _ (wr.drew.setCell ⟨gX, j, none⟩ (.int .i64 (x + d)))
          rw [hW2]
          clear hW2 HS xX fX
          obtain ⟨g', e', xX2, fX2⟩ := HS2.out.at 0 rfl j (by rw [midX_len _ _ _ (by have := HCL.out; omega)]; have := HCL.out; omega)
          cases e'
          rw [show rd (midX (winF lt) (idxL ls t) (j + 1)) (j : Int) = x + d from by rw [← HXS.out]; exact rd_set _ _ _ (by have := HML.out; have := HCL.out; omega)] at xX2
          have xA2 : W2.cell? ⟨gA, 1, none⟩ = some (.slice (some ad2) la1.length ca1) := (blk_cell (HS2.out.blk 4 rfl) 1).trans rfl
          obtain ⟨ad3, e3, y3⟩ := Kd.at_int (Kd.C_below Ha1.out HS2.out.below) (j : Int) p0 p3
          cases e3
          rw [Int.toNat_natCast, HZE.out] at y3
          clear y1 y2 fX2
          cases q with
          | false =>
            go_quiet (fail)
            go_wp2
            go_roundw
            case rel => exact ⟨j + 1, by push_cast; rfl, by rw [HQS.out]; rfl, ⟨hlj⟩, ⟨HS2.out.drewN _⟩⟩
            case measure => simp [intOf]; omega
          | true =>
            by_cases h0 : 0 ≤ x + d
            · have h0' : decide (x + d ≥ 0) = true := decide_eq_true h0
              go_quiet (fail)
              go_wp2
              go_roundw
              case rel => exact ⟨j + 1, by push_cast; rfl, by rw [HQS.out, Bool.true_and]; congr 1; simp only [decide_eq_decide]; omega, ⟨hlj⟩, ⟨HS2.out.drewN _⟩⟩
              case measure => simp [intOf]; omega
            · have h0' : decide (x + d ≥ 0) = false := decide_eq_false h0
              have h0'' : decide (0 ≤ x + d) = false := decide_eq_false h0
              go_quiet (fail)
              go_wp2
              go_roundw
              case rel => exact ⟨j + 1, by push_cast; rfl, by rw [HQS.out, Bool.true_and]; congr 1; exact (decide_eq_false (fun h => h0 h.1)).symm, ⟨hlj⟩, ⟨HS2.out.drewN _⟩⟩
              case measure => simp [intOf]; omega
        · have hje : j = ls.length := by have := hj'.out; omega
          subst hje
          have hX : midX (winF lt) (idxL ls t) ls.length = srcGo (winF lt) 0 (idxL ls t) := by simp [midX, ← HCL.out]
          have hQ : midQ la1 (winF lt) (idxL ls t) ls.length = thrGo la1 (winF lt) 0 true (idxL ls t) := by simp [midQ, ← HCL.out]
          rw [hX] at HS
          rw [hQ]
          clear hX hQ hj'
          obtain ⟨q, hq⟩ : ∃ q, thrGo la1 (winF lt) 0 true (idxL ls t) = q := ⟨_, rfl⟩
          rw [hq]
          cases q with
          | false =>
            go_wp2_with (first | ((with_reducible refine gate_dst (N := 66) rfl ?_); refine ev_load rfl 4 (.tmp 65) rfl ⟨gA, 0, none⟩ rfl (.bool a) ((blk_cell (HS.out.blk 4 rfl) 0).trans rfl) (by kernel_rfl) ?_) | (go_at_call 75; refine (spec_l3Fill.calls a (fillV a) _ (l3Fill_eq a)).mono ?_; rintro e wz1 ⟨rfl, hdz1⟩; have hbz1 := Drawn0.below hdz1; clear hdz1; have nS : Aside0 (Sx w wz1 [(.row (.slice Ax ls.length cx) (srcGo (winF lt) 0 (idxL ls t))), (.blk gO #[.bool a, .slice As ls.length cs, .slice A t c] 28), (.row (.slice A t c) (winL a la1 la2 ls lt t)), (.blk gR #[.bool false, .slice none 0 0, .slice none 0 0] 28), (.blk gA #[.bool a, .slice Aa1 la1.length ca1, .slice Aa2 la2.length ca2] 28)]) := Aside0.mk (HS.out.step hbz1); clear HS; have HS := nS; clear nS hbz1) | ((with_reducible refine gate_dst (N := 78) rfl ?_); refine ev_load rfl 22 (.tmp 77) rfl ⟨gO, 2, none⟩ rfl (.slice A t c) ((blk_cell (HS.out.blk 1 rfl) 2).trans rfl) (by kernel_rfl) ?_) | ((with_reducible refine gate_dst (N := 81) rfl ?_); refine Sx.appendN (show Sx w _ [(.row (.slice Ax ls.length cx) (srcGo (winF lt) 0 (idxL ls t))), (.blk gO #[.bool a, .slice As ls.length cs, .slice A t c] 28), (.row (.slice A t c) (winL a la1 la2 ls lt t)), (.blk gR #[.bool false, .slice none 0 0, .slice none 0 0] 28), (.blk gA #[.bool a, .slice Aa1 la1.length ca1, .slice Aa2 la2.length ca2] 28)] from (by repeat (first | (with_reducible exact HS.out) | (with_reducible apply Sx.drew) | (with_reducible apply Sx.drewN) | (with_reducible apply Sx.alloc)))) 2 rfl t (winL_len a la1 la2 ls lt t) rfl (.tmp 78) (.tmp 80) rfl rfl (by kernel_rfl) (fillV a) rfl rfl (by have := HB0.out; omega) ?_; intro A2 c2 w2 n2; have nS : Aside0 (Sx w w2 [(.row (.slice Ax ls.length cx) (srcGo (winF lt) 0 (idxL ls t))), (.blk gO #[.bool a, .slice As ls.length cs, .slice A t c] 28), (.row (.slice A2 (t + 1) c2) (winL a la1 la2 ls lt t ++ [fillV a])), (.blk gR #[.bool false, .slice none 0 0, .slice none 0 0] 28), (.blk gA #[.bool a, .slice Aa1 la1.length ca1, .slice Aa2 la2.length ca2] 28)]) := Aside0.mk n2; clear HS n2; have HS := nS; clear nS) | ((with_reducible refine gate_store rfl ?_); refine ev_store rfl 22 (.tmp 82) (.tmp 81) rfl gO 2 rfl (.slice A2 (t + 1) c2) rfl #[.bool a, .slice As ls.length cs, .slice A t c] 28 (HS.out.blk 1 rfl) (show 2 < 3 from by decide) rfl (by kernel_rfl) ?_; intro wz2 hxz2 hbz2; have nS : Aside0 (Sx w wz2 [(.row (.slice Ax ls.length cx) (srcGo (winF lt) 0 (idxL ls t))), (.blk gO #[.bool a, .slice As ls.length cs, .slice A2 (t + 1) c2] 28), (.row (.slice A2 (t + 1) c2) (winL a la1 la2 ls lt t ++ [fillV a])), (.blk gR #[.bool false, .slice none 0 0, .slice none 0 0] 28), (.blk gA #[.bool a, .slice Aa1 la1.length ca1, .slice Aa2 la2.length ca2] 28)]) := Aside0.mk (HS.out.put 1 rfl hxz2 hbz2); clear HS; have HS := nS; clear nS hxz2 hbz2))
            refine ⟨⟨t + 1, A2, c2, by push_cast; rfl, ⟨by omega⟩, ⟨?_⟩⟩, by simp [intOf]; omega⟩
            rw [winL_succ, show ofV a la2 (fromOne la1 (winF lt) (idxL ls t)) = fillV a from by simp [fromOne, hq, ofV]]
            exact HS.out.sub (List.sublist_cons_self _ _)
          | true =>
            go_wp2_with (first | ((with_reducible refine gate_dst (N := 66) rfl ?_); refine ev_load rfl 4 (.tmp 65) rfl ⟨gA, 0, none⟩ rfl (.bool a) ((blk_cell (HS.out.blk 4 rfl) 0).trans rfl) (by kernel_rfl) ?_) | (go_at_call 75; refine (spec_l3Fill.calls a (fillV a) _ (l3Fill_eq a)).mono ?_; rintro e wz1 ⟨rfl, hdz1⟩; have hbz1 := Drawn0.below hdz1; clear hdz1; have nS : Aside0 (Sx w wz1 [(.row (.slice Ax ls.length cx) (srcGo (winF lt) 0 (idxL ls t))), (.blk gO #[.bool a, .slice As ls.length cs, .slice A t c] 28), (.row (.slice A t c) (winL a la1 la2 ls lt t)), (.blk gR #[.bool false, .slice none 0 0, .slice none 0 0] 28), (.blk gA #[.bool a, .slice Aa1 la1.length ca1, .slice Aa2 la2.length ca2] 28)]) := Aside0.mk (HS.out.step hbz1); clear HS; have HS := nS; clear nS hbz1))
            have hrg := one_range la1 (idxL ls t) (winF lt) (by rw [HL1.out, HCL.out]) HR1.out (by have := HP1.out; omega) hq
            obtain ⟨m, hm⟩ : ∃ m, numGo la1 0 0 (srcGo (winF lt) 0 (idxL ls t)) = m := ⟨_, rfl⟩
            have hxl : (srcGo (winF lt) 0 (idxL ls t)).length = ls.length := by rw [srcGo_len', HCL.out]
            obtain ⟨k5, hk5⟩ := (l5At_ev la1 (srcGo (winF lt) 0 (idxL ls t)) (by rw [hxl, HL1.out]) (by have := HL1.out; omega)).rounds
            rw [hm] at hk5 hrg
            have xA1 : wz1.cell? ⟨gA, 1, none⟩ = some (.slice Aa1 la1.length ca1) := (blk_cell (HS.out.blk 4 rfl) 1).trans rfl
            have xA2 : wz1.cell? ⟨gA, 2, none⟩ = some (.slice Aa2 la2.length ca2) := (blk_cell (HS.out.blk 4 rfl) 2).trans rfl
            obtain ⟨ad, rfl, y1⟩ := Kd.at_int (Kd.C_below Ha2.out HS.out.below) m hrg.1 (by have := HP1.out; omega)
            have m0 := hrg.1
            have m1 : m < (la2.length : Int) := by have := HP1.out; omega
            have HM := Aside0.mk hm
            clear hrg hm
            have hcall : ∀ n, Calls Try.prog 78 #[.slice Aa1 la1.length ca1, .slice Ax ls.length cx] (wz1.drewN n) fun e w' => e = .returned (.int .i64 m) ∧ ∃ k, w' = (wz1.drewN n).drewN k := fun n => by
              have hc := spec_l5At.calls k5 Aa1 ca1 la1 Ax cx (srcGo (winF lt) 0 (idxL ls t)) m (wz1.drewN n) (Kd.C_below Ha1.out (HS.out.drewN n).below) Ka1.out ((HS.out.drewN n).C 0 rfl) (HS.out.cap 0 rfl) hk5
              rw [hxl] at hc
              exact hc.mono fun _ _ h => ⟨h.1, h.2.out⟩
            go_quiet ((go_at_call 78; exact Calls.quiet_of (hcall _)))
            clear hcall y1 xA1 xA2
            have nS : Aside0 (Sx w (wz1.drewN nq) [(.row (.slice Ax ls.length cx) (srcGo (winF lt) 0 (idxL ls t))), (.blk gO #[.bool a, .slice As ls.length cs, .slice A t c] 28), (.row (.slice A t c) (winL a la1 la2 ls lt t)), (.blk gR #[.bool false, .slice none 0 0, .slice none 0 0] 28), (.blk gA #[.bool a, .slice Aa1 la1.length ca1, .slice (some ad) la2.length ca2] 28)]) := Aside0.mk (HS.out.drewN nq)
            clear HS; have HS := nS; clear nS
            go_wp2_with (first | ((with_reducible refine gate_dst (N := 78) rfl ?_); refine ev_load rfl 22 (.tmp 77) rfl ⟨gO, 2, none⟩ rfl (.slice A t c) ((blk_cell (HS.out.blk 1 rfl) 2).trans rfl) (by kernel_rfl) ?_) | ((with_reducible refine gate_dst (N := 81) rfl ?_); refine Sx.appendN (show Sx w _ [(.row (.slice Ax ls.length cx) (srcGo (winF lt) 0 (idxL ls t))), (.blk gO #[.bool a, .slice As ls.length cs, .slice A t c] 28), (.row (.slice A t c) (winL a la1 la2 ls lt t)), (.blk gR #[.bool false, .slice none 0 0, .slice none 0 0] 28), (.blk gA #[.bool a, .slice Aa1 la1.length ca1, .slice (some ad) la2.length ca2] 28)] from (by repeat (first | (with_reducible exact HS.out) | (with_reducible apply Sx.drew) | (with_reducible apply Sx.drewN) | (with_reducible apply Sx.alloc)))) 2 rfl t (winL_len a la1 la2 ls lt t) rfl (.tmp 78) (.tmp 80) rfl rfl (by kernel_rfl) (rd la2 m) rfl rfl (by have := HB0.out; omega) ?_; intro A2 c2 w2 n2; have nS : Aside0 (Sx w w2 [(.row (.slice Ax ls.length cx) (srcGo (winF lt) 0 (idxL ls t))), (.blk gO #[.bool a, .slice As ls.length cs, .slice A t c] 28), (.row (.slice A2 (t + 1) c2) (winL a la1 la2 ls lt t ++ [rd la2 m])), (.blk gR #[.bool false, .slice none 0 0, .slice none 0 0] 28), (.blk gA #[.bool a, .slice Aa1 la1.length ca1, .slice (some ad) la2.length ca2] 28)]) := Aside0.mk n2; clear HS n2; have HS := nS; clear nS) | ((with_reducible refine gate_store rfl ?_); refine ev_store rfl 22 (.tmp 82) (.tmp 81) rfl gO 2 rfl (.slice A2 (t + 1) c2) rfl #[.bool a, .slice As ls.length cs, .slice A t c] 28 (HS.out.blk 1 rfl) (show 2 < 3 from by decide) rfl (by kernel_rfl) ?_; intro wz2 hxz2 hbz2; have nS : Aside0 (Sx w wz2 [(.row (.slice Ax ls.length cx) (srcGo (winF lt) 0 (idxL ls t))), (.blk gO #[.bool a, .slice As ls.length cs, .slice A2 (t + 1) c2] 28), (.row (.slice A2 (t + 1) c2) (winL a la1 la2 ls lt t ++ [rd la2 m])), (.blk gR #[.bool false, .slice none 0 0, .slice none 0 0] 28), (.blk gA #[.bool a, .slice Aa1 la1.length ca1, .slice (some ad) la2.length ca2] 28)]) := Aside0.mk (HS.out.put 1 rfl hxz2 hbz2); clear HS; have HS := nS; clear nS hxz2 hbz2))
            refine ⟨⟨t + 1, A2, c2, by push_cast; rfl, ⟨by omega⟩, ⟨?_⟩⟩, by simp [intOf]; omega⟩
            rw [winL_succ, show ofV a la2 (fromOne la1 (winF lt) (idxL ls t)) = rd la2 m from by simp [fromOne, hq, ofV, HM.out]; omega]
            exact HS.out.sub (List.sublist_cons_self _ _)
    · have htN : t = N := by have := hj.out; omega
      subst htN
      go_wp2_with (first | ((with_reducible refine gate_dst (N := 83) rfl ?_); refine wpList_load_row rfl 28 (.tmp 7) rfl gO rfl 28 #[.bool a, .slice As ls.length cs, .slice A t c] (0, 0) _ (HS.out.blk 0 rfl) Try.underlying28 rfl (by kernel_rfl) ?_) | ((with_reducible refine gate_store rfl ?_); refine store_named rfl 28 (.tmp 6) (.tmp 83) rfl gR #[.bool a, .slice As ls.length cs, .slice A t c] rfl rfl 28 #[.bool false, .slice none 0 0, .slice none 0 0] (HS.out.blk 2 rfl) (by kernel_rfl) rfl (by simp [Value.oneCell']) ?_; intro wu2 hxu2 hbu2; have nS : Aside0 (Sx w wu2 [(.blk gO #[.bool a, .slice As ls.length cs, .slice A t c] 28), (.row (.slice A t c) (winL a la1 la2 ls lt t)), (.blk gR #[.bool a, .slice As ls.length cs, .slice A t c] 28), (.blk gA #[.bool a, .slice Aa1 la1.length ca1, .slice Aa2 la2.length ca2] 28)]) := Aside0.mk (HS.out.put 2 rfl hxu2 hbu2); clear HS; have HS := nS; clear nS hxu2 hbu2))
      refine bodyPost_ret (results_cell_row rfl _ _ gR 28 #[.bool a, .slice As ls.length cs, .slice A t c] (0, 0) _ rfl (HS.out.blk 2 rfl) Try.underlying28 rfl (by kernel_rfl)) rfl ?_
      rw [show (prod ls).toNat = t from by rw [HN.out]; rfl]
      exact ⟨_, rfl, HS.out.row 1 rfl, HS.out.below⟩
end Go.Proofs.Ytehfcnndjhjkoaa.PA

-- By a program (prt.py, over the print of the kit), for this claim. Not trusted: Lean checks it.
namespace Go.Proofs.Ytehfcnndjhjkoaa.PA
open Go.RowKit Go.Proofs.YtehfcnndjhjkoaaW.PrintWords Go.Proofs.YtehfcnndjhjkoaaW.PrintLast Go.Proofs.YtehfcnndjhjkoaaW.PrintMore
attribute [local go_sem] max2_int min2_int max_two min_two max_three min_three max_four min_four   -- for this text's walks alone
set_option linter.unusedVariables false
set_option linter.unusedSimpArgs false

/-! ### impl_Array_rank: function 90 -/
def impl_Array_rank.f (a0_0 : Bool) (l0_1 : List Int) (l0_2 : List Int) : Option (Int) := some (l0_1.length : Int)
set_option maxHeartbeats 8000000 in
set_option maxRecDepth 100000 in
theorem impl_Array_rank.calls (a0_0 : Bool) (A0_1 : Option Addr) (c0_1 : Nat) (l0_1 : List Int) (A0_2 : Option Addr) (c0_2 : Nat) (l0_2 : List Int) (r : Int) (w : World) (hr0_1 : Kd.C (Kd.int .i64) w A0_1 l0_1.length l0_1) (hc0_1 : l0_1.length ≤ c0_1) (hr0_2 : Kd.C (Kd.int .i64) w A0_2 l0_2.length l0_2) (hc0_2 : l0_2.length ≤ c0_2) (h : impl_Array_rank.f a0_0 l0_1 l0_2 = some r) :
    Calls Try.prog 90 #[.agg #[.bool a0_0, .slice A0_1 l0_1.length c0_1, .slice A0_2 l0_2.length c0_2]] w fun e w' => e = .returned (.int .i64 r) ∧ Below w.heap.size w w' := by
  have hu28 := Try.underlying28
  have HR0_1 := Aside0.mk hr0_1
  have HC0_1 := Aside0.mk hc0_1
  clear hr0_1 hc0_1
  have HR0_2 := Aside0.mk hr0_2
  have HC0_2 := Aside0.mk hc0_2
  clear hr0_2 hc0_2
  have HB := Aside0.mk (Below.refl w.heap.size w)
  have H : (some (l0_1.length : Int)) = some r := h
  clear h
  obtain rfl := Option.some.inj H
  go_enter Try.func90, Try.ntmps90
  go_wp2_with (first | ((with_reducible refine gate_dst (N := 1) rfl ?_); refine box_event ?hg (N := 1) ?hd (cs := #[.bool a0_0, .slice A0_1 l0_1.length c0_1, .slice A0_2 l0_2.length c0_2]) (t := 28) ?hr ?_; (case hd => rfl); (case hg => rfl); (case hr => first | (go_simp; done) | (go_simp; rfl)); intro gb101 hg w2 hbox hb; have n0_ := Aside0.mk (below_step (by repeat (first | (with_reducible first | exact HB.out | apply below_alloc | apply pw_below_drewN | apply below_drew1) | exact HB.out)) hb); have n1_ := Aside0.mk (hbox); have n2_ := Aside0.mk ((by rw [hg]; exact (below_size (by repeat (first | (with_reducible first | exact HB.out | apply below_alloc | apply pw_below_drewN | apply below_drew1) | exact HB.out))) : w.heap.size ≤ gb101)); have n3_ := Aside0.mk ((by rw [hg]; exact (below_size (by repeat (first | (with_reducible first | exact HB.out | apply below_alloc | apply pw_below_drewN | apply below_drew1) | exact HB.out))) : w.heap.size ≤ gb101)); clear HB; have HB := n0_; have BK101 := n1_; have GW101 := n2_; have GE101 := n3_; clear n0_ n1_ n2_ n3_; clear hb hbox hg; have hcz3_0 : w2.cell? ⟨gb101, 0, none⟩ = some (.bool a0_0) := (blk_cell BK101.out 0).trans rfl; have hcz3_1 : w2.cell? ⟨gb101, 1, none⟩ = some (.slice A0_1 l0_1.length c0_1) := (blk_cell BK101.out 1).trans rfl; have hcz3_2 : w2.cell? ⟨gb101, 2, none⟩ = some (.slice A0_2 l0_2.length c0_2) := (blk_cell BK101.out 2).trans rfl; have hfz3_0 := blk_frozen BK101.out 0; have hfz3_1 := blk_frozen BK101.out 1; have hfz3_2 := blk_frozen BK101.out 2))
  go_ret
  exact ⟨by first | rfl | (simp [errW_none, errW_some] <;> rfl) | (simp [*, errW_none, errW_some] <;> rfl), by repeat (first | (with_reducible first | exact HB.out | apply below_alloc | apply pw_below_drewN | apply below_drew1 | refine below_set ?_ GE101.out) | exact HB.out)⟩

end Go.Proofs.Ytehfcnndjhjkoaa.PA

-- By a program (prt.py, over the print of the kit), for this claim. Not trusted: Lean checks it.
namespace Go.Proofs.Ytehfcnndjhjkoaa.PA
open Go.RowKit Go.Proofs.YtehfcnndjhjkoaaW.PrintWords Go.Proofs.YtehfcnndjhjkoaaW.PrintLast Go.Proofs.YtehfcnndjhjkoaaW.PrintMore
attribute [local go_sem] max2_int min2_int max_two min_two max_three min_three max_four min_four   -- for this text's walks alone
set_option linter.unusedVariables false
set_option linter.unusedSimpArgs false

/-! ### impl_listOk: function 99 -/
def impl_listOk.f (a0_0 : Bool) (l0_1 : List Int) (l0_2 : List Int) : Option (Int) := (impl_Array_rank.f a0_0 l0_1 l0_2).bind fun t102 => (if t102 > 1 then (some 4) else (if a0_0 = true then (some 3) else (some 0)))
set_option maxHeartbeats 8000000 in
set_option maxRecDepth 100000 in
theorem impl_listOk.calls (a0_0 : Bool) (A0_1 : Option Addr) (c0_1 : Nat) (l0_1 : List Int) (A0_2 : Option Addr) (c0_2 : Nat) (l0_2 : List Int) (r : Int) (w : World) (hr0_1 : Kd.C (Kd.int .i64) w A0_1 l0_1.length l0_1) (hc0_1 : l0_1.length ≤ c0_1) (hr0_2 : Kd.C (Kd.int .i64) w A0_2 l0_2.length l0_2) (hc0_2 : l0_2.length ≤ c0_2) (h : impl_listOk.f a0_0 l0_1 l0_2 = some r) :
    Calls Try.prog 99 #[.agg #[.bool a0_0, .slice A0_1 l0_1.length c0_1, .slice A0_2 l0_2.length c0_2]] w fun e w' => e = .returned (.int .i64 r) ∧ Below w.heap.size w w' := by
  have hu28 := Try.underlying28
  have HR0_1 := Aside0.mk hr0_1
  have HC0_1 := Aside0.mk hc0_1
  clear hr0_1 hc0_1
  have HR0_2 := Aside0.mk hr0_2
  have HC0_2 := Aside0.mk hc0_2
  clear hr0_2 hc0_2
  have HB := Aside0.mk (Below.refl w.heap.size w)
  have H : ((impl_Array_rank.f a0_0 l0_1 l0_2).bind fun t102 => (if t102 > 1 then (some 4) else (if a0_0 = true then (some 3) else (some 0)))) = some r := h
  clear h
  replace H := Option.bind_eq_some_iff.mp H
  obtain ⟨t102, A20, H⟩ := H
  replace H : (if t102 > 1 then (some 4) else (if a0_0 = true then (some 3) else (some 0))) = some r := H
  have A2 := Aside0.mk A20
  clear A20
  by_cases c3 : t102 > 1
  · rw [if_pos c3] at H
    have c3b0 : decide (1 < t102) = true := decide_eq_true c3
    clear c3
    obtain rfl := Option.some.inj H
    go_enter Try.func99, Try.ntmps99
    go_wp2_with (first | ((with_reducible refine gate_dst (N := 1) rfl ?_); refine box_event ?hg (N := 1) ?hd (cs := #[.bool a0_0, .slice A0_1 l0_1.length c0_1, .slice A0_2 l0_2.length c0_2]) (t := 28) ?hr ?_; (case hd => rfl); (case hg => rfl); (case hr => first | (go_simp; done) | (go_simp; rfl)); intro gb101 hg w4 hbox hb; have n0_ := Aside0.mk (below_step (by repeat (first | (with_reducible first | exact HB.out | apply below_alloc | apply pw_below_drewN | apply below_drew1) | exact HB.out)) hb); have n1_ := Aside0.mk (hbox); have n2_ := Aside0.mk ((by rw [hg]; exact (below_size (by repeat (first | (with_reducible first | exact HB.out | apply below_alloc | apply pw_below_drewN | apply below_drew1) | exact HB.out))) : w.heap.size ≤ gb101)); have n3_ := Aside0.mk ((by rw [hg]; exact (below_size (by repeat (first | (with_reducible first | exact HB.out | apply below_alloc | apply pw_below_drewN | apply below_drew1) | exact HB.out))) : w.heap.size ≤ gb101)); clear HB; have HB := n0_; have BK101 := n1_; have GW101 := n2_; have GE101 := n3_; clear n0_ n1_ n2_ n3_; clear hb hbox hg; have hcz5_0 : w4.cell? ⟨gb101, 0, none⟩ = some (.bool a0_0) := (blk_cell BK101.out 0).trans rfl; have hcz5_1 : w4.cell? ⟨gb101, 1, none⟩ = some (.slice A0_1 l0_1.length c0_1) := (blk_cell BK101.out 1).trans rfl; have hcz5_2 : w4.cell? ⟨gb101, 2, none⟩ = some (.slice A0_2 l0_2.length c0_2) := (blk_cell BK101.out 2).trans rfl; have hfz5_0 := blk_frozen BK101.out 0; have hfz5_1 := blk_frozen BK101.out 1; have hfz5_2 := blk_frozen BK101.out 2) | ((with_reducible refine gate_callee (f := 90) rfl ?_); refine goesL_ (some 4) rfl rfl Try.func90 (by kernel_rfl) rfl #[.agg #[.bool a0_0, .slice A0_1 l0_1.length c0_1, .slice A0_2 l0_2.length c0_2]] rfl (by (try simp only [List.map_toArray, List.map_cons, List.map_nil]); first | done | rfl | (simp only [List.length_drop, List.length_take]; rfl)) ?_; (with_reducible refine (impl_Array_rank.calls a0_0 _ _ l0_1 _ _ l0_2 t102 _ ?side1 ?side2 ?side3 ?side4 A2.out).mono ?_); (case side1 => repeat (first | exact (Kd.C_below HR0_1.out HB.out) | (with_reducible refine Kd.C_alloc ?_ _) | (with_reducible refine Kd.C_drewN ?_ _) | (with_reducible refine Kd.C_drew ?_))); (case side2 => exact HC0_1.out); (case side3 => repeat (first | exact (Kd.C_below HR0_2.out HB.out) | (with_reducible refine Kd.C_alloc ?_ _) | (with_reducible refine Kd.C_drewN ?_ _) | (with_reducible refine Kd.C_drew ?_))); (case side4 => exact HC0_2.out); rintro e w6 ⟨rfl, hb⟩; refine ⟨_, rfl, ?_⟩; have n0_ := Aside0.mk (blk_below (g := gb101) (o := .cells #[.bool a0_0, .slice A0_1 l0_1.length c0_1, .slice A0_2 l0_2.length c0_2] 28 (0, 0)) (by (with_reducible repeat (first | refine blk_drewN ?_ _ | refine blk_drew ?_ | refine blk_alloc ?_ _)); exact BK101.out) hb); have n1_ := Aside0.mk (below_step (by repeat (first | (with_reducible first | exact HB.out | apply below_alloc | apply pw_below_drewN | apply below_drew1 | refine below_set ?_ GE101.out) | exact HB.out)) hb); clear BK101; clear HB; have BK101 := n0_; have HB := n1_; clear n0_ n1_; (try clear hb); (try clear hb2); (try clear hk); (try clear hi)))
    go_ret
    exact ⟨by first | rfl | (simp [errW_none, errW_some] <;> rfl) | (simp [*, errW_none, errW_some] <;> rfl), by repeat (first | (with_reducible first | exact HB.out | apply below_alloc | apply pw_below_drewN | apply below_drew1 | refine below_set ?_ GE101.out) | exact HB.out)⟩
  · rw [if_neg c3] at H
    have c3b0 : decide (1 < t102) = false := decide_eq_false c3
    clear c3
    by_cases c7 : a0_0 = true
    · subst c7
      have H1 : (some 3) = some r := by rw [if_pos rfl] at H; exact H
      clear H
      have H := H1
      clear H1
      obtain rfl := Option.some.inj H
      go_enter Try.func99, Try.ntmps99
      go_wp2_with (first | ((with_reducible refine gate_dst (N := 1) rfl ?_); refine box_event ?hg (N := 1) ?hd (cs := #[.bool true, .slice A0_1 l0_1.length c0_1, .slice A0_2 l0_2.length c0_2]) (t := 28) ?hr ?_; (case hd => rfl); (case hg => rfl); (case hr => first | (go_simp; done) | (go_simp; rfl)); intro gb101 hg w8 hbox hb; have n0_ := Aside0.mk (below_step (by repeat (first | (with_reducible first | exact HB.out | apply below_alloc | apply pw_below_drewN | apply below_drew1) | exact HB.out)) hb); have n1_ := Aside0.mk (hbox); have n2_ := Aside0.mk ((by rw [hg]; exact (below_size (by repeat (first | (with_reducible first | exact HB.out | apply below_alloc | apply pw_below_drewN | apply below_drew1) | exact HB.out))) : w.heap.size ≤ gb101)); have n3_ := Aside0.mk ((by rw [hg]; exact (below_size (by repeat (first | (with_reducible first | exact HB.out | apply below_alloc | apply pw_below_drewN | apply below_drew1) | exact HB.out))) : w.heap.size ≤ gb101)); clear HB; have HB := n0_; have BK101 := n1_; have GW101 := n2_; have GE101 := n3_; clear n0_ n1_ n2_ n3_; clear hb hbox hg; have hcz9_0 : w8.cell? ⟨gb101, 0, none⟩ = some (.bool true) := (blk_cell BK101.out 0).trans rfl; have hcz9_1 : w8.cell? ⟨gb101, 1, none⟩ = some (.slice A0_1 l0_1.length c0_1) := (blk_cell BK101.out 1).trans rfl; have hcz9_2 : w8.cell? ⟨gb101, 2, none⟩ = some (.slice A0_2 l0_2.length c0_2) := (blk_cell BK101.out 2).trans rfl; have hfz9_0 := blk_frozen BK101.out 0; have hfz9_1 := blk_frozen BK101.out 1; have hfz9_2 := blk_frozen BK101.out 2) | ((with_reducible refine gate_callee (f := 90) rfl ?_); refine goesL_ (some 4) rfl rfl Try.func90 (by kernel_rfl) rfl #[.agg #[.bool true, .slice A0_1 l0_1.length c0_1, .slice A0_2 l0_2.length c0_2]] rfl (by (try simp only [List.map_toArray, List.map_cons, List.map_nil]); first | done | rfl | (simp only [List.length_drop, List.length_take]; rfl)) ?_; (with_reducible refine (impl_Array_rank.calls true _ _ l0_1 _ _ l0_2 t102 _ ?side1 ?side2 ?side3 ?side4 A2.out).mono ?_); (case side1 => repeat (first | exact (Kd.C_below HR0_1.out HB.out) | (with_reducible refine Kd.C_alloc ?_ _) | (with_reducible refine Kd.C_drewN ?_ _) | (with_reducible refine Kd.C_drew ?_))); (case side2 => exact HC0_1.out); (case side3 => repeat (first | exact (Kd.C_below HR0_2.out HB.out) | (with_reducible refine Kd.C_alloc ?_ _) | (with_reducible refine Kd.C_drewN ?_ _) | (with_reducible refine Kd.C_drew ?_))); (case side4 => exact HC0_2.out); rintro e w10 ⟨rfl, hb⟩; refine ⟨_, rfl, ?_⟩; have n0_ := Aside0.mk (blk_below (g := gb101) (o := .cells #[.bool true, .slice A0_1 l0_1.length c0_1, .slice A0_2 l0_2.length c0_2] 28 (0, 0)) (by (with_reducible repeat (first | refine blk_drewN ?_ _ | refine blk_drew ?_ | refine blk_alloc ?_ _)); exact BK101.out) hb); have n1_ := Aside0.mk (below_step (by repeat (first | (with_reducible first | exact HB.out | apply below_alloc | apply pw_below_drewN | apply below_drew1 | refine below_set ?_ GE101.out) | exact HB.out)) hb); clear BK101; clear HB; have BK101 := n0_; have HB := n1_; clear n0_ n1_; (try clear hb); (try clear hb2); (try clear hk); (try clear hi); have hcz11_0 : w10.cell? ⟨gb101, 0, none⟩ = some (.bool true) := (blk_cell BK101.out 0).trans rfl; have hcz11_1 : w10.cell? ⟨gb101, 1, none⟩ = some (.slice A0_1 l0_1.length c0_1) := (blk_cell BK101.out 1).trans rfl; have hcz11_2 : w10.cell? ⟨gb101, 2, none⟩ = some (.slice A0_2 l0_2.length c0_2) := (blk_cell BK101.out 2).trans rfl; have hfz11_0 := blk_frozen BK101.out 0; have hfz11_1 := blk_frozen BK101.out 1; have hfz11_2 := blk_frozen BK101.out 2))
      go_ret
      exact ⟨by first | rfl | (simp [errW_none, errW_some] <;> rfl) | (simp [*, errW_none, errW_some] <;> rfl), by repeat (first | (with_reducible first | exact HB.out | apply below_alloc | apply pw_below_drewN | apply below_drew1 | refine below_set ?_ GE101.out) | exact HB.out)⟩
    · replace c7 := Bool.eq_false_iff.mpr c7
      subst c7
      have H1 : (some 0) = some r := by rw [if_neg (show ¬ (false = true) by decide)] at H; exact H
      clear H
      have H := H1
      clear H1
      obtain rfl := Option.some.inj H
      go_enter Try.func99, Try.ntmps99
      go_wp2_with (first | ((with_reducible refine gate_dst (N := 1) rfl ?_); refine box_event ?hg (N := 1) ?hd (cs := #[.bool false, .slice A0_1 l0_1.length c0_1, .slice A0_2 l0_2.length c0_2]) (t := 28) ?hr ?_; (case hd => rfl); (case hg => rfl); (case hr => first | (go_simp; done) | (go_simp; rfl)); intro gb101 hg w12 hbox hb; have n0_ := Aside0.mk (below_step (by repeat (first | (with_reducible first | exact HB.out | apply below_alloc | apply pw_below_drewN | apply below_drew1) | exact HB.out)) hb); have n1_ := Aside0.mk (hbox); have n2_ := Aside0.mk ((by rw [hg]; exact (below_size (by repeat (first | (with_reducible first | exact HB.out | apply below_alloc | apply pw_below_drewN | apply below_drew1) | exact HB.out))) : w.heap.size ≤ gb101)); have n3_ := Aside0.mk ((by rw [hg]; exact (below_size (by repeat (first | (with_reducible first | exact HB.out | apply below_alloc | apply pw_below_drewN | apply below_drew1) | exact HB.out))) : w.heap.size ≤ gb101)); clear HB; have HB := n0_; have BK101 := n1_; have GW101 := n2_; have GE101 := n3_; clear n0_ n1_ n2_ n3_; clear hb hbox hg; have hcz13_0 : w12.cell? ⟨gb101, 0, none⟩ = some (.bool false) := (blk_cell BK101.out 0).trans rfl; have hcz13_1 : w12.cell? ⟨gb101, 1, none⟩ = some (.slice A0_1 l0_1.length c0_1) := (blk_cell BK101.out 1).trans rfl; have hcz13_2 : w12.cell? ⟨gb101, 2, none⟩ = some (.slice A0_2 l0_2.length c0_2) := (blk_cell BK101.out 2).trans rfl; have hfz13_0 := blk_frozen BK101.out 0; have hfz13_1 := blk_frozen BK101.out 1; have hfz13_2 := blk_frozen BK101.out 2) | ((with_reducible refine gate_callee (f := 90) rfl ?_); refine goesL_ (some 4) rfl rfl Try.func90 (by kernel_rfl) rfl #[.agg #[.bool false, .slice A0_1 l0_1.length c0_1, .slice A0_2 l0_2.length c0_2]] rfl (by (try simp only [List.map_toArray, List.map_cons, List.map_nil]); first | done | rfl | (simp only [List.length_drop, List.length_take]; rfl)) ?_; (with_reducible refine (impl_Array_rank.calls false _ _ l0_1 _ _ l0_2 t102 _ ?side1 ?side2 ?side3 ?side4 A2.out).mono ?_); (case side1 => repeat (first | exact (Kd.C_below HR0_1.out HB.out) | (with_reducible refine Kd.C_alloc ?_ _) | (with_reducible refine Kd.C_drewN ?_ _) | (with_reducible refine Kd.C_drew ?_))); (case side2 => exact HC0_1.out); (case side3 => repeat (first | exact (Kd.C_below HR0_2.out HB.out) | (with_reducible refine Kd.C_alloc ?_ _) | (with_reducible refine Kd.C_drewN ?_ _) | (with_reducible refine Kd.C_drew ?_))); (case side4 => exact HC0_2.out); rintro e w14 ⟨rfl, hb⟩; refine ⟨_, rfl, ?_⟩; have n0_ := Aside0.mk (blk_below (g := gb101) (o := .cells #[.bool false, .slice A0_1 l0_1.length c0_1, .slice A0_2 l0_2.length c0_2] 28 (0, 0)) (by (with_reducible repeat (first | refine blk_drewN ?_ _ | refine blk_drew ?_ | refine blk_alloc ?_ _)); exact BK101.out) hb); have n1_ := Aside0.mk (below_step (by repeat (first | (with_reducible first | exact HB.out | apply below_alloc | apply pw_below_drewN | apply below_drew1 | refine below_set ?_ GE101.out) | exact HB.out)) hb); clear BK101; clear HB; have BK101 := n0_; have HB := n1_; clear n0_ n1_; (try clear hb); (try clear hb2); (try clear hk); (try clear hi); have hcz15_0 : w14.cell? ⟨gb101, 0, none⟩ = some (.bool false) := (blk_cell BK101.out 0).trans rfl; have hcz15_1 : w14.cell? ⟨gb101, 1, none⟩ = some (.slice A0_1 l0_1.length c0_1) := (blk_cell BK101.out 1).trans rfl; have hcz15_2 : w14.cell? ⟨gb101, 2, none⟩ = some (.slice A0_2 l0_2.length c0_2) := (blk_cell BK101.out 2).trans rfl; have hfz15_0 := blk_frozen BK101.out 0; have hfz15_1 := blk_frozen BK101.out 1; have hfz15_2 := blk_frozen BK101.out 2))
      go_ret
      exact ⟨by first | rfl | (simp [errW_none, errW_some] <;> rfl) | (simp [*, errW_none, errW_some] <;> rfl), by repeat (first | (with_reducible first | exact HB.out | apply below_alloc | apply pw_below_drewN | apply below_drew1 | refine below_set ?_ GE101.out) | exact HB.out)⟩

end Go.Proofs.Ytehfcnndjhjkoaa.PA

-- By a program (prt.py, over the print of the kit), for this claim. Not trusted: Lean checks it.
namespace Go.Proofs.Ytehfcnndjhjkoaa.PA
open Go.RowKit Go.Proofs.YtehfcnndjhjkoaaW.PrintWords Go.Proofs.YtehfcnndjhjkoaaW.PrintLast Go.Proofs.YtehfcnndjhjkoaaW.PrintMore
attribute [local go_sem] max2_int min2_int max_two min_two max_three min_three max_four min_four   -- for this text's walks alone
set_option linter.unusedVariables false
set_option linter.unusedSimpArgs false

/-! ### spec_l5List: function 71 -/
def spec_l5List.f (a0_0 : Bool) (l0_1 : List Int) (l0_2 : List Int) : Option (Int) := if (l0_1.length : Int) > 1 then (some 4) else (if a0_0 = true then (some 3) else (some 0))
set_option maxHeartbeats 8000000 in
set_option maxRecDepth 100000 in
theorem spec_l5List.calls (a0_0 : Bool) (A0_1 : Option Addr) (c0_1 : Nat) (l0_1 : List Int) (A0_2 : Option Addr) (c0_2 : Nat) (l0_2 : List Int) (r : Int) (w : World) (hr0_1 : Kd.C (Kd.int .i64) w A0_1 l0_1.length l0_1) (hc0_1 : l0_1.length ≤ c0_1) (hr0_2 : Kd.C (Kd.int .i64) w A0_2 l0_2.length l0_2) (hc0_2 : l0_2.length ≤ c0_2) (h : spec_l5List.f a0_0 l0_1 l0_2 = some r) :
    Calls Try.prog 71 #[.agg #[.bool a0_0, .slice A0_1 l0_1.length c0_1, .slice A0_2 l0_2.length c0_2]] w fun e w' => e = .returned (.int .i64 r) ∧ Below w.heap.size w w' := by
  have hu28 := Try.underlying28
  have HR0_1 := Aside0.mk hr0_1
  have HC0_1 := Aside0.mk hc0_1
  clear hr0_1 hc0_1
  have HR0_2 := Aside0.mk hr0_2
  have HC0_2 := Aside0.mk hc0_2
  clear hr0_2 hc0_2
  have HB := Aside0.mk (Below.refl w.heap.size w)
  have H : (if (l0_1.length : Int) > 1 then (some 4) else (if a0_0 = true then (some 3) else (some 0))) = some r := h
  clear h
  by_cases c2 : (l0_1.length : Int) > 1
  · rw [if_pos c2] at H
    have c2b0 : decide (1 < (l0_1.length : Int)) = true := decide_eq_true c2
    have c2b1 : decide (1 < l0_1.length) = true := decide_eq_true (by omega)
    clear c2
    obtain rfl := Option.some.inj H
    go_enter Try.func71, Try.ntmps71
    go_wp2_with (first | ((with_reducible refine gate_dst (N := 1) rfl ?_); refine box_event ?hg (N := 1) ?hd (cs := #[.bool a0_0, .slice A0_1 l0_1.length c0_1, .slice A0_2 l0_2.length c0_2]) (t := 28) ?hr ?_; (case hd => rfl); (case hg => rfl); (case hr => first | (go_simp; done) | (go_simp; rfl)); intro gb101 hg w3 hbox hb; have n0_ := Aside0.mk (below_step (by repeat (first | (with_reducible first | exact HB.out | apply below_alloc | apply pw_below_drewN | apply below_drew1) | exact HB.out)) hb); have n1_ := Aside0.mk (hbox); have n2_ := Aside0.mk ((by rw [hg]; exact (below_size (by repeat (first | (with_reducible first | exact HB.out | apply below_alloc | apply pw_below_drewN | apply below_drew1) | exact HB.out))) : w.heap.size ≤ gb101)); have n3_ := Aside0.mk ((by rw [hg]; exact (below_size (by repeat (first | (with_reducible first | exact HB.out | apply below_alloc | apply pw_below_drewN | apply below_drew1) | exact HB.out))) : w.heap.size ≤ gb101)); clear HB; have HB := n0_; have BK101 := n1_; have GW101 := n2_; have GE101 := n3_; clear n0_ n1_ n2_ n3_; clear hb hbox hg; have hcz4_0 : w3.cell? ⟨gb101, 0, none⟩ = some (.bool a0_0) := (blk_cell BK101.out 0).trans rfl; have hcz4_1 : w3.cell? ⟨gb101, 1, none⟩ = some (.slice A0_1 l0_1.length c0_1) := (blk_cell BK101.out 1).trans rfl; have hcz4_2 : w3.cell? ⟨gb101, 2, none⟩ = some (.slice A0_2 l0_2.length c0_2) := (blk_cell BK101.out 2).trans rfl; have hfz4_0 := blk_frozen BK101.out 0; have hfz4_1 := blk_frozen BK101.out 1; have hfz4_2 := blk_frozen BK101.out 2))
    go_ret
    exact ⟨by first | rfl | (simp [errW_none, errW_some] <;> rfl) | (simp [*, errW_none, errW_some] <;> rfl), by repeat (first | (with_reducible first | exact HB.out | apply below_alloc | apply pw_below_drewN | apply below_drew1 | refine below_set ?_ GE101.out) | exact HB.out)⟩
  · rw [if_neg c2] at H
    have c2b0 : decide (1 < (l0_1.length : Int)) = false := decide_eq_false c2
    have c2b1 : decide (1 < l0_1.length) = false := decide_eq_false (by omega)
    clear c2
    by_cases c5 : a0_0 = true
    · subst c5
      have H1 : (some 3) = some r := by rw [if_pos rfl] at H; exact H
      clear H
      have H := H1
      clear H1
      obtain rfl := Option.some.inj H
      go_enter Try.func71, Try.ntmps71
      go_wp2_with (first | ((with_reducible refine gate_dst (N := 1) rfl ?_); refine box_event ?hg (N := 1) ?hd (cs := #[.bool true, .slice A0_1 l0_1.length c0_1, .slice A0_2 l0_2.length c0_2]) (t := 28) ?hr ?_; (case hd => rfl); (case hg => rfl); (case hr => first | (go_simp; done) | (go_simp; rfl)); intro gb101 hg w6 hbox hb; have n0_ := Aside0.mk (below_step (by repeat (first | (with_reducible first | exact HB.out | apply below_alloc | apply pw_below_drewN | apply below_drew1) | exact HB.out)) hb); have n1_ := Aside0.mk (hbox); have n2_ := Aside0.mk ((by rw [hg]; exact (below_size (by repeat (first | (with_reducible first | exact HB.out | apply below_alloc | apply pw_below_drewN | apply below_drew1) | exact HB.out))) : w.heap.size ≤ gb101)); have n3_ := Aside0.mk ((by rw [hg]; exact (below_size (by repeat (first | (with_reducible first | exact HB.out | apply below_alloc | apply pw_below_drewN | apply below_drew1) | exact HB.out))) : w.heap.size ≤ gb101)); clear HB; have HB := n0_; have BK101 := n1_; have GW101 := n2_; have GE101 := n3_; clear n0_ n1_ n2_ n3_; clear hb hbox hg; have hcz7_0 : w6.cell? ⟨gb101, 0, none⟩ = some (.bool true) := (blk_cell BK101.out 0).trans rfl; have hcz7_1 : w6.cell? ⟨gb101, 1, none⟩ = some (.slice A0_1 l0_1.length c0_1) := (blk_cell BK101.out 1).trans rfl; have hcz7_2 : w6.cell? ⟨gb101, 2, none⟩ = some (.slice A0_2 l0_2.length c0_2) := (blk_cell BK101.out 2).trans rfl; have hfz7_0 := blk_frozen BK101.out 0; have hfz7_1 := blk_frozen BK101.out 1; have hfz7_2 := blk_frozen BK101.out 2))
      go_ret
      exact ⟨by first | rfl | (simp [errW_none, errW_some] <;> rfl) | (simp [*, errW_none, errW_some] <;> rfl), by repeat (first | (with_reducible first | exact HB.out | apply below_alloc | apply pw_below_drewN | apply below_drew1 | refine below_set ?_ GE101.out) | exact HB.out)⟩
    · replace c5 := Bool.eq_false_iff.mpr c5
      subst c5
      have H1 : (some 0) = some r := by rw [if_neg (show ¬ (false = true) by decide)] at H; exact H
      clear H
      have H := H1
      clear H1
      obtain rfl := Option.some.inj H
      go_enter Try.func71, Try.ntmps71
      go_wp2_with (first | ((with_reducible refine gate_dst (N := 1) rfl ?_); refine box_event ?hg (N := 1) ?hd (cs := #[.bool false, .slice A0_1 l0_1.length c0_1, .slice A0_2 l0_2.length c0_2]) (t := 28) ?hr ?_; (case hd => rfl); (case hg => rfl); (case hr => first | (go_simp; done) | (go_simp; rfl)); intro gb101 hg w8 hbox hb; have n0_ := Aside0.mk (below_step (by repeat (first | (with_reducible first | exact HB.out | apply below_alloc | apply pw_below_drewN | apply below_drew1) | exact HB.out)) hb); have n1_ := Aside0.mk (hbox); have n2_ := Aside0.mk ((by rw [hg]; exact (below_size (by repeat (first | (with_reducible first | exact HB.out | apply below_alloc | apply pw_below_drewN | apply below_drew1) | exact HB.out))) : w.heap.size ≤ gb101)); have n3_ := Aside0.mk ((by rw [hg]; exact (below_size (by repeat (first | (with_reducible first | exact HB.out | apply below_alloc | apply pw_below_drewN | apply below_drew1) | exact HB.out))) : w.heap.size ≤ gb101)); clear HB; have HB := n0_; have BK101 := n1_; have GW101 := n2_; have GE101 := n3_; clear n0_ n1_ n2_ n3_; clear hb hbox hg; have hcz9_0 : w8.cell? ⟨gb101, 0, none⟩ = some (.bool false) := (blk_cell BK101.out 0).trans rfl; have hcz9_1 : w8.cell? ⟨gb101, 1, none⟩ = some (.slice A0_1 l0_1.length c0_1) := (blk_cell BK101.out 1).trans rfl; have hcz9_2 : w8.cell? ⟨gb101, 2, none⟩ = some (.slice A0_2 l0_2.length c0_2) := (blk_cell BK101.out 2).trans rfl; have hfz9_0 := blk_frozen BK101.out 0; have hfz9_1 := blk_frozen BK101.out 1; have hfz9_2 := blk_frozen BK101.out 2))
      go_ret
      exact ⟨by first | rfl | (simp [errW_none, errW_some] <;> rfl) | (simp [*, errW_none, errW_some] <;> rfl), by repeat (first | (with_reducible first | exact HB.out | apply below_alloc | apply pw_below_drewN | apply below_drew1 | refine below_set ?_ GE101.out) | exact HB.out)⟩

end Go.Proofs.Ytehfcnndjhjkoaa.PA

namespace Go.Proofs.Ytehfcnndjhjkoaa.PA
open Go.RowKit Go.Proofs.YtehfcnndjhjkoaaW.PrintWords Go.Proofs.YtehfcnndjhjkoaaW.PrintLast Go.Proofs.YtehfcnndjhjkoaaW.PrintMore
set_option linter.unusedVariables false
set_option linter.unusedSimpArgs false
abbrev ArrAns := Bool × List Int × List Int × Int
def noArr (code : Int) : ArrAns := (false, [], [], code)
/-- The code of an array that should be a list of numbers. -/
def listC (b : Bool) (l1 : List Int) : Int := if (l1.length : Int) > 1 then 4 else if b = true then 3 else 0
theorem listOk_eq (b : Bool) (l1 l2 : List Int) : impl_listOk.f b l1 l2 = some (listC b l1) := by
  unfold impl_listOk.f impl_Array_rank.f listC
  simp only [Option.bind_some]
  split <;> first | rfl | (split <;> rfl)
theorem l5List_eq (b : Bool) (l1 l2 : List Int) : spec_l5List.f b l1 l2 = some (listC b l1) := by
  unfold spec_l5List.f listC
  split <;> first | rfl | (split <;> rfl)
theorem shapeOk_yes {l : List Int} (h : shOk l = true) : Ev (fun k => impl_shapeOk.f k l) (prod l, true) := by
  have := shapeOk_ev l; unfold shSize at this; rw [if_pos h] at this; exact this
/-- Lists short enough for the checks. -/
def okLens (l1 l2 m1 m2 : List Int) : Bool := decide (l1.length ≤ 35184372088832) && decide (l2.length ≤ 35184372088832) && decide (m1.length ≤ 35184372088832) && decide (m2.length ≤ 35184372088832)
theorem okLens_of {l1 l2 m1 m2 : List Int} (h1 : l1.length ≤ 35184372088832) (h2 : l2.length ≤ 35184372088832) (h3 : m1.length ≤ 35184372088832) (h4 : m2.length ≤ 35184372088832) : okLens l1 l2 m1 m2 = true := by
  simp [okLens, h1, h2, h3, h4]
end Go.Proofs.Ytehfcnndjhjkoaa.PA

-- By a program (prt.py, over the print of the kit), for this claim. Not trusted: Lean checks it.
namespace Go.Proofs.Ytehfcnndjhjkoaa.PA
open Go.RowKit Go.Proofs.YtehfcnndjhjkoaaW.PrintWords Go.Proofs.YtehfcnndjhjkoaaW.PrintLast Go.Proofs.YtehfcnndjhjkoaaW.PrintMore
attribute [local go_sem] max2_int min2_int max_two min_two max_three min_three max_four min_four   -- for this text's walks alone
set_option linter.unusedVariables false
set_option linter.unusedSimpArgs false

/-! ### spec_l4Axis: function 82 -/
mutual
def spec_l4Axis.j0 : Nat → List Int → Int → Option (Int × Int × Int)
  | 0, _, _ => none
  | k + 1, x0, x7 => spec_l4Axis.l0 k x0 x7 1 1 0
def spec_l4Axis.l0 : Nat → List Int → Int → Int → Int → Int → Option (Int × Int × Int)
  | 0, _, _, _, _, _ => none
  | k + 1, x0, x7, x8, x9, x10 => if x10 < (x0.length : Int) then (if x10 < x7 then (if 0 ≤ x10 then (if x10 > x7 then (spec_l4Axis.l0 k x0 x7 (wrap64 (x8 * (rd x0 x10))) (wrap64 (x9 * (rd x0 x10))) (wrap64 (x10 + 1))) else (spec_l4Axis.l0 k x0 x7 (wrap64 (x8 * (rd x0 x10))) x9 (wrap64 (x10 + 1)))) else (none)) else (if x10 > x7 then (if 0 ≤ x10 then (spec_l4Axis.l0 k x0 x7 x8 (wrap64 (x9 * (rd x0 x10))) (wrap64 (x10 + 1))) else (none)) else (spec_l4Axis.l0 k x0 x7 x8 x9 (wrap64 (x10 + 1))))) else (if 0 ≤ x7 then (if x7 < (x0.length : Int) then (some (x8, rd x0 x7, x9)) else (none)) else (none))
end
def spec_l4Axis.f (k : Nat) (l0 : List Int) (a1 : Bool) : Option (Int × Int × Int) := if a1 = true then (spec_l4Axis.j0 k l0 0) else (spec_l4Axis.j0 k l0 (wrap64 ((l0.length : Int) - 1)))
theorem spec_l4Axis.mono_l : ∀ k, (∀ y0 y1, LeO (spec_l4Axis.j0 k y0 y1) (spec_l4Axis.j0 (k + 1) y0 y1)) ∧ (∀ y0 y1 y2 y3 y4, LeO (spec_l4Axis.l0 k y0 y1 y2 y3 y4) (spec_l4Axis.l0 (k + 1) y0 y1 y2 y3 y4))
  | 0 => ⟨fun _ _ r h => by simp [spec_l4Axis.j0] at h, fun _ _ _ _ _ r h => by simp [spec_l4Axis.l0] at h⟩
  | k + 1 => by
    obtain ⟨ih0, ih1⟩ := spec_l4Axis.mono_l k
    refine ⟨?_, ?_⟩
    · intro y0 y1
      unfold spec_l4Axis.j0
      repeat' first
      | (with_reducible exact ih0 _ _)
      | (with_reducible exact ih1 _ _ _ _ _)
      | (with_reducible exact LeO.refl _)
      | (with_reducible exact LeO.none _)
      | (with_reducible refine LeO.ite ?_ ?_)
      | (with_reducible refine LeO.bind ?_ (fun _ => ?_))
      | exact ih0 _ _
      | exact ih1 _ _ _ _ _
      | exact LeO.none _
      | refine LeO.ite ?_ ?_
      | refine LeO.bind ?_ (fun _ => ?_)
    · intro y0 y1 y2 y3 y4
      unfold spec_l4Axis.l0
      repeat' first
      | (with_reducible exact ih0 _ _)
      | (with_reducible exact ih1 _ _ _ _ _)
      | (with_reducible exact LeO.refl _)
      | (with_reducible exact LeO.none _)
      | (with_reducible refine LeO.ite ?_ ?_)
      | (with_reducible refine LeO.bind ?_ (fun _ => ?_))
      | exact ih0 _ _
      | exact ih1 _ _ _ _ _
      | exact LeO.none _
      | refine LeO.ite ?_ ?_
      | refine LeO.bind ?_ (fun _ => ?_)
theorem spec_l4Axis.mono : ∀ a0 a1 k, LeO (spec_l4Axis.f k a0 a1) (spec_l4Axis.f (k + 1) a0 a1) := by
  intro a0 a1 k
  obtain ⟨ih0, ih1⟩ := spec_l4Axis.mono_l k
  unfold spec_l4Axis.f
  repeat' first
      | (with_reducible exact ih0 _ _)
      | (with_reducible exact ih1 _ _ _ _ _)
      | (with_reducible exact LeO.refl _)
      | (with_reducible exact LeO.none _)
      | (with_reducible refine LeO.ite ?_ ?_)
      | (with_reducible refine LeO.bind ?_ (fun _ => ?_))
      | exact ih0 _ _
      | exact ih1 _ _ _ _ _
      | exact LeO.none _
      | refine LeO.ite ?_ ?_
      | refine LeO.bind ?_ (fun _ => ?_)

end Go.Proofs.Ytehfcnndjhjkoaa.PA

-- By a program (prt.py, over the print of the kit), for this claim. Not trusted: Lean checks it.
namespace Go.Proofs.Ytehfcnndjhjkoaa.PA
open Go.RowKit Go.Proofs.YtehfcnndjhjkoaaW.PrintWords Go.Proofs.YtehfcnndjhjkoaaW.PrintLast Go.Proofs.YtehfcnndjhjkoaaW.PrintMore
attribute [local go_sem] max2_int min2_int max_two min_two max_three min_three max_four min_four   -- for this text's walks alone
set_option linter.unusedVariables false
set_option linter.unusedSimpArgs false

/-! ### spec_l4Mod: function 83 -/
def spec_l4Mod.f (a0 : Int) (a1 : Int) : Option (Int) := if a0 = 0 then (some a1) else (if (Int.tmod a1 a0) = 0 then (some (Int.tmod a1 a0)) else (if ((decide ((Int.tmod a1 a0) < 0)) != (decide (a0 < 0))) = true then (some (wrap64 ((Int.tmod a1 a0) + a0))) else (some (Int.tmod a1 a0))))

end Go.Proofs.Ytehfcnndjhjkoaa.PA

-- By a program (prt.py, over the print of the kit), for this claim. Not trusted: Lean checks it.
namespace Go.Proofs.Ytehfcnndjhjkoaa.PA
open Go.RowKit Go.Proofs.YtehfcnndjhjkoaaW.PrintWords Go.Proofs.YtehfcnndjhjkoaaW.PrintLast Go.Proofs.YtehfcnndjhjkoaaW.PrintMore
attribute [local go_sem] max2_int min2_int max_two min_two max_three min_three max_four min_four   -- for this text's walks alone
set_option linter.unusedVariables false
set_option linter.unusedSimpArgs false

/-! ### spec_l3Copy: function 81 -/
def spec_l3Copy.f (a0_0 : Bool) (l0_1 : List Int) (l0_2 : List Int) : Option (Bool × List Int × List Int) := (spec_l3Ints.f l0_1).bind fun t103 => ((spec_l3Ints.f l0_2).bind fun t106 => (some (a0_0, t103, t106)))
def spec_l3Copy.T1 : Bool × List (List Nat × List Nat) := (true, [([], []), ([0], [0]), ([], []), ([2], [2]), ([3], [3]), ([], []), ([5], [5]), ([6, 4], [6]), ([1, 4, 7], [1, 4, 7]), ([8, 7, 0, 1, 2, 3, 4, 5, 6, 7, 8], [8])])
def spec_l3Copy.B1 : List Nat := [0, 1, 0, 4, 12, 0, 32, 124, 255, 511]
theorem spec_l3Copy.tab1 : rtab .any (opsOf Try.f81 1) = spec_l3Copy.T1 := by kernel_rfl
theorem spec_l3Copy.bits1 : waitsOk spec_l3Copy.T1.2 spec_l3Copy.B1 = true := by kernel_rfl
set_option maxHeartbeats 8000000 in
set_option maxRecDepth 100000 in
theorem spec_l3Copy.calls (a0_0 : Bool) (A0_1 : Option Addr) (c0_1 : Nat) (l0_1 : List Int) (A0_2 : Option Addr) (c0_2 : Nat) (l0_2 : List Int) (r1 : Bool) (r2 : List Int) (r3 : List Int) (w : World) (hr0_1 : Kd.C (Kd.int .i64) w A0_1 l0_1.length l0_1) (hc0_1 : l0_1.length ≤ c0_1) (hr0_2 : Kd.C (Kd.int .i64) w A0_2 l0_2.length l0_2) (hc0_2 : l0_2.length ≤ c0_2) (h : spec_l3Copy.f a0_0 l0_1 l0_2 = some (r1, r2, r3)) :
    Calls Try.prog 81 #[.agg #[.bool a0_0, .slice A0_1 l0_1.length c0_1, .slice A0_2 l0_2.length c0_2]] w fun e w' => ∃ v1_ v2_ : Value, e = .returned (.agg #[.bool r1, v1_, v2_]) ∧ Kd.R (Kd.int .i64) 3 w' w.heap.size (fun k_ => some k_ ≠ (v2_ : Value).ownBlock) v1_ r2 ∧ Kd.R (Kd.int .i64) 3 w' w.heap.size (fun k_ => some k_ ≠ (v1_ : Value).ownBlock) v2_ r3 ∧ Below w.heap.size w w' := by
  have hu28 := Try.underlying28
  have HR0_1 := Aside0.mk hr0_1
  have HC0_1 := Aside0.mk hc0_1
  clear hr0_1 hc0_1
  have HR0_2 := Aside0.mk hr0_2
  have HC0_2 := Aside0.mk hc0_2
  clear hr0_2 hc0_2
  have HB := Aside0.mk (Below.refl w.heap.size w)
  have H : ((spec_l3Ints.f l0_1).bind fun t103 => ((spec_l3Ints.f l0_2).bind fun t106 => (some (a0_0, t103, t106)))) = some (r1, r2, r3) := h
  clear h
  replace H := Option.bind_eq_some_iff.mp H
  obtain ⟨t103, A20, H⟩ := H
  replace H : ((spec_l3Ints.f l0_2).bind fun t106 => (some (a0_0, t103, t106))) = some (r1, r2, r3) := H
  have A2 := Aside0.mk A20
  clear A20
  replace H := Option.bind_eq_some_iff.mp H
  obtain ⟨t106, A30, H⟩ := H
  replace H : (some (a0_0, t103, t106)) = some (r1, r2, r3) := H
  have A3 := Aside0.mk A30
  clear A30
  simp only [Option.some.injEq, Prod.mk.injEq] at H
  obtain ⟨rfl, rfl, rfl⟩ := H
  go_enter Try.func81, Try.ntmps81
  try go_wp2_with (first | ((with_reducible refine gate_dst (N := 1) rfl ?_); refine box_event ?hg (N := 1) ?hd (cs := #[.bool a0_0, .slice A0_1 l0_1.length c0_1, .slice A0_2 l0_2.length c0_2]) (t := 28) ?hr ?_; (case hd => rfl); (case hg => rfl); (case hr => first | (go_simp; done) | (go_simp; rfl)); intro gb101 hg w4 hbox hb; have n0_ := Aside0.mk (below_step (by repeat (first | (with_reducible first | exact HB.out | apply below_alloc | apply pw_below_drewN | apply below_drew1) | exact HB.out)) hb); have n1_ := Aside0.mk (hbox); have n2_ := Aside0.mk ((by rw [hg]; exact (below_size (by repeat (first | (with_reducible first | exact HB.out | apply below_alloc | apply pw_below_drewN | apply below_drew1) | exact HB.out))) : w.heap.size ≤ gb101)); have n3_ := Aside0.mk ((by rw [hg]; exact (below_size (by repeat (first | (with_reducible first | exact HB.out | apply below_alloc | apply pw_below_drewN | apply below_drew1) | exact HB.out))) : w.heap.size ≤ gb101)); clear HB; have HB := n0_; have BK101 := n1_; have GW101 := n2_; have GE101 := n3_; clear n0_ n1_ n2_ n3_; clear hb hbox hg) | ((with_reducible refine gate_dst (N := 2) rfl ?_); refine box_event ?hg (N := 2) ?hd (cs := #[.bool false, .slice none 0 0, .slice none 0 0]) (t := 28) ?hr ?_; (case hd => rfl); (case hg => rfl); (case hr => first | (go_simp; done) | (go_simp; rfl)); intro gb102 hg w5 hbox hb; have n0_ := Aside0.mk (blk_below (g := gb101) (o := .cells #[.bool a0_0, .slice A0_1 l0_1.length c0_1, .slice A0_2 l0_2.length c0_2] 28 (0, 0)) (by (with_reducible repeat (first | refine blk_drewN ?_ _ | refine blk_drew ?_ | refine blk_alloc ?_ _)); exact BK101.out) hb); have n1_ := Aside0.mk (below_step (by repeat (first | (with_reducible first | exact HB.out | apply below_alloc | apply pw_below_drewN | apply below_drew1 | refine below_set ?_ GE101.out) | exact HB.out)) hb); have n2_ := Aside0.mk (hbox); have n3_ := Aside0.mk ((by rw [hg]; exact (below_size (by repeat (first | (with_reducible first | exact HB.out | apply below_alloc | apply pw_below_drewN | apply below_drew1 | refine below_set ?_ GE101.out) | exact HB.out))) : w.heap.size ≤ gb102)); have n4_ := Aside0.mk ((by rw [hg]; exact (below_size (by repeat (first | (with_reducible first | exact HB.out | apply below_alloc | apply pw_below_drewN | apply below_drew1 | refine below_set ?_ GE101.out) | exact HB.out))) : w.heap.size ≤ gb102)); have n5_ := Aside0.mk ((by rw [hg]; exact Nat.ne_of_lt (blk_lt (g := gb101) (o := .cells #[.bool a0_0, .slice A0_1 l0_1.length c0_1, .slice A0_2 l0_2.length c0_2] 28 (0, 0)) (by (with_reducible repeat (first | refine blk_drewN ?_ _ | refine blk_drew ?_ | refine blk_alloc ?_ _)); exact BK101.out)) : gb101 ≠ gb102)); have n6_ := Aside0.mk ((by rw [hg]; exact Nat.ne_of_gt (blk_lt (g := gb101) (o := .cells #[.bool a0_0, .slice A0_1 l0_1.length c0_1, .slice A0_2 l0_2.length c0_2] 28 (0, 0)) (by (with_reducible repeat (first | refine blk_drewN ?_ _ | refine blk_drew ?_ | refine blk_alloc ?_ _)); exact BK101.out)) : gb102 ≠ gb101)); clear BK101; clear HB; have BK101 := n0_; have HB := n1_; have BK102 := n2_; have GW102 := n3_; have GE102 := n4_; have NB101_102 := n5_; have NB102_101 := n6_; clear n0_ n1_ n2_ n3_ n4_ n5_ n6_; clear hb hbox hg))
  have n0_ := Aside0.mk (blk_drew BK101.out)
  have n1_ := Aside0.mk (blk_drew BK102.out)
  have n2_ := Aside0.mk (below_drew1 HB.out)
  clear BK101
  clear BK102
  clear HB
  have BK101 := n0_
  have BK102 := n1_
  have HB := n2_
  clear n0_ n1_ n2_
  refine start_ (n := 10) (S := fun w' => w'.cell? ⟨gb101, 0, none⟩ = some (.bool a0_0) ∧ w'.cell? ⟨gb101, 1, none⟩ = some (.slice A0_1 l0_1.length c0_1) ∧ w'.cell? ⟨gb101, 2, none⟩ = some (.slice A0_2 l0_2.length c0_2)) (ds := []) #[false, false, false, false, false, false, false, false, false, false] (by kernel_rfl) rfl rfl ⟨(blk_cell BK101.out 0).trans rfl, (blk_cell BK101.out 1).trans rfl, (blk_cell BK101.out 2).trans rfl⟩ (fun hHeld => ?_); refine with_tabW spec_l3Copy.tab1 spec_l3Copy.bits1 (fun HT_ HW_ => ?_)
  generalize w5.drew = w6 at BK101 BK102 HB hHeld ⊢
  refine pure_ (i := 0) (N := some 3) (v := ?_) (a' := ?_) #[true, false, false, false, false, false, false, false, false, false] rfl rfl (any_of HT_.out (by kernel_rfl)) (fun _ _ _ h => h) (Or.inl ⟨by rfl, ?_⟩) ?_ ?_
  rotate_left
  · intro w'
    go_simp
    with_reducible rfl
  rotate_left
  · simp only [Act.put, List.setIfInBounds_toArray, List.set_cons_zero, List.set_cons_succ, i64_w, i32_w]
    rfl
  refine pure_ (i := 2) (N := some 5) (v := ?_) (a' := ?_) #[true, false, true, false, false, false, false, false, false, false] rfl rfl (any_of HT_.out (by kernel_rfl)) (fun _ _ _ h => h) (Or.inl ⟨by rfl, ?_⟩) ?_ ?_
  rotate_left
  · intro w'
    go_simp
    with_reducible rfl
  rotate_left
  · simp only [Act.put, List.setIfInBounds_toArray, List.set_cons_zero, List.set_cons_succ, i64_w, i32_w]
    rfl
  refine pure_ (i := 5) (N := some 8) (v := ?_) (a' := ?_) #[true, false, true, false, false, true, false, false, false, false] rfl rfl (any_of HT_.out (by kernel_rfl)) (fun _ _ _ h => h) (Or.inl ⟨by rfl, ?_⟩) ?_ ?_
  rotate_left
  · intro w'
    go_simp
    with_reducible rfl
  rotate_left
  · simp only [Act.put, List.setIfInBounds_toArray, List.set_cons_zero, List.set_cons_succ, i64_w, i32_w]
    rfl
  refine take_ (i := 1) (N := some 4) (v := ?_) (a' := ?_) #[true, true, true, false, false, true, false, false, false, false] rfl rfl (take_ofW HT_.out HW_.out (by kernel_rfl)) (fun _ _ _ h => h) (Or.inl ⟨by rfl, ?_⟩) hHeld ?_ ?_
  rotate_left
  · rintro w' ⟨s0, s1, s2⟩
    go_simp
    with_reducible rfl
  rotate_left
  · simp only [Act.put, List.setIfInBounds_toArray, List.set_cons_zero, List.set_cons_succ, i64_w, i32_w]
    rfl
  refine take_ (i := 3) (N := some 6) (v := ?_) (a' := ?_) #[true, true, true, true, false, true, false, false, false, false] rfl rfl (take_ofW HT_.out HW_.out (by kernel_rfl)) (fun _ _ _ h => h) (Or.inl ⟨by rfl, ?_⟩) hHeld ?_ ?_
  rotate_left
  · rintro w' ⟨s0, s1, s2⟩
    go_simp
    with_reducible rfl
  rotate_left
  · simp only [Act.put, List.setIfInBounds_toArray, List.set_cons_zero, List.set_cons_succ, i64_w, i32_w]
    rfl
  refine take_ (i := 6) (N := some 9) (v := ?_) (a' := ?_) #[true, true, true, true, false, true, true, false, false, false] rfl rfl (take_ofW HT_.out HW_.out (by kernel_rfl)) (fun _ _ _ h => h) (Or.inl ⟨by rfl, ?_⟩) hHeld ?_ ?_
  rotate_left
  · rintro w' ⟨s0, s1, s2⟩
    go_simp
    with_reducible rfl
  rotate_left
  · simp only [Act.put, List.setIfInBounds_toArray, List.set_cons_zero, List.set_cons_succ, i64_w, i32_w]
    rfl
  refine one_ (i := 4) (N := some 7) #[true, true, true, true, true, true, true, false, false, false] rfl rfl (one_of HT_.out (by kernel_rfl)) (by decide) (fun K hK => ?_)
  refine goes_ Try.func73 (by kernel_rfl) rfl #[.slice A0_1 l0_1.length c0_1] (by rfl) rfl rfl (by (try simp only [List.map_toArray, List.map_cons, List.map_nil]); first | done | rfl | (simp only [List.length_drop, List.length_take]; rfl)) ?_
  with_reducible refine (spec_l3Ints.calls _ _ l0_1 t103 _ ?side1 ?side2 A2.out).mono ?_
  (case side1 => repeat (first | exact (Kd.C_below HR0_1.out HB.out) | (with_reducible refine Kd.C_alloc ?_ _) | (with_reducible refine Kd.C_drewN ?_ _) | (with_reducible refine Kd.C_drew ?_)))
  (case side2 => exact HC0_1.out)
  rintro e w7 ⟨v104, rfl, ho0, hb⟩
  refine ⟨_, rfl, ?_⟩
  have n0_ := Aside0.mk (Kd.R_lower ho0 (below_size (by repeat (first | (with_reducible first | exact HB.out | apply below_alloc | apply pw_below_drewN | apply below_drew1 | refine below_set ?_ GE101.out | refine below_set ?_ GE102.out) | exact HB.out))))
  have n1_ := Aside0.mk (blk_below (g := gb101) (o := .cells #[.bool a0_0, .slice A0_1 l0_1.length c0_1, .slice A0_2 l0_2.length c0_2] 28 (0, 0)) (by (with_reducible repeat (first | refine blk_drewN ?_ _ | refine blk_drew ?_ | refine blk_alloc ?_ _)); exact BK101.out) hb)
  have n2_ := Aside0.mk (blk_below (g := gb102) (o := .cells #[.bool false, .slice none 0 0, .slice none 0 0] 28 (0, 0)) (by (with_reducible repeat (first | refine blk_drewN ?_ _ | refine blk_drew ?_ | refine blk_alloc ?_ _)); exact BK102.out) hb)
  have n3_ := Aside0.mk (below_step (by repeat (first | (with_reducible first | exact HB.out | apply below_alloc | apply pw_below_drewN | apply below_drew1 | refine below_set ?_ GE101.out | refine below_set ?_ GE102.out) | exact HB.out)) hb)
  clear BK101
  clear BK102
  clear HB
  have HO105 := n0_
  have BK101 := n1_
  have BK102 := n2_
  have HB := n3_
  clear n0_ n1_ n2_ n3_
  (try clear hb)
  (try clear hb2)
  (try clear hk)
  (try clear hi)
  (try clear ho0)
  refine hK.out _ _ ⟨(blk_cell BK101.out 0).trans rfl, (blk_cell BK101.out 1).trans rfl, (blk_cell BK101.out 2).trans rfl⟩ (fun hHeld => ?_)
  clear hK K
  refine norm_ (a' := ?_) ?_ ?_
  rotate_left
  · show Act.put _ (some 7) _ = _
    simp only [Act.put, List.setIfInBounds_toArray, List.set_cons_zero, List.set_cons_succ, i64_w, i32_w]
    rfl
  refine one_ (i := 7) (N := some 10) #[true, true, true, true, true, true, true, true, false, false] rfl rfl (one_of HT_.out (by kernel_rfl)) (by decide) (fun K hK => ?_)
  refine goes_ Try.func73 (by kernel_rfl) rfl #[.slice A0_2 l0_2.length c0_2] (by rfl) rfl rfl (by (try simp only [List.map_toArray, List.map_cons, List.map_nil]); first | done | rfl | (simp only [List.length_drop, List.length_take]; rfl)) ?_
  with_reducible refine (spec_l3Ints.calls _ _ l0_2 t106 _ ?side1 ?side2 A3.out).mono ?_
  (case side1 => repeat (first | exact (Kd.C_below HR0_2.out HB.out) | (with_reducible refine Kd.C_alloc ?_ _) | (with_reducible refine Kd.C_drewN ?_ _) | (with_reducible refine Kd.C_drew ?_)))
  (case side2 => exact HC0_2.out)
  rintro e w8 ⟨v107, rfl, ho0, hb⟩
  refine ⟨_, rfl, ?_⟩
  have n0_ := Aside0.mk (Kd.R_elder' (by (with_reducible repeat (first | apply Kd.R_alloc | apply Kd.R_drewN | apply Kd.R_drew)); exact HO105.out) (Kd.R_base ho0) hb)
  have n1_ := Aside0.mk (Kd.R_lower (Kd.R_new' ho0 (Kd.R_lt (by (with_reducible repeat (first | apply Kd.R_alloc | apply Kd.R_drewN | apply Kd.R_drew)); exact HO105.out))) (below_size (by repeat (first | (with_reducible first | exact HB.out | apply below_alloc | apply pw_below_drewN | apply below_drew1 | refine below_set ?_ GE101.out | refine below_set ?_ GE102.out) | exact HB.out))))
  have n2_ := Aside0.mk (blk_below (g := gb101) (o := .cells #[.bool a0_0, .slice A0_1 l0_1.length c0_1, .slice A0_2 l0_2.length c0_2] 28 (0, 0)) (by (with_reducible repeat (first | refine blk_drewN ?_ _ | refine blk_drew ?_ | refine blk_alloc ?_ _)); exact BK101.out) hb)
  have n3_ := Aside0.mk (blk_below (g := gb102) (o := .cells #[.bool false, .slice none 0 0, .slice none 0 0] 28 (0, 0)) (by (with_reducible repeat (first | refine blk_drewN ?_ _ | refine blk_drew ?_ | refine blk_alloc ?_ _)); exact BK102.out) hb)
  have n4_ := Aside0.mk (below_step (by repeat (first | (with_reducible first | exact HB.out | apply below_alloc | apply pw_below_drewN | apply below_drew1 | refine below_set ?_ GE101.out | refine below_set ?_ GE102.out) | exact HB.out)) hb)
  clear HO105
  clear BK101
  clear BK102
  clear HB
  have HO105 := n0_
  have HO108 := n1_
  have BK101 := n2_
  have BK102 := n3_
  have HB := n4_
  clear n0_ n1_ n2_ n3_ n4_
  (try clear hb)
  (try clear hb2)
  (try clear hk)
  (try clear hi)
  (try clear ho0)
  obtain ⟨Ao9, co9, eo9⟩ := Kd.R_slice HO108.out
  (first | subst eo9 | (injection eo9 with f1_ f2_ f3_; have f4_ := f1_.symm; have f5_ := f3_.symm; clear f1_ f2_ f3_; subst f4_; subst f5_))
  obtain ⟨Ao10, co10, eo10⟩ := Kd.R_slice HO105.out
  (first | subst eo10 | (injection eo10 with f1_ f2_ f3_; have f4_ := f1_.symm; have f5_ := f3_.symm; clear f1_ f2_ f3_; subst f4_; subst f5_))
  refine hK.out _ _ ⟨(blk_cell BK101.out 0).trans rfl, (blk_cell BK101.out 1).trans rfl, (blk_cell BK101.out 2).trans rfl⟩ (fun hHeld => ?_)
  clear hK K
  refine norm_ (a' := ?_) ?_ ?_
  rotate_left
  · show Act.put _ (some 10) _ = _
    simp only [Act.put, List.setIfInBounds_toArray, List.set_cons_zero, List.set_cons_succ, i64_w, i32_w]
    rfl
  refine pure_ (i := 8) (N := some 11) (v := ?_) (a' := ?_) #[true, true, true, true, true, true, true, true, true, false] rfl rfl (any_of HT_.out (by kernel_rfl)) (fun _ _ _ h => h) (Or.inl ⟨by rfl, ?_⟩) ?_ ?_
  rotate_left
  · intro w'
    go_simp
    with_reducible rfl
  rotate_left
  · simp only [Act.put, List.setIfInBounds_toArray, List.set_cons_zero, List.set_cons_succ, i64_w, i32_w]
    rfl
  refine one_ (i := 9) (N := none) #[true, true, true, true, true, true, true, true, true, true] rfl rfl (one_of HT_.out (by kernel_rfl)) (by decide) (fun K hK => ?_)
  have hs11 : w8.cell? ⟨gb102, 0, none⟩ = some (.bool false) := (blk_cell BK102.out 0).trans rfl
  have hfs11 := blk_frozen BK102.out 0
  have hns11_0 := NB101_102.out
  have hms11_0 := NB102_101.out
  have hs12 : w8.cell? ⟨gb102, 1, none⟩ = some (.slice none 0 0) := (blk_cell BK102.out 1).trans rfl
  have hfs12 := blk_frozen BK102.out 1
  have hns12_0 := NB101_102.out
  have hms12_0 := NB102_101.out
  have hs13 : w8.cell? ⟨gb102, 2, none⟩ = some (.slice none 0 0) := (blk_cell BK102.out 2).trans rfl
  have hfs13 := blk_frozen BK102.out 2
  have hns13_0 := NB101_102.out
  have hms13_0 := NB102_101.out
  refine skip_ (w1 := ?_) (by rfl) rfl ?_ ?_
  rotate_left
  · go_simp
    rfl
  refine hK.out _ _ ⟨((cell_far (p := ⟨gb102, _, none⟩) NB101_102.out _).trans (((cell_far (p := ⟨gb102, _, none⟩) NB101_102.out _).trans (((cell_far (p := ⟨gb102, _, none⟩) NB101_102.out _).trans (hHeld.1)))))), ((cell_far (p := ⟨gb102, _, none⟩) NB101_102.out _).trans (((cell_far (p := ⟨gb102, _, none⟩) NB101_102.out _).trans (((cell_far (p := ⟨gb102, _, none⟩) NB101_102.out _).trans (hHeld.2.1)))))), ((cell_far (p := ⟨gb102, _, none⟩) NB101_102.out _).trans (((cell_far (p := ⟨gb102, _, none⟩) NB101_102.out _).trans (((cell_far (p := ⟨gb102, _, none⟩) NB101_102.out _).trans (hHeld.2.2))))))⟩ (fun hHeld => ?_)
  clear hK K
  refine done_ (done_of HT_.out (by kernel_rfl)) ?_
  try go_wp2
  refine bodyPost_ret (results_cell_row rfl _ _ gb102 28 #[.bool a0_0, .slice Ao10 t103.length co10, .slice Ao9 t106.length co9] (0, 0) _ rfl (by (with_reducible repeat (first | refine blk_drewN ?_ _ | refine blk_drew ?_ | refine blk_alloc ?_ _)); refine blk_put (cs := #[.bool a0_0, .slice Ao10 t103.length co10, .slice none 0 0]) ?_ 2 _ rfl; (with_reducible repeat (first | refine blk_drewN ?_ _ | refine blk_drew ?_ | refine blk_alloc ?_ _)); refine blk_put (cs := #[.bool a0_0, .slice none 0 0, .slice none 0 0]) ?_ 1 _ rfl; (with_reducible repeat (first | refine blk_drewN ?_ _ | refine blk_drew ?_ | refine blk_alloc ?_ _)); refine blk_put (cs := #[.bool false, .slice none 0 0, .slice none 0 0]) ?_ 0 _ rfl; (with_reducible repeat (first | refine blk_drewN ?_ _ | refine blk_drew ?_ | refine blk_alloc ?_ _)); exact BK102.out) Try.underlying28 rfl (by kernel_rfl)) rfl ?_
  exact ⟨_, _, by first | rfl | (simp [errW_none, errW_some] <;> rfl) | (simp [*, errW_none, errW_some] <;> rfl), by (with_reducible repeat (first | apply Kd.R_alloc | apply Kd.R_drewN | apply Kd.R_drew)); exact Kd.R_mono (Kd.R_far (p := ⟨gb102, 2, none⟩) (Kd.R_far (p := ⟨gb102, 1, none⟩) (Kd.R_far (p := ⟨gb102, 0, none⟩) (Kd.R_types HO105.out BK102.out (by decide)) (fun _ hk => hk.2) (.bool a0_0)) (fun _ hk => hk.2) (.slice Ao10 t103.length co10)) (fun _ hk => hk.2) (.slice Ao9 t106.length co9)) (fun _ hk => hk.1.2), by (with_reducible repeat (first | apply Kd.R_alloc | apply Kd.R_drewN | apply Kd.R_drew)); exact Kd.R_mono (Kd.R_far (p := ⟨gb102, 2, none⟩) (Kd.R_far (p := ⟨gb102, 1, none⟩) (Kd.R_far (p := ⟨gb102, 0, none⟩) (Kd.R_types HO108.out BK102.out (by decide)) (fun _ hk => hk.2) (.bool a0_0)) (fun _ hk => hk.2) (.slice Ao10 t103.length co10)) (fun _ hk => hk.2) (.slice Ao9 t106.length co9)) (fun _ hk => hk.1.2), by repeat (first | (with_reducible first | exact HB.out | apply below_alloc | apply pw_below_drewN | apply below_drew1 | refine below_set ?_ GE101.out | refine below_set ?_ GE102.out) | exact HB.out)⟩

end Go.Proofs.Ytehfcnndjhjkoaa.PA

-- By a program (prt.py, over the print of the kit), for this claim. Not trusted: Lean checks it.
namespace Go.Proofs.Ytehfcnndjhjkoaa.PA
open Go.RowKit Go.Proofs.YtehfcnndjhjkoaaW.PrintWords Go.Proofs.YtehfcnndjhjkoaaW.PrintLast Go.Proofs.YtehfcnndjhjkoaaW.PrintMore
attribute [local go_sem] max2_int min2_int max_two min_two max_three min_three max_four min_four   -- for this text's walks alone
set_option linter.unusedVariables false
set_option linter.unusedSimpArgs false

/-! ### spec_l5Single: function 80 -/
def spec_l5Single.f (a0_0 : Bool) (l0_1 : List Int) (l0_2 : List Int) : Option (Int) := if (l0_2.length : Int) = 1 then (if a0_0 = true then (some 3) else (some 0)) else (some 5)

end Go.Proofs.Ytehfcnndjhjkoaa.PA

namespace Go.Proofs.Ytehfcnndjhjkoaa.PA
open Go.RowKit Go.Proofs.YtehfcnndjhjkoaaW.PrintWords Go.Proofs.YtehfcnndjhjkoaaW.PrintLast Go.Proofs.YtehfcnndjhjkoaaW.PrintMore
set_option linter.unusedVariables false
set_option linter.unusedSimpArgs false
theorem l3Copy_eq (c : Bool) (m1 m2 : List Int) (h1 : m1.length < 17592186044416) (h2 : m2.length < 17592186044416) : spec_l3Copy.f c m1 m2 = some (c, m1, m2) := by
  simp only [spec_l3Copy.f, l3Ints_eq m1 h1, l3Ints_eq m2 h2, Option.bind_some]
end Go.Proofs.Ytehfcnndjhjkoaa.PA

-- By a program (prt.py, over the print of the kit), for this claim. Not trusted: Lean checks it.
namespace Go.Proofs.Ytehfcnndjhjkoaa.PA
open Go.RowKit Go.Proofs.YtehfcnndjhjkoaaW.PrintWords Go.Proofs.YtehfcnndjhjkoaaW.PrintLast Go.Proofs.YtehfcnndjhjkoaaW.PrintMore
attribute [local go_sem] max2_int min2_int max_two min_two max_three min_three max_four min_four   -- for this text's walks alone
set_option linter.unusedVariables false
set_option linter.unusedSimpArgs false

/-! ### spec_l5Abs: function 96 -/
def spec_l5Abs.f (a0 : Int) : Option (Int) := if a0 < 0 then (some (wrap64 (-a0))) else (some a0)
set_option maxHeartbeats 8000000 in
set_option maxRecDepth 100000 in
theorem spec_l5Abs.calls (a0 : Int) (r : Int) (w : World) (h : spec_l5Abs.f a0 = some r) :
    Calls Try.prog 96 #[.int .i64 a0] w fun e w' => e = .returned (.int .i64 r) ∧ Drawn0 w w' := by
  have H : (if a0 < 0 then (some (wrap64 (-a0))) else (some a0)) = some r := h
  clear h
  by_cases c2 : a0 < 0
  · rw [if_pos c2] at H
    have c2b0 : decide (a0 < 0) = true := decide_eq_true c2
    clear c2
    obtain rfl := Option.some.inj H
    go_enter Try.func96, Try.ntmps96
    go_wp2
    go_ret
    exact ⟨by first | rfl | (simp; done) | (simp [*]; done), by repeat (first | exact Drawn0.refl _ | apply Drawn0.step)⟩
  · rw [if_neg c2] at H
    have c2b0 : decide (a0 < 0) = false := decide_eq_false c2
    clear c2
    obtain rfl := Option.some.inj H
    go_enter Try.func96, Try.ntmps96
    go_wp2
    go_ret
    exact ⟨by first | rfl | (simp; done) | (simp [*]; done), by repeat (first | exact Drawn0.refl _ | apply Drawn0.step)⟩

end Go.Proofs.Ytehfcnndjhjkoaa.PA

namespace Go.Proofs.Ytehfcnndjhjkoaa.PA
open Go.RowKit Go.Proofs.YtehfcnndjhjkoaaW.PrintWords Go.Proofs.YtehfcnndjhjkoaaW.PrintLast Go.Proofs.YtehfcnndjhjkoaaW.PrintMore
set_option linter.unusedVariables false
set_option linter.unusedSimpArgs false
set_option maxHeartbeats 2000000 in
set_option maxRecDepth 100000 in
theorem counted_list (a : Bool) (Aa1 : Option Addr) (ca1 : Nat) (la1 : List Int) (Aa2 : Option Addr) (ca2 : Nat) (la2 : List Int) (b : Bool) (Ab1 : Option Addr) (cb1 : Nat) (lb1 : List Int) (Ab2 : Option Addr) (cb2 : Nat) (lb2 : List Int) (w : World) (ha1 : Kd.C (Kd.int .i64) w Aa1 la1.length la1) (ka1 : la1.length ≤ ca1) (ha2 : Kd.C (Kd.int .i64) w Aa2 la2.length la2) (ka2 : la2.length ≤ ca2) (hb1 : Kd.C (Kd.int .i64) w Ab1 lb1.length lb1) (kb1 : lb1.length ≤ cb1) (hb2 : Kd.C (Kd.int .i64) w Ab2 lb2.length lb2) (kb2 : lb2.length ≤ cb2) (v : Int) (hf : spec_l5List.f a la1 la2 = some v) (hv : v ≠ 0) :
    Calls Try.prog 95 #[.agg #[.bool a, .slice Aa1 la1.length ca1, .slice Aa2 la2.length ca2], .agg #[.bool b, .slice Ab1 lb1.length cb1, .slice Ab2 lb2.length cb2]] w fun e w' => e = .returned (.tuple #[.agg #[.bool b, .slice Ab1 lb1.length cb1, .slice Ab2 lb2.length cb2], .int .i64 v]) ∧ Below w.heap.size w w' := by
  have Ha1 := Aside0.mk ha1
  have Ka1 := Aside0.mk ka1
  clear ha1 ka1
  have Ha2 := Aside0.mk ha2
  have Ka2 := Aside0.mk ka2
  clear ha2 ka2
  have Hb1 := Aside0.mk hb1
  have Kb1 := Aside0.mk kb1
  clear hb1 kb1
  have Hb2 := Aside0.mk hb2
  have Kb2 := Aside0.mk kb2
  clear hb2 kb2
  have HF := Aside0.mk hf
  have c0 : (v == 0) = false := beq_eq_false_iff_ne.mpr hv
  have c1 : (v != 0) = true := bne_iff_ne.mpr hv
  clear hf hv
  have HS := Aside0.mk (Sx.start w)
  go_enter Try.func95, Try.ntmps95
  go_wp2_with (first | ((with_reducible refine gate_dst (N := 2) rfl ?_); refine box_event ?hg (N := 2) ?hd (cs := #[.bool a, .slice Aa1 la1.length ca1, .slice Aa2 la2.length ca2]) (t := 28) ?hr ?_; (case hd => rfl); (case hg => rfl); (case hr => first | (go_simp; done) | (go_simp; rfl)); intro gK hg1 w1 hx1 hb1; have nS : Aside0 (Sx w w1 [(.blk gK #[.bool a, .slice Aa1 la1.length ca1, .slice Aa2 la2.length ca2] 28)]) := Aside0.mk (HS.out.box hg1 hx1 hb1); clear HS; have HS := nS; clear nS hg1 hx1 hb1) | ((with_reducible refine gate_dst (N := 3) rfl ?_); refine box_event ?hg (N := 3) ?hd (cs := #[.bool b, .slice Ab1 lb1.length cb1, .slice Ab2 lb2.length cb2]) (t := 28) ?hr ?_; (case hd => rfl); (case hg => rfl); (case hr => first | (go_simp; done) | (go_simp; rfl)); intro gB hg2 w2 hx2 hb2; have nS : Aside0 (Sx w w2 [(.blk gB #[.bool b, .slice Ab1 lb1.length cb1, .slice Ab2 lb2.length cb2] 28), (.blk gK #[.bool a, .slice Aa1 la1.length ca1, .slice Aa2 la2.length ca2] 28)]) := Aside0.mk (HS.out.box hg2 hx2 hb2); clear HS; have HS := nS; clear nS hg2 hx2 hb2) | ((with_reducible refine gate_dst (N := 4) rfl ?_); refine box_event ?hg (N := 4) ?hd (cs := #[.bool false, .slice none 0 0, .slice none 0 0]) (t := 28) ?hr ?_; (case hd => rfl); (case hg => rfl); (case hr => first | (go_simp; done) | (go_simp; rfl)); intro gR hg3 w3 hx3 hb3; have nS : Aside0 (Sx w w3 [(.blk gR #[.bool false, .slice none 0 0, .slice none 0 0] 28), (.blk gB #[.bool b, .slice Ab1 lb1.length cb1, .slice Ab2 lb2.length cb2] 28), (.blk gK #[.bool a, .slice Aa1 la1.length ca1, .slice Aa2 la2.length ca2] 28)]) := Aside0.mk (HS.out.box hg3 hx3 hb3); clear HS; have HS := nS; clear nS hg3 hx3 hb3) | ((with_reducible refine gate_dst (N := 9) rfl ?_); refine wpList_load_row rfl 28 (.tmp 2) rfl gK rfl 28 #[.bool a, .slice Aa1 la1.length ca1, .slice Aa2 la2.length ca2] (0, 0) _ (HS.out.blk 2 rfl) Try.underlying28 rfl (by kernel_rfl) ?_) | (go_at_call 71; refine (spec_l5List.calls a Aa1 ca1 la1 Aa2 ca2 la2 v _ (Kd.C_below Ha1.out HS.out.below) Ka1.out (Kd.C_below Ha2.out HS.out.below) Ka2.out HF.out).mono ?_; rintro e w4 ⟨rfl, hb4⟩; have nS : Aside0 (Sx w w4 [(.blk gR #[.bool false, .slice none 0 0, .slice none 0 0] 28), (.blk gB #[.bool b, .slice Ab1 lb1.length cb1, .slice Ab2 lb2.length cb2] 28), (.blk gK #[.bool a, .slice Aa1 la1.length ca1, .slice Aa2 la2.length ca2] 28)]) := Aside0.mk (HS.out.step hb4); clear HS; have HS := nS; clear nS hb4) | ((with_reducible refine gate_dst (N := 13) rfl ?_); refine wpList_load_row rfl 28 (.tmp 3) rfl gB rfl 28 #[.bool b, .slice Ab1 lb1.length cb1, .slice Ab2 lb2.length cb2] (0, 0) _ (HS.out.blk 1 rfl) Try.underlying28 rfl (by kernel_rfl) ?_) | ((with_reducible refine gate_store rfl ?_); refine store_named rfl 28 (.tmp 4) (.tmp 13) rfl gR #[.bool b, .slice Ab1 lb1.length cb1, .slice Ab2 lb2.length cb2] rfl rfl 28 #[.bool false, .slice none 0 0, .slice none 0 0] (HS.out.blk 0 rfl) (by kernel_rfl) rfl (by simp [Value.oneCell']) ?_; intro w5 hx5 hb5; have nS : Aside0 (Sx w w5 [(.blk gR #[.bool b, .slice Ab1 lb1.length cb1, .slice Ab2 lb2.length cb2] 28), (.blk gB #[.bool b, .slice Ab1 lb1.length cb1, .slice Ab2 lb2.length cb2] 28), (.blk gK #[.bool a, .slice Aa1 la1.length ca1, .slice Aa2 la2.length ca2] 28)]) := Aside0.mk (HS.out.put 0 rfl hx5 hb5); clear HS; have HS := nS; clear nS hx5 hb5))
  refine bodyPost_ret (results_ct rfl _ _ gR 28 #[.bool b, .slice Ab1 lb1.length cb1, .slice Ab2 lb2.length cb2] (0, 0) _ rfl (HS.out.blk 0 rfl) Try.underlying28 rfl (by kernel_rfl)) rfl ?_
  exact ⟨rfl, HS.out.below⟩
set_option maxHeartbeats 2000000 in
set_option maxRecDepth 100000 in
theorem counted_len (a : Bool) (Aa1 : Option Addr) (ca1 : Nat) (la1 : List Int) (Aa2 : Option Addr) (ca2 : Nat) (la2 : List Int) (b : Bool) (Ab1 : Option Addr) (cb1 : Nat) (lb1 : List Int) (Ab2 : Option Addr) (cb2 : Nat) (lb2 : List Int) (w : World) (ha1 : Kd.C (Kd.int .i64) w Aa1 la1.length la1) (ka1 : la1.length ≤ ca1) (ha2 : Kd.C (Kd.int .i64) w Aa2 la2.length la2) (ka2 : la2.length ≤ ca2) (hb1 : Kd.C (Kd.int .i64) w Ab1 lb1.length lb1) (kb1 : lb1.length ≤ cb1) (hb2 : Kd.C (Kd.int .i64) w Ab2 lb2.length lb2) (kb2 : lb2.length ≤ cb2) (hb1' : lb1.length ≤ 1000000) (hb2' : lb2.length ≤ 1000000) (hf : spec_l5List.f a la1 la2 = some 0) (hz : lb1.length ≠ 0) (hn : la2.length ≠ lb1.length) :
    Calls Try.prog 95 #[.agg #[.bool a, .slice Aa1 la1.length ca1, .slice Aa2 la2.length ca2], .agg #[.bool b, .slice Ab1 lb1.length cb1, .slice Ab2 lb2.length cb2]] w fun e w' => e = .returned (.tuple #[.agg #[.bool b, .slice Ab1 lb1.length cb1, .slice Ab2 lb2.length cb2], .int .i64 5]) ∧ Below w.heap.size w w' := by
  have Ha1 := Aside0.mk ha1
  have Ka1 := Aside0.mk ka1
  clear ha1 ka1
  have Ha2 := Aside0.mk ha2
  have Ka2 := Aside0.mk ka2
  clear ha2 ka2
  have Hb1 := Aside0.mk hb1
  have Kb1 := Aside0.mk kb1
  clear hb1 kb1
  have Hb2 := Aside0.mk hb2
  have Kb2 := Aside0.mk kb2
  clear hb2 kb2
  have HF := Aside0.mk hf
  have HC3 := Aside0.mk (l3Copy_eq b lb1 lb2 (by omega) (by omega))
  clear hf
  have c0 : ((lb1.length : Int) == 0) = false := beq_eq_false_iff_ne.mpr (by omega)
  have c0' : ¬ lb1.length = 0 := hz
  clear hz
  have d0 : ((la2.length : Int) == (lb1.length : Int)) = false := beq_eq_false_iff_ne.mpr (by omega)
  have d1 : ((la2.length : Int) != (lb1.length : Int)) = true := bne_iff_ne.mpr (by omega)
  have d2 : ¬ la2.length = lb1.length := hn
  clear hn
  have HS := Aside0.mk (Sx.start w)
  go_enter Try.func95, Try.ntmps95
  go_wp2_with (first | ((with_reducible refine gate_dst (N := 2) rfl ?_); refine box_event ?hg (N := 2) ?hd (cs := #[.bool a, .slice Aa1 la1.length ca1, .slice Aa2 la2.length ca2]) (t := 28) ?hr ?_; (case hd => rfl); (case hg => rfl); (case hr => first | (go_simp; done) | (go_simp; rfl)); intro gK hg1 w1 hx1 hb1; have nS : Aside0 (Sx w w1 [(.blk gK #[.bool a, .slice Aa1 la1.length ca1, .slice Aa2 la2.length ca2] 28)]) := Aside0.mk (HS.out.box hg1 hx1 hb1); clear HS; have HS := nS; clear nS hg1 hx1 hb1) | ((with_reducible refine gate_dst (N := 3) rfl ?_); refine box_event ?hg (N := 3) ?hd (cs := #[.bool b, .slice Ab1 lb1.length cb1, .slice Ab2 lb2.length cb2]) (t := 28) ?hr ?_; (case hd => rfl); (case hg => rfl); (case hr => first | (go_simp; done) | (go_simp; rfl)); intro gB hg2 w2 hx2 hb2; have nS : Aside0 (Sx w w2 [(.blk gB #[.bool b, .slice Ab1 lb1.length cb1, .slice Ab2 lb2.length cb2] 28), (.blk gK #[.bool a, .slice Aa1 la1.length ca1, .slice Aa2 la2.length ca2] 28)]) := Aside0.mk (HS.out.box hg2 hx2 hb2); clear HS; have HS := nS; clear nS hg2 hx2 hb2) | ((with_reducible refine gate_dst (N := 4) rfl ?_); refine box_event ?hg (N := 4) ?hd (cs := #[.bool false, .slice none 0 0, .slice none 0 0]) (t := 28) ?hr ?_; (case hd => rfl); (case hg => rfl); (case hr => first | (go_simp; done) | (go_simp; rfl)); intro gR hg3 w3 hx3 hb3; have nS : Aside0 (Sx w w3 [(.blk gR #[.bool false, .slice none 0 0, .slice none 0 0] 28), (.blk gB #[.bool b, .slice Ab1 lb1.length cb1, .slice Ab2 lb2.length cb2] 28), (.blk gK #[.bool a, .slice Aa1 la1.length ca1, .slice Aa2 la2.length ca2] 28)]) := Aside0.mk (HS.out.box hg3 hx3 hb3); clear HS; have HS := nS; clear nS hg3 hx3 hb3) | ((with_reducible refine gate_dst (N := 9) rfl ?_); refine wpList_load_row rfl 28 (.tmp 2) rfl gK rfl 28 #[.bool a, .slice Aa1 la1.length ca1, .slice Aa2 la2.length ca2] (0, 0) _ (HS.out.blk 2 rfl) Try.underlying28 rfl (by kernel_rfl) ?_) | (go_at_call 71; refine (spec_l5List.calls a Aa1 ca1 la1 Aa2 ca2 la2 0 _ (Kd.C_below Ha1.out HS.out.below) Ka1.out (Kd.C_below Ha2.out HS.out.below) Ka2.out HF.out).mono ?_; rintro e w4 ⟨rfl, hb4⟩; have nS : Aside0 (Sx w w4 [(.blk gR #[.bool false, .slice none 0 0, .slice none 0 0] 28), (.blk gB #[.bool b, .slice Ab1 lb1.length cb1, .slice Ab2 lb2.length cb2] 28), (.blk gK #[.bool a, .slice Aa1 la1.length ca1, .slice Aa2 la2.length ca2] 28)]) := Aside0.mk (HS.out.step hb4); clear HS; have HS := nS; clear nS hb4) | ((with_reducible refine gate_dst (N := 15) rfl ?_); refine wpList_load_row rfl 28 (.tmp 3) rfl gB rfl 28 #[.bool b, .slice Ab1 lb1.length cb1, .slice Ab2 lb2.length cb2] (0, 0) _ (HS.out.blk 1 rfl) Try.underlying28 rfl (by kernel_rfl) ?_) | (go_at_call 81; refine (spec_l3Copy.calls b Ab1 cb1 lb1 Ab2 cb2 lb2 b lb1 lb2 _ (Kd.C_below Hb1.out HS.out.below) Kb1.out (Kd.C_below Hb2.out HS.out.below) Kb2.out HC3.out).mono ?_; rintro e w5 ⟨v15, v25, rfl, hr15, hr25, hb5⟩; obtain ⟨AS, cS, hv_⟩ := Kd.R_slice hr15; subst hv_; obtain ⟨AD, cD, hv_⟩ := Kd.R_slice hr25; subst hv_; have nS : Aside0 (Sx w w5 [(.row (.slice AS lb1.length cS) lb1), (.row (.slice AD lb2.length cD) lb2), (.blk gR #[.bool false, .slice none 0 0, .slice none 0 0] 28), (.blk gB #[.bool b, .slice Ab1 lb1.length cb1, .slice Ab2 lb2.length cb2] 28), (.blk gK #[.bool a, .slice Aa1 la1.length ca1, .slice Aa2 la2.length ca2] 28)]) := Aside0.mk (HS.out.addRow2 hb5 hr15 hr25); clear HS; have HS := nS; clear nS hb5 hr15 hr25) | ((with_reducible refine gate_dst (N := 7) rfl ?_); refine box_event ?hg (N := 7) ?hd (cs := #[.bool false, .slice none 0 0, .slice none 0 0]) (t := 28) ?hr ?_; (case hd => rfl); (case hg => rfl); (case hr => first | (go_simp; done) | (go_simp; rfl)); intro gO hg6 w6 hx6 hb6; have nS : Aside0 (Sx w w6 [(.blk gO #[.bool false, .slice none 0 0, .slice none 0 0] 28), (.row (.slice AS lb1.length cS) lb1), (.row (.slice AD lb2.length cD) lb2), (.blk gR #[.bool false, .slice none 0 0, .slice none 0 0] 28), (.blk gB #[.bool b, .slice Ab1 lb1.length cb1, .slice Ab2 lb2.length cb2] 28), (.blk gK #[.bool a, .slice Aa1 la1.length ca1, .slice Aa2 la2.length ca2] 28)]) := Aside0.mk (HS.out.box hg6 hx6 hb6); clear HS; have HS := nS; clear nS hg6 hx6 hb6) | ((with_reducible refine gate_store rfl ?_); refine store_named rfl 28 (.tmp 7) (.tmp 16) rfl gO #[.bool b, .slice AS lb1.length cS, .slice AD lb2.length cD] rfl rfl 28 #[.bool false, .slice none 0 0, .slice none 0 0] (HS.out.blk 0 rfl) (by kernel_rfl) rfl (by simp [Value.oneCell']) ?_; intro w7 hx7 hb7; have nS : Aside0 (Sx w w7 [(.blk gO #[.bool b, .slice AS lb1.length cS, .slice AD lb2.length cD] 28), (.row (.slice AS lb1.length cS) lb1), (.row (.slice AD lb2.length cD) lb2), (.blk gR #[.bool false, .slice none 0 0, .slice none 0 0] 28), (.blk gB #[.bool b, .slice Ab1 lb1.length cb1, .slice Ab2 lb2.length cb2] 28), (.blk gK #[.bool a, .slice Aa1 la1.length ca1, .slice Aa2 la2.length ca2] 28)]) := Aside0.mk (HS.out.put 0 rfl hx7 hb7); clear HS; have HS := nS; clear nS hx7 hb7) | ((with_reducible refine gate_dst (N := 18) rfl ?_); refine ev_load rfl 22 (.tmp 17) rfl ⟨gB, 1, none⟩ rfl (.slice Ab1 lb1.length cb1) ((blk_cell (HS.out.blk 4 rfl) 1).trans rfl) (by kernel_rfl) ?_) | ((with_reducible refine gate_dst (N := 37) rfl ?_); refine ev_load rfl 22 (.tmp 36) rfl ⟨gK, 2, none⟩ rfl (.slice Aa2 la2.length ca2) ((blk_cell (HS.out.blk 5 rfl) 2).trans rfl) (by kernel_rfl) ?_) | ((with_reducible refine gate_dst (N := 40) rfl ?_); refine ev_load rfl 22 (.tmp 39) rfl ⟨gO, 1, none⟩ rfl (.slice AS lb1.length cS) ((blk_cell (HS.out.blk 0 rfl) 1).trans rfl) (by kernel_rfl) ?_) | ((with_reducible refine gate_dst (N := 43) rfl ?_); refine wpList_load_row rfl 28 (.tmp 3) rfl gB rfl 28 #[.bool b, .slice Ab1 lb1.length cb1, .slice Ab2 lb2.length cb2] (0, 0) _ (HS.out.blk 4 rfl) Try.underlying28 rfl (by kernel_rfl) ?_) | ((with_reducible refine gate_store rfl ?_); refine store_named rfl 28 (.tmp 4) (.tmp 43) rfl gR #[.bool b, .slice Ab1 lb1.length cb1, .slice Ab2 lb2.length cb2] rfl rfl 28 #[.bool false, .slice none 0 0, .slice none 0 0] (HS.out.blk 3 rfl) (by kernel_rfl) rfl (by simp [Value.oneCell']) ?_; intro w8 hx8 hb8; have nS : Aside0 (Sx w w8 [(.blk gO #[.bool b, .slice AS lb1.length cS, .slice AD lb2.length cD] 28), (.row (.slice AS lb1.length cS) lb1), (.row (.slice AD lb2.length cD) lb2), (.blk gR #[.bool b, .slice Ab1 lb1.length cb1, .slice Ab2 lb2.length cb2] 28), (.blk gB #[.bool b, .slice Ab1 lb1.length cb1, .slice Ab2 lb2.length cb2] 28), (.blk gK #[.bool a, .slice Aa1 la1.length ca1, .slice Aa2 la2.length ca2] 28)]) := Aside0.mk (HS.out.put 3 rfl hx8 hb8); clear HS; have HS := nS; clear nS hx8 hb8))
  refine bodyPost_ret (results_ct rfl _ _ gR 28 #[.bool b, .slice Ab1 lb1.length cb1, .slice Ab2 lb2.length cb2] (0, 0) _ rfl (HS.out.blk 3 rfl) Try.underlying28 rfl (by kernel_rfl)) rfl ?_
  exact ⟨rfl, HS.out.below⟩
set_option maxHeartbeats 2000000 in
set_option maxRecDepth 100000 in
theorem counted_same (a : Bool) (Aa1 : Option Addr) (ca1 : Nat) (la1 : List Int) (Aa2 : Option Addr) (ca2 : Nat) (la2 : List Int) (b : Bool) (Ab1 : Option Addr) (cb1 : Nat) (lb1 : List Int) (Ab2 : Option Addr) (cb2 : Nat) (lb2 : List Int) (w : World) (ha1 : Kd.C (Kd.int .i64) w Aa1 la1.length la1) (ka1 : la1.length ≤ ca1) (ha2 : Kd.C (Kd.int .i64) w Aa2 la2.length la2) (ka2 : la2.length ≤ ca2) (hb1 : Kd.C (Kd.int .i64) w Ab1 lb1.length lb1) (kb1 : lb1.length ≤ cb1) (hb2 : Kd.C (Kd.int .i64) w Ab2 lb2.length lb2) (kb2 : lb2.length ≤ cb2) (hb1' : lb1.length ≤ 1000000) (hb2' : lb2.length ≤ 1000000) (hf : spec_l5List.f a la1 la2 = some 0) (hz : lb1.length ≠ 0) (hn : la2.length = lb1.length) :
    Calls Try.prog 95 #[.agg #[.bool a, .slice Aa1 la1.length ca1, .slice Aa2 la2.length ca2], .agg #[.bool b, .slice Ab1 lb1.length cb1, .slice Ab2 lb2.length cb2]] w fun e w' => ∃ A1 c1 A2 c2, e = .returned (.tuple #[.agg #[.bool b, .slice A1 lb1.length c1, .slice A2 lb2.length c2], .int .i64 0]) ∧ Kd.R (Kd.int .i64) 3 w' w.heap.size (fun k => some k ≠ (Value.slice A2 lb2.length c2).ownBlock) (.slice A1 lb1.length c1) lb1 ∧ Kd.R (Kd.int .i64) 3 w' w.heap.size (fun k => some k ≠ (Value.slice A1 lb1.length c1).ownBlock) (.slice A2 lb2.length c2) lb2 ∧ Below w.heap.size w w' := by
  have Ha1 := Aside0.mk ha1
  have Ka1 := Aside0.mk ka1
  clear ha1 ka1
  have Ha2 := Aside0.mk ha2
  have Ka2 := Aside0.mk ka2
  clear ha2 ka2
  have Hb1 := Aside0.mk hb1
  have Kb1 := Aside0.mk kb1
  clear hb1 kb1
  have Hb2 := Aside0.mk hb2
  have Kb2 := Aside0.mk kb2
  clear hb2 kb2
  have HF := Aside0.mk hf
  have HC3 := Aside0.mk (l3Copy_eq b lb1 lb2 (by omega) (by omega))
  clear hf
  have c0 : ((lb1.length : Int) == 0) = false := beq_eq_false_iff_ne.mpr (by omega)
  have c0' : ¬ lb1.length = 0 := hz
  clear hz
  have d0 : ((la2.length : Int) == (lb1.length : Int)) = true := beq_iff_eq.mpr (by omega)
  have d1 : ((la2.length : Int) != (lb1.length : Int)) = false := by simp [hn]
  have HN := Aside0.mk hn
  clear hn
  have HS := Aside0.mk (Sx.start w)
  go_enter Try.func95, Try.ntmps95
  go_wp2_with (first | ((with_reducible refine gate_dst (N := 2) rfl ?_); refine box_event ?hg (N := 2) ?hd (cs := #[.bool a, .slice Aa1 la1.length ca1, .slice Aa2 la2.length ca2]) (t := 28) ?hr ?_; (case hd => rfl); (case hg => rfl); (case hr => first | (go_simp; done) | (go_simp; rfl)); intro gK hg1 w1 hx1 hb1; have nS : Aside0 (Sx w w1 [(.blk gK #[.bool a, .slice Aa1 la1.length ca1, .slice Aa2 la2.length ca2] 28)]) := Aside0.mk (HS.out.box hg1 hx1 hb1); clear HS; have HS := nS; clear nS hg1 hx1 hb1) | ((with_reducible refine gate_dst (N := 3) rfl ?_); refine box_event ?hg (N := 3) ?hd (cs := #[.bool b, .slice Ab1 lb1.length cb1, .slice Ab2 lb2.length cb2]) (t := 28) ?hr ?_; (case hd => rfl); (case hg => rfl); (case hr => first | (go_simp; done) | (go_simp; rfl)); intro gB hg2 w2 hx2 hb2; have nS : Aside0 (Sx w w2 [(.blk gB #[.bool b, .slice Ab1 lb1.length cb1, .slice Ab2 lb2.length cb2] 28), (.blk gK #[.bool a, .slice Aa1 la1.length ca1, .slice Aa2 la2.length ca2] 28)]) := Aside0.mk (HS.out.box hg2 hx2 hb2); clear HS; have HS := nS; clear nS hg2 hx2 hb2) | ((with_reducible refine gate_dst (N := 4) rfl ?_); refine box_event ?hg (N := 4) ?hd (cs := #[.bool false, .slice none 0 0, .slice none 0 0]) (t := 28) ?hr ?_; (case hd => rfl); (case hg => rfl); (case hr => first | (go_simp; done) | (go_simp; rfl)); intro gR hg3 w3 hx3 hb3; have nS : Aside0 (Sx w w3 [(.blk gR #[.bool false, .slice none 0 0, .slice none 0 0] 28), (.blk gB #[.bool b, .slice Ab1 lb1.length cb1, .slice Ab2 lb2.length cb2] 28), (.blk gK #[.bool a, .slice Aa1 la1.length ca1, .slice Aa2 la2.length ca2] 28)]) := Aside0.mk (HS.out.box hg3 hx3 hb3); clear HS; have HS := nS; clear nS hg3 hx3 hb3) | ((with_reducible refine gate_dst (N := 9) rfl ?_); refine wpList_load_row rfl 28 (.tmp 2) rfl gK rfl 28 #[.bool a, .slice Aa1 la1.length ca1, .slice Aa2 la2.length ca2] (0, 0) _ (HS.out.blk 2 rfl) Try.underlying28 rfl (by kernel_rfl) ?_) | (go_at_call 71; refine (spec_l5List.calls a Aa1 ca1 la1 Aa2 ca2 la2 0 _ (Kd.C_below Ha1.out HS.out.below) Ka1.out (Kd.C_below Ha2.out HS.out.below) Ka2.out HF.out).mono ?_; rintro e w4 ⟨rfl, hb4⟩; have nS : Aside0 (Sx w w4 [(.blk gR #[.bool false, .slice none 0 0, .slice none 0 0] 28), (.blk gB #[.bool b, .slice Ab1 lb1.length cb1, .slice Ab2 lb2.length cb2] 28), (.blk gK #[.bool a, .slice Aa1 la1.length ca1, .slice Aa2 la2.length ca2] 28)]) := Aside0.mk (HS.out.step hb4); clear HS; have HS := nS; clear nS hb4) | ((with_reducible refine gate_dst (N := 15) rfl ?_); refine wpList_load_row rfl 28 (.tmp 3) rfl gB rfl 28 #[.bool b, .slice Ab1 lb1.length cb1, .slice Ab2 lb2.length cb2] (0, 0) _ (HS.out.blk 1 rfl) Try.underlying28 rfl (by kernel_rfl) ?_) | (go_at_call 81; refine (spec_l3Copy.calls b Ab1 cb1 lb1 Ab2 cb2 lb2 b lb1 lb2 _ (Kd.C_below Hb1.out HS.out.below) Kb1.out (Kd.C_below Hb2.out HS.out.below) Kb2.out HC3.out).mono ?_; rintro e w5 ⟨v15, v25, rfl, hr15, hr25, hb5⟩; obtain ⟨AS, cS, hv_⟩ := Kd.R_slice hr15; subst hv_; obtain ⟨AD, cD, hv_⟩ := Kd.R_slice hr25; subst hv_; have nS : Aside0 (Sx w w5 [(.row (.slice AS lb1.length cS) lb1), (.row (.slice AD lb2.length cD) lb2), (.blk gR #[.bool false, .slice none 0 0, .slice none 0 0] 28), (.blk gB #[.bool b, .slice Ab1 lb1.length cb1, .slice Ab2 lb2.length cb2] 28), (.blk gK #[.bool a, .slice Aa1 la1.length ca1, .slice Aa2 la2.length ca2] 28)]) := Aside0.mk (HS.out.addRow2 hb5 hr15 hr25); clear HS; have HS := nS; clear nS hb5 hr15 hr25) | ((with_reducible refine gate_dst (N := 7) rfl ?_); refine box_event ?hg (N := 7) ?hd (cs := #[.bool false, .slice none 0 0, .slice none 0 0]) (t := 28) ?hr ?_; (case hd => rfl); (case hg => rfl); (case hr => first | (go_simp; done) | (go_simp; rfl)); intro gO hg6 w6 hx6 hb6; have nS : Aside0 (Sx w w6 [(.blk gO #[.bool false, .slice none 0 0, .slice none 0 0] 28), (.row (.slice AS lb1.length cS) lb1), (.row (.slice AD lb2.length cD) lb2), (.blk gR #[.bool false, .slice none 0 0, .slice none 0 0] 28), (.blk gB #[.bool b, .slice Ab1 lb1.length cb1, .slice Ab2 lb2.length cb2] 28), (.blk gK #[.bool a, .slice Aa1 la1.length ca1, .slice Aa2 la2.length ca2] 28)]) := Aside0.mk (HS.out.box hg6 hx6 hb6); clear HS; have HS := nS; clear nS hg6 hx6 hb6) | ((with_reducible refine gate_store rfl ?_); refine store_named rfl 28 (.tmp 7) (.tmp 16) rfl gO #[.bool b, .slice AS lb1.length cS, .slice AD lb2.length cD] rfl rfl 28 #[.bool false, .slice none 0 0, .slice none 0 0] (HS.out.blk 0 rfl) (by kernel_rfl) rfl (by simp [Value.oneCell']) ?_; intro w7 hx7 hb7; have nS : Aside0 (Sx w w7 [(.blk gO #[.bool b, .slice AS lb1.length cS, .slice AD lb2.length cD] 28), (.row (.slice AS lb1.length cS) lb1), (.row (.slice AD lb2.length cD) lb2), (.blk gR #[.bool false, .slice none 0 0, .slice none 0 0] 28), (.blk gB #[.bool b, .slice Ab1 lb1.length cb1, .slice Ab2 lb2.length cb2] 28), (.blk gK #[.bool a, .slice Aa1 la1.length ca1, .slice Aa2 la2.length ca2] 28)]) := Aside0.mk (HS.out.put 0 rfl hx7 hb7); clear HS; have HS := nS; clear nS hx7 hb7) | ((with_reducible refine gate_dst (N := 18) rfl ?_); refine ev_load rfl 22 (.tmp 17) rfl ⟨gB, 1, none⟩ rfl (.slice Ab1 lb1.length cb1) ((blk_cell (HS.out.blk 4 rfl) 1).trans rfl) (by kernel_rfl) ?_) | ((with_reducible refine gate_dst (N := 37) rfl ?_); refine ev_load rfl 22 (.tmp 36) rfl ⟨gK, 2, none⟩ rfl (.slice Aa2 la2.length ca2) ((blk_cell (HS.out.blk 5 rfl) 2).trans rfl) (by kernel_rfl) ?_) | ((with_reducible refine gate_dst (N := 40) rfl ?_); refine ev_load rfl 22 (.tmp 39) rfl ⟨gO, 1, none⟩ rfl (.slice AS lb1.length cS) ((blk_cell (HS.out.blk 0 rfl) 1).trans rfl) (by kernel_rfl) ?_) | ((with_reducible refine gate_dst (N := 44) rfl ?_); refine wpList_load_row rfl 28 (.tmp 7) rfl gO rfl 28 #[.bool b, .slice AS lb1.length cS, .slice AD lb2.length cD] (0, 0) _ (HS.out.blk 0 rfl) Try.underlying28 rfl (by kernel_rfl) ?_) | ((with_reducible refine gate_store rfl ?_); refine store_named rfl 28 (.tmp 4) (.tmp 44) rfl gR #[.bool b, .slice AS lb1.length cS, .slice AD lb2.length cD] rfl rfl 28 #[.bool false, .slice none 0 0, .slice none 0 0] (HS.out.blk 3 rfl) (by kernel_rfl) rfl (by simp [Value.oneCell']) ?_; intro w8 hx8 hb8; have nS : Aside0 (Sx w w8 [(.blk gO #[.bool b, .slice AS lb1.length cS, .slice AD lb2.length cD] 28), (.row (.slice AS lb1.length cS) lb1), (.row (.slice AD lb2.length cD) lb2), (.blk gR #[.bool b, .slice AS lb1.length cS, .slice AD lb2.length cD] 28), (.blk gB #[.bool b, .slice Ab1 lb1.length cb1, .slice Ab2 lb2.length cb2] 28), (.blk gK #[.bool a, .slice Aa1 la1.length ca1, .slice Aa2 la2.length ca2] 28)]) := Aside0.mk (HS.out.put 3 rfl hx8 hb8); clear HS; have HS := nS; clear nS hx8 hb8))
  refine bodyPost_ret (results_ct rfl _ _ gR 28 #[.bool b, .slice AS lb1.length cS, .slice AD lb2.length cD] (0, 0) _ rfl (HS.out.blk 3 rfl) Try.underlying28 rfl (by kernel_rfl)) rfl ?_
  exact ⟨AS, cS, AD, cD, rfl, (HS.out.two 1 2 (by decide) rfl rfl).1, (HS.out.two 1 2 (by decide) rfl rfl).2, HS.out.below⟩
set_option maxHeartbeats 2000000 in
set_option maxRecDepth 100000 in
theorem counted_deep (a : Bool) (Aa1 : Option Addr) (ca1 : Nat) (la1 : List Int) (Aa2 : Option Addr) (ca2 : Nat) (la2 : List Int) (b : Bool) (Ab1 : Option Addr) (cb1 : Nat) (lb1 : List Int) (Ab2 : Option Addr) (cb2 : Nat) (lb2 : List Int) (w : World) (ha1 : Kd.C (Kd.int .i64) w Aa1 la1.length la1) (ka1 : la1.length ≤ ca1) (ha2 : Kd.C (Kd.int .i64) w Aa2 la2.length la2) (ka2 : la2.length ≤ ca2) (hb1 : Kd.C (Kd.int .i64) w Ab1 lb1.length lb1) (kb1 : lb1.length ≤ cb1) (hb2 : Kd.C (Kd.int .i64) w Ab2 lb2.length lb2) (kb2 : lb2.length ≤ cb2) (hb1' : lb1.length ≤ 1000000) (hb2' : lb2.length ≤ 1000000) (hf : spec_l5List.f a la1 la2 = some 0) (hz : lb1.length = 0) (hd : 5 < la2.length) :
    Calls Try.prog 95 #[.agg #[.bool a, .slice Aa1 la1.length ca1, .slice Aa2 la2.length ca2], .agg #[.bool b, .slice Ab1 lb1.length cb1, .slice Ab2 lb2.length cb2]] w fun e w' => e = .returned (.tuple #[.agg #[.bool b, .slice Ab1 lb1.length cb1, .slice Ab2 lb2.length cb2], .int .i64 7]) ∧ Below w.heap.size w w' := by
  have Ha1 := Aside0.mk ha1
  have Ka1 := Aside0.mk ka1
  clear ha1 ka1
  have Ha2 := Aside0.mk ha2
  have Ka2 := Aside0.mk ka2
  clear ha2 ka2
  have Hb1 := Aside0.mk hb1
  have Kb1 := Aside0.mk kb1
  clear hb1 kb1
  have Hb2 := Aside0.mk hb2
  have Kb2 := Aside0.mk kb2
  clear hb2 kb2
  have HF := Aside0.mk hf
  have HC3 := Aside0.mk (l3Copy_eq b lb1 lb2 (by omega) (by omega))
  clear hf
  have c0 : ((lb1.length : Int) == 0) = true := beq_iff_eq.mpr (by omega)
  have c1 : (lb1.length == 0) = true := beq_iff_eq.mpr hz
  have HZ := Aside0.mk hz
  clear hz
  have HD := Aside0.mk hd
  clear hd
  have HS := Aside0.mk (Sx.start w)
  go_enter Try.func95, Try.ntmps95
  go_wp2_with (first | ((with_reducible refine gate_dst (N := 2) rfl ?_); refine box_event ?hg (N := 2) ?hd (cs := #[.bool a, .slice Aa1 la1.length ca1, .slice Aa2 la2.length ca2]) (t := 28) ?hr ?_; (case hd => rfl); (case hg => rfl); (case hr => first | (go_simp; done) | (go_simp; rfl)); intro gK hg1 w1 hx1 hb1; have nS : Aside0 (Sx w w1 [(.blk gK #[.bool a, .slice Aa1 la1.length ca1, .slice Aa2 la2.length ca2] 28)]) := Aside0.mk (HS.out.box hg1 hx1 hb1); clear HS; have HS := nS; clear nS hg1 hx1 hb1) | ((with_reducible refine gate_dst (N := 3) rfl ?_); refine box_event ?hg (N := 3) ?hd (cs := #[.bool b, .slice Ab1 lb1.length cb1, .slice Ab2 lb2.length cb2]) (t := 28) ?hr ?_; (case hd => rfl); (case hg => rfl); (case hr => first | (go_simp; done) | (go_simp; rfl)); intro gB hg2 w2 hx2 hb2; have nS : Aside0 (Sx w w2 [(.blk gB #[.bool b, .slice Ab1 lb1.length cb1, .slice Ab2 lb2.length cb2] 28), (.blk gK #[.bool a, .slice Aa1 la1.length ca1, .slice Aa2 la2.length ca2] 28)]) := Aside0.mk (HS.out.box hg2 hx2 hb2); clear HS; have HS := nS; clear nS hg2 hx2 hb2) | ((with_reducible refine gate_dst (N := 4) rfl ?_); refine box_event ?hg (N := 4) ?hd (cs := #[.bool false, .slice none 0 0, .slice none 0 0]) (t := 28) ?hr ?_; (case hd => rfl); (case hg => rfl); (case hr => first | (go_simp; done) | (go_simp; rfl)); intro gR hg3 w3 hx3 hb3; have nS : Aside0 (Sx w w3 [(.blk gR #[.bool false, .slice none 0 0, .slice none 0 0] 28), (.blk gB #[.bool b, .slice Ab1 lb1.length cb1, .slice Ab2 lb2.length cb2] 28), (.blk gK #[.bool a, .slice Aa1 la1.length ca1, .slice Aa2 la2.length ca2] 28)]) := Aside0.mk (HS.out.box hg3 hx3 hb3); clear HS; have HS := nS; clear nS hg3 hx3 hb3) | ((with_reducible refine gate_dst (N := 9) rfl ?_); refine wpList_load_row rfl 28 (.tmp 2) rfl gK rfl 28 #[.bool a, .slice Aa1 la1.length ca1, .slice Aa2 la2.length ca2] (0, 0) _ (HS.out.blk 2 rfl) Try.underlying28 rfl (by kernel_rfl) ?_) | (go_at_call 71; refine (spec_l5List.calls a Aa1 ca1 la1 Aa2 ca2 la2 0 _ (Kd.C_below Ha1.out HS.out.below) Ka1.out (Kd.C_below Ha2.out HS.out.below) Ka2.out HF.out).mono ?_; rintro e w4 ⟨rfl, hb4⟩; have nS : Aside0 (Sx w w4 [(.blk gR #[.bool false, .slice none 0 0, .slice none 0 0] 28), (.blk gB #[.bool b, .slice Ab1 lb1.length cb1, .slice Ab2 lb2.length cb2] 28), (.blk gK #[.bool a, .slice Aa1 la1.length ca1, .slice Aa2 la2.length ca2] 28)]) := Aside0.mk (HS.out.step hb4); clear HS; have HS := nS; clear nS hb4) | ((with_reducible refine gate_dst (N := 15) rfl ?_); refine wpList_load_row rfl 28 (.tmp 3) rfl gB rfl 28 #[.bool b, .slice Ab1 lb1.length cb1, .slice Ab2 lb2.length cb2] (0, 0) _ (HS.out.blk 1 rfl) Try.underlying28 rfl (by kernel_rfl) ?_) | (go_at_call 81; refine (spec_l3Copy.calls b Ab1 cb1 lb1 Ab2 cb2 lb2 b lb1 lb2 _ (Kd.C_below Hb1.out HS.out.below) Kb1.out (Kd.C_below Hb2.out HS.out.below) Kb2.out HC3.out).mono ?_; rintro e w5 ⟨v15, v25, rfl, hr15, hr25, hb5⟩; obtain ⟨AS, cS, hv_⟩ := Kd.R_slice hr15; subst hv_; obtain ⟨AD, cD, hv_⟩ := Kd.R_slice hr25; subst hv_; have nS : Aside0 (Sx w w5 [(.row (.slice AS lb1.length cS) lb1), (.row (.slice AD lb2.length cD) lb2), (.blk gR #[.bool false, .slice none 0 0, .slice none 0 0] 28), (.blk gB #[.bool b, .slice Ab1 lb1.length cb1, .slice Ab2 lb2.length cb2] 28), (.blk gK #[.bool a, .slice Aa1 la1.length ca1, .slice Aa2 la2.length ca2] 28)]) := Aside0.mk (HS.out.addRow2 hb5 hr15 hr25); clear HS; have HS := nS; clear nS hb5 hr15 hr25) | ((with_reducible refine gate_dst (N := 7) rfl ?_); refine box_event ?hg (N := 7) ?hd (cs := #[.bool false, .slice none 0 0, .slice none 0 0]) (t := 28) ?hr ?_; (case hd => rfl); (case hg => rfl); (case hr => first | (go_simp; done) | (go_simp; rfl)); intro gO hg6 w6 hx6 hb6; have nS : Aside0 (Sx w w6 [(.blk gO #[.bool false, .slice none 0 0, .slice none 0 0] 28), (.row (.slice AS lb1.length cS) lb1), (.row (.slice AD lb2.length cD) lb2), (.blk gR #[.bool false, .slice none 0 0, .slice none 0 0] 28), (.blk gB #[.bool b, .slice Ab1 lb1.length cb1, .slice Ab2 lb2.length cb2] 28), (.blk gK #[.bool a, .slice Aa1 la1.length ca1, .slice Aa2 la2.length ca2] 28)]) := Aside0.mk (HS.out.box hg6 hx6 hb6); clear HS; have HS := nS; clear nS hg6 hx6 hb6) | ((with_reducible refine gate_store rfl ?_); refine store_named rfl 28 (.tmp 7) (.tmp 16) rfl gO #[.bool b, .slice AS lb1.length cS, .slice AD lb2.length cD] rfl rfl 28 #[.bool false, .slice none 0 0, .slice none 0 0] (HS.out.blk 0 rfl) (by kernel_rfl) rfl (by simp [Value.oneCell']) ?_; intro w7 hx7 hb7; have nS : Aside0 (Sx w w7 [(.blk gO #[.bool b, .slice AS lb1.length cS, .slice AD lb2.length cD] 28), (.row (.slice AS lb1.length cS) lb1), (.row (.slice AD lb2.length cD) lb2), (.blk gR #[.bool false, .slice none 0 0, .slice none 0 0] 28), (.blk gB #[.bool b, .slice Ab1 lb1.length cb1, .slice Ab2 lb2.length cb2] 28), (.blk gK #[.bool a, .slice Aa1 la1.length ca1, .slice Aa2 la2.length ca2] 28)]) := Aside0.mk (HS.out.put 0 rfl hx7 hb7); clear HS; have HS := nS; clear nS hx7 hb7) | ((with_reducible refine gate_dst (N := 18) rfl ?_); refine ev_load rfl 22 (.tmp 17) rfl ⟨gB, 1, none⟩ rfl (.slice Ab1 lb1.length cb1) ((blk_cell (HS.out.blk 4 rfl) 1).trans rfl) (by kernel_rfl) ?_))
  go_loopw [8] (fun z wr => ∃ (i : Nat) (A : Option Addr) (c : Nat), z = .int .i64 (i : Int) ∧ Aside0 (i ≤ la2.length) ∧ Aside0 (i ≤ 5) ∧ Aside0 (Sx w wr [(.blk gO #[.bool b, .slice A i c, .slice AD lb2.length cD] 28), (.row (.slice A i c) (List.replicate i 1)), (.row (.slice AD lb2.length cD) lb2), (.blk gR #[.bool false, .slice none 0 0, .slice none 0 0] 28), (.blk gB #[.bool b, .slice Ab1 lb1.length cb1, .slice Ab2 lb2.length cb2] 28), (.blk gK #[.bool a, .slice Aa1 la1.length ca1, .slice Aa2 la2.length ca2] 28)])) (fun z _ => la2.length - (intOf z).toNat)
  case atStart => exact ⟨0, AS, cS, rfl, ⟨Nat.zero_le _⟩, ⟨Nat.zero_le _⟩, (fun (n : Nat) (l : List Int) (e1 : lb1.length = n) (e2 : lb1 = l) => show Aside0 (Sx w _ [(.blk gO #[.bool b, .slice AS n cS, .slice AD lb2.length cD] 28), (.row (.slice AS n cS) l), (.row (.slice AD lb2.length cD) lb2), (.blk gR #[.bool false, .slice none 0 0, .slice none 0 0] 28), (.blk gB #[.bool b, .slice Ab1 lb1.length cb1, .slice Ab2 lb2.length cb2] 28), (.blk gK #[.bool a, .slice Aa1 la1.length ca1, .slice Aa2 la2.length ca2] 28)]) from by subst e1; subst e2; exact HS) 0 [] HZ.out (List.eq_nil_of_length_eq_zero HZ.out)⟩
  case round =>
    clear HS
    obtain ⟨i, A, c, rfl, hi, hi5, HS⟩ := hrel
    by_cases hlt : i < la2.length
    · by_cases h5 : i < 5
      · go_wp2_with (first | ((with_reducible refine gate_dst (N := 23) rfl ?_); refine ev_load rfl 22 (.tmp 22) rfl ⟨gK, 2, none⟩ rfl (.slice Aa2 la2.length ca2) ((blk_cell (HS.out.blk 5 rfl) 2).trans rfl) (by kernel_rfl) ?_) | ((with_reducible refine gate_dst (N := 32) rfl ?_); refine ev_load rfl 22 (.tmp 31) rfl ⟨gO, 1, none⟩ rfl (.slice A i c) ((blk_cell (HS.out.blk 0 rfl) 1).trans rfl) (by kernel_rfl) ?_) | ((with_reducible refine gate_dst (N := 34) rfl ?_); refine Sx.appendN HS.out 1 rfl i (List.length_replicate) rfl (.tmp 32) (.tmp 33) rfl rfl (by kernel_rfl) 1 rfl rfl (by omega) ?_; intro A2 c2 w2 n2; have nS : Aside0 (Sx w w2 [(.blk gO #[.bool b, .slice A i c, .slice AD lb2.length cD] 28), (.row (.slice A2 (i + 1) c2) (List.replicate i 1 ++ [1])), (.row (.slice AD lb2.length cD) lb2), (.blk gR #[.bool false, .slice none 0 0, .slice none 0 0] 28), (.blk gB #[.bool b, .slice Ab1 lb1.length cb1, .slice Ab2 lb2.length cb2] 28), (.blk gK #[.bool a, .slice Aa1 la1.length ca1, .slice Aa2 la2.length ca2] 28)]) := Aside0.mk n2; clear HS n2; have HS := nS; clear nS) | ((with_reducible refine gate_store rfl ?_); refine ev_store rfl 22 (.tmp 35) (.tmp 34) rfl gO 1 rfl (.slice A2 (i + 1) c2) rfl #[.bool b, .slice A i c, .slice AD lb2.length cD] 28 (HS.out.blk 0 rfl) (show 1 < 3 from by decide) rfl (by kernel_rfl) ?_; intro wu1 hxu1 hbu1; have nS : Aside0 (Sx w wu1 [(.blk gO #[.bool b, .slice A2 (i + 1) c2, .slice AD lb2.length cD] 28), (.row (.slice A2 (i + 1) c2) (List.replicate i 1 ++ [1])), (.row (.slice AD lb2.length cD) lb2), (.blk gR #[.bool false, .slice none 0 0, .slice none 0 0] 28), (.blk gB #[.bool b, .slice Ab1 lb1.length cb1, .slice Ab2 lb2.length cb2] 28), (.blk gK #[.bool a, .slice Aa1 la1.length ca1, .slice Aa2 la2.length ca2] 28)]) := Aside0.mk (HS.out.put 0 rfl hxu1 hbu1); clear HS; have HS := nS; clear nS hxu1 hbu1))
        go_roundw
        case rel => refine ⟨i + 1, A2, c2, by push_cast; rfl, ⟨by omega⟩, ⟨by omega⟩, ⟨?_⟩⟩; rw [List.replicate_succ']; exact HS.out
        case measure => simp [intOf]; omega
      · have h5' : ¬ ((i : Int) < 5) := by omega
        have h5'' : (5 : Int) ≤ (i : Int) := by omega
        go_wp2_with (first | ((with_reducible refine gate_dst (N := 23) rfl ?_); refine ev_load rfl 22 (.tmp 22) rfl ⟨gK, 2, none⟩ rfl (.slice Aa2 la2.length ca2) ((blk_cell (HS.out.blk 5 rfl) 2).trans rfl) (by kernel_rfl) ?_) | ((with_reducible refine gate_dst (N := 30) rfl ?_); refine wpList_load_row rfl 28 (.tmp 3) rfl gB rfl 28 #[.bool b, .slice Ab1 lb1.length cb1, .slice Ab2 lb2.length cb2] (0, 0) _ (HS.out.blk 4 rfl) Try.underlying28 rfl (by kernel_rfl) ?_) | ((with_reducible refine gate_store rfl ?_); refine store_named rfl 28 (.tmp 4) (.tmp 30) rfl gR #[.bool b, .slice Ab1 lb1.length cb1, .slice Ab2 lb2.length cb2] rfl rfl 28 #[.bool false, .slice none 0 0, .slice none 0 0] (HS.out.blk 3 rfl) (by kernel_rfl) rfl (by simp [Value.oneCell']) ?_; intro wd1 hxd1 hbd1; have nS : Aside0 (Sx w wd1 [(.blk gO #[.bool b, .slice A i c, .slice AD lb2.length cD] 28), (.row (.slice A i c) (List.replicate i 1)), (.row (.slice AD lb2.length cD) lb2), (.blk gR #[.bool b, .slice Ab1 lb1.length cb1, .slice Ab2 lb2.length cb2] 28), (.blk gB #[.bool b, .slice Ab1 lb1.length cb1, .slice Ab2 lb2.length cb2] 28), (.blk gK #[.bool a, .slice Aa1 la1.length ca1, .slice Aa2 la2.length ca2] 28)]) := Aside0.mk (HS.out.put 3 rfl hxd1 hbd1); clear HS; have HS := nS; clear nS hxd1 hbd1))
        refine bodyPost_ret (results_ct rfl _ _ gR 28 #[.bool b, .slice Ab1 lb1.length cb1, .slice Ab2 lb2.length cb2] (0, 0) _ rfl (HS.out.blk 3 rfl) Try.underlying28 rfl (by kernel_rfl)) rfl ?_
        exact ⟨rfl, HS.out.below⟩
    · exact absurd (Nat.le_antisymm hi.out (Nat.le_of_not_lt hlt)) (by have := hi5.out; have := HD.out; omega)
set_option maxHeartbeats 2000000 in
set_option maxRecDepth 100000 in
theorem counted_ones (a : Bool) (Aa1 : Option Addr) (ca1 : Nat) (la1 : List Int) (Aa2 : Option Addr) (ca2 : Nat) (la2 : List Int) (b : Bool) (Ab1 : Option Addr) (cb1 : Nat) (lb1 : List Int) (Ab2 : Option Addr) (cb2 : Nat) (lb2 : List Int) (w : World) (ha1 : Kd.C (Kd.int .i64) w Aa1 la1.length la1) (ka1 : la1.length ≤ ca1) (ha2 : Kd.C (Kd.int .i64) w Aa2 la2.length la2) (ka2 : la2.length ≤ ca2) (hb1 : Kd.C (Kd.int .i64) w Ab1 lb1.length lb1) (kb1 : lb1.length ≤ cb1) (hb2 : Kd.C (Kd.int .i64) w Ab2 lb2.length lb2) (kb2 : lb2.length ≤ cb2) (hb1' : lb1.length ≤ 1000000) (hb2' : lb2.length ≤ 1000000) (hf : spec_l5List.f a la1 la2 = some 0) (hz : lb1.length = 0) (hd : la2.length ≤ 5) :
    Calls Try.prog 95 #[.agg #[.bool a, .slice Aa1 la1.length ca1, .slice Aa2 la2.length ca2], .agg #[.bool b, .slice Ab1 lb1.length cb1, .slice Ab2 lb2.length cb2]] w fun e w' => ∃ A1 c1 A2 c2, e = .returned (.tuple #[.agg #[.bool b, .slice A1 la2.length c1, .slice A2 lb2.length c2], .int .i64 0]) ∧ Kd.R (Kd.int .i64) 3 w' w.heap.size (fun k => some k ≠ (Value.slice A2 lb2.length c2).ownBlock) (.slice A1 la2.length c1) (List.replicate la2.length 1) ∧ Kd.R (Kd.int .i64) 3 w' w.heap.size (fun k => some k ≠ (Value.slice A1 la2.length c1).ownBlock) (.slice A2 lb2.length c2) lb2 ∧ Below w.heap.size w w' := by
  have Ha1 := Aside0.mk ha1
  have Ka1 := Aside0.mk ka1
  clear ha1 ka1
  have Ha2 := Aside0.mk ha2
  have Ka2 := Aside0.mk ka2
  clear ha2 ka2
  have Hb1 := Aside0.mk hb1
  have Kb1 := Aside0.mk kb1
  clear hb1 kb1
  have Hb2 := Aside0.mk hb2
  have Kb2 := Aside0.mk kb2
  clear hb2 kb2
  have HF := Aside0.mk hf
  have HC3 := Aside0.mk (l3Copy_eq b lb1 lb2 (by omega) (by omega))
  clear hf
  have c0 : ((lb1.length : Int) == 0) = true := beq_iff_eq.mpr (by omega)
  have c1 : (lb1.length == 0) = true := beq_iff_eq.mpr hz
  have HZ := Aside0.mk hz
  clear hz
  have HD := Aside0.mk hd
  clear hd
  have HS := Aside0.mk (Sx.start w)
  go_enter Try.func95, Try.ntmps95
  go_wp2_with (first | ((with_reducible refine gate_dst (N := 2) rfl ?_); refine box_event ?hg (N := 2) ?hd (cs := #[.bool a, .slice Aa1 la1.length ca1, .slice Aa2 la2.length ca2]) (t := 28) ?hr ?_; (case hd => rfl); (case hg => rfl); (case hr => first | (go_simp; done) | (go_simp; rfl)); intro gK hg1 w1 hx1 hb1; have nS : Aside0 (Sx w w1 [(.blk gK #[.bool a, .slice Aa1 la1.length ca1, .slice Aa2 la2.length ca2] 28)]) := Aside0.mk (HS.out.box hg1 hx1 hb1); clear HS; have HS := nS; clear nS hg1 hx1 hb1) | ((with_reducible refine gate_dst (N := 3) rfl ?_); refine box_event ?hg (N := 3) ?hd (cs := #[.bool b, .slice Ab1 lb1.length cb1, .slice Ab2 lb2.length cb2]) (t := 28) ?hr ?_; (case hd => rfl); (case hg => rfl); (case hr => first | (go_simp; done) | (go_simp; rfl)); intro gB hg2 w2 hx2 hb2; have nS : Aside0 (Sx w w2 [(.blk gB #[.bool b, .slice Ab1 lb1.length cb1, .slice Ab2 lb2.length cb2] 28), (.blk gK #[.bool a, .slice Aa1 la1.length ca1, .slice Aa2 la2.length ca2] 28)]) := Aside0.mk (HS.out.box hg2 hx2 hb2); clear HS; have HS := nS; clear nS hg2 hx2 hb2) | ((with_reducible refine gate_dst (N := 4) rfl ?_); refine box_event ?hg (N := 4) ?hd (cs := #[.bool false, .slice none 0 0, .slice none 0 0]) (t := 28) ?hr ?_; (case hd => rfl); (case hg => rfl); (case hr => first | (go_simp; done) | (go_simp; rfl)); intro gR hg3 w3 hx3 hb3; have nS : Aside0 (Sx w w3 [(.blk gR #[.bool false, .slice none 0 0, .slice none 0 0] 28), (.blk gB #[.bool b, .slice Ab1 lb1.length cb1, .slice Ab2 lb2.length cb2] 28), (.blk gK #[.bool a, .slice Aa1 la1.length ca1, .slice Aa2 la2.length ca2] 28)]) := Aside0.mk (HS.out.box hg3 hx3 hb3); clear HS; have HS := nS; clear nS hg3 hx3 hb3) | ((with_reducible refine gate_dst (N := 9) rfl ?_); refine wpList_load_row rfl 28 (.tmp 2) rfl gK rfl 28 #[.bool a, .slice Aa1 la1.length ca1, .slice Aa2 la2.length ca2] (0, 0) _ (HS.out.blk 2 rfl) Try.underlying28 rfl (by kernel_rfl) ?_) | (go_at_call 71; refine (spec_l5List.calls a Aa1 ca1 la1 Aa2 ca2 la2 0 _ (Kd.C_below Ha1.out HS.out.below) Ka1.out (Kd.C_below Ha2.out HS.out.below) Ka2.out HF.out).mono ?_; rintro e w4 ⟨rfl, hb4⟩; have nS : Aside0 (Sx w w4 [(.blk gR #[.bool false, .slice none 0 0, .slice none 0 0] 28), (.blk gB #[.bool b, .slice Ab1 lb1.length cb1, .slice Ab2 lb2.length cb2] 28), (.blk gK #[.bool a, .slice Aa1 la1.length ca1, .slice Aa2 la2.length ca2] 28)]) := Aside0.mk (HS.out.step hb4); clear HS; have HS := nS; clear nS hb4) | ((with_reducible refine gate_dst (N := 15) rfl ?_); refine wpList_load_row rfl 28 (.tmp 3) rfl gB rfl 28 #[.bool b, .slice Ab1 lb1.length cb1, .slice Ab2 lb2.length cb2] (0, 0) _ (HS.out.blk 1 rfl) Try.underlying28 rfl (by kernel_rfl) ?_) | (go_at_call 81; refine (spec_l3Copy.calls b Ab1 cb1 lb1 Ab2 cb2 lb2 b lb1 lb2 _ (Kd.C_below Hb1.out HS.out.below) Kb1.out (Kd.C_below Hb2.out HS.out.below) Kb2.out HC3.out).mono ?_; rintro e w5 ⟨v15, v25, rfl, hr15, hr25, hb5⟩; obtain ⟨AS, cS, hv_⟩ := Kd.R_slice hr15; subst hv_; obtain ⟨AD, cD, hv_⟩ := Kd.R_slice hr25; subst hv_; have nS : Aside0 (Sx w w5 [(.row (.slice AS lb1.length cS) lb1), (.row (.slice AD lb2.length cD) lb2), (.blk gR #[.bool false, .slice none 0 0, .slice none 0 0] 28), (.blk gB #[.bool b, .slice Ab1 lb1.length cb1, .slice Ab2 lb2.length cb2] 28), (.blk gK #[.bool a, .slice Aa1 la1.length ca1, .slice Aa2 la2.length ca2] 28)]) := Aside0.mk (HS.out.addRow2 hb5 hr15 hr25); clear HS; have HS := nS; clear nS hb5 hr15 hr25) | ((with_reducible refine gate_dst (N := 7) rfl ?_); refine box_event ?hg (N := 7) ?hd (cs := #[.bool false, .slice none 0 0, .slice none 0 0]) (t := 28) ?hr ?_; (case hd => rfl); (case hg => rfl); (case hr => first | (go_simp; done) | (go_simp; rfl)); intro gO hg6 w6 hx6 hb6; have nS : Aside0 (Sx w w6 [(.blk gO #[.bool false, .slice none 0 0, .slice none 0 0] 28), (.row (.slice AS lb1.length cS) lb1), (.row (.slice AD lb2.length cD) lb2), (.blk gR #[.bool false, .slice none 0 0, .slice none 0 0] 28), (.blk gB #[.bool b, .slice Ab1 lb1.length cb1, .slice Ab2 lb2.length cb2] 28), (.blk gK #[.bool a, .slice Aa1 la1.length ca1, .slice Aa2 la2.length ca2] 28)]) := Aside0.mk (HS.out.box hg6 hx6 hb6); clear HS; have HS := nS; clear nS hg6 hx6 hb6) | ((with_reducible refine gate_store rfl ?_); refine store_named rfl 28 (.tmp 7) (.tmp 16) rfl gO #[.bool b, .slice AS lb1.length cS, .slice AD lb2.length cD] rfl rfl 28 #[.bool false, .slice none 0 0, .slice none 0 0] (HS.out.blk 0 rfl) (by kernel_rfl) rfl (by simp [Value.oneCell']) ?_; intro w7 hx7 hb7; have nS : Aside0 (Sx w w7 [(.blk gO #[.bool b, .slice AS lb1.length cS, .slice AD lb2.length cD] 28), (.row (.slice AS lb1.length cS) lb1), (.row (.slice AD lb2.length cD) lb2), (.blk gR #[.bool false, .slice none 0 0, .slice none 0 0] 28), (.blk gB #[.bool b, .slice Ab1 lb1.length cb1, .slice Ab2 lb2.length cb2] 28), (.blk gK #[.bool a, .slice Aa1 la1.length ca1, .slice Aa2 la2.length ca2] 28)]) := Aside0.mk (HS.out.put 0 rfl hx7 hb7); clear HS; have HS := nS; clear nS hx7 hb7) | ((with_reducible refine gate_dst (N := 18) rfl ?_); refine ev_load rfl 22 (.tmp 17) rfl ⟨gB, 1, none⟩ rfl (.slice Ab1 lb1.length cb1) ((blk_cell (HS.out.blk 4 rfl) 1).trans rfl) (by kernel_rfl) ?_))
  go_loopw [8] (fun z wr => ∃ (i : Nat) (A : Option Addr) (c : Nat), z = .int .i64 (i : Int) ∧ Aside0 (i ≤ la2.length) ∧ Aside0 (i ≤ 5) ∧ Aside0 (Sx w wr [(.blk gO #[.bool b, .slice A i c, .slice AD lb2.length cD] 28), (.row (.slice A i c) (List.replicate i 1)), (.row (.slice AD lb2.length cD) lb2), (.blk gR #[.bool false, .slice none 0 0, .slice none 0 0] 28), (.blk gB #[.bool b, .slice Ab1 lb1.length cb1, .slice Ab2 lb2.length cb2] 28), (.blk gK #[.bool a, .slice Aa1 la1.length ca1, .slice Aa2 la2.length ca2] 28)])) (fun z _ => la2.length - (intOf z).toNat)
  case atStart => exact ⟨0, AS, cS, rfl, ⟨Nat.zero_le _⟩, ⟨Nat.zero_le _⟩, (fun (n : Nat) (l : List Int) (e1 : lb1.length = n) (e2 : lb1 = l) => show Aside0 (Sx w _ [(.blk gO #[.bool b, .slice AS n cS, .slice AD lb2.length cD] 28), (.row (.slice AS n cS) l), (.row (.slice AD lb2.length cD) lb2), (.blk gR #[.bool false, .slice none 0 0, .slice none 0 0] 28), (.blk gB #[.bool b, .slice Ab1 lb1.length cb1, .slice Ab2 lb2.length cb2] 28), (.blk gK #[.bool a, .slice Aa1 la1.length ca1, .slice Aa2 la2.length ca2] 28)]) from by subst e1; subst e2; exact HS) 0 [] HZ.out (List.eq_nil_of_length_eq_zero HZ.out)⟩
  case round =>
    clear HS
    obtain ⟨i, A, c, rfl, hi, hi5, HS⟩ := hrel
    by_cases hlt : i < la2.length
    · have h5 : i < 5 := by have := HD.out; omega
      go_wp2_with (first | ((with_reducible refine gate_dst (N := 23) rfl ?_); refine ev_load rfl 22 (.tmp 22) rfl ⟨gK, 2, none⟩ rfl (.slice Aa2 la2.length ca2) ((blk_cell (HS.out.blk 5 rfl) 2).trans rfl) (by kernel_rfl) ?_) | ((with_reducible refine gate_dst (N := 32) rfl ?_); refine ev_load rfl 22 (.tmp 31) rfl ⟨gO, 1, none⟩ rfl (.slice A i c) ((blk_cell (HS.out.blk 0 rfl) 1).trans rfl) (by kernel_rfl) ?_) | ((with_reducible refine gate_dst (N := 34) rfl ?_); refine Sx.appendN HS.out 1 rfl i (List.length_replicate) rfl (.tmp 32) (.tmp 33) rfl rfl (by kernel_rfl) 1 rfl rfl (by omega) ?_; intro A2 c2 w2 n2; have nS : Aside0 (Sx w w2 [(.blk gO #[.bool b, .slice A i c, .slice AD lb2.length cD] 28), (.row (.slice A2 (i + 1) c2) (List.replicate i 1 ++ [1])), (.row (.slice AD lb2.length cD) lb2), (.blk gR #[.bool false, .slice none 0 0, .slice none 0 0] 28), (.blk gB #[.bool b, .slice Ab1 lb1.length cb1, .slice Ab2 lb2.length cb2] 28), (.blk gK #[.bool a, .slice Aa1 la1.length ca1, .slice Aa2 la2.length ca2] 28)]) := Aside0.mk n2; clear HS n2; have HS := nS; clear nS) | ((with_reducible refine gate_store rfl ?_); refine ev_store rfl 22 (.tmp 35) (.tmp 34) rfl gO 1 rfl (.slice A2 (i + 1) c2) rfl #[.bool b, .slice A i c, .slice AD lb2.length cD] 28 (HS.out.blk 0 rfl) (show 1 < 3 from by decide) rfl (by kernel_rfl) ?_; intro wu1 hxu1 hbu1; have nS : Aside0 (Sx w wu1 [(.blk gO #[.bool b, .slice A2 (i + 1) c2, .slice AD lb2.length cD] 28), (.row (.slice A2 (i + 1) c2) (List.replicate i 1 ++ [1])), (.row (.slice AD lb2.length cD) lb2), (.blk gR #[.bool false, .slice none 0 0, .slice none 0 0] 28), (.blk gB #[.bool b, .slice Ab1 lb1.length cb1, .slice Ab2 lb2.length cb2] 28), (.blk gK #[.bool a, .slice Aa1 la1.length ca1, .slice Aa2 la2.length ca2] 28)]) := Aside0.mk (HS.out.put 0 rfl hxu1 hbu1); clear HS; have HS := nS; clear nS hxu1 hbu1))
      go_roundw
      case rel => refine ⟨i + 1, A2, c2, by push_cast; rfl, ⟨by omega⟩, ⟨by omega⟩, ⟨?_⟩⟩; rw [List.replicate_succ']; exact HS.out
      case measure => simp [intOf]; omega
    · have hie : i = la2.length := by have := hi.out; omega
      subst hie
      have d0 : ((la2.length : Int) == (la2.length : Int)) = true := by simp
      go_wp2_with (first | ((with_reducible refine gate_dst (N := 23) rfl ?_); refine ev_load rfl 22 (.tmp 22) rfl ⟨gK, 2, none⟩ rfl (.slice Aa2 la2.length ca2) ((blk_cell (HS.out.blk 5 rfl) 2).trans rfl) (by kernel_rfl) ?_) | ((with_reducible refine gate_dst (N := 37) rfl ?_); refine ev_load rfl 22 (.tmp 36) rfl ⟨gK, 2, none⟩ rfl (.slice Aa2 la2.length ca2) ((blk_cell (HS.out.blk 5 rfl) 2).trans rfl) (by kernel_rfl) ?_) | ((with_reducible refine gate_dst (N := 40) rfl ?_); refine ev_load rfl 22 (.tmp 39) rfl ⟨gO, 1, none⟩ rfl (.slice A la2.length c) ((blk_cell (HS.out.blk 0 rfl) 1).trans rfl) (by kernel_rfl) ?_) | ((with_reducible refine gate_dst (N := 44) rfl ?_); refine wpList_load_row rfl 28 (.tmp 7) rfl gO rfl 28 #[.bool b, .slice A la2.length c, .slice AD lb2.length cD] (0, 0) _ (HS.out.blk 0 rfl) Try.underlying28 rfl (by kernel_rfl) ?_) | ((with_reducible refine gate_store rfl ?_); refine store_named rfl 28 (.tmp 4) (.tmp 44) rfl gR #[.bool b, .slice A la2.length c, .slice AD lb2.length cD] rfl rfl 28 #[.bool false, .slice none 0 0, .slice none 0 0] (HS.out.blk 3 rfl) (by kernel_rfl) rfl (by simp [Value.oneCell']) ?_; intro we1 hxe1 hbe1; have nS : Aside0 (Sx w we1 [(.blk gO #[.bool b, .slice A la2.length c, .slice AD lb2.length cD] 28), (.row (.slice A la2.length c) (List.replicate la2.length 1)), (.row (.slice AD lb2.length cD) lb2), (.blk gR #[.bool b, .slice A la2.length c, .slice AD lb2.length cD] 28), (.blk gB #[.bool b, .slice Ab1 lb1.length cb1, .slice Ab2 lb2.length cb2] 28), (.blk gK #[.bool a, .slice Aa1 la1.length ca1, .slice Aa2 la2.length ca2] 28)]) := Aside0.mk (HS.out.put 3 rfl hxe1 hbe1); clear HS; have HS := nS; clear nS hxe1 hbe1))
      refine bodyPost_ret (results_ct rfl _ _ gR 28 #[.bool b, .slice A la2.length c, .slice AD lb2.length cD] (0, 0) _ rfl (HS.out.blk 3 rfl) Try.underlying28 rfl (by kernel_rfl)) rfl ?_
      exact ⟨A, c, AD, cD, rfl, (HS.out.two 1 2 (by decide) rfl rfl).1, (HS.out.two 1 2 (by decide) rfl rfl).2, HS.out.below⟩
/-- An operation whose guard lets it run. -/
theorem wpList_guarded {P : Program} {ops : Array Oper} {Q : Exit → Act → World → Prop} {a : Act} {w : World} {rest : List Oper} {dst : Option Tmp} {op : Op} {type : TypeId} {pos : String} {after : Array Edge} {g : Nat × Bool}
    (hw : Region.wanted ⟨dst, op, type, pos, after, some g⟩ (yielded ops a.tmps) = true) (h : wpList P ops Q (⟨dst, op, type, pos, after, none⟩ :: rest) a w) : wpList P ops Q (⟨dst, op, type, pos, after, some g⟩ :: rest) a w := by
  simp only [wpList] at h ⊢
  rw [if_pos hw]
  rw [if_pos (by rfl)] at h
  exact h
theorem C_at {W : World} {ad : Addr} {n : Nat} {l : List Int} (h : Kd.C (Kd.int .i64) W (some ad) n l) (j : Nat) (hj : j < n) : W.cell? (ad.add j) = some (.int .i64 (rd l (j : Int))) := by
  obtain ⟨ad', e, hx⟩ := Kd.at_int h (j : Int) (by omega) (by omega)
  cases e
  rwa [Int.toNat_natCast] at hx
theorem l5Abs_eq (n : Int) (h0 : -1000000000000000 ≤ n) (h1 : n ≤ 1000000000000000) : spec_l5Abs.f n = some (if n < 0 then -n else n) := by
  unfold spec_l5Abs.f
  split
  · rw [w64 (by omega) (by omega)]
  · rfl
end Go.Proofs.Ytehfcnndjhjkoaa.PA

namespace Go.Proofs.Ytehfcnndjhjkoaa.PA
open Go.RowKit Go.Proofs.YtehfcnndjhjkoaaW.PrintWords Go.Proofs.YtehfcnndjhjkoaaW.PrintLast Go.Proofs.YtehfcnndjhjkoaaW.PrintMore
set_option linter.unusedVariables false
set_option linter.unusedSimpArgs false
set_option maxHeartbeats 2000000 in
set_option maxRecDepth 100000 in
theorem axesFor_list (a : Bool) (Aa1 : Option Addr) (ca1 : Nat) (la1 : List Int) (Aa2 : Option Addr) (ca2 : Nat) (la2 : List Int) (b : Bool) (Ab1 : Option Addr) (cb1 : Nat) (lb1 : List Int) (Ab2 : Option Addr) (cb2 : Nat) (lb2 : List Int) (w : World) (ha1 : Kd.C (Kd.int .i64) w Aa1 la1.length la1) (ka1 : la1.length ≤ ca1) (ha2 : Kd.C (Kd.int .i64) w Aa2 la2.length la2) (ka2 : la2.length ≤ ca2) (hb1 : Kd.C (Kd.int .i64) w Ab1 lb1.length lb1) (kb1 : lb1.length ≤ cb1) (hb2 : Kd.C (Kd.int .i64) w Ab2 lb2.length lb2) (kb2 : lb2.length ≤ cb2) (v : Int) (hf : impl_listOk.f a la1 la2 = some v) (hv : v ≠ 0) :
    Calls Try.prog 128 #[.agg #[.bool a, .slice Aa1 la1.length ca1, .slice Aa2 la2.length ca2], .agg #[.bool b, .slice Ab1 lb1.length cb1, .slice Ab2 lb2.length cb2]] w fun e w' => e = .returned (.tuple #[.agg #[.bool b, .slice Ab1 lb1.length cb1, .slice Ab2 lb2.length cb2], .int .i64 v]) ∧ Below w.heap.size w w' := by
  have Ha1 := Aside0.mk ha1
  have Ka1 := Aside0.mk ka1
  clear ha1 ka1
  have Ha2 := Aside0.mk ha2
  have Ka2 := Aside0.mk ka2
  clear ha2 ka2
  have Hb1 := Aside0.mk hb1
  have Kb1 := Aside0.mk kb1
  clear hb1 kb1
  have Hb2 := Aside0.mk hb2
  have Kb2 := Aside0.mk kb2
  clear hb2 kb2
  have HF := Aside0.mk hf
  have c0 : (v == 0) = false := beq_eq_false_iff_ne.mpr hv
  have c1 : (v != 0) = true := bne_iff_ne.mpr hv
  clear hf hv
  have HS := Aside0.mk (Sx.start w)
  go_enter Try.func128, Try.ntmps128
  go_wp2_with (first | ((with_reducible refine gate_dst (N := 2) rfl ?_); refine box_event ?hg (N := 2) ?hd (cs := #[.bool a, .slice Aa1 la1.length ca1, .slice Aa2 la2.length ca2]) (t := 28) ?hr ?_; (case hd => rfl); (case hg => rfl); (case hr => first | (go_simp; done) | (go_simp; rfl)); intro gK hg1 w1 hx1 hb1; have nS : Aside0 (Sx w w1 [(.blk gK #[.bool a, .slice Aa1 la1.length ca1, .slice Aa2 la2.length ca2] 28)]) := Aside0.mk (HS.out.box hg1 hx1 hb1); clear HS; have HS := nS; clear nS hg1 hx1 hb1) | ((with_reducible refine gate_dst (N := 3) rfl ?_); refine box_event ?hg (N := 3) ?hd (cs := #[.bool b, .slice Ab1 lb1.length cb1, .slice Ab2 lb2.length cb2]) (t := 28) ?hr ?_; (case hd => rfl); (case hg => rfl); (case hr => first | (go_simp; done) | (go_simp; rfl)); intro gB hg2 w2 hx2 hb2; have nS : Aside0 (Sx w w2 [(.blk gB #[.bool b, .slice Ab1 lb1.length cb1, .slice Ab2 lb2.length cb2] 28), (.blk gK #[.bool a, .slice Aa1 la1.length ca1, .slice Aa2 la2.length ca2] 28)]) := Aside0.mk (HS.out.box hg2 hx2 hb2); clear HS; have HS := nS; clear nS hg2 hx2 hb2) | ((with_reducible refine gate_dst (N := 4) rfl ?_); refine box_event ?hg (N := 4) ?hd (cs := #[.bool false, .slice none 0 0, .slice none 0 0]) (t := 28) ?hr ?_; (case hd => rfl); (case hg => rfl); (case hr => first | (go_simp; done) | (go_simp; rfl)); intro gR hg3 w3 hx3 hb3; have nS : Aside0 (Sx w w3 [(.blk gR #[.bool false, .slice none 0 0, .slice none 0 0] 28), (.blk gB #[.bool b, .slice Ab1 lb1.length cb1, .slice Ab2 lb2.length cb2] 28), (.blk gK #[.bool a, .slice Aa1 la1.length ca1, .slice Aa2 la2.length ca2] 28)]) := Aside0.mk (HS.out.box hg3 hx3 hb3); clear HS; have HS := nS; clear nS hg3 hx3 hb3) | ((with_reducible refine gate_dst (N := 7) rfl ?_); refine wpList_load_row rfl 28 (.tmp 2) rfl gK rfl 28 #[.bool a, .slice Aa1 la1.length ca1, .slice Aa2 la2.length ca2] (0, 0) _ (HS.out.blk 2 rfl) Try.underlying28 rfl (by kernel_rfl) ?_) | (go_at_call 99; refine (impl_listOk.calls a Aa1 ca1 la1 Aa2 ca2 la2 v _ (Kd.C_below Ha1.out HS.out.below) Ka1.out (Kd.C_below Ha2.out HS.out.below) Ka2.out HF.out).mono ?_; rintro e w4 ⟨rfl, hb4⟩; have nS : Aside0 (Sx w w4 [(.blk gR #[.bool false, .slice none 0 0, .slice none 0 0] 28), (.blk gB #[.bool b, .slice Ab1 lb1.length cb1, .slice Ab2 lb2.length cb2] 28), (.blk gK #[.bool a, .slice Aa1 la1.length ca1, .slice Aa2 la2.length ca2] 28)]) := Aside0.mk (HS.out.step hb4); clear HS; have HS := nS; clear nS hb4) | ((with_reducible refine gate_dst (N := 11) rfl ?_); refine wpList_load_row rfl 28 (.tmp 3) rfl gB rfl 28 #[.bool b, .slice Ab1 lb1.length cb1, .slice Ab2 lb2.length cb2] (0, 0) _ (HS.out.blk 1 rfl) Try.underlying28 rfl (by kernel_rfl) ?_) | ((with_reducible refine gate_store rfl ?_); refine store_named rfl 28 (.tmp 4) (.tmp 11) rfl gR #[.bool b, .slice Ab1 lb1.length cb1, .slice Ab2 lb2.length cb2] rfl rfl 28 #[.bool false, .slice none 0 0, .slice none 0 0] (HS.out.blk 0 rfl) (by kernel_rfl) rfl (by simp [Value.oneCell']) ?_; intro w5 hx5 hb5; have nS : Aside0 (Sx w w5 [(.blk gR #[.bool b, .slice Ab1 lb1.length cb1, .slice Ab2 lb2.length cb2] 28), (.blk gB #[.bool b, .slice Ab1 lb1.length cb1, .slice Ab2 lb2.length cb2] 28), (.blk gK #[.bool a, .slice Aa1 la1.length ca1, .slice Aa2 la2.length ca2] 28)]) := Aside0.mk (HS.out.put 0 rfl hx5 hb5); clear HS; have HS := nS; clear nS hx5 hb5))
  refine bodyPost_ret (results_ct rfl _ _ gR 28 #[.bool b, .slice Ab1 lb1.length cb1, .slice Ab2 lb2.length cb2] (0, 0) _ rfl (HS.out.blk 0 rfl) Try.underlying28 rfl (by kernel_rfl)) rfl ?_
  exact ⟨rfl, HS.out.below⟩
set_option maxHeartbeats 2000000 in
set_option maxRecDepth 100000 in
theorem axesFor_deep (a : Bool) (Aa1 : Option Addr) (ca1 : Nat) (la1 : List Int) (Aa2 : Option Addr) (ca2 : Nat) (la2 : List Int) (b : Bool) (Ab1 : Option Addr) (cb1 : Nat) (lb1 : List Int) (Ab2 : Option Addr) (cb2 : Nat) (lb2 : List Int) (w : World) (ha1 : Kd.C (Kd.int .i64) w Aa1 la1.length la1) (ka1 : la1.length ≤ ca1) (ha2 : Kd.C (Kd.int .i64) w Aa2 la2.length la2) (ka2 : la2.length ≤ ca2) (hb1 : Kd.C (Kd.int .i64) w Ab1 lb1.length lb1) (kb1 : lb1.length ≤ cb1) (hb2 : Kd.C (Kd.int .i64) w Ab2 lb2.length lb2) (kb2 : lb2.length ≤ cb2) (hf : impl_listOk.f a la1 la2 = some 0) (hz : lb1.length = 0) (hd : 5 < la2.length) :
    Calls Try.prog 128 #[.agg #[.bool a, .slice Aa1 la1.length ca1, .slice Aa2 la2.length ca2], .agg #[.bool b, .slice Ab1 lb1.length cb1, .slice Ab2 lb2.length cb2]] w fun e w' => e = .returned (.tuple #[.agg #[.bool b, .slice Ab1 lb1.length cb1, .slice Ab2 lb2.length cb2], .int .i64 7]) ∧ Below w.heap.size w w' := by
  have Ha1 := Aside0.mk ha1
  have Ka1 := Aside0.mk ka1
  clear ha1 ka1
  have Ha2 := Aside0.mk ha2
  have Ka2 := Aside0.mk ka2
  clear ha2 ka2
  have Hb1 := Aside0.mk hb1
  have Kb1 := Aside0.mk kb1
  clear hb1 kb1
  have Hb2 := Aside0.mk hb2
  have Kb2 := Aside0.mk kb2
  clear hb2 kb2
  have HF := Aside0.mk hf
  clear hf
  have HZ := Aside0.mk hz
  have c0 : ((lb1.length : Int) == 0) = true := beq_iff_eq.mpr (by omega)
  have c1 : (lb1.length == 0) = true := beq_iff_eq.mpr hz
  have c1a : decide (lb1.length = 0) = true := decide_eq_true hz
  have c1b : decide ((lb1.length : Int) = 0) = true := decide_eq_true (by omega)
  clear hz
  have c2 : ((la2.length : Int) > 5) = True := by simp; omega
  have c3 : (5 : Int) < (la2.length : Int) := by omega
  have c4 : 5 < la2.length := hd
  clear hd
  have HS := Aside0.mk (Sx.start w)
  go_enter Try.func128, Try.ntmps128
  go_wp2_with (first | ((with_reducible refine gate_dst (N := 2) rfl ?_); refine box_event ?hg (N := 2) ?hd (cs := #[.bool a, .slice Aa1 la1.length ca1, .slice Aa2 la2.length ca2]) (t := 28) ?hr ?_; (case hd => rfl); (case hg => rfl); (case hr => first | (go_simp; done) | (go_simp; rfl)); intro gK hg1 w1 hx1 hb1; have nS : Aside0 (Sx w w1 [(.blk gK #[.bool a, .slice Aa1 la1.length ca1, .slice Aa2 la2.length ca2] 28)]) := Aside0.mk (HS.out.box hg1 hx1 hb1); clear HS; have HS := nS; clear nS hg1 hx1 hb1) | ((with_reducible refine gate_dst (N := 3) rfl ?_); refine box_event ?hg (N := 3) ?hd (cs := #[.bool b, .slice Ab1 lb1.length cb1, .slice Ab2 lb2.length cb2]) (t := 28) ?hr ?_; (case hd => rfl); (case hg => rfl); (case hr => first | (go_simp; done) | (go_simp; rfl)); intro gB hg2 w2 hx2 hb2; have nS : Aside0 (Sx w w2 [(.blk gB #[.bool b, .slice Ab1 lb1.length cb1, .slice Ab2 lb2.length cb2] 28), (.blk gK #[.bool a, .slice Aa1 la1.length ca1, .slice Aa2 la2.length ca2] 28)]) := Aside0.mk (HS.out.box hg2 hx2 hb2); clear HS; have HS := nS; clear nS hg2 hx2 hb2) | ((with_reducible refine gate_dst (N := 4) rfl ?_); refine box_event ?hg (N := 4) ?hd (cs := #[.bool false, .slice none 0 0, .slice none 0 0]) (t := 28) ?hr ?_; (case hd => rfl); (case hg => rfl); (case hr => first | (go_simp; done) | (go_simp; rfl)); intro gR hg3 w3 hx3 hb3; have nS : Aside0 (Sx w w3 [(.blk gR #[.bool false, .slice none 0 0, .slice none 0 0] 28), (.blk gB #[.bool b, .slice Ab1 lb1.length cb1, .slice Ab2 lb2.length cb2] 28), (.blk gK #[.bool a, .slice Aa1 la1.length ca1, .slice Aa2 la2.length ca2] 28)]) := Aside0.mk (HS.out.box hg3 hx3 hb3); clear HS; have HS := nS; clear nS hg3 hx3 hb3) | ((with_reducible refine gate_dst (N := 7) rfl ?_); refine wpList_load_row rfl 28 (.tmp 2) rfl gK rfl 28 #[.bool a, .slice Aa1 la1.length ca1, .slice Aa2 la2.length ca2] (0, 0) _ (HS.out.blk 2 rfl) Try.underlying28 rfl (by kernel_rfl) ?_) | (go_at_call 99; refine (impl_listOk.calls a Aa1 ca1 la1 Aa2 ca2 la2 0 _ (Kd.C_below Ha1.out HS.out.below) Ka1.out (Kd.C_below Ha2.out HS.out.below) Ka2.out HF.out).mono ?_; rintro e w4 ⟨rfl, hb4⟩; have nS : Aside0 (Sx w w4 [(.blk gR #[.bool false, .slice none 0 0, .slice none 0 0] 28), (.blk gB #[.bool b, .slice Ab1 lb1.length cb1, .slice Ab2 lb2.length cb2] 28), (.blk gK #[.bool a, .slice Aa1 la1.length ca1, .slice Aa2 la2.length ca2] 28)]) := Aside0.mk (HS.out.step hb4); clear HS; have HS := nS; clear nS hb4) | ((with_reducible refine gate_dst (N := 13) rfl ?_); refine wpList_load_row rfl 28 (.tmp 3) rfl gB rfl 28 #[.bool b, .slice Ab1 lb1.length cb1, .slice Ab2 lb2.length cb2] (0, 0) _ (HS.out.blk 1 rfl) Try.underlying28 rfl (by kernel_rfl) ?_) | (go_at_call 90; refine (impl_Array_rank.calls b Ab1 cb1 lb1 Ab2 cb2 lb2 (lb1.length : Int) _ (Kd.C_below Hb1.out HS.out.below) Kb1.out (Kd.C_below Hb2.out HS.out.below) Kb2.out rfl).mono ?_; rintro e w5 ⟨rfl, hb5⟩; have nS : Aside0 (Sx w w5 [(.blk gR #[.bool false, .slice none 0 0, .slice none 0 0] 28), (.blk gB #[.bool b, .slice Ab1 lb1.length cb1, .slice Ab2 lb2.length cb2] 28), (.blk gK #[.bool a, .slice Aa1 la1.length ca1, .slice Aa2 la2.length ca2] 28)]) := Aside0.mk (HS.out.step hb5); clear HS; have HS := nS; clear nS hb5) | ((with_reducible refine gate_dst (N := 17) rfl ?_); refine ev_load rfl 22 (.tmp 16) rfl ⟨gK, 2, none⟩ rfl (.slice Aa2 la2.length ca2) ((blk_cell (HS.out.blk 2 rfl) 2).trans rfl) (by kernel_rfl) ?_) | ((with_reducible refine gate_dst (N := 20) rfl ?_); refine wpList_load_row rfl 28 (.tmp 3) rfl gB rfl 28 #[.bool b, .slice Ab1 lb1.length cb1, .slice Ab2 lb2.length cb2] (0, 0) _ (HS.out.blk 1 rfl) Try.underlying28 rfl (by kernel_rfl) ?_) | ((with_reducible refine gate_store rfl ?_); refine store_named rfl 28 (.tmp 4) (.tmp 20) rfl gR #[.bool b, .slice Ab1 lb1.length cb1, .slice Ab2 lb2.length cb2] rfl rfl 28 #[.bool false, .slice none 0 0, .slice none 0 0] (HS.out.blk 0 rfl) (by kernel_rfl) rfl (by simp [Value.oneCell']) ?_; intro w6 hx6 hb6; have nS : Aside0 (Sx w w6 [(.blk gR #[.bool b, .slice Ab1 lb1.length cb1, .slice Ab2 lb2.length cb2] 28), (.blk gB #[.bool b, .slice Ab1 lb1.length cb1, .slice Ab2 lb2.length cb2] 28), (.blk gK #[.bool a, .slice Aa1 la1.length ca1, .slice Aa2 la2.length ca2] 28)]) := Aside0.mk (HS.out.put 0 rfl hx6 hb6); clear HS; have HS := nS; clear nS hx6 hb6))
  refine bodyPost_ret (results_ct rfl _ _ gR 28 #[.bool b, .slice Ab1 lb1.length cb1, .slice Ab2 lb2.length cb2] (0, 0) _ rfl (HS.out.blk 0 rfl) Try.underlying28 rfl (by kernel_rfl)) rfl ?_
  exact ⟨rfl, HS.out.below⟩
set_option maxHeartbeats 2000000 in
set_option maxRecDepth 100000 in
theorem axesFor_len (a : Bool) (Aa1 : Option Addr) (ca1 : Nat) (la1 : List Int) (Aa2 : Option Addr) (ca2 : Nat) (la2 : List Int) (b : Bool) (Ab1 : Option Addr) (cb1 : Nat) (lb1 : List Int) (Ab2 : Option Addr) (cb2 : Nat) (lb2 : List Int) (w : World) (ha1 : Kd.C (Kd.int .i64) w Aa1 la1.length la1) (ka1 : la1.length ≤ ca1) (ha2 : Kd.C (Kd.int .i64) w Aa2 la2.length la2) (ka2 : la2.length ≤ ca2) (hb1 : Kd.C (Kd.int .i64) w Ab1 lb1.length lb1) (kb1 : lb1.length ≤ cb1) (hb2 : Kd.C (Kd.int .i64) w Ab2 lb2.length lb2) (kb2 : lb2.length ≤ cb2) (hf : impl_listOk.f a la1 la2 = some 0) (hz : lb1.length ≠ 0) (hn : la2.length ≠ lb1.length) :
    Calls Try.prog 128 #[.agg #[.bool a, .slice Aa1 la1.length ca1, .slice Aa2 la2.length ca2], .agg #[.bool b, .slice Ab1 lb1.length cb1, .slice Ab2 lb2.length cb2]] w fun e w' => e = .returned (.tuple #[.agg #[.bool b, .slice Ab1 lb1.length cb1, .slice Ab2 lb2.length cb2], .int .i64 5]) ∧ Below w.heap.size w w' := by
  have Ha1 := Aside0.mk ha1
  have Ka1 := Aside0.mk ka1
  clear ha1 ka1
  have Ha2 := Aside0.mk ha2
  have Ka2 := Aside0.mk ka2
  clear ha2 ka2
  have Hb1 := Aside0.mk hb1
  have Kb1 := Aside0.mk kb1
  clear hb1 kb1
  have Hb2 := Aside0.mk hb2
  have Kb2 := Aside0.mk kb2
  clear hb2 kb2
  have HF := Aside0.mk hf
  clear hf
  have c0 : ((lb1.length : Int) == 0) = false := beq_eq_false_iff_ne.mpr (by omega)
  have c1 : ¬ lb1.length = 0 := hz
  clear hz
  have d0 : ((la2.length : Int) == (lb1.length : Int)) = false := beq_eq_false_iff_ne.mpr (by omega)
  have d1 : ((la2.length : Int) != (lb1.length : Int)) = true := bne_iff_ne.mpr (by omega)
  have d2 : ¬ la2.length = lb1.length := hn
  clear hn
  have HS := Aside0.mk (Sx.start w)
  go_enter Try.func128, Try.ntmps128
  go_upto_region 8 with (first | ((with_reducible refine gate_dst (N := 2) rfl ?_); refine box_event ?hg (N := 2) ?hd (cs := #[.bool a, .slice Aa1 la1.length ca1, .slice Aa2 la2.length ca2]) (t := 28) ?hr ?_; (case hd => rfl); (case hg => rfl); (case hr => first | (go_simp; done) | (go_simp; rfl)); intro gK hg1 w1 hx1 hb1; have nS : Aside0 (Sx w w1 [(.blk gK #[.bool a, .slice Aa1 la1.length ca1, .slice Aa2 la2.length ca2] 28)]) := Aside0.mk (HS.out.box hg1 hx1 hb1); clear HS; have HS := nS; clear nS hg1 hx1 hb1) | ((with_reducible refine gate_dst (N := 3) rfl ?_); refine box_event ?hg (N := 3) ?hd (cs := #[.bool b, .slice Ab1 lb1.length cb1, .slice Ab2 lb2.length cb2]) (t := 28) ?hr ?_; (case hd => rfl); (case hg => rfl); (case hr => first | (go_simp; done) | (go_simp; rfl)); intro gB hg2 w2 hx2 hb2; have nS : Aside0 (Sx w w2 [(.blk gB #[.bool b, .slice Ab1 lb1.length cb1, .slice Ab2 lb2.length cb2] 28), (.blk gK #[.bool a, .slice Aa1 la1.length ca1, .slice Aa2 la2.length ca2] 28)]) := Aside0.mk (HS.out.box hg2 hx2 hb2); clear HS; have HS := nS; clear nS hg2 hx2 hb2) | ((with_reducible refine gate_dst (N := 4) rfl ?_); refine box_event ?hg (N := 4) ?hd (cs := #[.bool false, .slice none 0 0, .slice none 0 0]) (t := 28) ?hr ?_; (case hd => rfl); (case hg => rfl); (case hr => first | (go_simp; done) | (go_simp; rfl)); intro gR hg3 w3 hx3 hb3; have nS : Aside0 (Sx w w3 [(.blk gR #[.bool false, .slice none 0 0, .slice none 0 0] 28), (.blk gB #[.bool b, .slice Ab1 lb1.length cb1, .slice Ab2 lb2.length cb2] 28), (.blk gK #[.bool a, .slice Aa1 la1.length ca1, .slice Aa2 la2.length ca2] 28)]) := Aside0.mk (HS.out.box hg3 hx3 hb3); clear HS; have HS := nS; clear nS hg3 hx3 hb3) | ((with_reducible refine gate_dst (N := 7) rfl ?_); refine wpList_load_row rfl 28 (.tmp 2) rfl gK rfl 28 #[.bool a, .slice Aa1 la1.length ca1, .slice Aa2 la2.length ca2] (0, 0) _ (HS.out.blk 2 rfl) Try.underlying28 rfl (by kernel_rfl) ?_) | (go_at_call 99; refine (impl_listOk.calls a Aa1 ca1 la1 Aa2 ca2 la2 0 _ (Kd.C_below Ha1.out HS.out.below) Ka1.out (Kd.C_below Ha2.out HS.out.below) Ka2.out HF.out).mono ?_; rintro e w4 ⟨rfl, hb4⟩; have nS : Aside0 (Sx w w4 [(.blk gR #[.bool false, .slice none 0 0, .slice none 0 0] 28), (.blk gB #[.bool b, .slice Ab1 lb1.length cb1, .slice Ab2 lb2.length cb2] 28), (.blk gK #[.bool a, .slice Aa1 la1.length ca1, .slice Aa2 la2.length ca2] 28)]) := Aside0.mk (HS.out.step hb4); clear HS; have HS := nS; clear nS hb4) | ((with_reducible refine gate_dst (N := 13) rfl ?_); refine wpList_load_row rfl 28 (.tmp 3) rfl gB rfl 28 #[.bool b, .slice Ab1 lb1.length cb1, .slice Ab2 lb2.length cb2] (0, 0) _ (HS.out.blk 1 rfl) Try.underlying28 rfl (by kernel_rfl) ?_) | (go_at_call 90; refine (impl_Array_rank.calls b Ab1 cb1 lb1 Ab2 cb2 lb2 (lb1.length : Int) _ (Kd.C_below Hb1.out HS.out.below) Kb1.out (Kd.C_below Hb2.out HS.out.below) Kb2.out rfl).mono ?_; rintro e w5 ⟨rfl, hb5⟩; have nS : Aside0 (Sx w w5 [(.blk gR #[.bool false, .slice none 0 0, .slice none 0 0] 28), (.blk gB #[.bool b, .slice Ab1 lb1.length cb1, .slice Ab2 lb2.length cb2] 28), (.blk gK #[.bool a, .slice Aa1 la1.length ca1, .slice Aa2 la2.length ca2] 28)]) := Aside0.mk (HS.out.step hb5); clear HS; have HS := nS; clear nS hb5))
  go_region_held3 (fun w' => w'.cell? ⟨gK, 2, none⟩ = some (.slice Aa2 la2.length ca2) ∧ w'.cell? ⟨gB, 0, none⟩ = some (.bool b) ∧ w'.cell? ⟨gB, 1, none⟩ = some (.slice Ab1 lb1.length cb1) ∧ w'.cell? ⟨gB, 2, none⟩ = some (.slice Ab2 lb2.length cb2)) ((exact ⟨(blk_cell (Sx.blkM (by repeat (first | (with_reducible exact HS.out) | (with_reducible apply Sx.drew) | (with_reducible apply Sx.drewN) | (with_reducible apply Sx.alloc))) (g := gK) (cs := #[.bool a, .slice Aa1 la1.length ca1, .slice Aa2 la2.length ca2]) (t := 28) (by simp)) 2).trans rfl, (blk_cell (Sx.blkM (by repeat (first | (with_reducible exact HS.out) | (with_reducible apply Sx.drew) | (with_reducible apply Sx.drewN) | (with_reducible apply Sx.alloc))) (g := gB) (cs := #[.bool b, .slice Ab1 lb1.length cb1, .slice Ab2 lb2.length cb2]) (t := 28) (by simp)) 0).trans rfl, (blk_cell (Sx.blkM (by repeat (first | (with_reducible exact HS.out) | (with_reducible apply Sx.drew) | (with_reducible apply Sx.drewN) | (with_reducible apply Sx.alloc))) (g := gB) (cs := #[.bool b, .slice Ab1 lb1.length cb1, .slice Ab2 lb2.length cb2]) (t := 28) (by simp)) 1).trans rfl, (blk_cell (Sx.blkM (by repeat (first | (with_reducible exact HS.out) | (with_reducible apply Sx.drew) | (with_reducible apply Sx.drewN) | (with_reducible apply Sx.alloc))) (g := gB) (cs := #[.bool b, .slice Ab1 lb1.length cb1, .slice Ab2 lb2.length cb2]) (t := 28) (by simp)) 2).trans rfl⟩)) (first | (go_at_call 90; refine (impl_Array_rank.calls b Ab1 cb1 lb1 Ab2 cb2 lb2 (lb1.length : Int) _ (Kd.C_below Hb1.out (show Sx w _ [(.blk gR #[.bool false, .slice none 0 0, .slice none 0 0] 28), (.blk gB #[.bool b, .slice Ab1 lb1.length cb1, .slice Ab2 lb2.length cb2] 28), (.blk gK #[.bool a, .slice Aa1 la1.length ca1, .slice Aa2 la2.length ca2] 28)] from (by repeat (first | (with_reducible exact HS.out) | (with_reducible apply Sx.drew) | (with_reducible apply Sx.drewN) | (with_reducible apply Sx.alloc)))).below) Kb1.out (Kd.C_below Hb2.out (show Sx w _ [(.blk gR #[.bool false, .slice none 0 0, .slice none 0 0] 28), (.blk gB #[.bool b, .slice Ab1 lb1.length cb1, .slice Ab2 lb2.length cb2] 28), (.blk gK #[.bool a, .slice Aa1 la1.length ca1, .slice Aa2 la2.length ca2] 28)] from (by repeat (first | (with_reducible exact HS.out) | (with_reducible apply Sx.drew) | (with_reducible apply Sx.drewN) | (with_reducible apply Sx.alloc)))).below) Kb2.out rfl).mono ?_; rintro e w6 ⟨rfl, hb6⟩; have nS : Aside0 (Sx w w6 [(.blk gR #[.bool false, .slice none 0 0, .slice none 0 0] 28), (.blk gB #[.bool b, .slice Ab1 lb1.length cb1, .slice Ab2 lb2.length cb2] 28), (.blk gK #[.bool a, .slice Aa1 la1.length ca1, .slice Aa2 la2.length ca2] 28)]) := Aside0.mk ((show Sx w _ [(.blk gR #[.bool false, .slice none 0 0, .slice none 0 0] 28), (.blk gB #[.bool b, .slice Ab1 lb1.length cb1, .slice Ab2 lb2.length cb2] 28), (.blk gK #[.bool a, .slice Aa1 la1.length ca1, .slice Aa2 la2.length ca2] 28)] from (by repeat (first | (with_reducible exact HS.out) | (with_reducible apply Sx.drew) | (with_reducible apply Sx.drewN) | (with_reducible apply Sx.alloc)))).step hb6); clear HS; have HS := nS; clear nS hb6))
  go_wp2_with (first | ((with_reducible refine gate_dst (N := 33) rfl ?_); refine wpList_load_row rfl 28 (.tmp 3) rfl gB rfl 28 #[.bool b, .slice Ab1 lb1.length cb1, .slice Ab2 lb2.length cb2] (0, 0) _ (HS.out.blk 1 rfl) Try.underlying28 rfl (by kernel_rfl) ?_) | ((with_reducible refine gate_store rfl ?_); refine store_named rfl 28 (.tmp 4) (.tmp 33) rfl gR #[.bool b, .slice Ab1 lb1.length cb1, .slice Ab2 lb2.length cb2] rfl rfl 28 #[.bool false, .slice none 0 0, .slice none 0 0] (HS.out.blk 0 rfl) (by kernel_rfl) rfl (by simp [Value.oneCell']) ?_; intro w7 hx7 hb7; have nS : Aside0 (Sx w w7 [(.blk gR #[.bool b, .slice Ab1 lb1.length cb1, .slice Ab2 lb2.length cb2] 28), (.blk gB #[.bool b, .slice Ab1 lb1.length cb1, .slice Ab2 lb2.length cb2] 28), (.blk gK #[.bool a, .slice Aa1 la1.length ca1, .slice Aa2 la2.length ca2] 28)]) := Aside0.mk (HS.out.put 0 rfl hx7 hb7); clear HS; have HS := nS; clear nS hx7 hb7))
  refine bodyPost_ret (results_ct rfl _ _ gR 28 #[.bool b, .slice Ab1 lb1.length cb1, .slice Ab2 lb2.length cb2] (0, 0) _ rfl (HS.out.blk 0 rfl) Try.underlying28 rfl (by kernel_rfl)) rfl ?_
  exact ⟨rfl, HS.out.below⟩
set_option maxHeartbeats 2000000 in
set_option maxRecDepth 100000 in
theorem axesFor_same (a : Bool) (Aa1 : Option Addr) (ca1 : Nat) (la1 : List Int) (Aa2 : Option Addr) (ca2 : Nat) (la2 : List Int) (b : Bool) (Ab1 : Option Addr) (cb1 : Nat) (lb1 : List Int) (Ab2 : Option Addr) (cb2 : Nat) (lb2 : List Int) (w : World) (ha1 : Kd.C (Kd.int .i64) w Aa1 la1.length la1) (ka1 : la1.length ≤ ca1) (ha2 : Kd.C (Kd.int .i64) w Aa2 la2.length la2) (ka2 : la2.length ≤ ca2) (hb1 : Kd.C (Kd.int .i64) w Ab1 lb1.length lb1) (kb1 : lb1.length ≤ cb1) (hb2 : Kd.C (Kd.int .i64) w Ab2 lb2.length lb2) (kb2 : lb2.length ≤ cb2) (hf : impl_listOk.f a la1 la2 = some 0) (hz : lb1.length ≠ 0) (hn : la2.length = lb1.length) :
    Calls Try.prog 128 #[.agg #[.bool a, .slice Aa1 la1.length ca1, .slice Aa2 la2.length ca2], .agg #[.bool b, .slice Ab1 lb1.length cb1, .slice Ab2 lb2.length cb2]] w fun e w' => e = .returned (.tuple #[.agg #[.bool b, .slice Ab1 lb1.length cb1, .slice Ab2 lb2.length cb2], .int .i64 0]) ∧ Below w.heap.size w w' := by
  have Ha1 := Aside0.mk ha1
  have Ka1 := Aside0.mk ka1
  clear ha1 ka1
  have Ha2 := Aside0.mk ha2
  have Ka2 := Aside0.mk ka2
  clear ha2 ka2
  have Hb1 := Aside0.mk hb1
  have Kb1 := Aside0.mk kb1
  clear hb1 kb1
  have Hb2 := Aside0.mk hb2
  have Kb2 := Aside0.mk kb2
  clear hb2 kb2
  have HF := Aside0.mk hf
  clear hf
  have c0 : ((lb1.length : Int) == 0) = false := beq_eq_false_iff_ne.mpr (by omega)
  have c1 : ¬ lb1.length = 0 := hz
  clear hz
  have d0 : ((la2.length : Int) == (lb1.length : Int)) = true := beq_iff_eq.mpr (by omega)
  have d1 : ((la2.length : Int) != (lb1.length : Int)) = false := by simp [hn]
  have HN := Aside0.mk hn
  clear hn
  have HS := Aside0.mk (Sx.start w)
  go_enter Try.func128, Try.ntmps128
  go_upto_region 8 with (first | ((with_reducible refine gate_dst (N := 2) rfl ?_); refine box_event ?hg (N := 2) ?hd (cs := #[.bool a, .slice Aa1 la1.length ca1, .slice Aa2 la2.length ca2]) (t := 28) ?hr ?_; (case hd => rfl); (case hg => rfl); (case hr => first | (go_simp; done) | (go_simp; rfl)); intro gK hg1 w1 hx1 hb1; have nS : Aside0 (Sx w w1 [(.blk gK #[.bool a, .slice Aa1 la1.length ca1, .slice Aa2 la2.length ca2] 28)]) := Aside0.mk (HS.out.box hg1 hx1 hb1); clear HS; have HS := nS; clear nS hg1 hx1 hb1) | ((with_reducible refine gate_dst (N := 3) rfl ?_); refine box_event ?hg (N := 3) ?hd (cs := #[.bool b, .slice Ab1 lb1.length cb1, .slice Ab2 lb2.length cb2]) (t := 28) ?hr ?_; (case hd => rfl); (case hg => rfl); (case hr => first | (go_simp; done) | (go_simp; rfl)); intro gB hg2 w2 hx2 hb2; have nS : Aside0 (Sx w w2 [(.blk gB #[.bool b, .slice Ab1 lb1.length cb1, .slice Ab2 lb2.length cb2] 28), (.blk gK #[.bool a, .slice Aa1 la1.length ca1, .slice Aa2 la2.length ca2] 28)]) := Aside0.mk (HS.out.box hg2 hx2 hb2); clear HS; have HS := nS; clear nS hg2 hx2 hb2) | ((with_reducible refine gate_dst (N := 4) rfl ?_); refine box_event ?hg (N := 4) ?hd (cs := #[.bool false, .slice none 0 0, .slice none 0 0]) (t := 28) ?hr ?_; (case hd => rfl); (case hg => rfl); (case hr => first | (go_simp; done) | (go_simp; rfl)); intro gR hg3 w3 hx3 hb3; have nS : Aside0 (Sx w w3 [(.blk gR #[.bool false, .slice none 0 0, .slice none 0 0] 28), (.blk gB #[.bool b, .slice Ab1 lb1.length cb1, .slice Ab2 lb2.length cb2] 28), (.blk gK #[.bool a, .slice Aa1 la1.length ca1, .slice Aa2 la2.length ca2] 28)]) := Aside0.mk (HS.out.box hg3 hx3 hb3); clear HS; have HS := nS; clear nS hg3 hx3 hb3) | ((with_reducible refine gate_dst (N := 7) rfl ?_); refine wpList_load_row rfl 28 (.tmp 2) rfl gK rfl 28 #[.bool a, .slice Aa1 la1.length ca1, .slice Aa2 la2.length ca2] (0, 0) _ (HS.out.blk 2 rfl) Try.underlying28 rfl (by kernel_rfl) ?_) | (go_at_call 99; refine (impl_listOk.calls a Aa1 ca1 la1 Aa2 ca2 la2 0 _ (Kd.C_below Ha1.out HS.out.below) Ka1.out (Kd.C_below Ha2.out HS.out.below) Ka2.out HF.out).mono ?_; rintro e w4 ⟨rfl, hb4⟩; have nS : Aside0 (Sx w w4 [(.blk gR #[.bool false, .slice none 0 0, .slice none 0 0] 28), (.blk gB #[.bool b, .slice Ab1 lb1.length cb1, .slice Ab2 lb2.length cb2] 28), (.blk gK #[.bool a, .slice Aa1 la1.length ca1, .slice Aa2 la2.length ca2] 28)]) := Aside0.mk (HS.out.step hb4); clear HS; have HS := nS; clear nS hb4) | ((with_reducible refine gate_dst (N := 13) rfl ?_); refine wpList_load_row rfl 28 (.tmp 3) rfl gB rfl 28 #[.bool b, .slice Ab1 lb1.length cb1, .slice Ab2 lb2.length cb2] (0, 0) _ (HS.out.blk 1 rfl) Try.underlying28 rfl (by kernel_rfl) ?_) | (go_at_call 90; refine (impl_Array_rank.calls b Ab1 cb1 lb1 Ab2 cb2 lb2 (lb1.length : Int) _ (Kd.C_below Hb1.out HS.out.below) Kb1.out (Kd.C_below Hb2.out HS.out.below) Kb2.out rfl).mono ?_; rintro e w5 ⟨rfl, hb5⟩; have nS : Aside0 (Sx w w5 [(.blk gR #[.bool false, .slice none 0 0, .slice none 0 0] 28), (.blk gB #[.bool b, .slice Ab1 lb1.length cb1, .slice Ab2 lb2.length cb2] 28), (.blk gK #[.bool a, .slice Aa1 la1.length ca1, .slice Aa2 la2.length ca2] 28)]) := Aside0.mk (HS.out.step hb5); clear HS; have HS := nS; clear nS hb5))
  go_region_held3 (fun w' => w'.cell? ⟨gK, 2, none⟩ = some (.slice Aa2 la2.length ca2) ∧ w'.cell? ⟨gB, 0, none⟩ = some (.bool b) ∧ w'.cell? ⟨gB, 1, none⟩ = some (.slice Ab1 lb1.length cb1) ∧ w'.cell? ⟨gB, 2, none⟩ = some (.slice Ab2 lb2.length cb2)) ((exact ⟨(blk_cell (Sx.blkM (by repeat (first | (with_reducible exact HS.out) | (with_reducible apply Sx.drew) | (with_reducible apply Sx.drewN) | (with_reducible apply Sx.alloc))) (g := gK) (cs := #[.bool a, .slice Aa1 la1.length ca1, .slice Aa2 la2.length ca2]) (t := 28) (by simp)) 2).trans rfl, (blk_cell (Sx.blkM (by repeat (first | (with_reducible exact HS.out) | (with_reducible apply Sx.drew) | (with_reducible apply Sx.drewN) | (with_reducible apply Sx.alloc))) (g := gB) (cs := #[.bool b, .slice Ab1 lb1.length cb1, .slice Ab2 lb2.length cb2]) (t := 28) (by simp)) 0).trans rfl, (blk_cell (Sx.blkM (by repeat (first | (with_reducible exact HS.out) | (with_reducible apply Sx.drew) | (with_reducible apply Sx.drewN) | (with_reducible apply Sx.alloc))) (g := gB) (cs := #[.bool b, .slice Ab1 lb1.length cb1, .slice Ab2 lb2.length cb2]) (t := 28) (by simp)) 1).trans rfl, (blk_cell (Sx.blkM (by repeat (first | (with_reducible exact HS.out) | (with_reducible apply Sx.drew) | (with_reducible apply Sx.drewN) | (with_reducible apply Sx.alloc))) (g := gB) (cs := #[.bool b, .slice Ab1 lb1.length cb1, .slice Ab2 lb2.length cb2]) (t := 28) (by simp)) 2).trans rfl⟩)) (first | (go_at_call 90; refine (impl_Array_rank.calls b Ab1 cb1 lb1 Ab2 cb2 lb2 (lb1.length : Int) _ (Kd.C_below Hb1.out (show Sx w _ [(.blk gR #[.bool false, .slice none 0 0, .slice none 0 0] 28), (.blk gB #[.bool b, .slice Ab1 lb1.length cb1, .slice Ab2 lb2.length cb2] 28), (.blk gK #[.bool a, .slice Aa1 la1.length ca1, .slice Aa2 la2.length ca2] 28)] from (by repeat (first | (with_reducible exact HS.out) | (with_reducible apply Sx.drew) | (with_reducible apply Sx.drewN) | (with_reducible apply Sx.alloc)))).below) Kb1.out (Kd.C_below Hb2.out (show Sx w _ [(.blk gR #[.bool false, .slice none 0 0, .slice none 0 0] 28), (.blk gB #[.bool b, .slice Ab1 lb1.length cb1, .slice Ab2 lb2.length cb2] 28), (.blk gK #[.bool a, .slice Aa1 la1.length ca1, .slice Aa2 la2.length ca2] 28)] from (by repeat (first | (with_reducible exact HS.out) | (with_reducible apply Sx.drew) | (with_reducible apply Sx.drewN) | (with_reducible apply Sx.alloc)))).below) Kb2.out rfl).mono ?_; rintro e w6 ⟨rfl, hb6⟩; have nS : Aside0 (Sx w w6 [(.blk gR #[.bool false, .slice none 0 0, .slice none 0 0] 28), (.blk gB #[.bool b, .slice Ab1 lb1.length cb1, .slice Ab2 lb2.length cb2] 28), (.blk gK #[.bool a, .slice Aa1 la1.length ca1, .slice Aa2 la2.length ca2] 28)]) := Aside0.mk ((show Sx w _ [(.blk gR #[.bool false, .slice none 0 0, .slice none 0 0] 28), (.blk gB #[.bool b, .slice Ab1 lb1.length cb1, .slice Ab2 lb2.length cb2] 28), (.blk gK #[.bool a, .slice Aa1 la1.length ca1, .slice Aa2 la2.length ca2] 28)] from (by repeat (first | (with_reducible exact HS.out) | (with_reducible apply Sx.drew) | (with_reducible apply Sx.drewN) | (with_reducible apply Sx.alloc)))).step hb6); clear HS; have HS := nS; clear nS hb6))
  go_wp2_with (first | ((with_reducible refine gate_dst (N := 34) rfl ?_); refine wpList_load_row rfl 28 (.tmp 3) rfl gB rfl 28 #[.bool b, .slice Ab1 lb1.length cb1, .slice Ab2 lb2.length cb2] (0, 0) _ (HS.out.blk 1 rfl) Try.underlying28 rfl (by kernel_rfl) ?_) | ((with_reducible refine gate_store rfl ?_); refine store_named rfl 28 (.tmp 4) (.tmp 34) rfl gR #[.bool b, .slice Ab1 lb1.length cb1, .slice Ab2 lb2.length cb2] rfl rfl 28 #[.bool false, .slice none 0 0, .slice none 0 0] (HS.out.blk 0 rfl) (by kernel_rfl) rfl (by simp [Value.oneCell']) ?_; intro w7 hx7 hb7; have nS : Aside0 (Sx w w7 [(.blk gR #[.bool b, .slice Ab1 lb1.length cb1, .slice Ab2 lb2.length cb2] 28), (.blk gB #[.bool b, .slice Ab1 lb1.length cb1, .slice Ab2 lb2.length cb2] 28), (.blk gK #[.bool a, .slice Aa1 la1.length ca1, .slice Aa2 la2.length ca2] 28)]) := Aside0.mk (HS.out.put 0 rfl hx7 hb7); clear HS; have HS := nS; clear nS hx7 hb7))
  refine bodyPost_ret (results_ct rfl _ _ gR 28 #[.bool b, .slice Ab1 lb1.length cb1, .slice Ab2 lb2.length cb2] (0, 0) _ rfl (HS.out.blk 0 rfl) Try.underlying28 rfl (by kernel_rfl)) rfl ?_
  exact ⟨rfl, HS.out.below⟩
theorem rank_n (b : Bool) (A1 : Option Addr) (c1 n : Nat) (l1 : List Int) (A2 : Option Addr) (c2 : Nat) (l2 : List Int) (w : World) (h1 : Kd.C (Kd.int .i64) w A1 l1.length l1) (k1 : l1.length ≤ c1) (hn : l1.length = n) (h2 : Kd.C (Kd.int .i64) w A2 l2.length l2) (k2 : l2.length ≤ c2) :
    Calls Try.prog 90 #[.agg #[.bool b, .slice A1 n c1, .slice A2 l2.length c2]] w fun e w' => e = .returned (.int .i64 (n : Int)) ∧ Below w.heap.size w w' := by
  subst hn
  exact impl_Array_rank.calls b A1 c1 l1 A2 c2 l2 (l1.length : Int) w h1 k1 h2 k2 rfl
set_option maxHeartbeats 2000000 in
set_option maxRecDepth 100000 in
theorem axesFor_one (a : Bool) (Aa1 : Option Addr) (ca1 : Nat) (la1 : List Int) (Aa2 : Option Addr) (ca2 : Nat) (la2 : List Int) (b : Bool) (Ab1 : Option Addr) (cb1 : Nat) (lb1 : List Int) (Ab2 : Option Addr) (cb2 : Nat) (lb2 : List Int) (w : World) (ha1 : Kd.C (Kd.int .i64) w Aa1 la1.length la1) (ka1 : la1.length ≤ ca1) (ha2 : Kd.C (Kd.int .i64) w Aa2 la2.length la2) (ka2 : la2.length ≤ ca2) (hb1 : Kd.C (Kd.int .i64) w Ab1 lb1.length lb1) (kb1 : lb1.length ≤ cb1) (hb2 : Kd.C (Kd.int .i64) w Ab2 lb2.length lb2) (kb2 : lb2.length ≤ cb2) (hf : impl_listOk.f a la1 la2 = some 0) (hz : lb1.length = 0) (hd : la2.length ≤ 5) :
    Calls Try.prog 128 #[.agg #[.bool a, .slice Aa1 la1.length ca1, .slice Aa2 la2.length ca2], .agg #[.bool b, .slice Ab1 lb1.length cb1, .slice Ab2 lb2.length cb2]] w fun e w' => ∃ Av cv, e = .returned (.tuple #[.agg #[.bool b, .slice Av la2.length cv, .slice Ab2 lb2.length cb2], .int .i64 0]) ∧ Kd.R (Kd.int .i64) 3 w' w.heap.size (fun _ => True) (.slice Av la2.length cv) (List.replicate la2.length 1) ∧ Below w.heap.size w w' := by
  have Ha1 := Aside0.mk ha1
  have Ka1 := Aside0.mk ka1
  clear ha1 ka1
  have Ha2 := Aside0.mk ha2
  have Ka2 := Aside0.mk ka2
  clear ha2 ka2
  have Hb1 := Aside0.mk hb1
  have Kb1 := Aside0.mk kb1
  clear hb1 kb1
  have Hb2 := Aside0.mk hb2
  have Kb2 := Aside0.mk kb2
  clear hb2 kb2
  have HF := Aside0.mk hf
  clear hf
  have HZ := Aside0.mk hz
  have c0 : ((lb1.length : Int) == 0) = true := beq_iff_eq.mpr (by omega)
  have c1 : (lb1.length == 0) = true := beq_iff_eq.mpr hz
  have c1a : decide (lb1.length = 0) = true := decide_eq_true hz
  have c1b : decide ((lb1.length : Int) = 0) = true := decide_eq_true (by omega)
  clear hz
  have c3 : ¬ (5 : Int) < (la2.length : Int) := by omega
  have c4 : ¬ 5 < la2.length := by omega
  have d0 : ((la2.length : Int) == (la2.length : Int)) = true := by simp
  have HS := Aside0.mk (Sx.start w)
  go_enter Try.func128, Try.ntmps128
  go_upto_region 8 with (first | ((with_reducible refine gate_dst (N := 2) rfl ?_); refine box_event ?hg (N := 2) ?hd (cs := #[.bool a, .slice Aa1 la1.length ca1, .slice Aa2 la2.length ca2]) (t := 28) ?hr ?_; (case hd => rfl); (case hg => rfl); (case hr => first | (go_simp; done) | (go_simp; rfl)); intro gK hg1 w1 hx1 hb1; have nS : Aside0 (Sx w w1 [(.blk gK #[.bool a, .slice Aa1 la1.length ca1, .slice Aa2 la2.length ca2] 28)]) := Aside0.mk (HS.out.box hg1 hx1 hb1); clear HS; have HS := nS; clear nS hg1 hx1 hb1) | ((with_reducible refine gate_dst (N := 3) rfl ?_); refine box_event ?hg (N := 3) ?hd (cs := #[.bool b, .slice Ab1 lb1.length cb1, .slice Ab2 lb2.length cb2]) (t := 28) ?hr ?_; (case hd => rfl); (case hg => rfl); (case hr => first | (go_simp; done) | (go_simp; rfl)); intro gB hg2 w2 hx2 hb2; have nS : Aside0 (Sx w w2 [(.blk gB #[.bool b, .slice Ab1 lb1.length cb1, .slice Ab2 lb2.length cb2] 28), (.blk gK #[.bool a, .slice Aa1 la1.length ca1, .slice Aa2 la2.length ca2] 28)]) := Aside0.mk (HS.out.box hg2 hx2 hb2); clear HS; have HS := nS; clear nS hg2 hx2 hb2) | ((with_reducible refine gate_dst (N := 4) rfl ?_); refine box_event ?hg (N := 4) ?hd (cs := #[.bool false, .slice none 0 0, .slice none 0 0]) (t := 28) ?hr ?_; (case hd => rfl); (case hg => rfl); (case hr => first | (go_simp; done) | (go_simp; rfl)); intro gR hg3 w3 hx3 hb3; have nS : Aside0 (Sx w w3 [(.blk gR #[.bool false, .slice none 0 0, .slice none 0 0] 28), (.blk gB #[.bool b, .slice Ab1 lb1.length cb1, .slice Ab2 lb2.length cb2] 28), (.blk gK #[.bool a, .slice Aa1 la1.length ca1, .slice Aa2 la2.length ca2] 28)]) := Aside0.mk (HS.out.box hg3 hx3 hb3); clear HS; have HS := nS; clear nS hg3 hx3 hb3) | ((with_reducible refine gate_dst (N := 7) rfl ?_); refine wpList_load_row rfl 28 (.tmp 2) rfl gK rfl 28 #[.bool a, .slice Aa1 la1.length ca1, .slice Aa2 la2.length ca2] (0, 0) _ (HS.out.blk 2 rfl) Try.underlying28 rfl (by kernel_rfl) ?_) | (go_at_call 99; refine (impl_listOk.calls a Aa1 ca1 la1 Aa2 ca2 la2 0 _ (Kd.C_below Ha1.out HS.out.below) Ka1.out (Kd.C_below Ha2.out HS.out.below) Ka2.out HF.out).mono ?_; rintro e w4 ⟨rfl, hb4⟩; have nS : Aside0 (Sx w w4 [(.blk gR #[.bool false, .slice none 0 0, .slice none 0 0] 28), (.blk gB #[.bool b, .slice Ab1 lb1.length cb1, .slice Ab2 lb2.length cb2] 28), (.blk gK #[.bool a, .slice Aa1 la1.length ca1, .slice Aa2 la2.length ca2] 28)]) := Aside0.mk (HS.out.step hb4); clear HS; have HS := nS; clear nS hb4) | ((with_reducible refine gate_dst (N := 13) rfl ?_); refine wpList_load_row rfl 28 (.tmp 3) rfl gB rfl 28 #[.bool b, .slice Ab1 lb1.length cb1, .slice Ab2 lb2.length cb2] (0, 0) _ (HS.out.blk 1 rfl) Try.underlying28 rfl (by kernel_rfl) ?_) | (go_at_call 90; refine (impl_Array_rank.calls b Ab1 cb1 lb1 Ab2 cb2 lb2 (lb1.length : Int) _ (Kd.C_below Hb1.out HS.out.below) Kb1.out (Kd.C_below Hb2.out HS.out.below) Kb2.out rfl).mono ?_; rintro e w5 ⟨rfl, hb5⟩; have nS : Aside0 (Sx w w5 [(.blk gR #[.bool false, .slice none 0 0, .slice none 0 0] 28), (.blk gB #[.bool b, .slice Ab1 lb1.length cb1, .slice Ab2 lb2.length cb2] 28), (.blk gK #[.bool a, .slice Aa1 la1.length ca1, .slice Aa2 la2.length ca2] 28)]) := Aside0.mk (HS.out.step hb5); clear HS; have HS := nS; clear nS hb5) | ((with_reducible refine gate_dst (N := 17) rfl ?_); refine ev_load rfl 22 (.tmp 16) rfl ⟨gK, 2, none⟩ rfl (.slice Aa2 la2.length ca2) ((blk_cell (HS.out.blk 2 rfl) 2).trans rfl) (by kernel_rfl) ?_) | ((with_reducible refine gate_dst (N := 21) rfl ?_); refine lit_event ?hg (N := 21) ?hd (cs := #[.int .i64 1]) (t := 3) (n := 1) ?hr ?_; (case hd => rfl); (case hg => rfl); (case hr => first | (go_simp; done) | (go_simp; rfl)); intro gL hg6 w6 hx6 hb6; have nS : Aside0 (Sx w w6 [(.blk gL #[.int .i64 1] 3), (.blk gR #[.bool false, .slice none 0 0, .slice none 0 0] 28), (.blk gB #[.bool b, .slice Ab1 lb1.length cb1, .slice Ab2 lb2.length cb2] 28), (.blk gK #[.bool a, .slice Aa1 la1.length ca1, .slice Aa2 la2.length ca2] 28)]) := Aside0.mk (HS.out.box hg6 hx6 hb6); clear HS; have HS := nS; clear nS hg6 hx6 hb6) | ((with_reducible refine gate_dst (N := 23) rfl ?_); refine ev_load rfl 22 (.tmp 22) rfl ⟨gK, 2, none⟩ rfl (.slice Aa2 la2.length ca2) ((blk_cell (HS.out.blk 3 rfl) 2).trans rfl) (by kernel_rfl) ?_) | (go_at_call 127; refine (repeat_any 1 _ 1 la2.length _ (rowI_C (l := [1]) (HS.out.blk 0 rfl) (by simp)) (by omega)).mono ?_; rintro e w7 ⟨v, rfl, hr7, hb7⟩; obtain ⟨Av, cv, hv_⟩ := Kd.R_slice hr7; rw [List.length_replicate] at hv_; subst hv_; have nS : Aside0 (Sx w w7 [(.row (.slice Av la2.length cv) (List.replicate la2.length 1)), (.blk gL #[.int .i64 1] 3), (.blk gR #[.bool false, .slice none 0 0, .slice none 0 0] 28), (.blk gB #[.bool b, .slice Ab1 lb1.length cb1, .slice Ab2 lb2.length cb2] 28), (.blk gK #[.bool a, .slice Aa1 la1.length ca1, .slice Aa2 la2.length ca2] 28)]) := Aside0.mk (HS.out.addRow hb7 hr7); clear HS; have HS := nS; clear nS hb7 hr7) | ((with_reducible refine gate_store rfl ?_); refine ev_store rfl 22 (.tmp 26) (.tmp 25) rfl gB 1 rfl (.slice Av la2.length cv) rfl #[.bool b, .slice Ab1 lb1.length cb1, .slice Ab2 lb2.length cb2] 28 (HS.out.blk 3 rfl) (show 1 < 3 from by decide) rfl (by kernel_rfl) ?_; intro w8 hx8 hb8; have nS : Aside0 (Sx w w8 [(.row (.slice Av la2.length cv) (List.replicate la2.length 1)), (.blk gL #[.int .i64 1] 3), (.blk gR #[.bool false, .slice none 0 0, .slice none 0 0] 28), (.blk gB #[.bool b, .slice Av la2.length cv, .slice Ab2 lb2.length cb2] 28), (.blk gK #[.bool a, .slice Aa1 la1.length ca1, .slice Aa2 la2.length ca2] 28)]) := Aside0.mk (HS.out.put 3 rfl hx8 hb8); clear HS; have HS := nS; clear nS hx8 hb8))
  go_region_held3 (fun w' => w'.cell? ⟨gK, 2, none⟩ = some (.slice Aa2 la2.length ca2) ∧ w'.cell? ⟨gB, 0, none⟩ = some (.bool b) ∧ w'.cell? ⟨gB, 1, none⟩ = some (.slice Av la2.length cv) ∧ w'.cell? ⟨gB, 2, none⟩ = some (.slice Ab2 lb2.length cb2)) ((exact ⟨(blk_cell (Sx.blkM (by repeat (first | (with_reducible exact HS.out) | (with_reducible apply Sx.drew) | (with_reducible apply Sx.drewN) | (with_reducible apply Sx.alloc))) (g := gK) (cs := #[.bool a, .slice Aa1 la1.length ca1, .slice Aa2 la2.length ca2]) (t := 28) (by simp)) 2).trans rfl, (blk_cell (Sx.blkM (by repeat (first | (with_reducible exact HS.out) | (with_reducible apply Sx.drew) | (with_reducible apply Sx.drewN) | (with_reducible apply Sx.alloc))) (g := gB) (cs := #[.bool b, .slice Av la2.length cv, .slice Ab2 lb2.length cb2]) (t := 28) (by simp)) 0).trans rfl, (blk_cell (Sx.blkM (by repeat (first | (with_reducible exact HS.out) | (with_reducible apply Sx.drew) | (with_reducible apply Sx.drewN) | (with_reducible apply Sx.alloc))) (g := gB) (cs := #[.bool b, .slice Av la2.length cv, .slice Ab2 lb2.length cb2]) (t := 28) (by simp)) 1).trans rfl, (blk_cell (Sx.blkM (by repeat (first | (with_reducible exact HS.out) | (with_reducible apply Sx.drew) | (with_reducible apply Sx.drewN) | (with_reducible apply Sx.alloc))) (g := gB) (cs := #[.bool b, .slice Av la2.length cv, .slice Ab2 lb2.length cb2]) (t := 28) (by simp)) 2).trans rfl⟩)) (first | (go_at_call 90; refine (rank_n b Av cv la2.length (List.replicate la2.length 1) Ab2 cb2 lb2 _ ((show Sx w _ [(.row (.slice Av la2.length cv) (List.replicate la2.length 1)), (.blk gL #[.int .i64 1] 3), (.blk gR #[.bool false, .slice none 0 0, .slice none 0 0] 28), (.blk gB #[.bool b, .slice Av la2.length cv, .slice Ab2 lb2.length cb2] 28), (.blk gK #[.bool a, .slice Aa1 la1.length ca1, .slice Aa2 la2.length ca2] 28)] from (by repeat (first | (with_reducible exact HS.out) | (with_reducible apply Sx.drew) | (with_reducible apply Sx.drewN) | (with_reducible apply Sx.alloc)))).C 0 rfl) ((show Sx w _ [(.row (.slice Av la2.length cv) (List.replicate la2.length 1)), (.blk gL #[.int .i64 1] 3), (.blk gR #[.bool false, .slice none 0 0, .slice none 0 0] 28), (.blk gB #[.bool b, .slice Av la2.length cv, .slice Ab2 lb2.length cb2] 28), (.blk gK #[.bool a, .slice Aa1 la1.length ca1, .slice Aa2 la2.length ca2] 28)] from (by repeat (first | (with_reducible exact HS.out) | (with_reducible apply Sx.drew) | (with_reducible apply Sx.drewN) | (with_reducible apply Sx.alloc)))).cap 0 rfl) (List.length_replicate) (Kd.C_below Hb2.out (show Sx w _ [(.row (.slice Av la2.length cv) (List.replicate la2.length 1)), (.blk gL #[.int .i64 1] 3), (.blk gR #[.bool false, .slice none 0 0, .slice none 0 0] 28), (.blk gB #[.bool b, .slice Av la2.length cv, .slice Ab2 lb2.length cb2] 28), (.blk gK #[.bool a, .slice Aa1 la1.length ca1, .slice Aa2 la2.length ca2] 28)] from (by repeat (first | (with_reducible exact HS.out) | (with_reducible apply Sx.drew) | (with_reducible apply Sx.drewN) | (with_reducible apply Sx.alloc)))).below) Kb2.out).mono ?_; rintro e w9 ⟨rfl, hb9⟩; have nS : Aside0 (Sx w w9 [(.row (.slice Av la2.length cv) (List.replicate la2.length 1)), (.blk gL #[.int .i64 1] 3), (.blk gR #[.bool false, .slice none 0 0, .slice none 0 0] 28), (.blk gB #[.bool b, .slice Av la2.length cv, .slice Ab2 lb2.length cb2] 28), (.blk gK #[.bool a, .slice Aa1 la1.length ca1, .slice Aa2 la2.length ca2] 28)]) := Aside0.mk ((show Sx w _ [(.row (.slice Av la2.length cv) (List.replicate la2.length 1)), (.blk gL #[.int .i64 1] 3), (.blk gR #[.bool false, .slice none 0 0, .slice none 0 0] 28), (.blk gB #[.bool b, .slice Av la2.length cv, .slice Ab2 lb2.length cb2] 28), (.blk gK #[.bool a, .slice Aa1 la1.length ca1, .slice Aa2 la2.length ca2] 28)] from (by repeat (first | (with_reducible exact HS.out) | (with_reducible apply Sx.drew) | (with_reducible apply Sx.drewN) | (with_reducible apply Sx.alloc)))).step hb9); clear HS; have HS := nS; clear nS hb9))
  go_wp2_with (first | ((with_reducible refine gate_dst (N := 34) rfl ?_); refine wpList_load_row rfl 28 (.tmp 3) rfl gB rfl 28 #[.bool b, .slice Av la2.length cv, .slice Ab2 lb2.length cb2] (0, 0) _ (HS.out.blk 3 rfl) Try.underlying28 rfl (by kernel_rfl) ?_) | ((with_reducible refine gate_store rfl ?_); refine store_named rfl 28 (.tmp 4) (.tmp 34) rfl gR #[.bool b, .slice Av la2.length cv, .slice Ab2 lb2.length cb2] rfl rfl 28 #[.bool false, .slice none 0 0, .slice none 0 0] (HS.out.blk 2 rfl) (by kernel_rfl) rfl (by simp [Value.oneCell']) ?_; intro w10 hx10 hb10; have nS : Aside0 (Sx w w10 [(.row (.slice Av la2.length cv) (List.replicate la2.length 1)), (.blk gL #[.int .i64 1] 3), (.blk gR #[.bool b, .slice Av la2.length cv, .slice Ab2 lb2.length cb2] 28), (.blk gB #[.bool b, .slice Av la2.length cv, .slice Ab2 lb2.length cb2] 28), (.blk gK #[.bool a, .slice Aa1 la1.length ca1, .slice Aa2 la2.length ca2] 28)]) := Aside0.mk (HS.out.put 2 rfl hx10 hb10); clear HS; have HS := nS; clear nS hx10 hb10))
  refine bodyPost_ret (results_ct rfl _ _ gR 28 #[.bool b, .slice Av la2.length cv, .slice Ab2 lb2.length cb2] (0, 0) _ rfl (HS.out.blk 2 rfl) Try.underlying28 rfl (by kernel_rfl)) rfl ?_
  exact ⟨Av, cv, rfl, HS.out.row 0 rfl, HS.out.below⟩
end Go.Proofs.Ytehfcnndjhjkoaa.PA
