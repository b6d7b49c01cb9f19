import Derived.Test.YtehfcnndjhjkoaaKFnExactIndex3
import Derived.StillTailTactics
import Derived.Stop.RegionWithIn
import Derived.Laws.CopyOwn
import Derived.IntWalk
import Derived.Deep.RegionLaw
import Derived.Laws.BitsLemmas
import Derived.Deep.RegionHeld3
import Derived.BigQuiet
import Derived.Deep.CutRange
import Derived.Deep.MidRow
namespace Go.Proofs.Ytehfcnndjhjkoaa.PA
open Go.RowKit Go.Shelf
set_option linter.unusedSimpArgs false
set_option linter.unusedVariables false
theorem rowsIn_of {n : Nat} {P : Program} {row : String} {args : Array Value} {w : World} {R : Value → World → Prop} (h : Rows P row args w R) : RowsIn Fence.wide n P row args w R :=
  fun c cs _ => let ⟨v, w', r, s⟩ := h c cs; ⟨v, w', r, stepsIn_wide.2 s⟩
theorem upon_in {n : Nat} {P : Program} {o : Oper} {a : Act} {K : Act → World → Prop} {Q : Exit → Act → World → Prop} {r : Result Next} (h : o.upon P a K Q r) : o.uponIn Fence.wide n P a K Q r := by
  have hd : Fence.wide.depth.isSome = true → 1 ≤ n := fun h => by simp [Fence.wide] at h
  cases r with
  | ok x w' =>
    cases x with
    | enter f args => exact ⟨hd, callsIn_wide.2 h⟩
    | row row args => exact ⟨hd, rowsIn_of h⟩
    | round l f t a b => exact h.elim
    | _ => exact h
  | halt x w' =>
    cases x <;> exact h
theorem op_in {n : Nat} {P : Program} {ops : Array Oper} {Q : Exit → Act → World → Prop} (hno : ¬ LetsOut Q) {i : Nat} {K K' : Act → World → Prop} {a : Act} {w : World} (hK : ∀ a w, K a w → K' a w) (h : wpOp P ops Q i K a w) : wpOpIn Fence.wide n P ops Q i K' a w := by
  unfold wpOp at h
  unfold wpOpIn
  cases ho : ops[i]? with
  | none => simp only [ho] at h ⊢; exact hK _ _ h
  | some o =>
    simp only [ho] at h ⊢
    split at h
    · rename_i hw
      rw [if_pos hw]
      rcases h with h | ⟨_, h⟩
      · have h' := Oper.wp_mono hK h
        unfold Oper.wp at h'
        unfold Oper.wpIn
        exact ⟨fun _ _ => trivial, upon_in h'⟩
      · exact absurd h hno
    · rename_i hw
      rw [if_neg hw]
      exact ⟨fun _ _ => trivial, hK _ _ h⟩
theorem any_in {n : Nat} {P : Program} {md : Region.Mode} {ops : Array Oper} {Q : Exit → Act → World → Prop} (hno : ¬ LetsOut Q) : ∀ (fuel : Nat) (listed : Array Bool) (a : Act) (w : World), wpAny P md ops Q fuel listed a w → wpAnyIn Fence.wide n P md ops Q fuel listed a w
  | 0, _, _, _, h => h
  | fuel + 1, listed, a, w, h => ⟨h.1, fun i hi => op_in hno (fun a' w' hh => any_in hno fuel _ a' w' hh) (h.2 i hi)⟩
/-- Reads ahead of a chain of operations. -/
theorem tail_round {id lo m : Nat} {P : Program} {Q : Exit → Act → World → Prop} {a : Act} {w : World} {l : List Oper} (n : Nat) (hno : ¬ LetsOut Q) (hm : P.follows .mixedOrders = true) (hd : noDefer l.toArray = true) (hB : Region.lexTailB .any l.toArray n = true)
    (h : wpStill P l.toArray w.drew (fun a' => wpList P l.toArray Q (l.drop n) a' w.drew) (l.take n) a) : (Code.region id l.toArray true).wpIn (Fence.wide.inRound lo) m P Q a w := by
  simp only [Region.lexTailB, Bool.and_eq_true, decide_eq_true_eq] at hB
  obtain ⟨⟨⟨⟨hsel, hn⟩, hs⟩, hc⟩, hlex⟩ := hB
  have hn' : n < l.length := by simpa using hn
  have htl : (l.take n).length = n := by simp; omega
  have hdl : (l.drop n).length = l.toArray.size - n := by simp
  have inv0 : HeadInv .any l.toArray n (Array.replicate l.toArray.size false) :=
    ⟨by simp, fun j oj _ hl => (by rw [getD_replicate_false] at hl; cases hl), fun t _ ht => getD_in (by simpa using ht) (getD_replicate_false _ _)⟩
  have H := wpAnyL_lex (md := .any) (g := l.toArray.size - n) hsel hs hc hn (l.take n) 0 _ a (fun j hj => by
    have hj' : j < n := by rw [htl] at hj; exact hj
    simp [hj']) (by simpa using htl) inv0 (by rw [htl]; exact hlex) h
  refine region_round hm hd (any_in hno _ _ _ _ ?_)
  have := wpAny_of_head (Q' := Q) (g := l.toArray.size - n) (fun listed a' hL => by
    have := wpAny_of_seq (md := .any) (Q' := Q) (l.drop n) n listed a' w.drew (fun j => by simp [List.getElem?_drop]) (by rw [hdl]; exact hL.1) hL.2
    rwa [hdl] at this) _ _ _ H
  rw [htl, show n + (l.toArray.size - n) = l.toArray.size by omega] at this
  exact this
/-- Any order, by the plain walk. -/
theorem any_round {id lo m : Nat} {P : Program} {Q : Exit → Act → World → Prop} {a : Act} {w : World} {ops : Array Oper} (hno : ¬ LetsOut Q) (hm : P.follows .mixedOrders = true) (hd : noDefer ops = true)
    (h : wpAny P .any ops Q ops.size (Array.replicate ops.size false) a w.drew) : (Code.region id ops true).wpIn (Fence.wide.inRound lo) m P Q a w :=
  region_round hm hd (any_in hno _ _ _ _ h)
end Go.Proofs.Ytehfcnndjhjkoaa.PA
namespace Go.Proofs.Ytehfcnndjhjkoaa.PA
open Go.RowKit Go.Shelf Go.Proofs.YtehfcnndjhjkoaaW.PrintWords Go.Proofs.YtehfcnndjhjkoaaW.PrintLast Go.Proofs.YtehfcnndjhjkoaaW.PrintMore
attribute [local go_sem] Oper.semAt_some
set_option linter.unusedSimpArgs false
set_option linter.unusedVariables false
theorem rowI_C {w : World} {g : Nat} {t : TypeId} {l : List Int} (h : w.heap[g]? = some (.cells (rowI l) t (0, 0))) (hm : l.length ≤ 9223372036854775807) : Kd.C (Kd.int .i64) w (some ⟨g, 0, none⟩) l.length l := by
  refine Kd.C_of_reads (d := (0 : Int)) (h1 := fun _ => rfl) ⟨rfl, by omega, fun _ => ⟨_, rfl, fun j hj => ?_⟩⟩
  have ha : (⟨g, 0, none⟩ : Addr).add j = ⟨g, j, none⟩ := by unfold Addr.add; split <;> simp_all
  rw [ha, rowI_cell h j hj]
  simp only [rd, Int.toNat_natCast]
theorem C_block {w : World} {A : Option Addr} {l : List Int} (h : Kd.C (Kd.int .i64) w A l.length l) {k : Nat} (h0 : 0 < l.length) (hk : some k = A.map (·.block)) : k < w.heap.size := by
  obtain ⟨ad, rfl, hx⟩ := Kd.at_int h 0 (by omega) (by omega)
  cases Option.some.inj hk
  have := World.block_lt_of_cell? w _ hx
  rwa [show (ad.add (0 : Int).toNat).block = ad.block by unfold Addr.add; split <;> rfl] at this
end Go.Proofs.Ytehfcnndjhjkoaa.PA
namespace Go.Proofs.Ytehfcnndjhjkoaa.PA
open Go.RowKit Go.Proofs.YtehfcnndjhjkoaaW.PrintWords Go.Proofs.YtehfcnndjhjkoaaW.PrintLast Go.Proofs.YtehfcnndjhjkoaaW.PrintMore
set_option linter.unusedSimpArgs false
set_option linter.unusedVariables false
theorem l5At_loop (sh src : List Int) (h : sh.length = src.length) (hb : sh.length ≤ 1000000) : ∀ (m j : Nat) (n : Int), j + m = src.length → Ev (fun k => spec_l5At.l0 k sh src n (j : Int)) (numGo sh j n (src.drop j))
  | 0, j, n, hj => by
    refine evVal (evRound (Ev.now n) fun k => ?_) (by rw [List.drop_eq_nil_of_le (by omega), numGo])
    rw [spec_l5At.l0, if_neg (by omega)]
  | m + 1, j, n, hj => by
    have hlt : j < src.length := by omega
    have ih := l5At_loop sh src h hb m (j + 1) (wrap64 (wrap64 (n * rd sh (j : Int)) + rd src (j : Int))) (by omega)
    refine evVal (evRound ih fun k => ?_) (by
      rw [List.drop_eq_getElem_cons hlt, numGo]; simp [rd, List.getD_eq_getElem?_getD, hlt])
    rw [spec_l5At.l0, if_pos (by omega), if_pos (by omega), if_pos (by omega), w64 (x := (j : Int) + 1) (by omega) (by omega)]
    rfl
theorem l5At_ev (sh src : List Int) (h : sh.length = src.length) (hb : sh.length ≤ 1000000) : Ev (fun k => spec_l5At.f k sh src) (numGo sh 0 0 src) := by
  have := l5At_loop sh src h hb src.length 0 0 (by omega)
  simpa [spec_l5At.f] using this
/-- The number of an index in range is a place. -/
theorem num_range {sh src : List Int} (hs : ∀ a ∈ sh, 1 ≤ a) (hp : prod sh ≤ 1000000000) (hl : sh.length = src.length) (hr : ∀ k : Nat, k < src.length → 0 ≤ rd src (k : Int) ∧ rd src (k : Int) < rd sh (k : Int)) : 0 ≤ numGo sh 0 0 src ∧ numGo sh 0 0 src < prod sh := by
  have h := numGo_hor sh hs hp src [] sh 0 rfl hl (by omega) (by simp [prod]) hr
  simp only [List.length_nil] at h
  rw [h]
  have key : ∀ (s d : List Int) (n b : Int), s.length = d.length → (∀ a ∈ s, 1 ≤ a) → (∀ k : Nat, k < d.length → 0 ≤ rd d (k : Int) ∧ rd d (k : Int) < rd s (k : Int)) → 0 ≤ n → n < b → 0 ≤ hor n s d ∧ hor n s d < b * prod s := by
    intro s
    induction s with
    | nil => intro d n b hl _ _ h0 h1; obtain rfl := List.eq_nil_of_length_eq_zero hl.symm; simp [hor, prod]; omega
    | cons a s ih =>
      intro d n b hl ha hr h0 h1
      cases d with
      | nil => simp at hl
      | cons x d =>
        have hx := hr 0 (by simp)
        have e1 : rd (x :: d) ((0 : Nat) : Int) = x := by simp [rd]
        have e2 : rd (a :: s) ((0 : Nat) : Int) = a := by simp [rd]
        rw [e1, e2] at hx
        have h3 : n * a + x < b * a := by
          have h := Int.mul_le_mul_of_nonneg_right (show n + 1 ≤ b by omega) (show 0 ≤ a by omega)
          rw [Int.add_mul] at h; omega
        have h4 : 0 ≤ n * a := Int.mul_nonneg h0 (by omega)
        have := ih d (n * a + x) (b * a) (by simpa using hl) (fun y hy => ha y (by simp [hy])) (fun k hk => by
          have h := hr (k + 1) (by simp; omega)
          simp only [rd, Int.toNat_natCast, List.getD_cons_succ] at h ⊢
          exact h) (by omega) h3
        simp only [hor, prod]
        rw [← Int.mul_assoc]
        exact this
  have := key sh src 0 1 hl hs hr (by omega) (by omega)
  rwa [Int.one_mul] at this
abbrev PartS := S66
def pickBad (p : PartS) : Bool := p.f1.f0 || decide (0 < p.f1.f1.length) || decide (0 < p.f1.f2.length)
def upN : Nat → List Int
  | 0 => []
  | n + 1 => upN n ++ [(n : Int)]
theorem upN_len : ∀ n, (upN n).length = n
  | 0 => rfl
  | n + 1 => by simp [upN, upN_len n]
/-- What one part picks along an axis of n, from 0 on, and a code. -/
def pickC (n : Int) (p : PartS) : List Int × Int :=
  if p.f0 = true then (if pickBad p = true then ([], 3) else (upN n.toNat, 0))
  else if arrOk p.f1.f0 p.f1.f1 p.f1.f2 = true ∧ p.f1.f0 = false then
    (if p.f1.f2.all (fun x => decide (1 ≤ x ∧ x ≤ n)) = true then (p.f1.f2.map (fun x => x - 1), 0) else ([], 6))
  else ([], 3)
def picksGo : List Int → List PartS → List (List Int) × Int
  | n :: l, p :: ps => if (pickC n p).2 = 0 then ((pickC n p).1 :: (picksGo l ps).1, (picksGo l ps).2) else ([], (pickC n p).2)
  | _, _ => ([], 0)
def picksV (l1 : List Int) (ps : List PartS) : List (List Int) × Int := if ps.length = l1.length then picksGo l1 ps else ([], 4)
theorem rdT_mid (q : List PartS) (p : PartS) (t : List PartS) : rd_T66 (q ++ p :: t) (q.length : Int) = p := by
  simp [rd_T66]
theorem picks_up (x1 : List PartS) (x6 : List (List Int)) (x7 : Nat) (b : Bool) (l1 l2 : List Int) (n : Nat) (R : List (List Int) × Int) (h7 : x7 < l1.length) (hn : rd l1 (x7 : Int) = (n : Int)) (hb : n ≤ 1000000000) (h6 : x6.length < 5864062014805)
    (hk : Ev (fun k => spec_l5Picks.l0 k x1 (x6 ++ [upN n]) (wrap64 ((x7 : Int) + 1)) b l1 l2) R) : ∀ (d j : Nat), j + d = n → Ev (fun k => spec_l5Picks.l1 k x1 x6 (x7 : Int) (upN j) (j : Int) b l1 l2) R
  | 0, j, hj => by
    obtain rfl : j = n := by omega
    refine evRound hk fun k => ?_
    simp only [spec_l5Picks.l1]
    rw [if_pos (by omega), if_pos (by omega), if_neg (by omega), if_pos h6]
  | d + 1, j, hj => by
    have ih := picks_up x1 x6 x7 b l1 l2 n R h7 hn hb h6 hk d (j + 1) (by omega)
    refine evRound ih fun k => ?_
    simp only [spec_l5Picks.l1]
    rw [if_pos (by omega), if_pos (by omega), if_pos (by omega), if_pos (by rw [upN_len]; omega), w64 (by omega) (by omega), upN]
    push_cast; rfl
theorem picks_list (x1 : List PartS) (x6 : List (List Int)) (x7 : Nat) (b : Bool) (l1 l2 : List Int) (n : Int) (R : List (List Int) × Int) (p0 p1 : Bool) (s d : List Int) (h7 : x7 < l1.length) (hn : rd l1 (x7 : Int) = n) (h6 : x6.length < 5864062014805) (hd : d.length ≤ 1000000000) (hr : ∀ x ∈ d, -1000000000000000 ≤ x ∧ x ≤ 1000000000000000)
    (hk : d.all (fun x => decide (1 ≤ x ∧ x ≤ n)) = true → Ev (fun k => spec_l5Picks.l0 k x1 (x6 ++ [d.map (fun x => x - 1)]) (wrap64 ((x7 : Int) + 1)) b l1 l2) R) (hk6 : ¬ d.all (fun x => decide (1 ≤ x ∧ x ≤ n)) = true → R = (x6, 6)) :
    ∀ (t p : List Int), p ++ t = d → p.all (fun x => decide (1 ≤ x ∧ x ≤ n)) = true → Ev (fun k => spec_l5Picks.l2 k x1 x6 (x7 : Int) (p.map (fun x => x - 1)) (p.length : Int) b l1 l2 p0 p1 s d) R
  | [], p, e, hp => by
    rw [List.append_nil] at e
    subst e
    refine evRound (hk hp) fun k => ?_
    simp only [spec_l5Picks.l2]
    rw [if_neg (by omega), if_pos h6]
  | x :: t, p, e, hp => by
    have hx : rd d (p.length : Int) = x := by rw [← e]; exact rd_mid p t x
    have hl : p.length < d.length := by rw [← e]; simp
    have hrx := hr x (by rw [← e]; simp)
    by_cases h1 : x < 1
    · refine evVal (evRound (Ev.now (x6, 6)) fun k => ?_) (hk6 (by rw [← e]; simp; omega)).symm
      simp only [spec_l5Picks.l2]
      rw [if_pos (by omega), if_pos (by omega), hx, if_pos h1]
    · by_cases h2 : x > n
      · refine evVal (evRound (Ev.now (x6, 6)) fun k => ?_) (hk6 (by rw [← e]; simp; omega)).symm
        simp only [spec_l5Picks.l2]
        rw [if_pos (by omega), if_pos (by omega), hx, if_neg h1, if_pos (by omega), if_pos (by omega), hn, if_pos h2]
      · have ih := picks_list x1 x6 x7 b l1 l2 n R p0 p1 s d h7 hn h6 hd hr hk hk6 t (p ++ [x]) (by rw [← e]; simp) (by rw [List.all_append, hp]; simp; omega)
        refine evRound ih fun k => ?_
        simp only [spec_l5Picks.l2]
        rw [if_pos (by omega), if_pos (by omega), hx, if_neg h1, if_pos (by omega), if_pos (by omega), hn, if_neg h2, if_pos (by simp; omega), w64 (x := x - 1) (by omega) (by omega), w64 (by omega) (by omega)]
        simp
theorem picks_loop (b : Bool) (l2 : List Int) : ∀ (t : List Int) (ps : List PartS) (u : List Int) (q : List PartS) (out : List (List Int)), t.length = ps.length → u.length = q.length → (q ++ ps).length ≤ 1000000000 → out.length ≤ q.length → (∀ a ∈ t, 0 ≤ a ∧ a ≤ 10000) → (∀ p ∈ ps, p.f1.f1.length ≤ 35184372088832 ∧ p.f1.f2.length ≤ 35184372088832) →
    Ev (fun k => spec_l5Picks.l0 k (q ++ ps) out (q.length : Int) b (u ++ t) l2) (out ++ (picksGo t ps).1, (picksGo t ps).2)
  | [], [], u, q, out, _, _, _, _, _, _ => by
    refine evVal (evRound (Ev.now (out, 0)) fun k => ?_) (by simp [picksGo])
    simp only [spec_l5Picks.l0]
    rw [if_neg (by simp)]
  | n :: t, p :: ps, u, q, out, hl, hu, hb, ho, hr, hp => by
    have hnr := hr n (by simp)
    have hpl := hp p (by simp)
    have hql : q.length < (q ++ p :: ps).length := by simp
    have hrd : rd (u ++ n :: t) (q.length : Int) = n := by rw [← hu]; exact rd_mid u t n
    have hut : q.length < (u ++ n :: t).length := by rw [← hu]; simp
    have next : (pickC n p).2 = 0 → Ev (fun k => spec_l5Picks.l0 k (q ++ p :: ps) (out ++ [(pickC n p).1]) (wrap64 ((q.length : Int) + 1)) b (u ++ n :: t) l2) (out ++ (picksGo (n :: t) (p :: ps)).1, (picksGo (n :: t) (p :: ps)).2) := fun h0 => by
      have ih := picks_loop b l2 t ps (u ++ [n]) (q ++ [p]) (out ++ [(pickC n p).1]) (by simpa using hl) (by simp [hu]) (by simpa using hb) (by simp; omega) (fun a ha => hr a (by simp [ha])) (fun a ha => hp a (by simp [ha]))
      rw [show q ++ [p] ++ ps = q ++ p :: ps by simp, show u ++ [n] ++ t = u ++ n :: t by simp] at ih
      refine evVal (Ev.congr (fun k => ?_) ih) ?_
      · rw [w64 (by omega) (by simp at hb; omega)]
        simp
      · simp [picksGo, h0]
    have stop : ∀ c : Int, c ≠ 0 → pickC n p = ([], c) → (out, c) = (out ++ (picksGo (n :: t) (p :: ps)).1, (picksGo (n :: t) (p :: ps)).2) := fun c hc e => by
      simp [picksGo, e, hc]
    obtain ⟨m, rfl⟩ := Int.eq_ofNat_of_zero_le hnr.1
    have ho6 : out.length < 5864062014805 := by simp at hb; omega
    by_cases hall : p.f0 = true
    · have j1 : ∀ c : Bool, c = pickBad p → Ev (fun k => spec_l5Picks.j1 k (q ++ p :: ps) out (q.length : Int) [] c b (u ++ (m : Int) :: t) l2) (out ++ (picksGo ((m : Int) :: t) (p :: ps)).1, (picksGo ((m : Int) :: t) (p :: ps)).2) := fun c hc => by
        cases hbad : pickBad p with
        | true =>
          rw [hbad] at hc
          subst hc
          refine evVal (evRound (Ev.now (out, 3)) fun k => ?_) (stop 3 (by decide) (by unfold pickC; rw [if_pos hall, if_pos hbad]))
          simp only [spec_l5Picks.j1]; rw [if_pos trivial]
        | false =>
          rw [hbad] at hc
          subst hc
          have hpc : pickC (m : Int) p = (upN m, 0) := by unfold pickC; rw [if_pos hall, if_neg (by rw [hbad]; decide), Int.toNat_natCast]
          have nx := next (by rw [hpc])
          rw [hpc] at nx
          refine evRound (picks_up (q ++ p :: ps) out q.length b (u ++ (m : Int) :: t) l2 m _ hut hrd (by omega) ho6 nx m 0 (by omega)) fun k => ?_
          simp only [spec_l5Picks.j1]; rw [if_neg (by decide)]; rfl
      by_cases c1 : p.f1.f0 = true
      · refine evRound (j1 true (by simp [pickBad, c1])) fun k => ?_
        simp only [spec_l5Picks.l0]
        rw [if_pos (by omega), if_pos (by omega), Option.bind_some, rdT_mid, if_pos hall, if_pos c1]
      · by_cases c2 : (p.f1.f1.length : Int) > 0
        · refine evRound (j1 true (by simp [pickBad]; omega)) fun k => ?_
          simp only [spec_l5Picks.l0]
          rw [if_pos (by omega), if_pos (by omega), Option.bind_some, rdT_mid, if_pos hall, if_neg c1, if_pos c2]
        · refine evRound (j1 (decide ((p.f1.f2.length : Int) > 0)) ?_) fun k => ?_
          · have e1 : p.f1.f1.length = 0 := by omega
            have e0 : p.f1.f0 = false := by simpa using c1
            simp only [pickBad, e0, e1]
            by_cases h : 0 < p.f1.f2.length
            · simp [h]
            · simp [h]
          · simp only [spec_l5Picks.l0]
            rw [if_pos (by omega), if_pos (by omega), Option.bind_some, rdT_mid, if_pos hall, if_neg c1, if_neg c2]
    · have hA := specArrayOk_ev p.f1.f0 p.f1.f1 p.f1.f2 hpl.1 hpl.2
      have j3 : ∀ c : Bool, c = (!arrOk p.f1.f0 p.f1.f1 p.f1.f2 || p.f1.f0) → Ev (fun k => spec_l5Picks.j3 k (q ++ p :: ps) out (q.length : Int) [] c b (u ++ (m : Int) :: t) l2 p.f0 p.f1.f0 p.f1.f1 p.f1.f2) (out ++ (picksGo ((m : Int) :: t) (p :: ps)).1, (picksGo ((m : Int) :: t) (p :: ps)).2) := fun c hc => by
        by_cases hg : arrOk p.f1.f0 p.f1.f1 p.f1.f2 = true ∧ p.f1.f0 = false
        · have hcf : c = false := by rw [hc, hg.1, hg.2]; rfl
          subst hcf
          have n2 := arrOk_len hg.1
          refine evRound (picks_list (q ++ p :: ps) out q.length b (u ++ (m : Int) :: t) l2 (m : Int) _ p.f0 p.f1.f0 p.f1.f1 p.f1.f2 hut hrd ho6 (by omega) (arrOk_cells hg.1) (fun ha => ?_) (fun ha => ?_) p.f1.f2 [] rfl rfl) fun k => ?_
          · have hpc : pickC (m : Int) p = (p.f1.f2.map (fun x => x - 1), 0) := by unfold pickC; rw [if_neg hall, if_pos hg, if_pos ha]
            have nx := next (by rw [hpc])
            rw [hpc] at nx
            exact nx
          · exact (stop 6 (by decide) (by unfold pickC; rw [if_neg hall, if_pos hg, if_neg ha])).symm
          · simp only [spec_l5Picks.j3]; rw [if_neg (by decide)]; rfl
        · have hct : c = true := by
            rw [hc]
            cases h1 : arrOk p.f1.f0 p.f1.f1 p.f1.f2 <;> cases h2 : p.f1.f0 <;> simp_all
          subst hct
          refine evVal (evRound (Ev.now (out, 3)) fun k => ?_) (stop 3 (by decide) (by unfold pickC; rw [if_neg hall, if_neg hg]))
          simp only [spec_l5Picks.j3]; rw [if_pos trivial]
      refine evRound (f := fun k => (spec_ArrayOk.f k p.f1.f0 p.f1.f1 p.f1.f2).bind fun t117 => if t117 = true then spec_l5Picks.j3 k (q ++ p :: ps) out (q.length : Int) [] p.f1.f0 b (u ++ (m : Int) :: t) l2 p.f0 p.f1.f0 p.f1.f1 p.f1.f2 else spec_l5Picks.j3 k (q ++ p :: ps) out (q.length : Int) [] true b (u ++ (m : Int) :: t) l2 p.f0 p.f1.f0 p.f1.f1 p.f1.f2) (Ev.bind hA ?_) fun k => ?_
      · cases h1 : arrOk p.f1.f0 p.f1.f1 p.f1.f2 with
        | true => simp only [if_true]; exact j3 _ (by rw [h1]; simp)
        | false => simp only [Bool.false_eq_true, if_false]; exact j3 _ (by rw [h1]; simp)
      · simp only [spec_l5Picks.l0]
        rw [if_pos (by omega), if_pos (by omega), Option.bind_some, rdT_mid, if_neg hall]
  | [], p :: ps, u, q, out, hl, _, _, _, _, _ => by simp at hl
  | n :: t, [], u, q, out, hl, _, _, _, _, _ => by simp at hl
theorem picks_ev (b : Bool) (l1 l2 : List Int) (ps : List PartS) (h5 : l1.length ≤ 5) (hr : ∀ a ∈ l1, 0 ≤ a ∧ a ≤ 10000) (hp : ∀ p ∈ ps, p.f1.f1.length ≤ 35184372088832 ∧ p.f1.f2.length ≤ 35184372088832) : Ev (fun k => spec_l5Picks.f k b l1 l2 ps) (picksV l1 ps) := by
  unfold picksV
  by_cases e : ps.length = l1.length
  · rw [if_pos e]
    have := picks_loop b l2 l1 ps [] [] [] e.symm rfl (by simp; omega) (by simp) hr hp
    refine evVal (Ev.congr (fun k => ?_) this) (by simp)
    simp only [spec_l5Picks.f]
    rw [Option.bind_some, if_pos (by omega)]; rfl
  · rw [if_neg e]
    refine evEq fun k => ?_
    simp only [spec_l5Picks.f]
    rw [Option.bind_some, if_neg (by omega)]
def cntsL (ls : List (List Int)) : List Int := ls.map fun l => (l.length : Int)
def shpL : List Int → List PartS → List Int
  | n :: l, p :: ps => (if p.f0 = true then [n] else p.f1.f1) ++ shpL l ps
  | _, _ => []
def pickGo : List (List Int) → List Int → List Int
  | l :: ls, i :: t => rd l i :: pickGo ls t
  | _, _ => []
def placeL (l1 : List Int) (ls : List (List Int)) (t : Nat) : Int := numGo l1 0 0 (pickGo ls (digs (cntsL ls) (t : Int)))
def placesN (l1 : List Int) (ls : List (List Int)) : Nat → List Int
  | 0 => []
  | t + 1 => placesN l1 ls t ++ [placeL l1 ls t]
theorem placesN_len (l1 : List Int) (ls : List (List Int)) : ∀ t, (placesN l1 ls t).length = t
  | 0 => rfl
  | t + 1 => by simp [placesN, placesN_len l1 ls t]
def whereV (l1 : List Int) (ps : List PartS) : List Int × List Int × Int :=
  if (picksV l1 ps).2 = 0 then
    (if shOk (shpL l1 ps) = true then (placesN l1 (picksV l1 ps).1 (prod (shpL l1 ps)).toNat, shpL l1 ps, 0) else (cntsL (picksV l1 ps).1, shpL l1 ps, 7))
  else ([], [], (picksV l1 ps).2)
theorem cntsL_len (ls : List (List Int)) : (cntsL ls).length = ls.length := by simp [cntsL]
theorem pickGo_len : ∀ (ls : List (List Int)) (t : List Int), ls.length = t.length → (pickGo ls t).length = t.length
  | [], [], _ => rfl
  | l :: ls, i :: t, h => by simp [pickGo, pickGo_len ls t (by simpa using h)]
  | [], i :: t, h => by simp at h
  | l :: ls, [], h => by simp at h
/-- What a good list of picks is. -/
theorem picks_facts : ∀ (l : List Int) (ps : List PartS), l.length = ps.length → (∀ a ∈ l, 0 ≤ a ∧ a ≤ 10000) → (picksGo l ps).2 = 0 →
    (picksGo l ps).1.length = l.length ∧ prod (cntsL (picksGo l ps).1) = prod (shpL l ps) ∧ (shpL l ps).length ≤ 5 * ps.length ∧ (∀ p ∈ ps, p.f0 = true ∨ p.f1.f1.length ≤ 5) ∧ (∀ x ∈ (picksGo l ps).1, x.length ≤ 10000) ∧ (∀ k : Nat, k < l.length → ∀ x ∈ (picksGo l ps).1.getD k [], 0 ≤ x ∧ x < rd l (k : Int))
  | [], [], _, _, _ => by simp [picksGo, shpL, cntsL, prod]
  | n :: l, p :: ps, hl, hr, h => by
    have hn := hr n (by simp)
    unfold picksGo at h ⊢
    by_cases hc : (pickC n p).2 = 0
    · rw [if_pos hc] at h ⊢
      obtain ⟨i1, i2, i3, i4, i5, i6⟩ := picks_facts l ps (by simpa using hl) (fun a ha => hr a (by simp [ha])) h
      have hp : prod [((pickC n p).1.length : Int)] = prod (if p.f0 = true then [n] else p.f1.f1) ∧ (if p.f0 = true then [n] else p.f1.f1).length ≤ 5 ∧ (p.f0 = true ∨ p.f1.f1.length ≤ 5) ∧ (pickC n p).1.length ≤ 10000 ∧ ∀ x ∈ (pickC n p).1, 0 ≤ x ∧ x < n := by
        unfold pickC at hc ⊢
        by_cases hf : p.f0 = true
        · rw [if_pos hf] at hc ⊢
          rw [if_pos hf]
          by_cases hb : pickBad p = true
          · rw [if_pos hb] at hc; simp at hc
          · rw [if_neg hb]
            refine ⟨by simp only [upN_len, prod]; omega, by simp, .inl hf, by simp only [upN_len]; omega, ?_⟩
            have : ∀ (m : Nat), ∀ x ∈ upN m, 0 ≤ x ∧ x < (m : Int) := by
              intro m
              induction m with
              | zero => simp [upN]
              | succ m ih =>
                intro x hx
                rw [upN, List.mem_append, List.mem_singleton] at hx
                rcases hx with hx | hx
                · have := ih x hx; omega
                · omega
            intro x hx
            have := this _ x hx
            omega
        · rw [if_neg hf] at hc ⊢
          rw [if_neg hf]
          by_cases hg : arrOk p.f1.f0 p.f1.f1 p.f1.f2 = true ∧ p.f1.f0 = false
          · rw [if_pos hg] at hc ⊢
            have hlen := arrOk_len hg.1
            by_cases ha : p.f1.f2.all (fun x => decide (1 ≤ x ∧ x ≤ n)) = true
            · rw [if_pos ha]
              refine ⟨by simp only [List.length_map, prod]; have := arrOk_prod hg.1; omega, hlen.1, .inr hlen.1, by simp only [List.length_map]; omega, ?_⟩
              intro x hx
              obtain ⟨y, hy, rfl⟩ := List.mem_map.1 hx
              have := of_decide_eq_true (List.all_eq_true.1 ha y hy)
              omega
            · rw [if_neg ha] at hc; simp at hc
          · rw [if_neg hg] at hc; simp at hc
      refine ⟨by simp [i1], ?_, ?_, ?_, ?_, ?_⟩
      · simp only [cntsL, List.map_cons, shpL]
        rw [prod_app, ← hp.1, ← i2]
        simp only [cntsL, prod, Int.mul_one]
      · simp only [shpL, List.length_append, List.length_cons]; have := hp.2.1; omega
      · intro q hq
        rcases List.mem_cons.1 hq with rfl | hq
        · exact hp.2.2.1
        · exact i4 q hq
      · intro x hx
        rcases List.mem_cons.1 hx with rfl | hx
        · exact hp.2.2.2.1
        · exact i5 x hx
      · intro k hk x hx
        cases k with
        | zero => simp at hx ⊢; simpa [rd] using hp.2.2.2.2 x hx
        | succ k =>
          have hk' : k < l.length := by simpa using hk
          have := i6 k hk' x (by simpa using hx)
          simpa [rd] using this
    · rw [if_neg hc] at h
      exact absurd h hc
  | [], p :: ps, h, _, _ => by simp at h
  | n :: l, [], h, _, _ => by simp at h
theorem rdL_mid (q : List (List Int)) (p : List Int) (t : List (List Int)) : rd_L2 (q ++ p :: t) (q.length : Int) = p := by simp [rd_L2]
theorem where_l2 (x7 : List (List Int)) (x9 x10 x12 : List Int) (x13 x14 : Int) (b : Bool) (l1 l2 : List Int) (ix : List Int) (R : List Int × List Int × Int) (h7 : x7.length = ix.length) (hl : ix.length ≤ 1000000) (hr : ∀ k : Nat, k < ix.length → 0 ≤ rd ix (k : Int) ∧ rd ix (k : Int) < ((rd_L2 x7 (k : Int)).length : Int))
    (hk : Ev (fun k => (spec_l5At.f k l1 (pickGo x7 ix)).bind fun t137 => if x12.length < 17592186044416 then spec_l5Where.l1 k x7 x9 x10 (x12 ++ [t137]) x13 (wrap64 (x14 + 1)) b l1 l2 else none) R) :
    ∀ (t ls : List _) (p : List Int) (q : List (List Int)), q ++ ls = x7 → p ++ t = ix → p.length = q.length → Ev (fun k => spec_l5Where.l2 k x7 x9 x10 x12 x13 x14 (pickGo q p ++ t) (q.length : Int) b l1 l2) R
  | [], ls, p, q, e, f, g => by
    have : ls = [] := by
      have h1 := congrArg List.length e
      have h2 := congrArg List.length f
      simp at h1 h2
      exact List.eq_nil_of_length_eq_zero (by omega)
    subst this
    rw [List.append_nil] at e f
    subst e f
    refine evRound hk fun k => ?_
    simp only [spec_l5Where.l2]
    rw [List.append_nil, if_neg (by rw [pickGo_len q p g.symm]; omega)]
  | i :: t, ls, p, q, e, f, g => by
    cases ls with
    | nil =>
      have h1 := congrArg List.length e
      have h2 := congrArg List.length f
      simp at h1 h2
      omega
    | cons l ls =>
      have hpl := pickGo_len q p g.symm
      have hi : rd ix (q.length : Int) = i := by rw [← f, ← g]; exact rd_mid p t i
      have hL : rd_L2 x7 (q.length : Int) = l := by rw [← e]; exact rdL_mid q l ls
      have hlt : q.length < ix.length := by rw [← f, ← g]; simp
      have hb := hr q.length hlt
      rw [hi, hL] at hb
      have hx : rd (pickGo q p ++ i :: t) (q.length : Int) = i := by rw [← g, ← hpl]; exact rd_mid _ t i
      have ih := where_l2 x7 x9 x10 x12 x13 x14 b l1 l2 ix R h7 hl hr hk t ls (p ++ [i]) (q ++ [l]) (by rw [← e]; simp) (by rw [← f]; simp) (by simp [g])
      have app : ∀ (q : List (List Int)) (p : List Int), p.length = q.length → pickGo (q ++ [l]) (p ++ [i]) = pickGo q p ++ [rd l i] := by
        intro q
        induction q with
        | nil => intro p h; cases p with
          | nil => rfl
          | cons _ _ => simp at h
        | cons a q ih => intro p h; cases p with
          | nil => simp at h
          | cons y p => simp only [List.cons_append, pickGo]; rw [ih p (by simpa using h)]
      rw [app q p g] at ih
      refine evRound ih fun k => ?_
      simp only [spec_l5Where.l2]
      rw [if_pos (by simp; omega), if_pos (by omega), if_pos (by omega), hx, hL, if_pos (by omega), if_pos (by omega), Int.toNat_natCast, w64 (by omega) (by omega)]
      have hs : (pickGo q p ++ i :: t).set q.length (rd l i) = pickGo q p ++ [rd l i] ++ t := by
        rw [show q.length = (pickGo q p).length by omega]; simp
      rw [hs]
      simp
theorem where_l1 (x7 : List (List Int)) (x9 : List Int) (b : Bool) (l1 l2 : List Int) (N : Nat) (hN : N ≤ 10000) (hl : x7.length ≤ 1000) (hll : l1.length = x7.length) (hc : ∀ a ∈ cntsL x7, 1 ≤ a ∧ a ≤ 10000) (hp : prod (cntsL x7) = (N : Int)) : ∀ (d t : Nat), t + d = N →
    Ev (fun k => spec_l5Where.l1 k x7 x9 (cntsL x7) (placesN l1 x7 t) (N : Int) (t : Int) b l1 l2) (placesN l1 x7 N, x9, 0)
  | 0, t, h => by
    obtain rfl : t = N := by omega
    refine evRound (Ev.now _) fun k => ?_
    simp only [spec_l5Where.l1]
    rw [if_neg (by omega)]
  | d + 1, t, h => by
    have ih := where_l1 x7 x9 b l1 l2 N hN hl hll hc hp d (t + 1) (by omega)
    have hD := l5Index_ev (cntsL x7) (t : Int) (by rw [cntsL_len]; omega) (by omega) (by omega) (fun a ha => by have := hc a ha; omega)
    have hdl : (digs (cntsL x7) (t : Int)).length = x7.length := by rw [digs_len, cntsL_len]
    have hdr := digs_range (cntsL x7).length (cntsL x7) (t : Int) rfl (fun a ha => (hc a ha).1) (by omega)
    have hA := l5At_ev l1 (pickGo x7 (digs (cntsL x7) (t : Int))) (by rw [pickGo_len _ _ hdl.symm, hdl]; exact hll) (by omega)
    refine evRound (f := fun k => (spec_l5Index.f k (cntsL x7) (t : Int)).bind fun t130 => spec_l5Where.l2 k x7 x9 (cntsL x7) (placesN l1 x7 t) (N : Int) (t : Int) t130 0 b l1 l2) (Ev.bind hD ?_) fun k => ?_
    · refine where_l2 x7 x9 (cntsL x7) (placesN l1 x7 t) (N : Int) (t : Int) b l1 l2 (digs (cntsL x7) (t : Int)) _ hdl.symm (by omega) (fun k hk => ?_) (Ev.bind hA ?_) (digs (cntsL x7) (t : Int)) x7 [] [] rfl rfl rfl
      · have := hdr k (by rw [cntsL_len]; omega)
        refine ⟨this.1, ?_⟩
        have e : rd (cntsL x7) (k : Int) = ((rd_L2 x7 (k : Int)).length : Int) := by
          have hk' : k < x7.length := by omega
          simp [cntsL, rd, rd_L2, hk']
        rw [← e]; exact this.2
      · refine Ev.congr (fun k => ?_) ih
        rw [if_pos (by rw [placesN_len]; omega), w64 (by omega) (by omega)]
        show _ = spec_l5Where.l1 k x7 x9 (cntsL x7) (placesN l1 x7 t ++ [placeL l1 x7 t]) (N : Int) ((t + 1 : Nat) : Int) b l1 l2
        push_cast; rfl
    · simp only [spec_l5Where.l1]
      rw [if_pos (by omega)]
theorem where_l0 (b : Bool) (l2 : List Int) (x1 : List PartS) (x7 : List (List Int)) (l1 : List Int) (R : List Int × List Int × Int) (S : List Int) (hS : S.length ≤ 1000) (h7 : x7.length = x1.length) (h1 : l1.length = x1.length) (hb : x1.length ≤ 1000)
    (hk : Ev (fun k => (spec_l3ShapeOk.f k S).bind fun t125 => if t125 = true then (spec_l3Count.f k S).bind fun t129 => spec_l5Where.l1 k x7 S (cntsL x7) [] t129 0 b l1 l2 else some (cntsL x7, S, 7)) R) :
    ∀ (ps : List PartS) (t : List Int) (ls : List (List Int)) (q : List PartS) (u : List Int) (qs : List (List Int)) (sh : List Int), q ++ ps = x1 → u ++ t = l1 → qs ++ ls = x7 → u.length = q.length → qs.length = q.length → sh ++ shpL t ps = S →
    Ev (fun k => spec_l5Where.l0 k x1 x7 sh (cntsL qs) (q.length : Int) b l1 l2) R
  | [], t, ls, q, u, qs, sh, e1, e2, e3, g1, g2, es => by
    have e4 : ls = [] := List.eq_nil_of_length_eq_zero (by have z1 := congrArg List.length e1; have z3 := congrArg List.length e3; simp only [List.length_append, List.length_nil] at z1 z3; omega)
    subst e4
    rw [List.append_nil] at e1 e3
    have es' : sh = S := by
      rw [← es]
      cases t <;> simp [shpL]
    subst es' e1 e3
    refine evRound hk fun k => ?_
    simp only [spec_l5Where.l0]
    rw [if_neg (by omega)]
  | p :: ps, t, ls, q, u, qs, sh, e1, e2, e3, g1, g2, es => by
    have z1 := congrArg List.length e1
    have z2 := congrArg List.length e2
    have z3 := congrArg List.length e3
    simp at z1 z2 z3
    obtain ⟨n, t, rfl⟩ : ∃ n t', t = n :: t' := by
      cases t with
      | nil => simp at z2; omega
      | cons n t => exact ⟨n, t, rfl⟩
    obtain ⟨l, ls, rfl⟩ : ∃ l ls', ls = l :: ls' := by
      cases ls with
      | nil => simp at z3; omega
      | cons l ls => exact ⟨l, ls, rfl⟩
    have hT : rd_T66 x1 (q.length : Int) = p := by rw [← e1]; exact rdT_mid q p ps
    have hL : rd_L2 x7 (q.length : Int) = l := by rw [← e3, ← g2]; exact rdL_mid qs l ls
    have hn : rd l1 (q.length : Int) = n := by rw [← e2, ← g1]; exact rd_mid u t n
    have hsl : sh.length + (if p.f0 = true then [n] else p.f1.f1).length ≤ 1000 := by
      have := congrArg List.length es
      simp only [shpL, List.length_append] at this
      omega
    have ih := where_l0 b l2 x1 x7 l1 R S hS h7 h1 hb hk ps t ls (q ++ [p]) (u ++ [n]) (qs ++ [l]) (sh ++ (if p.f0 = true then [n] else p.f1.f1)) (by rw [← e1]; simp) (by rw [← e2]; simp) (by rw [← e3]; simp) (by simp [g1]) (by simp [g2]) (by rw [← es]; simp [shpL])
    refine evRound ih fun k => ?_
    simp only [spec_l5Where.l0]
    rw [if_pos (by omega), if_pos (by omega), if_pos (by omega), if_pos (by rw [cntsL_len]; omega), Option.bind_some, hT, hL]
    by_cases hf : p.f0 = true
    · rw [if_pos hf] at hsl
      simp only [List.length_singleton] at hsl
      rw [if_pos hf, if_pos (by omega), if_pos (by omega), hn, w64 (by omega) (by omega), if_pos hf]
      simp [cntsL]
    · rw [if_neg hf] at hsl
      rw [if_neg hf, if_pos (by omega), w64 (by omega) (by omega), if_neg hf]
      simp [cntsL]
theorem where_ev (b : Bool) (l1 l2 : List Int) (ps : List PartS) (h5 : l1.length ≤ 5) (hr : ∀ a ∈ l1, 0 ≤ a ∧ a ≤ 10000) (hp : ∀ p ∈ ps, p.f1.f1.length ≤ 35184372088832 ∧ p.f1.f2.length ≤ 35184372088832) : Ev (fun k => spec_l5Where.f k b l1 l2 ps) (whereV l1 ps) := by
  have hP := picks_ev b l1 l2 ps h5 hr hp
  unfold whereV
  by_cases h0 : (picksV l1 ps).2 = 0
  · rw [if_pos h0]
    have hpl : ps.length = l1.length := by
      by_cases e : ps.length = l1.length
      · exact e
      · unfold picksV at h0; rw [if_neg e] at h0; simp at h0
    have eV : picksV l1 ps = picksGo l1 ps := by unfold picksV; rw [if_pos hpl]
    rw [eV] at hP h0 ⊢
    obtain ⟨f1, f2, f3, f4, f5, f6⟩ := picks_facts l1 ps hpl.symm hr h0
    generalize hls : (picksGo l1 ps).1 = ls at *
    have hg : picksGo l1 ps = (ls, 0) := by rw [← hls, ← h0]
    have hSO := l3ShapeOk_ev (shpL l1 ps) (by omega)
    have key : Ev (fun k => (spec_l3ShapeOk.f k (shpL l1 ps)).bind fun t125 => if t125 = true then (spec_l3Count.f k (shpL l1 ps)).bind fun t129 => spec_l5Where.l1 k ls (shpL l1 ps) (cntsL ls) [] t129 0 b l1 l2 else some (cntsL ls, shpL l1 ps, 7)) (if shOk (shpL l1 ps) = true then (placesN l1 ls (prod (shpL l1 ps)).toNat, shpL l1 ps, 0) else (cntsL ls, shpL l1 ps, 7)) := by
      refine Ev.bind hSO ?_
      by_cases hs : shOk (shpL l1 ps) = true
      · rw [if_pos hs, hs]
        simp only [if_true]
        have hC := l3Count_ev (shpL l1 ps) (by omega)
        have hpr := shOk_prod hs
        have e : cnt (shpL l1 ps) = (((prod (shpL l1 ps)).toNat : Nat) : Int) := by
          have hs2 := hs
          simp only [shOk, Bool.and_eq_true] at hs2
          unfold cnt
          rw [if_pos hs2.2, Int.toNat_of_nonneg hpr.1]
        rw [e] at hC
        refine Ev.bind hC ?_
        by_cases hz : (prod (shpL l1 ps)).toNat = 0
        · rw [hz]
          refine evRound (Ev.now _) fun k => ?_
          simp only [spec_l5Where.l1]
          rw [if_neg (by omega)]; rfl
        · refine where_l1 ls (shpL l1 ps) b l1 l2 _ (by omega) (by omega) f1.symm ?_ (by rw [f2, Int.toNat_of_nonneg hpr.1]) (prod (shpL l1 ps)).toNat 0 (Nat.zero_add _)
          have hc0 : ∀ a ∈ cntsL ls, 0 ≤ a := by intro a ha; obtain ⟨x, hx, rfl⟩ := List.mem_map.1 ha; omega
          have hpos := pos_of_prod hc0 (by rw [f2]; omega)
          intro a ha
          refine ⟨hpos a ha, ?_⟩
          obtain ⟨x, hx, rfl⟩ := List.mem_map.1 ha
          have := f5 x hx; omega
      · rw [if_neg hs]
        have : shOk (shpL l1 ps) = false := (Bool.not_eq_true _).mp hs
        rw [this]
        simp only [Bool.false_eq_true, if_false]
        exact Ev.now _
    have hW := where_l0 b l2 ps ls l1 _ (shpL l1 ps) (by omega) (by omega) hpl.symm (by omega) key ps l1 ls [] [] [] [] rfl rfl rfl rfl rfl rfl
    rw [hg] at hP
    refine Ev.congr (fun k => ?_) (Ev.bind hP (f := fun k bt => if bt.2 = 0 then spec_l5Where.l0 k ps bt.1 [] [] 0 b l1 l2 else some ([], [], bt.2)) (by simp only [if_true]; exact hW))
    simp only [spec_l5Where.f]
    rfl
  · rw [if_neg h0]
    refine Ev.congr (fun k => ?_) (Ev.bind hP (f := fun k bt => if bt.2 = 0 then spec_l5Where.l0 k ps bt.1 [] [] 0 b l1 l2 else some ([], [], bt.2)) (by simp only [if_neg h0]; exact Ev.now _))
    simp only [spec_l5Where.f]
    rfl
theorem ButS.refl (S : Nat → Prop) (A : World) : ButS S A A := ⟨Nat.le_refl _, fun _ _ _ => rfl, rfl, rfl, rfl⟩
theorem ButS.then_ {S : Nat → Prop} {A B C : World} (h : ButS S A B) (hs : B.heap.size ≤ C.heap.size) (hk : ∀ k, k < B.heap.size → ¬ (S k ∨ A.heap.size ≤ k) → C.heap[k]? = B.heap[k]?) (ho : C.os = B.os) (ht : C.tape = B.tape) (hu : C.output = B.output) : ButS S A C :=
  ⟨Nat.le_trans h.size hs, fun k hk' hn => (hk k (Nat.lt_of_lt_of_le hk' h.size) (fun e => e.elim hn (fun e => by omega))).trans (h.same k hk' hn), ho.trans h.os, ht.trans h.tape, hu.trans h.output⟩
structure Rx (O : Nat → Prop) (w W : World) (Ts : List Th) : Prop where
  fr : ButS O w W
  ok : ∀ T ∈ Ts, T.ok 0 W
  nod : Ts.Pairwise (fun a b => ∀ k, a.on k → ¬ b.on k)
theorem Th.low {B B' : Nat} {W : World} {T : Th} (h : T.ok B W) (hb : B' ≤ B) : T.ok B' W := by
  cases T with
  | blk g cs t => exact ⟨h.1, Nat.le_trans hb h.2⟩
  | row v xs => exact Kd.R_lower h hb
theorem Rx.start {O : Nat → Prop} {w W : World} {Ts : List Th} (h : Sx w W Ts) : Rx O W W Ts := ⟨ButS.refl _ _, fun T hT => Th.low (h.ok T hT) (Nat.zero_le _), h.nod⟩
theorem Rx.step {O : Nat → Prop} {w W W' : World} {Ts : List Th} (h : Rx O w W Ts) (hb : Below W.heap.size W W') : Rx O w W' Ts :=
  ⟨h.fr.then_ hb.size (fun k hk _ => hb.block k hk) hb.os hb.tape hb.output, fun T hT => Th.keep (h.ok T hT) fun k _ hlt => hb.block k hlt, h.nod⟩
theorem Rx.add {O : Nat → Prop} {w W W' : World} {Ts : List Th} (h : Rx O w W Ts) (hb : Below W.heap.size W W') {T : Th} (hT : T.ok W.heap.size W') : Rx O w W' (T :: Ts) := by
  have h' := h.step hb
  refine ⟨h'.fr, fun U hU => ?_, .cons (fun U hU k hk hU' => ?_) h'.nod⟩
  · rcases List.mem_cons.1 hU with rfl | hU
    · exact Th.low hT (Nat.zero_le _)
    · exact h'.ok U hU
  · have h1 := (Th.lt hT k hk).1
    have h2 := (Th.lt (h.ok U hU) k hU').2
    omega
theorem Rx.box {O : Nat → Prop} {w W W' : World} {Ts : List Th} {g : Nat} {cs : Array Value} {t : TypeId} (h : Rx O w W Ts) (hg : g = W.heap.size) (hB : W'.heap[g]? = some (.cells cs t (0, 0))) (hb : Below W.heap.size W W') : Rx O w W' (.blk g cs t :: Ts) :=
  h.add hb ⟨hB, by omega⟩
theorem Rx.repl {O : Nat → Prop} {w W W' : World} {Ts : List Th} (h : Rx O w W Ts) (i : Nat) {T T' : Th} (hi : Ts[i]? = some T) (hO : ∀ k, T.on k → O k ∨ w.heap.size ≤ k) (hT : T'.ok 0 W') (hsz : W.heap.size ≤ W'.heap.size) (hf : ∀ k, ¬ T.on k → k < W.heap.size → W'.heap[k]? = W.heap[k]?) (hon : ∀ k, T'.on k → T.on k ∨ W.heap.size ≤ k)
    (ho : W'.os = W.os) (ht : W'.tape = W.tape) (hu : W'.output = W.output) : Rx O w W' (Ts.set i T') := by
  obtain ⟨hlt, hie⟩ := List.getElem?_eq_some_iff.1 hi
  have hnod := List.pairwise_iff_getElem.1 h.nod
  have hoth : ∀ (j : Nat) (hj : j < Ts.length), j ≠ i → ∀ k, (Ts[j]).on k → ¬ T.on k := fun j hj hne k hk hk' => by
    rcases Nat.lt_or_gt_of_ne hne with hl | hl
    · have := hnod j i hj hlt hl; rw [hie] at this; exact this k hk hk'
    · have := hnod i j hlt hj hl; rw [hie] at this; exact this k hk' hk
  have hfar : ∀ (j : Nat) (hj : j < Ts.length), j ≠ i → ∀ k, (Ts[j]).on k → ¬ T'.on k := fun j hj hne k hk hk' => by
    rcases hon k hk' with h1 | h1
    · exact hoth j hj hne k hk h1
    · have := (Th.lt (h.ok _ (List.getElem_mem hj)) k hk).2; omega
  refine ⟨h.fr.then_ hsz (fun k hk hn => hf k (fun hT => hn (hO k hT)) hk) ho ht hu, fun U hU => ?_, List.pairwise_iff_getElem.2 fun a b ha hb' hab => ?_⟩
  · obtain ⟨j, hj, e⟩ := List.getElem_of_mem hU
    rw [List.length_set] at hj
    rw [List.getElem_set] at e
    split at e
    · subst e; exact hT
    · rename_i hne
      subst e
      exact Th.keep (h.ok _ (List.getElem_mem hj)) fun k hk hlt' => hf k (hoth j hj (fun e => hne e.symm) k hk) hlt'
  · rw [List.length_set] at ha hb'
    rw [List.getElem_set, List.getElem_set]
    split
    · rename_i e1
      split
      · rename_i e2; omega
      · rename_i e2; exact fun k hk hk' => hfar b hb' (fun e => e2 e.symm) k hk' hk
    · rename_i e1
      split
      · exact fun k hk hk' => hfar a ha (fun e => e1 e.symm) k hk hk'
      · exact hnod a b ha hb' hab
theorem Rx.get {O : Nat → Prop} {w W : World} {Ts : List Th} (h : Rx O w W Ts) (i : Nat) {T : Th} (hi : Ts[i]? = some T) : T.ok 0 W := h.ok _ (List.mem_of_getElem? hi)
theorem Rx.blk {O : Nat → Prop} {w W : World} {Ts : List Th} (h : Rx O w W Ts) (i : Nat) {g : Nat} {cs : Array Value} {t : TypeId} (hi : Ts[i]? = some (.blk g cs t)) : W.heap[g]? = some (.cells cs t (0, 0)) := (h.get i hi).1
theorem Rx.row {O : Nat → Prop} {w W : World} {Ts : List Th} (h : Rx O w W Ts) (i : Nat) {v : Value} {xs : List Int} (hi : Ts[i]? = some (.row v xs)) : Kd.R (Kd.int .i64) 3 W 0 (fun _ => True) v xs := h.get i hi
theorem Rx.C {O : Nat → Prop} {w W : World} {Ts : List Th} (h : Rx O w W Ts) (i : Nat) {A : Option Addr} {n c : Nat} {xs : List Int} (hi : Ts[i]? = some (.row (.slice A n c) xs)) : Kd.C (Kd.int .i64) W A xs.length xs := (Kd.R_reads' (h.row i hi)).2.2
theorem But1.size {g : Nat} {W w1 : World} (h : But1 g W w1) : W.heap.size ≤ w1.heap.size := (h.below 0 (Nat.zero_le _)).size
theorem Rx.put {O : Nat → Prop} {w W W' : World} {Ts : List Th} (h : Rx O w W Ts) (i : Nat) {g : Nat} {cs cs' : Array Value} {t : TypeId} (hi : Ts[i]? = some (.blk g cs t)) (hO : O g ∨ w.heap.size ≤ g) (hs : W'.heap[g]? = some (.cells cs' t (0, 0))) (hk : But1 g W W') : Rx O w W' (Ts.set i (.blk g cs' t)) :=
  h.repl i hi (fun k e => by rw [show k = g from e]; exact hO) ⟨hs, Nat.zero_le _⟩ hk.size (fun k hk' _ => hk.same k hk') (fun k hk' => .inl hk') (hk.below 0 (Nat.zero_le _)).os (hk.below 0 (Nat.zero_le _)).tape (hk.below 0 (Nat.zero_le _)).output
theorem Rx.grow {O : Nat → Prop} {w W W' : World} {Ts : List Th} (h : Rx O w W Ts) (i : Nat) {v v' : Value} {xs xs' : List Int} (hi : Ts[i]? = some (.row v xs)) (hO : ∀ k, v.ownBlock = some k → O k ∨ w.heap.size ≤ k) (hr : Kd.R (Kd.int .i64) 3 W' 0 (fun _ => True) v' xs') (hg : W.grownBy W' v.ownBlock)
    (hat : v'.ownBlock = v.ownBlock ∨ ∃ b, v'.ownBlock = some b ∧ W.heap.size ≤ b) : Rx O w W' (Ts.set i (.row v' xs')) :=
  h.repl i hi hO hr hg.size (fun k hk hlt => hg.block k hlt fun e => hk e.symm) (fun k hk => by
    rcases hat with e | ⟨b, e, hb⟩
    · exact .inl (show v.ownBlock = some k from e.symm.trans hk)
    · rw [show (Th.row v' xs').on k = (v'.ownBlock = some k) from rfl, e] at hk; cases hk; exact .inr hb) hg.os hg.tape hg.output
theorem Rx.drew {O : Nat → Prop} {w W : World} {Ts : List Th} (h : Rx O w W Ts) : Rx O w W.drew Ts := h.step (below_drew (Below.refl _ _))
theorem Rx.drewN {O : Nat → Prop} {w W : World} {Ts : List Th} (h : Rx O w W Ts) (n : Nat) : Rx O w (W.drewN n) Ts := h.step (pw_below_drewN (Below.refl _ _) n)
theorem Rx.alloc {O : Nat → Prop} {w W : World} {Ts : List Th} (h : Rx O w W Ts) (cs : Array Value) (t : TypeId) : Rx O w (W.alloc (.cells cs t)) (.blk W.heap.size cs t :: Ts) := h.box rfl (blk_new W _) (below_alloc (Below.refl _ _) _)
/-- Back to the state that the function began with. -/
theorem Rx.back {O : Nat → Prop} {w0 W W' : World} {Ts Ts' : List Th} (h0 : Sx w0 W Ts) (h : Rx O W W' Ts') (hO : ∀ k, O k → w0.heap.size ≤ k) (hon : ∀ T ∈ Ts', ∀ k, T.on k → w0.heap.size ≤ k) : Sx w0 W' Ts' := by
  refine ⟨h0.below.trans (h.fr.below hO h0.below.size), fun T hT => ?_, h.nod⟩
  have hk := h.ok T hT
  have ho := hon T hT
  cases T with
  | blk g cs t => exact ⟨hk.1, ho g rfl⟩
  | row v xs => exact Kd.R_of_own (Kd.own_raise (Kd.own_of_R hk) (fun k e => ho k e)) (fun _ _ => trivial)
theorem Rx.keeps {O : Nat → Prop} {W W' : World} {Ts : List Th} (h : Rx O W W' Ts) (hS : ∀ k, O k → ∀ o, W.heap[k]? = some o → o.isCells = true) : KeepsOthers W W' :=
  ⟨h.fr.size, fun k o hk ho => (h.fr.same k (blk_lt hk) (fun hs => by rw [hS k hs o hk] at ho; cases ho)).trans hk⟩
theorem Th.cells {B : Nat} {W : World} {T : Th} (h : T.ok B W) : ∀ k, T.on k → ∀ o, W.heap[k]? = some o → o.isCells = true := by
  intro k hk o ho
  cases T with
  | blk g cs t => rw [show k = g from hk, h.1] at ho; cases ho; rfl
  | row v xs => obtain ⟨cs, hc⟩ := Kd.R_typed h k hk; rw [hc] at ho; cases ho; rfl
/-- Things stand where nothing of theirs is written. -/
theorem Sx.butS {S : Nat → Prop} {w A B : World} {Ts : List Th} (h : Sx w A Ts) (hb : ButS S A B) (hoff : ∀ T ∈ Ts, ∀ k, T.on k → ¬ S k) (hS : ∀ k, S k → w.heap.size ≤ k) : Sx w B Ts :=
  ⟨h.below.trans (hb.below hS h.below.size), fun T hT => Th.keep (h.ok T hT) fun k hk hlt => hb.same k hlt (hoff T hT k hk), h.nod⟩
theorem Sx.apart {w W : World} {Ts : List Th} (h : Sx w W Ts) (i j : Nat) (hne : i ≠ j) {T U : Th} (hi : Ts[i]? = some T) (hj : Ts[j]? = some U) : ∀ k, T.on k → ¬ U.on k := by
  obtain ⟨hil, hie⟩ := List.getElem?_eq_some_iff.1 hi
  obtain ⟨hjl, hje⟩ := List.getElem?_eq_some_iff.1 hj
  have hnod := List.pairwise_iff_getElem.1 h.nod
  intro k h1 h2
  rcases Nat.lt_or_gt_of_ne hne with hl | hl
  · have := hnod i j hil hjl hl; rw [hie, hje] at this; exact this k h1 h2
  · have := hnod j i hjl hil hl; rw [hie, hje] at this; exact this k h2 h1
theorem take_set_succ (l : List Int) (j : Nat) (x : Int) (h : j < l.length) : (l.set j x).take (j + 1) = l.take j ++ [x] := by
  rw [List.take_succ_eq_append_getElem (by simpa using h), List.take_set_of_le (Nat.le_refl j)]; simp
/-- 'append' of one number to a row of the list, as one step of a region that draws (the number's box laid). -/
theorem Rx.append_step {P : Program} {ops : Array Oper} {o : Oper} {a : Act} {Q : Exit → Act → World → Prop} {Kc : Act → World → Prop} {O : Nat → Prop} {w W : World} {Ts : List Th} (h : Rx O w W Ts) (i : Nat) {v : Value} {xs : List Int} (hi : Ts[i]? = some (.row v xs)) (hO : ∀ k, v.ownBlock = some k → O k ∨ w.heap.size ≤ k)
    (hw : Region.wanted o (yielded ops a.tmps) = true) (s y : Operand) (ho : o.op = .call { callee := .builtin .append, args := #[s, y], argTypes := #[22, 22] }) (ht : P.underlying 22 = some (.slice 3)) (hinfo : (P.info? 3).map (fun i => (i.zero, i.size, i.bytes)) = some (some (.int .i64 0), 1, 8))
    (x : Int) (hs : a.eval s = v) (hy : a.eval y = .slice (some ⟨W.heap.size, 0, none⟩) 1 1) (hl : xs.length ≤ 1000000)
    (hK : ∀ v1 w1, Rx O w w1 (Ts.set i (.row v1 (xs ++ [x]))) → (v1.ownBlock = v.ownBlock ∨ ∃ b, v1.ownBlock = some b ∧ W.heap.size ≤ b) → Kc (a.put o.dst v1) w1) :
    if Region.wanted o (yielded ops a.tmps) = true then Oper.wp P o a (W.alloc (.cells #[.int .i64 x] 3)) Kc Q else Kc (a.put o.dst undef) (W.alloc (.cells #[.int .i64 x] 3)) := by
  refine Kd.R_append_step (Kd.int .i64) (w0 := W) 0 hw s y 22 3 (.int .i64 0) 8 ho ht hinfo rfl (by decide) (by decide) v xs x [.int .i64 x] (fun _ => True) (fun _ => False) hs hy (by rfl) (fun _ h => h.elim) (fun _ _ => trivial) (h.row i hi) (Below.refl _ _) (Nat.zero_le _) (by omega) ?_
  intro v1 w1 hr hb hg hat
  exact hK v1 w1 (h.grow i hi hO hr hg hat) hat
theorem make_rowN (n : Nat) (hn : n ≤ 1000000) (w : World) : (Instr.makeSlice 22 (.int .i64 (n : Int)) (.int .i64 (n : Int))).run Try.prog w = .ok (.slice (some ⟨w.heap.size, 0, none⟩) n n) (w.alloc (.cells (rowI (List.replicate n 0)) 3)) := by
  obtain ⟨i, hi, hz⟩ := Option.map_eq_some_iff.1 info3
  simp only [Prod.mk.injEq] at hz
  have h := run_make (P := Try.prog) w 22 3 i (.int .i64 0) Try.underlying22 hi hz.1 .i64 .i64 (n : Int) (n : Int) (by omega) (by omega) (by rw [hz.2.2]; omega) (by omega)
  rw [h, hz.2.1]
  have e : madeCells (Value.int .i64 0).cells ((n : Int).toNat * 1) = rowI (List.replicate n 0) := by
    apply Array.ext
    · simp [madeCells, rowI]
    · intro j h1 h2
      simp [madeCells, rowI, Value.cells, Nat.mod_one]
  rw [e]; simp
/-- A block that is a row of numbers, as a row made. -/
theorem R_of_blk {W : World} {g : Nat} {l : List Int} {B : Nat} (h : W.heap[g]? = some (.cells (rowI l) 3 (0, 0))) (hB : B ≤ g) (hm : l.length ≤ 1000000) : Kd.R (Kd.int .i64) 3 W B (fun _ => True) (.slice (some ⟨g, 0, none⟩) l.length l.length) l := by
  refine Kd.R_of_own ⟨by simp [encs], .inr ⟨g, l.length, rowI l, rfl, hB, h, Nat.le_refl _, by unfold maxLen; omega, by simp [rowI], ?_⟩⟩ (fun _ _ => trivial)
  simp only [rowI, encs, Nat.mul_one, List.toList_toArray]
  exact List.take_of_length_le (by simp)
section
variable {P : Program} {ops : Array Oper} {rest : List Oper} {o : Oper} {a : Act} {Q : Exit → Act → World → Prop}
end
section
variable {P : Program} {ops : Array Oper} {rest : List Oper} {o : Oper} {a : Act} {Q : Exit → Act → World → Prop}
theorem Sx.append {w W : World} {Ts : List Th} (h : Sx w W Ts) (i : Nat) {v : Value} {xs : List Int} (hi : Ts[i]? = some (.row v xs)) (hgd : o.guard = none) (s y : Operand)
    (ho : o.op = .call { callee := .builtin .append, args := #[s, y], argTypes := #[22, 22] }) (ht : P.underlying 22 = some (.slice 3)) (hinfo : (P.info? 3).map (fun i => (i.zero, i.size, i.bytes)) = some (some (.int .i64 0), 1, 8))
    (x : Int) (hs : a.eval s = v) (hy : a.eval y = .slice (some ⟨W.heap.size, 0, none⟩) 1 1) (hl : xs.length ≤ 1000000)
    (hK : ∀ A c w1, Sx w w1 (Ts.set i (.row (.slice A (xs.length + 1) c) (xs ++ [x]))) → wpList P ops Q rest (a.put o.dst (.slice A (xs.length + 1) c)) w1) : wpList P ops Q (o :: rest) a (W.alloc (.cells #[.int .i64 x] 3)) := by
  refine Kd.R_append (Kd.int .i64) (w0 := W) w.heap.size hgd s y 22 3 (.int .i64 0) 8 ho ht hinfo rfl (by decide) (by decide) v xs x [.int .i64 x] (fun _ => True) (fun _ => False) hs hy (by rfl) (fun _ h => h.elim) (fun _ _ => trivial) (h.row i hi) ((Below.refl W.heap.size W).mono h.below.size) h.below.size (by omega) ?_
  intro v1 w1 hr hb hg hat
  obtain ⟨A, c, rfl⟩ := Kd.R_slice hr
  have := hK A c w1 (by
    have := h.grow i hi hr hg hat
    rw [List.length_append, List.length_singleton] at this; exact this)
  rw [List.length_append, List.length_singleton]; exact this
end
/-- An element of a row of the list. -/
theorem Sx.at {w W : World} {Ts : List Th} (h : Sx w W Ts) (i : Nat) {A : Option Addr} {n c : Nat} {xs : List Int} (hi : Ts[i]? = some (.row (.slice A n c) xs)) (j : Nat) (hj : j < xs.length) : ∃ g, A = some ⟨g, 0, none⟩ ∧ W.cell? ⟨g, j, none⟩ = some (.int .i64 (rd xs (j : Int))) ∧ W.frozen? ⟨g, j, none⟩ = false := by
  have hr := h.row i hi
  obtain ⟨g, cap, e, _, _, _⟩ := Kd.R_form hr (by omega)
  injection e with e1 e2 e3
  subst e1 e2 e3
  have := Kd.R_cell (0 : Int) (enc := Value.int .i64) hr (j : Int) (by omega) (by omega)
  rw [Int.toNat_natCast] at this
  exact ⟨g, rfl, this.1, this.2⟩
/-- A store into a row of the list. -/
theorem Sx.setAt {w W : World} {Ts : List Th} (h : Sx w W Ts) (i : Nat) {g n c : Nat} {xs : List Int} (hi : Ts[i]? = some (.row (.slice (some ⟨g, 0, none⟩) n c) xs)) (j : Nat) (x : Int) : Sx w (W.setCell ⟨g, j, none⟩ (.int .i64 x)) (Ts.set i (.row (.slice (some ⟨g, 0, none⟩) n c) (xs.set j x))) := by
  have hr := h.row i hi
  obtain ⟨rfl, _, _⟩ := Kd.R_reads' hr
  have := Kd.R_put (enc := Value.int .i64) hr (j : Int) x
  rw [Int.toNat_natCast] at this
  exact h.grow i hi this.1 this.2 (.inl rfl)
section
variable {P : Program} {ops : Array Oper} {rest : List Oper} {o : Oper} {a : Act} {Q : Exit → Act → World → Prop}
theorem Sx.appendRows {w W : World} {Ts : List Th} (h : Sx w W Ts) (i : Nat) {v : Value} {xs : List Int} (hi : Ts[i]? = some (.row v xs)) (n N : Nat) (hn : xs.length = n) (hgd : o.guard = none) (s y : Operand)
    (ho : o.op = .call { callee := .builtin .append, args := #[s, y], argTypes := #[22, 22] }) (ht : P.underlying 22 = some (.slice 3)) (hinfo : (P.info? 3).map (fun i => (i.zero, i.size, i.bytes)) = some (some (.int .i64 0), 1, 8))
    (A : Option Addr) (m c : Nat) (ys zs : List Int) (hs : a.eval s = v) (hy : a.eval y = .slice A m c) (hm : ys.length = m) (hC : Kd.C (Kd.int .i64) W A ys.length ys) (hN : n + m = N) (hz : xs ++ ys = zs) (hl : N ≤ 1000000)
    (hK : ∀ B d w1, Sx w w1 (Ts.set i (.row (.slice B N d) zs)) → wpList P ops Q rest (a.put o.dst (.slice B N d)) w1) : wpList P ops Q (o :: rest) a W := by
  subst hn hm hN hz
  refine Kd.R_append_rows (Kd.int .i64) (w0 := W) w.heap.size hgd s y 22 3 (.int .i64 0) 8 ho ht hinfo rfl (by decide) (by decide) v xs ys A ys.length c (fun _ => True) (fun _ => False) hs hy (h.row i hi) hC (fun _ _ h => h) (fun _ h => h.elim) (fun _ _ => trivial) ((Below.refl W.heap.size W).mono h.below.size) h.below.size (by omega) ?_
  intro v1 w1 hr hb hg hat
  obtain ⟨B, d, rfl⟩ := Kd.R_slice hr
  have := hK B d w1 (by
    have := h.grow i hi hr hg hat
    rw [List.length_append] at this; exact this)
  rw [List.length_append]; exact this
end
theorem wpList_guardedB {P : Program} {ops : Array Oper} {Q : Exit → Act → World → Prop} {a : Act} {w : World} {rest : List Oper} {dst : Option Tmp} {op : Op} {type : TypeId} {pos : String} {after : Array Edge} {g : Nat × Bool}
    (hw : Region.wanted ⟨dst, op, type, pos, after, some g⟩ (yielded ops a.tmps) = true) (h : wpList P ops Q (⟨dst, op, type, pos, after, none⟩ :: rest) a w) : wpList P ops Q (⟨dst, op, type, pos, after, some g⟩ :: rest) a w := by
  simp only [wpList] at h ⊢
  rw [if_pos hw]
  rw [if_pos (by rfl)] at h
  exact h
theorem lit_step {P : Program} {ops : Array Oper} {o : Oper} {a : Act} {Q : Exit → Act → World → Prop} {K : Act → World → Prop} {W : World} {N : Option Tmp} (hw : Region.wanted o (yielded ops a.tmps) = true) (hN : o.dst = N) (cs : Array Value) (t : TypeId) (n : Nat)
    (hrun : (execOp a.eval o).run P W = .ok (.value (.slice (some ⟨W.heap.size, 0, none⟩) n n)) (W.alloc (.cells cs t (0, 0))))
    (h : ∀ g w1, W.heap.size = g → w1.heap[g]? = some (.cells cs t (0, 0)) → Below W.heap.size W w1 → K (a.put N (.slice (some ⟨g, 0, none⟩) n n)) w1) : if Region.wanted o (yielded ops a.tmps) = true then Oper.wp P o a W K Q else K (a.put N undef) W :=
  value_ hw hN hrun (h _ _ rfl (blk_new W _) (below_alloc (Below.refl _ _) _))
theorem Sx.appendRows_step {P : Program} {ops : Array Oper} {o : Oper} {a : Act} {Q : Exit → Act → World → Prop} {Kc : Act → World → Prop} {w W : World} {Ts : List Th} (h : Sx w W Ts) (i : Nat) {v : Value} {xs : List Int} (hi : Ts[i]? = some (.row v xs)) (n N : Nat) (hn : xs.length = n) (hw : Region.wanted o (yielded ops a.tmps) = true) (s y : Operand)
    (ho : o.op = .call { callee := .builtin .append, args := #[s, y], argTypes := #[22, 22] }) (ht : P.underlying 22 = some (.slice 3)) (hinfo : (P.info? 3).map (fun i => (i.zero, i.size, i.bytes)) = some (some (.int .i64 0), 1, 8))
    (A : Option Addr) (m c : Nat) (ys zs : List Int) (hs : a.eval s = v) (hy : a.eval y = .slice A m c) (hm : ys.length = m) (hC : Kd.C (Kd.int .i64) W A ys.length ys) (hN : n + m = N) (hz : xs ++ ys = zs) (hl : N ≤ 1000000)
    (hK : ∀ B d w1, Sx w w1 (Ts.set i (.row (.slice B N d) zs)) → Kc (a.put o.dst (.slice B N d)) w1) : if Region.wanted o (yielded ops a.tmps) = true then Oper.wp P o a W Kc Q else Kc (a.put o.dst undef) W := by
  subst hn hm hN hz
  refine Kd.R_append_rows_step (Kd.int .i64) (w0 := W) w.heap.size hw s y 22 3 (.int .i64 0) 8 ho ht hinfo rfl (by decide) (by decide) v xs ys A ys.length c (fun _ => True) (fun _ => False) hs hy (h.row i hi) hC (fun _ _ h => h) (fun _ h => h.elim) (fun _ _ => trivial) ((Below.refl W.heap.size W).mono h.below.size) h.below.size (by omega) ?_
  intro v1 w1 hr hb hg hat
  obtain ⟨B, d, rfl⟩ := Kd.R_slice hr
  have := hK B d w1 (by
    have := h.grow i hi hr hg hat
    rw [List.length_append] at this; exact this)
  rw [List.length_append]; exact this
theorem store_named_step {P : Program} {ops : Array Oper} {o : Oper} {a : Act} {Q : Exit → Act → World → Prop} {Kc : Act → World → Prop} {W : World} (hw : Region.wanted o (yielded ops a.tmps) = true) (ty : TypeId) (x y : Operand) (ho : o.op = .store ty x y)
    (g : Nat) (cells : Array Value) (hx : a.eval x = .pointer (some ⟨g, 0, none⟩)) (hy : a.eval y = .agg cells)
    (t : TypeId) (old : Array Value) (hg : W.heap[g]? = some (.cells old t (0, 0))) (hi : (P.info? ty).map (·.size) = some cells.size)
    (hold : old.size = cells.size) (h1 : cells.all (·.oneCell') = true)
    (h : ∀ w1, w1.heap[g]? = some (.cells cells t (0, 0)) → But1 g W w1 → Kc (a.put o.dst undef) w1) : if Region.wanted o (yielded ops a.tmps) = true then Oper.wp P o a W Kc Q else Kc (a.put o.dst undef) W := by
  rw [if_pos hw]
  exact wp_store_row ty x y ho g cells hx hy t old hg hi hold h1 (h _ (setRow_heap _ g _ _ _ _ hg) ⟨fun k hk => setRow_other _ g k _ hk, fun B hB => below_setRow (Below.refl B W) hB _⟩)
theorem C_at {W : World} {ad : Addr} {n : Nat} {l : List Int} (h : Kd.C (Kd.int .i64) W (some ad) n l) (j : Nat) (hj : j < n) : W.cell? (ad.add j) = some (.int .i64 (rd l (j : Int))) := by
  obtain ⟨ad', e, hx⟩ := Kd.at_int h (j : Int) (by omega) (by omega)
  cases e
  rwa [Int.toNat_natCast] at hx
/-- What is known of one beside another. -/
def BesOk (args : Array Value) (a : Bool) (L1 L2 : List Int) (w : World) : Prop := ∀ W, Below w.heap.size w W → Calls Try.prog 89 args W fun e w' => ∃ As cs Ad cd, e = .returned (.agg #[.bool a, .slice As L1.length cs, .slice Ad L2.length cd]) ∧ Kd.C (Kd.int .i64) w' As L1.length L1 ∧ L1.length ≤ cs ∧ Kd.C (Kd.int .i64) w' Ad L2.length L2 ∧ L2.length ≤ cd ∧ Below W.heap.size W w'
theorem BesOk.go {args : Array Value} {a : Bool} {L1 L2 : List Int} {w : World} (h : BesOk args a L1 L2 w) (W : World) (hb : Below w.heap.size w W) : Calls Try.prog 89 args W fun e w' => ∃ As cs Ad cd, e = .returned (.agg #[.bool a, .slice As L1.length cs, .slice Ad L2.length cd]) ∧ Kd.C (Kd.int .i64) w' As L1.length L1 ∧ L1.length ≤ cs ∧ Kd.C (Kd.int .i64) w' Ad L2.length L2 ∧ L2.length ≤ cd ∧ Below W.heap.size W w' := h W hb
def idxV (b : Bool) (l1 l2 : List Int) (ps : List PartS) : ArrAns :=
  if arrOk b l1 l2 = true then
    (if (whereV l1 ps).2.2 = 0 then (b, (whereV l1 ps).2.1, (whereV l1 ps).1.map (fun i => rd l2 i), 0) else noArr (whereV l1 ps).2.2)
  else noArr 3
theorem rd_pickGo : ∀ (ls : List (List Int)) (ix : List Int) (k : Nat), ls.length = ix.length → k < ix.length → rd (pickGo ls ix) (k : Int) = rd (ls.getD k []) (rd ix (k : Int))
  | l :: ls, i :: ix, 0, _, _ => by simp [pickGo, rd]
  | l :: ls, i :: ix, k + 1, h, hk => by
    have := rd_pickGo ls ix k (by simpa using h) (by simpa using hk)
    simpa [pickGo, rd] using this
  | [], [], k, _, hk => by simp at hk
  | [], i :: ix, k, h, _ => by simp at h
  | l :: ls, [], k, h, _ => by simp at h
theorem placesN_mem (l1 : List Int) (ls : List (List Int)) : ∀ (N : Nat) (x : Int), x ∈ placesN l1 ls N → ∃ t, t < N ∧ x = placeL l1 ls t
  | 0, x, h => by simp [placesN] at h
  | N + 1, x, h => by
    rw [placesN, List.mem_append, List.mem_singleton] at h
    rcases h with h | h
    · obtain ⟨t, h1, h2⟩ := placesN_mem l1 ls N x h
      exact ⟨t, by omega, h2⟩
    · exact ⟨N, by omega, h⟩
theorem whereV_zero {l1 : List Int} {ps : List PartS} (h : (whereV l1 ps).2.2 = 0) : ps.length = l1.length ∧ (picksGo l1 ps).2 = 0 ∧ shOk (shpL l1 ps) = true ∧ whereV l1 ps = (placesN l1 (picksGo l1 ps).1 (prod (shpL l1 ps)).toNat, shpL l1 ps, 0) := by
  unfold whereV at h ⊢
  by_cases h0 : (picksV l1 ps).2 = 0
  · rw [if_pos h0] at h ⊢
    by_cases hs : shOk (shpL l1 ps) = true
    · rw [if_pos hs]
      unfold picksV at h0 ⊢
      by_cases e : ps.length = l1.length
      · rw [if_pos e] at h0 ⊢; exact ⟨e, h0, hs, rfl⟩
      · rw [if_neg e] at h0; simp at h0
    · rw [if_neg hs] at h; simp at h
  · rw [if_neg h0] at h; exact absurd h h0
theorem where_range {b : Bool} {l1 l2 : List Int} {ps : List PartS} (ok : arrOk b l1 l2 = true) (h : (whereV l1 ps).2.2 = 0) : (∀ x ∈ (whereV l1 ps).1, 0 ≤ x ∧ x < (l2.length : Int)) ∧ (whereV l1 ps).1.length ≤ 10000 := by
  obtain ⟨e, h0, hs, hw⟩ := whereV_zero h
  have hr := shOk_range (arrOk_sh ok)
  have hpr := arrOk_prod ok
  have hn2 := arrOk_len ok
  obtain ⟨f1, f2, f3, f4, f5, f6⟩ := picks_facts l1 ps e.symm hr h0
  have hps := shOk_prod hs
  rw [hw]
  refine ⟨fun x hx => ?_, by rw [placesN_len]; omega⟩
  obtain ⟨t, ht, rfl⟩ := placesN_mem _ _ _ _ hx
  generalize (picksGo l1 ps).1 = ls at *
  have hc0 : ∀ a ∈ cntsL ls, 0 ≤ a := by intro a ha; obtain ⟨x, hx, rfl⟩ := List.mem_map.1 ha; omega
  have hpos := pos_of_prod hc0 (by rw [f2]; omega)
  have hdl : (digs (cntsL ls) (t : Int)).length = ls.length := by rw [digs_len, cntsL_len]
  have hdr := digs_range (cntsL ls).length (cntsL ls) (t : Int) rfl hpos (by omega)
  have el : ∀ k : Nat, k < l1.length → 0 ≤ rd (pickGo ls (digs (cntsL ls) (t : Int))) (k : Int) ∧ rd (pickGo ls (digs (cntsL ls) (t : Int))) (k : Int) < rd l1 (k : Int) := fun k hk => by
    have hk' : k < ls.length := by omega
    rw [rd_pickGo _ _ k hdl.symm (by omega)]
    have hd := hdr k (by rw [cntsL_len]; omega)
    have ec : rd (cntsL ls) (k : Int) = ((ls.getD k []).length : Int) := by simp [cntsL, rd, hk']
    rw [ec] at hd
    refine f6 k hk _ ?_
    generalize rd (digs (cntsL ls) (t : Int)) (k : Int) = i at hd ⊢
    obtain ⟨i, rfl⟩ := Int.eq_ofNat_of_zero_le hd.1
    have hi : i < (ls.getD k []).length := by omega
    simp only [rd, Int.toNat_natCast, List.getD_eq_getElem?_getD (l := ls.getD k []), List.getElem?_eq_getElem hi, Option.getD_some]
    exact List.getElem_mem hi
  have h1 : ∀ a ∈ l1, 1 ≤ a := by
    intro a ha
    obtain ⟨k, hk, rfl⟩ := List.getElem_of_mem ha
    have := el k hk
    have e2 : rd l1 (k : Int) = l1[k] := by simp [rd, hk]
    omega
  have := num_range (sh := l1) (src := pickGo ls (digs (cntsL ls) (t : Int))) h1 (by omega) (by rw [pickGo_len _ _ hdl.symm, hdl, f1]) (fun k hk => el k (by rw [pickGo_len _ _ hdl.symm, hdl, f1] at hk; exact hk))
  rw [hpr] at this
  exact this
theorem index_loop (b : Bool) (l1 l2 : List Int) (S w : List Int) (hl : w.length ≤ 10000) (hw : ∀ x ∈ w, 0 ≤ x ∧ x < (l2.length : Int)) : ∀ (t p : List Int), p ++ t = w →
    Ev (fun k => spec_Index.l0 k w (p.length : Int) b l1 l2 b S (p.map fun i => rd l2 i)) (b, S, w.map (fun i => rd l2 i), 0)
  | [], p, e => by
    rw [List.append_nil] at e
    subst e
    refine evRound (Ev.now _) fun k => ?_
    simp only [spec_Index.l0]
    rw [if_neg (by omega)]
  | x :: t, p, e => by
    have ih := index_loop b l1 l2 S w hl hw t (p ++ [x]) (by rw [← e]; simp)
    have hx : rd w (p.length : Int) = x := by rw [← e]; exact rd_mid p t x
    have hlt : p.length < w.length := by rw [← e]; simp
    have hb := hw x (by rw [← e]; simp)
    refine evRound ih fun k => ?_
    simp only [spec_Index.l0]
    rw [if_pos (by omega), if_pos (by omega), hx, if_pos (by omega), if_pos (by omega), if_pos (by simp; omega), w64 (by omega) (by omega)]
    simp
theorem specIndex_ev (b : Bool) (l1 l2 : List Int) (ps : List PartS) (h1 : l1.length ≤ 35184372088832) (h2 : l2.length ≤ 35184372088832) (hp : ∀ p ∈ ps, p.f1.f1.length ≤ 35184372088832 ∧ p.f1.f2.length ≤ 35184372088832) : Ev (fun k => spec_Index.f k b l1 l2 ps) (idxV b l1 l2 ps) := by
  have hA := specArrayOk_ev b l1 l2 h1 h2
  unfold idxV
  refine Ev.congr (fun k => by simp only [spec_Index.f]) (Ev.bind hA (f := fun k t103 => if t103 = true then ((spec_l5Where.f k b l1 l2 ps).bind fun bt111 => if bt111.2.2 = 0 then spec_Index.l0 k bt111.1 0 b l1 l2 b bt111.2.1 [] else (spec_l4None.f).bind fun bt118 => some (bt118.1, bt118.2.1, bt118.2.2, bt111.2.2)) else (spec_l4None.f).bind fun bt104 => some (bt104.1, bt104.2.1, bt104.2.2, 3)) ?_)
  cases ok : arrOk b l1 l2 with
  | false =>
    simp only [Bool.false_eq_true, if_false]
    exact Ev.now _
  | true =>
    simp only [if_true]
    have n2 := arrOk_len ok
    have hW := where_ev b l1 l2 ps n2.1 (shOk_range (arrOk_sh ok)) hp
    refine Ev.bind hW ?_
    by_cases h0 : (whereV l1 ps).2.2 = 0
    · simp only [if_pos h0]
      have hr := where_range ok h0
      exact index_loop b l1 l2 _ _ hr.2 hr.1 _ [] rfl
    · simp only [if_neg h0]
      exact Ev.now _
theorem store_cell_step {P : Program} {ops : Array Oper} {o : Oper} {a : Act} {Q : Exit → Act → World → Prop} {Kc : Act → World → Prop} {W : World} (hw : Region.wanted o (yielded ops a.tmps) = true) (ty : TypeId) (x y : Operand) (ho : o.op = .store ty x y) (g j : Nat) (hx : a.eval x = .pointer (some ⟨g, j, none⟩)) (v : Value) (hy : a.eval y = v)
 (cs : Array Value) (t : TypeId) (hg : W.heap[g]? = some (.cells cs t (0, 0))) (hj : j < cs.size) (h1 : v.oneCell' = true) (hi : (P.info? ty).map (·.size) = some 1)
 (h : ∀ w1, w1.heap[g]? = some (.cells (cs.setIfInBounds j v) t (0, 0)) → But1 g W w1 → Kc (a.put o.dst undef) w1) : if Region.wanted o (yielded ops a.tmps) = true then Oper.wp P o a W Kc Q else Kc (a.put o.dst undef) W := by
 rw [if_pos hw]
 unfold Oper.wp execOp
 simp only [ho, hx, hy, Instr.storeAt, Instr.sureAddr, Sem.run_bind, Sem.run_pure, Result.andThen_ok, run_store_cell hg hj h1 hi]
 exact h _ (blk_set hg j v) ⟨fun k hk => Below.heap_setCell W _ v k hk, fun B hB => (Below.refl B W).setCell (p := ⟨g, j, none⟩) hB v⟩
/-- Two rows stand behind a store into a block of before. -/
theorem Sx.two_but {w W W' : World} {Ts : List Th} (h : Sx w W Ts) (i j : Nat) (hne : i ≠ j) {v1 v2 : Value} {l1 l2 : List Int} (hi : Ts[i]? = some (.row v1 l1)) (hj : Ts[j]? = some (.row v2 l2)) {g : Nat} (hb : But1 g W W') (hg : g < w.heap.size) (B : Nat) (hB : B ≤ w.heap.size) :
 Kd.R (Kd.int .i64) 3 W' B (fun k => some k ≠ v2.ownBlock) v1 l1 ∧ Kd.R (Kd.int .i64) 3 W' B (fun k => some k ≠ v1.ownBlock) v2 l2 := by
 have hi' : Th.ok w.heap.size W' (.row v1 l1) := Th.keep (h.get i hi) fun k hk _ => hb.same k (by have := (Th.lt (h.get i hi) k hk).1; omega)
 have hj' : Th.ok w.heap.size W' (.row v2 l2) := Th.keep (h.get j hj) fun k hk _ => hb.same k (by have := (Th.lt (h.get j hj) k hk).1; omega)
 obtain ⟨hil, hie⟩ := List.getElem?_eq_some_iff.1 hi
 obtain ⟨hjl, hje⟩ := List.getElem?_eq_some_iff.1 hj
 have hnod := List.pairwise_iff_getElem.1 h.nod
 have hd : ∀ k, v1.ownBlock = some k → ¬ v2.ownBlock = some k := fun k h1 h2 => by
  rcases Nat.lt_or_gt_of_ne hne with hl | hl
  ·have := hnod i j hil hjl hl; rw [hie, hje] at this; exact this k h1 h2
  ·have := hnod j i hjl hil hl; rw [hie, hje] at this; exact this k h2 h1
 exact ⟨Kd.R_lower (Kd.R_reok rfl hi' fun k hk e => hd k hk e.symm) hB, Kd.R_lower (Kd.R_reok rfl hj' fun k hk e => hd k e.symm hk) hB⟩
end Go.Proofs.Ytehfcnndjhjkoaa.PA
namespace Go.Proofs.Ytehfcnndjhjkoaa.PA
open Go.RowKit Go.Shelf Go.Proofs.YtehfcnndjhjkoaaW.PrintWords Go.Proofs.YtehfcnndjhjkoaaW.PrintLast Go.Proofs.YtehfcnndjhjkoaaW.PrintMore
set_option linter.unusedSimpArgs false
set_option linter.unusedVariables false
theorem indexes_box (A : Option Addr) (n c : Nat) (w : World) :
    Calls Try.prog 119 #[.slice A n c] w fun e w' => ∃ g, e = .returned (.func (.func 137) #[] #[.pointer (some ⟨g, 0, none⟩)]) ∧ g = w.heap.size ∧ w'.heap[g]? = some (.cells #[.slice A n c] 22 (0, 0)) ∧ Below w.heap.size w w' := by
  refine (callsIn_wide.1 (indexes_in 0 A n c w)).mono ?_
  rintro e w' ⟨rfl, rfl⟩
  exact ⟨_, rfl, rfl, blk_new w _, below_alloc (Below.refl _ _) _⟩
/-- What the iterator reads: its own box and the row behind it. -/
def IdxM (gX : Nat) (A : Option Addr) (s : List Int) (k : Nat) : Prop := k = gX ∨ (0 < s.length ∧ some k = A.map (·.block))
theorem range_indexes {g : Operand} {ps : Array Tmp} {assign body : Code} {Q : Exit → Act → World → Prop} {a : Act} {W0 : World} (gX : Nat) (A : Option Addr) (c : Nat) (s : List Int)
    (hg : a.eval g = .func (.func 137) #[] #[.pointer (some ⟨gX, 0, none⟩)]) (hX : W0.heap[gX]? = some (.cells #[.slice A s.length c] 22 (0, 0))) (hC : Kd.C (Kd.int .i64) W0 A s.length s) (hc : s.length ≤ c) (h5 : s.length ≤ 5) (hp : prod s ≤ 10000)
    (k : Nat) (hk : impl_shapeOk.f k s = some (prod s, true)) (hps : 1 = ps.size)
    (I : Nat → World → Prop) (hI : ∀ t A B, I t A → ButS (fun k => W0.heap.size ≤ k ∧ k < W0.heap.size + 3) A B → I t B) (h0 : I 0 W0) (a₁ : Act)
    (hassign : ∀ (l : Nat) (W : World) (K : Act → World → Prop), K a₁ W →
      assign.wpIn (Fence.wide.inRound l) 7 Try.prog (Exit.then K (fun _ _ _ => False)) { tmps := (ps.zip #[.slice (some ⟨W0.heap.size + 2, 0, none⟩) s.length s.length]).foldl (fun t (p, v) => t.setIfInBounds p v) a.tmps, defers := [] } W)
    (hbody : ∀ (l t : Nat) (W : World), I t W → t < (prod s).toNat → W.heap[W0.heap.size + 2]? = some (.cells (rowI (idxL s t)) 3 (0, 0)) → W0.heap.size + 3 ≤ W.heap.size →
      body.wpIn (Fence.wide.inRound l) 7 Try.prog (roundPost (IdxM gX A s) (AtI s (W0.heap.size + 2) t) (I (t + 1)) (fun _ _ => False) W) a₁ W)
    (hdone : ∀ (W : World), I (prod s).toNat W → W.heap[W0.heap.size]? = some (.deferred (some [])) → Q .normal { a with defers := { target := .collected W0.heap.size, args := #[] } :: a.defers } W) :
    (Code.rangeFunc g ps assign body).wp Try.prog Q a W0 := by
  refine (wpIn_wide (n := 9)).1 ?_
  refine wpIn_rounds rfl (by omega) (gf := 137) (lb := #[.pointer (some ⟨gX, 0, none⟩)]) hg trivial (enters_of Try.func137 (by kernel_rfl) rfl)
    (idx_rounds 8 (by omega) gX A c s h5 hp k hk W0 ((blk_cell hX 0).trans rfl) hC hc (fun ad e e0 => C_block hC e0 (by rw [e]; rfl)))
    (Below.refl _ _) (fun k hk => by rcases hk with rfl | ⟨e0, hk⟩; exact blk_lt hX; exact C_block hC e0 hk) (fun G t A B h e => by unfold AtI at *; rw [e]; exact h) hps
    I (fun _ _ _ => False) hI (fun _ _ _ _ h _ => h) h0 a₁ hassign ?_ hdone (fun c t W _ h _ => h.elim)
  intro l t W h1 h2 h3 h4
  refine hbody l t W h1 h2 h3 ?_
  have := blk_lt h3
  omega
end Go.Proofs.Ytehfcnndjhjkoaa.PA
namespace Go.Proofs.Ytehfcnndjhjkoaa.PA
open Go.RowKit Go.Proofs.YtehfcnndjhjkoaaW.PrintWords Go.Proofs.YtehfcnndjhjkoaaW.PrintLast Go.Proofs.YtehfcnndjhjkoaaW.PrintMore
set_option linter.unusedSimpArgs false
set_option linter.unusedVariables false
theorem shGo_mono : ∀ (l : List Int) (f g : Int), 0 ≤ g → g ≤ f → shGo f l = true → shGo g l = true
  | [], _, _, _, _, _ => rfl
  | a :: t, f, g, hg, hf, h => by
    simp only [shGo, Bool.and_eq_true, decide_eq_true_eq] at h ⊢
    refine ⟨h.1, ?_⟩
    by_cases ha : a = 0
    · rw [if_pos ha] at h ⊢
      exact shGo_mono t f g hg hf h.2
    · rw [if_neg ha] at h ⊢
      simp only [Bool.and_eq_true, decide_eq_true_eq] at h ⊢
      have h1 : g * a ≤ f * a := Int.mul_le_mul_of_nonneg_right hf h.1.1
      exact ⟨by omega, shGo_mono t (f * a) (g * a) (Int.mul_nonneg hg h.1.1) h1 h.2.2⟩
theorem shGo_app : ∀ (xs t : List Int) (f : Int), 1 ≤ f → f ≤ 10000 → shGo f (xs ++ t) = true →
    0 ≤ prod xs ∧ prod xs ≤ 10000 ∧ (prod xs = 0 → shGo f t = true) ∧ (prod xs ≠ 0 → f * prod xs ≤ 10000 ∧ shGo (f * prod xs) t = true)
  | [], t, f, h1, h2, h => by
    simp only [prod]
    exact ⟨by omega, by omega, fun e => by omega, fun _ => ⟨by omega, by rw [Int.mul_one]; exact h⟩⟩
  | a :: xs, t, f, h1, h2, h => by
    simp only [List.cons_append, shGo, Bool.and_eq_true, decide_eq_true_eq] at h
    simp only [prod]
    by_cases ha : a = 0
    · rw [if_pos ha] at h
      obtain ⟨i1, i2, i3, i4⟩ := shGo_app xs t f h1 h2 h.2
      subst ha
      rw [Int.zero_mul]
      refine ⟨by omega, by omega, fun _ => ?_, fun e => absurd rfl e⟩
      by_cases hc : prod xs = 0
      · exact i3 hc
      · have := i4 hc
        refine shGo_mono t _ f (by omega) ?_ this.2
        have h3 : f * 1 ≤ f * prod xs := Int.mul_le_mul_of_nonneg_left (by omega) (by omega)
        omega
    · rw [if_neg ha] at h
      simp only [Bool.and_eq_true, decide_eq_true_eq] at h
      have ha1 : 1 ≤ a := by omega
      have hfa : f * 1 ≤ f * a := Int.mul_le_mul_of_nonneg_left ha1 (by omega)
      obtain ⟨i1, i2, i3, i4⟩ := shGo_app xs t (f * a) (by omega) h.2.1 h.2.2
      by_cases hc : prod xs = 0
      · rw [hc, Int.mul_zero]
        exact ⟨by omega, by omega, fun _ => shGo_mono t _ f (by omega) (by omega) (i3 hc), fun e => absurd rfl e⟩
      · have := i4 hc
        have h0 : 0 ≤ a * prod xs := Int.mul_nonneg (by omega) i1
        have e1 : f * (a * prod xs) = f * a * prod xs := (Int.mul_assoc _ _ _).symm
        have h3 : 1 * (a * prod xs) ≤ f * (a * prod xs) := Int.mul_le_mul_of_nonneg_right h1 h0
        refine ⟨h0, by omega, fun e => ?_, fun _ => ⟨by omega, by rw [e1]; exact this.2⟩⟩
        rcases Int.mul_eq_zero.1 e with e | e <;> omega
theorem pickC_len {n : Int} {p : PartS} (hn : 0 ≤ n) (h : (pickC n p).2 = 0) : ((pickC n p).1.length : Int) = prod (if p.f0 = true then [n] else p.f1.f1) := by
  unfold pickC at h ⊢
  by_cases hf : p.f0 = true
  · rw [if_pos hf] at h ⊢
    rw [if_pos hf]
    by_cases hb : pickBad p = true
    · rw [if_pos hb] at h; simp at h
    · rw [if_neg hb]; simp [upN_len, prod]; omega
  · rw [if_neg hf] at h ⊢
    rw [if_neg hf]
    by_cases hg : arrOk p.f1.f0 p.f1.f1 p.f1.f2 = true ∧ p.f1.f0 = false
    · rw [if_pos hg] at h ⊢
      by_cases ha : p.f1.f2.all (fun x => decide (1 ≤ x ∧ x ≤ n)) = true
      · rw [if_pos ha]; simp [arrOk_prod hg.1]
      · rw [if_neg ha] at h; simp at h
    · rw [if_neg hg] at h; simp at h
theorem shGo_cnts : ∀ (l : List Int) (ps : List PartS) (f : Int), 1 ≤ f → f ≤ 10000 → (∀ a ∈ l, 0 ≤ a ∧ a ≤ 10000) → (picksGo l ps).2 = 0 → shGo f (shpL l ps) = true → shGo f (cntsL (picksGo l ps).1) = true
  | [], _, _, _, _, _, _, _ => by simp [picksGo, cntsL, shGo]
  | _ :: _, [], _, _, _, _, _, _ => by simp [picksGo, cntsL, shGo]
  | n :: l, p :: ps, f, h1, h2, hr, h, hs => by
    unfold picksGo at h ⊢
    by_cases hc : (pickC n p).2 = 0
    · rw [if_pos hc] at h ⊢
      have hp := pickC_len (hr n (by simp)).1 hc
      obtain ⟨i1, i2, i3, i4⟩ := shGo_app _ _ f h1 h2 hs
      rw [← hp] at i1 i2 i3 i4
      have hr' : ∀ a ∈ l, 0 ≤ a ∧ a ≤ 10000 := fun a ha => hr a (by simp [ha])
      simp only [cntsL, List.map_cons, shGo, Bool.and_eq_true, decide_eq_true_eq]
      refine ⟨⟨i1, i2⟩, ?_⟩
      by_cases h0 : ((pickC n p).1.length : Int) = 0
      · rw [if_pos h0]
        exact shGo_cnts l ps f h1 h2 hr' h (i3 h0)
      · rw [if_neg h0]
        have := i4 h0
        have h3 : f * 1 ≤ f * ((pickC n p).1.length : Int) := Int.mul_le_mul_of_nonneg_left (by omega) (by omega)
        simp only [Bool.and_eq_true, decide_eq_true_eq]
        exact ⟨this.1, shGo_cnts l ps _ (by omega) this.1 hr' h this.2⟩
    · rw [if_neg hc] at h
      exact absurd h hc
theorem shOk_cnts {l : List Int} {ps : List PartS} (hl : ps.length = l.length) (h5 : l.length ≤ 5) (hr : ∀ a ∈ l, 0 ≤ a ∧ a ≤ 10000) (h : (picksGo l ps).2 = 0) (hs : shOk (shpL l ps) = true) : shOk (cntsL (picksGo l ps).1) = true := by
  have hf := picks_facts l ps hl.symm hr h
  unfold shOk at hs ⊢
  rw [Bool.and_eq_true, decide_eq_true_eq] at hs ⊢
  exact ⟨by rw [cntsL_len, hf.1]; exact h5, shGo_cnts l ps 1 (by omega) (by omega) hr h hs.2⟩
/-- A row of a list of rows. -/
structure Lw where
  A : Option Addr
  n : Nat
  c : Nat
  xs : List Int
def Lw.v (x : Lw) : Value := .slice x.A x.n x.c
def Lw.th (x : Lw) : Th := .row x.v x.xs
def LT (L : List Lw) : List Th := L.map Lw.th
def LC (L : List Lw) : Array Value := (L.map Lw.v).toArray
theorem LC_size (L : List Lw) : (LC L).size = L.length := by simp [LC]
theorem LT_get {L : List Lw} {j : Nat} {x : Lw} (h : L[j]? = some x) : (LT L)[j]? = some x.th := by simp [LT, h]
theorem LC_get {L : List Lw} {j : Nat} {x : Lw} (h : L[j]? = some x) : (LC L)[j]? = some x.v := by simp [LC, h]
theorem LT_set (L : List Lw) (j : Nat) (x : Lw) : (LT L).set j x.th = LT (L.set j x) := by simp [LT, List.map_set]
theorem LC_set (L : List Lw) (j : Nat) (x : Lw) : (LC L).setIfInBounds j x.v = LC (L.set j x) := by simp [LC, List.map_set]
def nilLw : Lw := ⟨none, 0, 0, []⟩
theorem Sx.nilRows {w W : World} {Ts : List Th} (h : Sx w W Ts) (n : Nat) : Sx w W (Ts ++ LT (List.replicate n nilLw)) := by
  have hn : ∀ T ∈ LT (List.replicate n nilLw), T = .row (.slice none 0 0) [] := fun T hT => by
    obtain ⟨x, hx, rfl⟩ := List.mem_map.1 hT
    rw [(List.mem_replicate.1 hx).2]; rfl
  refine ⟨h.below, fun T hT => ?_, List.pairwise_append.2 ⟨h.nod, ?_, fun a _ b hb k _ hk => ?_⟩⟩
  · rcases List.mem_append.1 hT with hT | hT
    · exact h.ok T hT
    · rw [hn T hT]; exact Kd.R_nil _ _ _ _ _
  · refine List.Pairwise.imp_of_mem (R := fun _ _ => True) (fun {a b} ha hb _ k hk => ?_) (List.pairwise_of_forall (fun _ _ => trivial))
    rw [hn a ha] at hk; simp [Th.on, Value.ownBlock] at hk
  · rw [hn b hb] at hk; simp [Th.on, Value.ownBlock] at hk
/-- The lists' block as 'make' lays it. -/
theorem make_LC (n : Nat) (hn : n ≤ 1000) (w : World) : (Instr.makeSlice 117 (.int .i64 (n : Int)) (.int .i64 (n : Int))).run Try.prog w = .ok (.slice (some ⟨w.heap.size, 0, none⟩) n n) (w.alloc (.cells (LC (List.replicate n nilLw)) 22)) := by
  obtain ⟨i, hi, hz⟩ := Option.map_eq_some_iff.1 info22
  simp only [Prod.mk.injEq] at hz
  have h := run_make (P := Try.prog) w 117 22 i (.slice none 0 0) Try.underlying117 hi hz.1 .i64 .i64 (n : Int) (n : Int) (by omega) (by omega) (by rw [hz.2.2]; omega) (by omega)
  rw [h, hz.2.1]
  have e : madeCells (Value.slice none 0 0).cells ((n : Int).toNat * 1) = LC (List.replicate n nilLw) := by
    apply Array.ext
    · simp [madeCells, LC]
    · intro j h1 h2
      simp [madeCells, LC, nilLw, Lw.v, Value.cells, Nat.mod_one]
  rw [e]
  simp
theorem picksGo_cons (n : Int) (l : List Int) (p : PartS) (ps : List PartS) : picksGo (n :: l) (p :: ps) = if (pickC n p).2 = 0 then ((pickC n p).1 :: (picksGo l ps).1, (picksGo l ps).2) else ([], (pickC n p).2) := rfl
/-- What stands behind j parts. -/
structure IdxI (l1 : List Int) (ps : List PartS) (j : Nat) (L : List Lw) (S : List Int) : Prop where
  le : j ≤ ps.length
  len : L.length = ps.length
  go : ∃ dn : List (List Int), dn.length = j ∧ L.map Lw.xs = dn ++ List.replicate (ps.length - j) [] ∧ picksGo l1 ps = (dn ++ (picksGo (l1.drop j) (ps.drop j)).1, (picksGo (l1.drop j) (ps.drop j)).2)
  sh : shpL l1 ps = S ++ shpL (l1.drop j) (ps.drop j)
  sl : S.length ≤ 5 * j
theorem IdxI.start (l1 : List Int) (ps : List PartS) : IdxI l1 ps 0 (List.replicate ps.length nilLw) [] :=
  ⟨Nat.zero_le _, by simp, ⟨[], rfl, by simp [nilLw], by simp⟩, by simp, by simp⟩
theorem drop_rdT {ps : List PartS} {j : Nat} (h : j < ps.length) : ps.drop j = rd_T66 ps (j : Int) :: ps.drop (j + 1) := by
  rw [List.drop_eq_getElem_cons h]; simp [rd_T66, h]
theorem drop_rdI {l : List Int} {j : Nat} (h : j < l.length) : l.drop j = rd l (j : Int) :: l.drop (j + 1) := by
  rw [List.drop_eq_getElem_cons h]; simp [rd, h]
theorem IdxI.stop {l1 : List Int} {ps : List PartS} {j : Nat} {L : List Lw} {S : List Int} (h : IdxI l1 ps j L S) (hl : ps.length = l1.length) (hj : j < ps.length) {c : Int} (hc : (pickC (rd l1 (j : Int)) (rd_T66 ps (j : Int))).2 = c) (h0 : c ≠ 0) : (whereV l1 ps).2.2 = c := by
  obtain ⟨dn, _, _, hg⟩ := h.go
  rw [drop_rdT hj, drop_rdI (show j < l1.length by omega)] at hg
  rw [picksGo_cons] at hg
  have h1 : ¬ (pickC (rd l1 (j : Int)) (rd_T66 ps (j : Int))).2 = 0 := by rw [hc]; exact h0
  rw [if_neg h1, hc] at hg
  have h2 : (picksV l1 ps).2 = c := by
    unfold picksV
    rw [if_pos hl]
    exact congrArg Prod.snd hg
  unfold whereV
  rw [if_neg (by rw [h2]; exact h0)]
  exact h2
theorem IdxI.next {l1 : List Int} {ps : List PartS} {j : Nat} {L : List Lw} {S : List Int} (h : IdxI l1 ps j L S) (hl : ps.length = l1.length) (hj : j < ps.length) (hr : ∀ a ∈ l1, 0 ≤ a ∧ a ≤ 10000) {x : Lw} (hc : pickC (rd l1 (j : Int)) (rd_T66 ps (j : Int)) = (x.xs, 0)) (S' : List Int) (hS : S' = S ++ if (rd_T66 ps (j : Int)).f0 = true then [rd l1 (j : Int)] else (rd_T66 ps (j : Int)).f1.f1) (h5 : S'.length ≤ S.length + 5) : IdxI l1 ps (j + 1) (L.set j x) S' := by
  obtain ⟨dn, hd, hx, hg⟩ := h.go
  have hjl : j < l1.length := by omega
  rw [drop_rdT hj, drop_rdI hjl] at hg
  have hs := h.sh
  rw [drop_rdT hj, drop_rdI hjl] at hs
  refine ⟨hj, by simp [h.len], ⟨dn ++ [x.xs], by simp [hd], ?_, ?_⟩, ?_, by have := h.sl; omega⟩
  · rw [List.map_set, hx, List.set_append_right _ _ (by omega), hd, Nat.sub_self]
    obtain ⟨m, hm⟩ : ∃ m, ps.length - j = m + 1 := ⟨ps.length - j - 1, by omega⟩
    rw [hm, List.replicate_succ, List.set_cons_zero, show ps.length - (j + 1) = m by omega]
    simp
  · rw [hg, picksGo_cons, hc, if_pos rfl]
    simp
  · rw [hs, hS, shpL]
    simp
theorem IdxI.empty {l1 : List Int} {ps : List PartS} {j : Nat} {L : List Lw} {S : List Int} (h : IdxI l1 ps j L S) (hj : j < ps.length) : ∃ A n c, L[j]? = some ⟨A, n, c, []⟩ := by
  obtain ⟨dn, hd, hx, hg⟩ := h.go
  have hjl : j < L.length := by rw [h.len]; exact hj
  have h1 : (L.map Lw.xs)[j]? = some [] := by
    rw [hx, List.getElem?_append_right (by omega), hd, Nat.sub_self, List.getElem?_replicate, if_pos (by omega)]
  rw [List.getElem?_map, List.getElem?_eq_getElem hjl] at h1
  simp only [Option.map_some, Option.some.injEq] at h1
  refine ⟨L[j].A, L[j].n, L[j].c, ?_⟩
  rw [List.getElem?_eq_getElem hjl, ← h1]
theorem IdxI.done {l1 : List Int} {ps : List PartS} {L : List Lw} {S : List Int} (h : IdxI l1 ps ps.length L S) (hl : ps.length = l1.length) : (picksGo l1 ps).2 = 0 ∧ (picksGo l1 ps).1 = L.map Lw.xs ∧ shpL l1 ps = S := by
  obtain ⟨dn, hd, hx, hg⟩ := h.go
  have e1 : ps.drop ps.length = [] := List.drop_length
  have e2 : l1.drop ps.length = [] := by rw [hl]; exact List.drop_length
  have hs := h.sh
  rw [e1, e2] at hg hs
  rw [show picksGo [] [] = ([], 0) from rfl, List.append_nil] at hg
  rw [Nat.sub_self, List.replicate_zero, List.append_nil] at hx
  rw [show shpL [] [] = [] from rfl, List.append_nil] at hs
  exact ⟨by rw [hg], by rw [hg, hx], hs⟩
theorem idx_end {l1 : List Int} {ps : List PartS} {L : List Lw} {S : List Int} (hI : IdxI l1 ps ps.length L S) (hl : ps.length = l1.length) (h5 : l1.length ≤ 5) (hr : ∀ a ∈ l1, 0 ≤ a ∧ a ≤ 10000) :
    (shOk S = false → (whereV l1 ps).2.2 = 7) ∧ (shOk S = true → ∃ ls : List (List Int), ls = L.map Lw.xs ∧ shOk (cntsL ls) = true ∧ (cntsL ls).length = ps.length ∧ 0 ≤ prod (cntsL ls) ∧ prod (cntsL ls) ≤ 10000 ∧
      (∀ t : Nat, (t : Int) < prod (cntsL ls) → idxL (cntsL ls) t = digs (cntsL ls) (t : Int) ∧ ∀ k : Nat, k < ps.length → 0 ≤ rd (digs (cntsL ls) (t : Int)) (k : Int) ∧ rd (digs (cntsL ls) (t : Int)) (k : Int) < ((ls.getD k []).length : Int)) ∧ whereV l1 ps = (placesN l1 ls (prod (cntsL ls)).toNat, S, 0)) := by
  obtain ⟨h1, h2, h3⟩ := hI.done hl
  have hpv : (picksV l1 ps).2 = 0 := by unfold picksV; rw [if_pos hl]; exact h1
  have hpl : (picksV l1 ps).1 = L.map Lw.xs := by unfold picksV; rw [if_pos hl]; exact h2
  constructor
  · intro hs
    unfold whereV
    rw [if_pos hpv, h3, if_neg (by rw [hs]; decide)]
  · intro hs
    have hc := shOk_cnts hl h5 hr h1 (by rw [h3]; exact hs)
    obtain ⟨f1, f2, f3, f4, f5, f6⟩ := picks_facts l1 ps hl.symm hr h1
    rw [h2] at hc f1 f2
    rw [h3] at f2
    have hp := shOk_prod hc
    have hcr := shOk_range hc
    refine ⟨_, rfl, hc, by rw [cntsL_len, f1, hl], hp.1, hp.2, fun t ht => ⟨idxL_of hcr ht, fun k hk => ?_⟩, ?_⟩
    · have hpos := pos_of_prod (fun a ha => (hcr a ha).1) (by omega)
      have hk' : k < (cntsL (L.map Lw.xs)).length := by rw [cntsL_len, f1]; omega
      have hd := digs_range _ _ (t : Int) rfl hpos (by omega) k hk'
      have ec : rd (cntsL (L.map Lw.xs)) (k : Int) = (((L.map Lw.xs).getD k []).length : Int) := by
        have hk2 : k < (L.map Lw.xs).length := by rw [cntsL_len] at hk'; exact hk'
        simp only [cntsL, rd, Int.toNat_natCast, List.getD_eq_getElem?_getD, List.getElem?_map, List.getElem?_eq_getElem (show k < L.length by simpa using hk2), Option.map_some, Option.getD_some]
      rw [ec] at hd
      exact hd
    · unfold whereV
      rw [if_pos hpv, h3, if_pos hs, hpl, f2]
end Go.Proofs.Ytehfcnndjhjkoaa.PA
namespace Go.Proofs.Ytehfcnndjhjkoaa.PA
open Go.RowKit Go.Proofs.YtehfcnndjhjkoaaW.PrintWords Go.Proofs.YtehfcnndjhjkoaaW.PrintLast Go.Proofs.YtehfcnndjhjkoaaW.PrintMore
attribute [local go_sem] Oper.semAt_some
open Go.Shelf
set_option linter.unusedSimpArgs false
set_option linter.unusedVariables false
def MovePost (la1 : List Int) (ps : List PartS) (w : World) (e : Ending) (w' : World) : Prop := ∃ (sh fr : List Int) (A1 : Option Addr) (c1 : Nat) (A2 : Option Addr) (c2 : Nat), e = .returned (.tuple #[.agg #[.slice A1 sh.length c1, .slice A2 fr.length c2], .int .i64 (whereV la1 ps).2.2]) ∧ ((whereV la1 ps).2.2 = 0 → sh = (whereV la1 ps).2.1 ∧ fr = (whereV la1 ps).1) ∧ Kd.C (Kd.int .i64) w' A1 sh.length sh ∧ sh.length ≤ c1 ∧ Kd.C (Kd.int .i64) w' A2 fr.length fr ∧ fr.length ≤ c2 ∧ Below w.heap.size w w'
theorem MovePost.bad {la1 : List Int} {ps : List PartS} {w w' : World} {c : Int} (hw : (whereV la1 ps).2.2 = c) (h0 : c ≠ 0) (hb : Below w.heap.size w w') : MovePost la1 ps w (.returned (.tuple #[.agg #[.slice none 0 0, .slice none 0 0], .int .i64 c])) w' := by
 subst hw
 exact ⟨[], [], none, 0, none, 0, rfl, fun e => absurd e h0, Kd.C_nil _ _, Nat.le_refl _, Kd.C_nil _ _, Nat.le_refl _, hb⟩
def calm (Q : Exit → Act → World → Prop) : Exit → Act → World → Prop
 | .panic _, _, _ => False
 | e, a, w => Q e a w
theorem calm_le {Q : Exit → Act → World → Prop} : ∀ e a w, calm Q e a w → Q e a w := by
 intro e a w h
 cases e <;> first | exact h | exact h.elim
theorem rdT_mem {ps : List PartS} {j : Nat} (h : j < ps.length) : rd_T66 ps (j : Int) ∈ ps := by
 simp only [rd_T66, Int.toNat_natCast, List.getD_eq_getElem?_getD, List.getElem?_eq_getElem h, Option.getD_some]; exact List.getElem_mem h
theorem rd_memX (l : List Int) (i : Nat) (h : i < l.length) : rd l (i : Int) ∈ l := by simp only [rd, Int.toNat_natCast, List.getD_eq_getElem?_getD, List.getElem?_eq_getElem h, Option.getD_some]; exact List.getElem_mem h
theorem take_succX (l : List Int) (t : Nat) (h : t < l.length) : l.take (t + 1) = l.take t ++ [rd l (t : Int)] := by
 rw [List.take_succ_eq_append_getElem h]; simp [rd, h]
theorem not_all {l : List Int} {t : Nat} {x n : Int} (hx : x = rd l (t : Int)) (ht : t < l.length) (h : ¬ (1 ≤ x ∧ x ≤ n)) : ¬ l.all (fun x => decide (1 ≤ x ∧ x ≤ n)) = true := fun ha => by
 rw [List.all_eq_true] at ha
 exact h (of_decide_eq_true (ha x (by rw [hx]; exact rd_memX l t ht)))
theorem within_eqX (x n : Int) (r : Bool) (h : r = decide (1 ≤ x ∧ x ≤ n)) : impl_within.f x 1 n = some r := by
 unfold impl_within.f
 subst h
 by_cases h1 : x ≥ 1
 ·rw [if_pos h1]; simp; omega
 ·rw [if_neg h1]
  have : ¬ (1 ≤ x ∧ x ≤ n) := by omega
  simp only [this, decide_false]
theorem cnts_at {L : List Lw} {t : Nat} {x : Lw} (h : L[t]? = some x) : rd (cntsL (L.map Lw.xs)) (t : Int) = (x.xs.length : Int) := by
 simp [cntsL, rd, List.getD_eq_getElem?_getD, List.getElem?_map, h]
theorem xs_at {L : List Lw} {t : Nat} {x : Lw} (h : L[t]? = some x) : (L.map Lw.xs).getD t [] = x.xs := by
 simp [List.getD_eq_getElem?_getD, List.getElem?_map, h]
theorem ls_len {ls : List (List Int)} {L : List Lw} {n : Nat} (h : ls = L.map Lw.xs) (hl : L.length = n) : ls.length = n := by rw [h, List.length_map, hl]
theorem cnt_size {l : List Int} {n t : Nat} (hl : l.length = n) (ht : t < n) : t < (rowI (l.take t ++ List.replicate (n - t) 0)).size := by
 simp [rowI]; omega
theorem cnt_next {l : List Int} {n t : Nat} (hl : l.length = n) (ht : t < n) {x : Int} (hx : rd l (t : Int) = x) : (l.take t ++ List.replicate (n - t) 0).set t x = l.take (t + 1) ++ List.replicate (n - (t + 1)) 0 := by
 obtain ⟨m, hm⟩ : ∃ m, n - t = m + 1 := ⟨n - t - 1, by omega⟩
 rw [take_succX l t (by omega), hx, hm, show n - (t + 1) = m by omega, List.replicate_succ, List.set_append_right _ _ (by simp; omega)]
 rw [show t - (l.take t).length = 0 by simp; omega, List.set_cons_zero]
 simp
theorem cnt_all {l : List Int} {n : Nat} (hl : l.length = n) : l.take n ++ List.replicate (n - n) 0 = l := by
 rw [Nat.sub_self, List.replicate_zero, List.append_nil, List.take_of_length_le (by omega)]
theorem set_same {L : List Lw} {j : Nat} {x : Lw} (h : L[j]? = some x) : L.set j x = L := by
 obtain ⟨hj, e⟩ := List.getElem?_eq_some_iff.1 h
 subst e; exact List.set_getElem_self hj
theorem set_tail {L : List Lw} {j : Nat} {x y : Lw} : (LT (L.set j x)).set j y.th = LT (L.set j y) := by rw [LT_set, List.set_set]
theorem set_at {L : List Lw} {j : Nat} (x : Lw) (h : j < L.length) : (L.set j x)[j]? = some x := by simp [h]
theorem LC_at {L : List Lw} {j : Nat} (x : Lw) (h : j < L.length) : (LC (L.set j x))[j]? = some x.v := LC_get (set_at x h)
theorem blk_mid3 {W : World} {g : Nat} {t : TypeId} {v0 v1 v2 v3 : Value} (h : W.heap[g]? = some (.cells #[v0, v1, v2, v3] t (0, 0))) : W.rangeAt g 1 [v1, v2, v3] := by
 intro j v hj
 match j with
 | 0 => cases hj; exact (blk_cell h 1).trans rfl
 | 1 => cases hj; exact (blk_cell h 2).trans rfl
 | 2 => cases hj; exact (blk_cell h 3).trans rfl
 | j + 3 => simp at hj
theorem nothing_eq (pb : Bool) (s d : List Int) (r : Bool) (h : r = !pickBad ⟨true, pb, s, d⟩) : impl_Array_nothing.f pb s d = some r := by
 unfold impl_Array_nothing.f
 subst h
 unfold pickBad
 cases pb with
 | true => simp
 | false =>
  simp only [Bool.false_eq_true, if_false, Bool.false_or]
  by_cases h1 : s.length = 0
  ·rw [if_pos (by omega)]
   by_cases h2 : d.length = 0
   ·simp [h1, h2]
   ·have h3 : ¬ (d.length : Int) = 0 := by omega
    have h4 : 0 < d.length := by omega
    rw [show ((d.length : Int) == 0) = false from beq_eq_false_iff_ne.mpr h3, h1]
    simp only [Nat.lt_irrefl, decide_false, Bool.false_or, decide_eq_true h4, Bool.not_true]
  ·rw [if_neg (by omega)]
   have : 0 < s.length := by omega
   simp [this]
set_option maxHeartbeats 2000000 in
set_option maxRecDepth 100000 in
theorem indexMove_rank (a : Bool) (Aa1 : Option Addr) (ca1 : Nat) (la1 : List Int) (Aa2 : Option Addr) (ca2 : Nat) (la2 : List Int) (Ap : Option Addr) (cp : Nat) (ps : List PartS) (w : World) (ha1 : Kd.C (Kd.int .i64) w Aa1 la1.length la1) (ka1 : la1.length ≤ ca1) (ha2 : Kd.C (Kd.int .i64) w Aa2 la2.length la2) (ka2 : la2.length ≤ ca2) (hn : ps.length ≠ la1.length) :
 Calls Try.prog 59 #[.agg #[.bool a, .slice Aa1 la1.length ca1, .slice Aa2 la2.length ca2], .slice Ap ps.length cp] w fun e w' => MovePost la1 ps w e w' := by
 have Ha1 := Aside0.mk ha1
 have Ka1 := Aside0.mk ka1
 clear ha1 ka1
 have Ha2 := Aside0.mk ha2
 have Ka2 := Aside0.mk ka2
 clear ha2 ka2
 have HW : Aside0 ((whereV la1 ps).2.2 = 4) := Aside0.mk (by unfold whereV picksV; rw [if_neg hn, if_neg (by decide)])
 have c0 : ((ps.length : Int) == (la1.length : Int)) = false := beq_eq_false_iff_ne.mpr (by omega)
 have c1 : ((ps.length : Int) != (la1.length : Int)) = true := bne_iff_ne.mpr (by omega)
 have c2 : ¬ ps.length = la1.length := hn
 clear hn
 have HS := Aside0.mk (Sx.start w)
 go_enter Try.func59, Try.ntmps59
 go_wp2_with (first | ((with_reducible refine gate_dst (N := 2) rfl ?_); refine box_ev (cs := #[.bool a, .slice Aa1 la1.length ca1, .slice Aa2 la2.length ca2]) (t := 28) ?_; intro gA hg1 w1 hx1 hb1; have nS : Aside0 (Sx w w1 [(.blk gA #[.bool a, .slice Aa1 la1.length ca1, .slice Aa2 la2.length ca2] 28)]) := Aside0.mk (HS.out.box hg1 hx1 hb1); clear HS; have HS := nS; clear nS hg1 hx1 hb1) | ((with_reducible refine gate_dst (N := 4) rfl ?_); refine box_ev (cs := #[.slice none 0 0, .slice none 0 0]) (t := 70) ?_; intro gR hg2 w2 hx2 hb2; have nS : Aside0 (Sx w w2 [(.blk gR #[.slice none 0 0, .slice none 0 0] 70), (.blk gA #[.bool a, .slice Aa1 la1.length ca1, .slice Aa2 la2.length ca2] 28)]) := Aside0.mk (HS.out.box hg2 hx2 hb2); clear HS; have HS := nS; clear nS hg2 hx2 hb2) | ((with_reducible refine gate_dst (N := 25) rfl ?_); refine wpList_load_row rfl 28 (.tmp 2) rfl gA rfl 28 #[.bool a, .slice Aa1 la1.length ca1, .slice Aa2 la2.length ca2] (0, 0) _ (HS.out.blk 1 rfl) Try.underlying28 rfl (by kernel_rfl) ?_) | (go_at_call 90; refine (impl_Array_rank.calls a Aa1 ca1 la1 Aa2 ca2 la2 (la1.length : Int) _ (Kd.C_below Ha1.out HS.out.below) Ka1.out (Kd.C_below Ha2.out HS.out.below) Ka2.out rfl).mono ?_; rintro e w3 ⟨rfl, hb3⟩; have nS : Aside0 (Sx w w3 [(.blk gR #[.slice none 0 0, .slice none 0 0] 70), (.blk gA #[.bool a, .slice Aa1 la1.length ca1, .slice Aa2 la2.length ca2] 28)]) := Aside0.mk (HS.out.step hb3); clear HS; have HS := nS; clear nS hb3) | ((with_reducible refine gate_store rfl ?_); refine store_named rfl 70 (.tmp 4) (.tmp 28) rfl gR #[.slice none 0 0, .slice none 0 0] rfl rfl 70 #[.slice none 0 0, .slice none 0 0] (HS.out.blk 0 rfl) (by kernel_rfl) rfl (by simp [Value.oneCell']) ?_; intro w4 hx4 hb4; have nS : Aside0 (Sx w w4 [(.blk gR #[.slice none 0 0, .slice none 0 0] 70), (.blk gA #[.bool a, .slice Aa1 la1.length ca1, .slice Aa2 la2.length ca2] 28)]) := Aside0.mk (HS.out.put 0 rfl hx4 hb4); clear HS; have HS := nS; clear nS hx4 hb4))
 refine bodyPost_ret (results_ct rfl _ _ gR 70 #[.slice none 0 0, .slice none 0 0] (0, 0) _ rfl (HS.out.blk 0 rfl) Try.underlying70 rfl (by kernel_rfl)) rfl ?_
 exact MovePost.bad HW.out (by decide) HS.out.below
set_option maxHeartbeats 2000000 in
set_option maxRecDepth 100000 in
theorem indexMove_any (a : Bool) (Aa1 : Option Addr) (ca1 : Nat) (la1 : List Int) (Aa2 : Option Addr) (ca2 : Nat) (la2 : List Int) (Ap : Option Addr) (cp : Nat) (ps : List PartS) (w : World) (ha1 : Kd.C (Kd.int .i64) w Aa1 la1.length la1) (ka1 : la1.length ≤ ca1) (ha2 : Kd.C (Kd.int .i64) w Aa2 la2.length la2) (ka2 : la2.length ≤ ca2) (hp : Kd.C k66 w Ap ps.length ps) (kp : ps.length ≤ cp) (hok : arrOk a la1 la2 = true) (hpl : ∀ p ∈ ps, p.f1.f1.length ≤ 35184372088832 ∧ p.f1.f2.length ≤ 35184372088832) (hn : ps.length = la1.length) :
 Calls Try.prog 59 #[.agg #[.bool a, .slice Aa1 la1.length ca1, .slice Aa2 la2.length ca2], .slice Ap ps.length cp] w fun e w' => MovePost la1 ps w e w' := by
 have Ha1 := Aside0.mk ha1
 have Ka1 := Aside0.mk ka1
 clear ha1 ka1
 have Ha2 := Aside0.mk ha2
 have Ka2 := Aside0.mk ka2
 clear ha2 ka2
 have HP := Aside0.mk hp
 have KP := Aside0.mk kp
 have HOK := Aside0.mk hok
 have HPL := Aside0.mk hpl
 have HN := Aside0.mk hn
 have HR := Aside0.mk (shOk_range (arrOk_sh hok))
 have H5 := Aside0.mk (arrOk_len hok).1
 have hmk := make_LC ps.length (by have := H5.out; omega)
 have c0 : ((ps.length : Int) == (la1.length : Int)) = true := beq_iff_eq.mpr (by omega)
 have c1 : ((ps.length : Int) != (la1.length : Int)) = false := by simp [hn]
 clear hp kp hok hpl hn
 have HS := Aside0.mk (Sx.start w)
 refine (callsIn_wide (n := 9)).1 ?_
 refine callsIn_of_wp_marks Try.func59 rfl trivial ?_ rfl
 simp only [Try.ntmps59, List.size_toArray, List.length_cons, List.length_nil, Nat.reduceAdd, Nat.reduceSub, Array.replicate_succ, Array.replicate_zero, List.push_toArray, List.append_toArray, List.nil_append, List.cons_append]
 refine wpIn_wide.2 ?_
 refine Code.wp_mono calm_le ?_
 go_wp2_with (first | ((with_reducible refine gate_dst (N := 2) rfl ?_); refine box_ev (cs := #[.bool a, .slice Aa1 la1.length ca1, .slice Aa2 la2.length ca2]) (t := 28) ?_; intro gA hg1 w1 hx1 hb1; have nS : Aside0 (Sx w w1 [(.blk gA #[.bool a, .slice Aa1 la1.length ca1, .slice Aa2 la2.length ca2] 28)]) := Aside0.mk (HS.out.box hg1 hx1 hb1); clear HS; have HS := nS; clear nS hg1 hx1 hb1) | ((with_reducible refine gate_dst (N := 4) rfl ?_); refine box_ev (cs := #[.slice none 0 0, .slice none 0 0]) (t := 70) ?_; intro gR hg2 w2 hx2 hb2; have nS : Aside0 (Sx w w2 [(.blk gR #[.slice none 0 0, .slice none 0 0] 70), (.blk gA #[.bool a, .slice Aa1 la1.length ca1, .slice Aa2 la2.length ca2] 28)]) := Aside0.mk (HS.out.box hg2 hx2 hb2); clear HS; have HS := nS; clear nS hg2 hx2 hb2) | ((with_reducible refine gate_dst (N := 25) rfl ?_); refine wpList_load_row rfl 28 (.tmp 2) rfl gA rfl 28 #[.bool a, .slice Aa1 la1.length ca1, .slice Aa2 la2.length ca2] (0, 0) _ (HS.out.blk 1 rfl) Try.underlying28 rfl (by kernel_rfl) ?_) | (go_at_call 90; refine (impl_Array_rank.calls a Aa1 ca1 la1 Aa2 ca2 la2 (la1.length : Int) _ (Kd.C_below Ha1.out HS.out.below) Ka1.out (Kd.C_below Ha2.out HS.out.below) Ka2.out rfl).mono ?_; rintro e w3 ⟨rfl, hb3⟩; have nS : Aside0 (Sx w w3 [(.blk gR #[.slice none 0 0, .slice none 0 0] 70), (.blk gA #[.bool a, .slice Aa1 la1.length ca1, .slice Aa2 la2.length ca2] 28)]) := Aside0.mk (HS.out.step hb3); clear HS; have HS := nS; clear nS hb3) | ((with_reducible refine gate_dst (N := 31) rfl ?_); refine lit_event ?hg (N := 31) ?hd (cs := (LC (List.replicate ps.length nilLw))) (t := 22) (n := ps.length) ?hr ?_; (case hd => rfl); (case hg => rfl); (case hr => first | (go_simp; done) | (go_simp; rfl)); intro gL hg4 w4 hx4 hb4; have nS : Aside0 (Sx w w4 [(.blk gL (LC (List.replicate ps.length nilLw)) 22), (.blk gR #[.slice none 0 0, .slice none 0 0] 70), (.blk gA #[.bool a, .slice Aa1 la1.length ca1, .slice Aa2 la2.length ca2] 28)]) := Aside0.mk (HS.out.box hg4 hx4 hb4); clear HS; have HS := nS; clear nS hg4 hx4 hb4) | ((with_reducible refine gate_dst (N := 7) rfl ?_); refine box_ev (cs := #[.slice none 0 0]) (t := 117) ?_; intro gG hg5 w5 hx5 hb5; have nS : Aside0 (Sx w w5 [(.blk gG #[.slice none 0 0] 117), (.blk gL (LC (List.replicate ps.length nilLw)) 22), (.blk gR #[.slice none 0 0, .slice none 0 0] 70), (.blk gA #[.bool a, .slice Aa1 la1.length ca1, .slice Aa2 la2.length ca2] 28)]) := Aside0.mk (HS.out.box hg5 hx5 hb5); clear HS; have HS := nS; clear nS hg5 hx5 hb5) | ((with_reducible refine gate_store rfl ?_); refine ev_store rfl 117 (.tmp 7) (.tmp 31) rfl gG 0 rfl (.slice (some ⟨gL, 0, none⟩) ps.length ps.length) rfl #[.slice none 0 0] 117 (HS.out.blk 0 rfl) (show 0 < 1 from by decide) rfl (by kernel_rfl) ?_; intro w6 hx6 hb6; have nS : Aside0 (Sx w w6 [(.blk gG #[.slice (some ⟨gL, 0, none⟩) ps.length ps.length] 117), (.blk gL (LC (List.replicate ps.length nilLw)) 22), (.blk gR #[.slice none 0 0, .slice none 0 0] 70), (.blk gA #[.bool a, .slice Aa1 la1.length ca1, .slice Aa2 la2.length ca2] 28)]) := Aside0.mk (HS.out.put 0 rfl hx6 hb6); clear HS; have HS := nS; clear nS hx6 hb6))
 have nS : Aside0 (Sx w _ ((.row (.slice none 0 0) []) :: (.blk gG #[.slice (some ⟨gL, 0, none⟩) ps.length ps.length] 117) :: (.blk gL (LC (List.replicate ps.length nilLw)) 22) :: (.blk gR #[.slice none 0 0, .slice none 0 0] 70) :: (.blk gA #[.bool a, .slice Aa1 la1.length ca1, .slice Aa2 la2.length ca2] 28) :: LT (List.replicate ps.length nilLw))) := Aside0.mk ((HS.out.nilRow 0 (Nat.zero_le _)).nilRows ps.length)
 clear HS
 have HS := nS
 clear nS
 go_loopw [6, 8, 9, 10, 12, 34] (fun s6 _ _ _ _ z wr => ∃ (j : Nat) (L : List Lw) (As : Option Addr) (cs : Nat) (S : List Int), z = .int .i64 (j : Int) ∧ s6 = .slice As S.length cs ∧ Aside0 (IdxI la1 ps j L S) ∧ Aside0 (Sx w wr ((.row (.slice As S.length cs) S) :: (.blk gG #[.slice (some ⟨gL, 0, none⟩) ps.length ps.length] 117) :: (.blk gL (LC L) 22) :: (.blk gR #[.slice none 0 0, .slice none 0 0] 70) :: (.blk gA #[.bool a, .slice Aa1 la1.length ca1, .slice Aa2 la2.length ca2] 28) :: LT L))) (fun _ _ _ _ _ z _ => ps.length - (intOf z).toNat)
 case atStart => exact ⟨0, _, none, 0, [], rfl, rfl, ⟨IdxI.start la1 ps⟩, HS⟩
 case round =>
  clear HS
  obtain ⟨j, L, As, cs, S, rfl, rfl, HI, HS⟩ := hrel
  by_cases hlt : j < ps.length
  ·have hnn := HN.out
   have hjl : j < la1.length := by omega
   obtain ⟨ad, Q2, d2, Q3, d3, eA, x0, x1, x2, x3, l2_, i2_, l3_, i3_⟩ := at_T66 HP.out (j : Int) (by omega) (by omega)
   subst eA
   rw [Int.toNat_natCast] at x0 x1 x2 x3
   obtain ⟨p_, hp_⟩ : ∃ p, rd_T66 ps (j : Int) = p := ⟨_, rfl⟩
   have hpm : p_ ∈ ps := by rw [← hp_]; exact rdT_mem hlt
   have hpl := HPL.out p_ hpm
   rw [hp_] at x0 x1 x2 x3 l2_ i2_ l3_ i3_
   obtain ⟨pa, pb, psh, pdt⟩ := p_
   simp only at x0 x1 x2 x3 l2_ i2_ l3_ i3_ hpl
   have HPJ := Aside0.mk hp_
   have HL2 := Aside0.mk l2_
   have HC2 := Aside0.mk i2_
   have HL3 := Aside0.mk l3_
   have HC3 := Aside0.mk i3_
   have HPLJ := Aside0.mk hpl
   clear hp_ hpm l2_ i2_ l3_ i3_ hpl
   have y0 := (HS.out.below.cell (World.block_lt_of_cell? w _ x0)).trans x0
   have y1 := (HS.out.below.cell (World.block_lt_of_cell? w _ x1)).trans x1
   have y2 := (HS.out.below.cell (World.block_lt_of_cell? w _ x2)).trans x2
   have y3 := (HS.out.below.cell (World.block_lt_of_cell? w _ x3)).trans x3
   clear x0 x1 x2 x3
   obtain ⟨A0, n0, c0_, hL⟩ := HI.out.empty hlt
   obtain rfl : n0 = 0 := (Kd.R_reads' (HS.out.row (j + 5) (LT_get hL))).1
   have HL := Aside0.mk hL
   have HJL := Aside0.mk (show j < L.length by rw [HI.out.len]; exact hlt)
   have HJA := Aside0.mk hjl
   clear hL
   obtain ⟨ad1, hd1, -⟩ := Kd.at_int Ha1.out (j : Int) (by omega) (by omega)
   obtain ⟨N, hN_⟩ : ∃ N : Nat, rd la1 (j : Int) = (N : Int) := Int.eq_ofNat_of_zero_le (HR.out _ (rd_memX la1 j hjl)).1
   have HNB := Aside0.mk (show N ≤ 10000 by have := (HR.out _ (rd_memX la1 j hjl)).2; omega)
   have HN1 := Aside0.mk (show some (Value.int .i64 (rd la1 (j : Int))) = some (.int .i64 (N : Int)) by rw [hN_])
   have HN0 := Aside0.mk hN_
   clear hN_
   subst hd1
   have w1 : IntKind.i64.wrap ((j : Int) + 1) = ((j + 1 : Nat) : Int) := by rw [IntWalk.i64_in _ (by have := H5.out; omega)]; omega
   have HW1 := Aside0.mk w1
   clear w1
   have p0 : (j : Int) < (ps.length : Int) := by omega
   have p1 : (j : Int) < (la1.length : Int) := by omega
   have p2 : 0 ≤ (j : Int) := by omega
   clear hnn hjl
   go_upto_region 8 with fail
   clear y0 y1 y2 y3
   have nS := Aside0.mk (HS.out.alloc #[.bool pa, .bool pb, .slice Q2 psh.length d2, .slice Q3 pdt.length d3] 66)
   clear HS
   obtain ⟨W7, hW7⟩ : ∃ W7, wr.alloc (.cells #[.bool pa, .bool pb, .slice Q2 psh.length d2, .slice Q3 pdt.length d3] 66) = W7 := ⟨_, rfl⟩
   obtain ⟨gP, hgP⟩ : ∃ g, wr.heap.size = g := ⟨_, rfl⟩
   rw [hW7, hgP] at nS
   rw [hW7, hgP]
   clear hW7 hgP
   have HS : Aside0 (Sx w W7 ((.blk gP #[.bool pa, .bool pb, .slice Q2 psh.length d2, .slice Q3 pdt.length d3] 66) :: (.row (.slice As S.length cs) S) :: (.blk gG #[.slice (some ⟨gL, 0, none⟩) ps.length ps.length] 117) :: (.blk gL (LC L) 22) :: (.blk gR #[.slice none 0 0, .slice none 0 0] 70) :: (.blk gA #[.bool a, .slice (some ad1) la1.length ca1, .slice Aa2 la2.length ca2] 28) :: LT L)) := nS
   clear nS
   cases pa
   ·obtain ⟨kk, hkk⟩ := (implArrayOk_ev pb psh pdt HPLJ.out.2).rounds
    rcases hok : arrOk pb psh pdt with _ | _
    all_goals rw [hok] at hkk
    all_goals have HAO := Aside0.mk hkk
    all_goals clear hkk
    ·go_wp2_with (first | ((with_reducible refine gate_dst (N := 40) rfl ?_); refine ev_load rfl 4 (.tmp 39) rfl ⟨gP, 0, none⟩ rfl (.bool false) ((blk_cell (HS.out.blk 0 rfl) 0).trans rfl) (by kernel_rfl) ?_) | ((with_reducible refine gate_dst (N := 74) rfl ?_); refine wpList_load_mid rfl 28 (.tmp 73) rfl gP 1 rfl [.bool pb, .slice Q2 psh.length d2, .slice Q3 pdt.length d3] _ (blk_mid3 (HS.out.blk 0 rfl)) Try.underlying28 rfl (by kernel_rfl) ?_) | (go_at_call 116; refine (impl_ArrayOk.calls kk pb Q2 d2 psh Q3 d3 pdt false _ (Kd.C_below HC2.out HS.out.below) HL2.out (Kd.C_below HC3.out HS.out.below) HL3.out HAO.out).mono ?_; rintro e wb1 ⟨rfl, hbb1⟩; have nS : Aside0 (Sx w wb1 ((.blk gP #[.bool false, .bool pb, .slice Q2 psh.length d2, .slice Q3 pdt.length d3] 66) :: (.row (.slice As S.length cs) S) :: (.blk gG #[.slice (some ⟨gL, 0, none⟩) ps.length ps.length] 117) :: (.blk gL (LC L) 22) :: (.blk gR #[.slice none 0 0, .slice none 0 0] 70) :: (.blk gA #[.bool a, .slice (some ad1) la1.length ca1, .slice Aa2 la2.length ca2] 28) :: LT L)) := Aside0.mk (HS.out.step hbb1); clear HS; have HS := nS; clear nS hbb1) | ((with_reducible refine gate_store rfl ?_); refine store_named rfl 70 (.tmp 4) (.tmp 82) rfl gR #[.slice none 0 0, .slice none 0 0] rfl rfl 70 #[.slice none 0 0, .slice none 0 0] (HS.out.blk 4 rfl) (by kernel_rfl) rfl (by simp [Value.oneCell']) ?_; intro wqb2 hxqb2 hbqb2; have nS : Aside0 (Sx w wqb2 ((.blk gP #[.bool false, .bool pb, .slice Q2 psh.length d2, .slice Q3 pdt.length d3] 66) :: (.row (.slice As S.length cs) S) :: (.blk gG #[.slice (some ⟨gL, 0, none⟩) ps.length ps.length] 117) :: (.blk gL (LC L) 22) :: (.blk gR #[.slice none 0 0, .slice none 0 0] 70) :: (.blk gA #[.bool a, .slice (some ad1) la1.length ca1, .slice Aa2 la2.length ca2] 28) :: LT L)) := Aside0.mk (HS.out.put 4 rfl hxqb2 hbqb2); clear HS; have HS := nS; clear nS hxqb2 hbqb2))
     refine ⟨_, results_ct rfl _ _ gR 70 #[.slice none 0 0, .slice none 0 0] (0, 0) _ rfl (HS.out.blk 4 rfl) Try.underlying70 rfl (by kernel_rfl), ?_⟩
     exact MovePost.bad (HI.out.stop HN.out hlt (c := 3) (by rw [HPJ.out, HN0.out]; unfold pickC; rw [if_neg Bool.false_ne_true, if_neg (by rw [hok]; simp)]) (by decide)) (by decide) HS.out.below
    ·cases pb
     ·have HPS := Aside0.mk (arrOk_len hok).1
      have HDL := Aside0.mk (arrOk_len hok).2
      go_wp2_with (first | ((with_reducible refine gate_dst (N := 40) rfl ?_); refine ev_load rfl 4 (.tmp 39) rfl ⟨gP, 0, none⟩ rfl (.bool false) ((blk_cell (HS.out.blk 0 rfl) 0).trans rfl) (by kernel_rfl) ?_) | ((with_reducible refine gate_dst (N := 74) rfl ?_); refine wpList_load_mid rfl 28 (.tmp 73) rfl gP 1 rfl [.bool false, .slice Q2 psh.length d2, .slice Q3 pdt.length d3] _ (blk_mid3 (HS.out.blk 0 rfl)) Try.underlying28 rfl (by kernel_rfl) ?_) | (go_at_call 116; refine (impl_ArrayOk.calls kk false Q2 d2 psh Q3 d3 pdt true _ (Kd.C_below HC2.out HS.out.below) HL2.out (Kd.C_below HC3.out HS.out.below) HL3.out HAO.out).mono ?_; rintro e wb1 ⟨rfl, hbb1⟩; have nS : Aside0 (Sx w wb1 ((.blk gP #[.bool false, .bool false, .slice Q2 psh.length d2, .slice Q3 pdt.length d3] 66) :: (.row (.slice As S.length cs) S) :: (.blk gG #[.slice (some ⟨gL, 0, none⟩) ps.length ps.length] 117) :: (.blk gL (LC L) 22) :: (.blk gR #[.slice none 0 0, .slice none 0 0] 70) :: (.blk gA #[.bool a, .slice (some ad1) la1.length ca1, .slice Aa2 la2.length ca2] 28) :: LT L)) := Aside0.mk (HS.out.step hbb1); clear HS; have HS := nS; clear nS hbb1) | ((with_reducible refine wpList_guardedB ?hw ?_); (case hw => first | rfl | (go_simp; done))) | ((with_reducible refine gate_dst (N := 80) rfl ?_); refine ev_load rfl 4 (.tmp 79) rfl ⟨gP, 1, none⟩ rfl (.bool false) ((blk_cell (HS.out.blk 0 rfl) 1).trans rfl) (by kernel_rfl) ?_) | ((with_reducible refine gate_dst (N := 85) rfl ?_); refine ev_load rfl 22 (.tmp 84) rfl ⟨gP, 3, none⟩ rfl (.slice Q3 pdt.length d3) ((blk_cell (HS.out.blk 0 rfl) 3).trans rfl) (by kernel_rfl) ?_))
      go_loopw [12, 87] (fun _ z wr => ∃ (t : Nat) (A1_ : Option Addr) (c1_ : Nat), z = .int .i64 (t : Int) ∧ Aside0 (t ≤ pdt.length) ∧ Aside0 ((pdt.take t).all (fun x => decide (1 ≤ x ∧ x ≤ (N : Int))) = true) ∧ Aside0 (Sx w wr ((.blk gP #[.bool false, .bool false, .slice Q2 psh.length d2, .slice Q3 pdt.length d3] 66) :: (.row (.slice As S.length cs) S) :: (.blk gG #[.slice (some ⟨gL, 0, none⟩) ps.length ps.length] 117) :: (.blk gL (LC (L.set j (⟨A1_, t, c1_, ((pdt.take t).map (fun x => x - 1))⟩ : Lw))) 22) :: (.blk gR #[.slice none 0 0, .slice none 0 0] 70) :: (.blk gA #[.bool a, .slice (some ad1) la1.length ca1, .slice Aa2 la2.length ca2] 28) :: LT (L.set j (⟨A1_, t, c1_, ((pdt.take t).map (fun x => x - 1))⟩ : Lw))))) (fun _ z _ => pdt.length - (intOf z).toNat)
      case atStart => exact ⟨0, A0, c0_, rfl, ⟨Nat.zero_le _⟩, ⟨by simp⟩, ⟨by rw [show L.set j (⟨A0, 0, c0_, (pdt.take 0).map (fun x => x - 1)⟩ : Lw) = L from set_same HL.out]; exact HS.out⟩⟩
      case round =>
       clear HS
       obtain ⟨t, A1_, c1_, rfl, ht, HAL, HS⟩ := hrel
       by_cases htl : t < pdt.length
       ·have hdl := HDL.out
        obtain ⟨ad3, eq3, y3⟩ := Kd.at_int (Kd.C_below HC3.out HS.out.below) (t : Int) (by omega) (by omega)
        subst eq3
        rw [Int.toNat_natCast] at y3
        obtain ⟨x_, hx⟩ : ∃ x_, x_ = rd pdt (t : Int) := ⟨_, rfl⟩
        rw [← hx] at y3
        have HX := Aside0.mk hx
        clear hx
        have w2 : IntKind.i64.wrap ((t : Int) + 1) = ((t + 1 : Nat) : Int) := by rw [IntWalk.i64_in _ (by omega)]; omega
        have HW2 := Aside0.mk w2
        clear w2
        have p3 : (t : Int) < (pdt.length : Int) := by omega
        clear hdl
        by_cases hin : 1 ≤ x_ ∧ x_ ≤ (N : Int)
        ·have HIN := Aside0.mk hin
         have HWI := Aside0.mk (within_eqX x_ (N : Int) true (by simpa using hin))
         obtain ⟨v_, hv⟩ : ∃ v_, x_ - 1 = v_ := ⟨_, rfl⟩
         have wv : IntKind.i64.wrap (x_ - 1) = v_ := (IntWalk.i64_in _ (by have := HNB.out; omega)).trans hv
         have HV := Aside0.mk hv
         clear hin hv
         go_upto_region 24 with (first | ((with_reducible refine gate_dst (N := 93) rfl ?_); refine ev_load rfl 22 (.tmp 92) rfl ⟨gA, 1, none⟩ rfl (.slice (some ad1) la1.length ca1) ((blk_cell (HS.out.blk 5 rfl) 1).trans rfl) (by kernel_rfl) ?_) | ((with_reducible refine gate_dst (N := 96) rfl ?_); refine ev_load rfl 3 (.tmp 95) rfl (ad1.add j) rfl (.int .i64 (N : Int)) ((C_at (Kd.C_below Ha1.out HS.out.below) j HJA.out).trans HN1.out) (by kernel_rfl) ?_) | (go_at_call 118; refine (impl_within.calls x_ 1 (N : Int) true _ HWI.out).mono ?_; rintro e wm2 ⟨rfl, hdm2⟩; have hbm2 := Drawn0.below hdm2; clear hdm2; have nS : Aside0 (Sx w wm2 ((.blk gP #[.bool false, .bool false, .slice Q2 psh.length d2, .slice (some ad3) pdt.length d3] 66) :: (.row (.slice As S.length cs) S) :: (.blk gG #[.slice (some ⟨gL, 0, none⟩) ps.length ps.length] 117) :: (.blk gL (LC (L.set j (⟨A1_, t, c1_, ((pdt.take t).map (fun x => x - 1))⟩ : Lw))) 22) :: (.blk gR #[.slice none 0 0, .slice none 0 0] 70) :: (.blk gA #[.bool a, .slice (some ad1) la1.length ca1, .slice Aa2 la2.length ca2] 28) :: LT (L.set j (⟨A1_, t, c1_, ((pdt.take t).map (fun x => x - 1))⟩ : Lw)))) := Aside0.mk (HS.out.step hbm2); clear HS; have HS := nS; clear nS hbm2))
         have nS := Aside0.mk HS.out.drew
         clear HS
         have HS := nS
         clear nS
         refine start_ (n := 12) (S := (fun w' => w'.cell? ⟨gG, 0, none⟩ = some (.slice (some ⟨gL, 0, none⟩) ps.length ps.length) ∧ w'.cell? ⟨gL, j, none⟩ = some (.slice A1_ t c1_))) (ds := [11]) #[false, false, false, false, false, false, false, false, false, false, false, false] (by kernel_rfl) rfl rfl ⟨(blk_cell (HS.out.blk 2 rfl) 0).trans rfl, (blk_cell (HS.out.blk 3 rfl) j).trans (LC_at (⟨A1_, t, c1_, ((pdt.take t).map (fun x => x - 1))⟩ : Lw) HJL.out)⟩ (fun hHeld => ?_)
         refine take_ (i := 0) (N := (some 100)) (v := ?_) (a' := ?_) #[true, false, false, false, false, false, false, false, false, false, false, false] rfl rfl (by kernel_rfl) (fun _ _ _ h => h) (Or.inl ⟨by rfl, ?_⟩) hHeld ?_ ?_
         rotate_left
         ·rintro w' ⟨s0, s1⟩
          go_simp
          with_reducible rfl
         rotate_left
         ·simp only [Act.put, List.setIfInBounds_toArray, List.set_cons_zero, List.set_cons_succ]
          rfl
         refine pure_ (i := 1) (N := (some 101)) (v := ?_) (a' := ?_) #[true, true, false, false, false, false, false, false, false, false, false, false] rfl rfl (by kernel_rfl) (fun _ _ _ h => h) (Or.inl ⟨by rfl, ?_⟩) ?_ ?_
         rotate_left
         ·intro w'
          go_simp
          with_reducible rfl
         rotate_left
         ·simp only [Act.put, List.setIfInBounds_toArray, List.set_cons_zero, List.set_cons_succ]
          rfl
         refine take_ (i := 2) (N := (some 102)) (v := ?_) (a' := ?_) #[true, true, true, false, false, false, false, false, false, false, false, false] rfl rfl (by kernel_rfl) (fun _ _ _ h => h) (Or.inl ⟨by rfl, ?_⟩) hHeld ?_ ?_
         rotate_left
         ·rintro w' ⟨s0, s1⟩
          go_simp
          with_reducible rfl
         rotate_left
         ·simp only [Act.put, List.setIfInBounds_toArray, List.set_cons_zero, List.set_cons_succ]
          rfl
         refine pure_ (i := 3) (N := (some 103)) (v := ?_) (a' := ?_) #[true, true, true, true, false, false, false, false, false, false, false, false] rfl rfl (by kernel_rfl) (fun _ _ _ h => h) (Or.inl ⟨by rfl, ?_⟩) ?_ ?_
         rotate_left
         ·intro w'
          go_simp
          with_reducible rfl
         rotate_left
         ·simp only [Act.put, List.setIfInBounds_toArray, List.set_cons_zero, List.set_cons_succ]
          rfl
         refine pure_ (i := 4) (N := (some 104)) (v := ?_) (a' := ?_) #[true, true, true, true, true, false, false, false, false, false, false, false] rfl rfl (by kernel_rfl) (fun _ _ _ h => h) (Or.inl ⟨by rfl, ?_⟩) ?_ ?_
         rotate_left
         ·intro w'
          go_simp
          with_reducible rfl
         rotate_left
         ·simp only [Act.put, List.setIfInBounds_toArray, List.set_cons_zero, List.set_cons_succ]
          rfl
         refine take_ (i := 5) (N := (some 105)) (v := ?_) (a' := ?_) #[true, true, true, true, true, true, false, false, false, false, false, false] rfl rfl (by kernel_rfl) (fun _ _ _ h => h) (Or.inl ⟨by rfl, ?_⟩) hHeld ?_ ?_
         rotate_left
         ·rintro w' ⟨s0, s1⟩
          go_simp
          with_reducible rfl
         rotate_left
         ·simp only [Act.put, List.setIfInBounds_toArray, List.set_cons_zero, List.set_cons_succ]
          rfl
         refine pure_ (i := 6) (N := (some 106)) (v := ?_) (a' := ?_) #[true, true, true, true, true, true, true, false, false, false, false, false] rfl rfl (by kernel_rfl) (fun _ _ _ h => h) (Or.inl ⟨by rfl, ?_⟩) ?_ ?_
         rotate_left
         ·intro w'
          go_simp
          with_reducible rfl
         rotate_left
         ·simp only [Act.put, List.setIfInBounds_toArray, List.set_cons_zero, List.set_cons_succ]
          rfl
         refine pure_ (i := 7) (N := (some 107)) (v := ?_) (a' := ?_) #[true, true, true, true, true, true, true, true, false, false, false, false] rfl rfl (by kernel_rfl) (fun _ _ _ h => h) (Or.inl ⟨by rfl, ?_⟩) ?_ ?_
         rotate_left
         ·intro w'
          go_simp
          with_reducible rfl
         rotate_left
         ·simp only [Act.put, List.setIfInBounds_toArray, List.set_cons_zero, List.set_cons_succ]
          rfl
         refine one_ (i := 8) (N := (some 108)) #[true, true, true, true, true, true, true, true, true, false, false, false] rfl rfl (by kernel_rfl) (by decide) (fun K hK => ?_)
         refine lit_step (by rfl) rfl #[.int .i64 v_] 3 1 (by first | (go_simp; done) | (go_simp; rfl)) ?_
         intro gM wM hgM hxM hbM
         have nS : Aside0 (Sx w wM ((.blk gM #[.int .i64 v_] 3) :: (.blk gP #[.bool false, .bool false, .slice Q2 psh.length d2, .slice (some ad3) pdt.length d3] 66) :: (.row (.slice As S.length cs) S) :: (.blk gG #[.slice (some ⟨gL, 0, none⟩) ps.length ps.length] 117) :: (.blk gL (LC (L.set j (⟨A1_, t, c1_, ((pdt.take t).map (fun x => x - 1))⟩ : Lw))) 22) :: (.blk gR #[.slice none 0 0, .slice none 0 0] 70) :: (.blk gA #[.bool a, .slice (some ad1) la1.length ca1, .slice Aa2 la2.length ca2] 28) :: LT (L.set j (⟨A1_, t, c1_, ((pdt.take t).map (fun x => x - 1))⟩ : Lw)))) := Aside0.mk (HS.out.box hgM.symm hxM hbM)
         clear HS hgM hxM hbM
         have HS := nS
         clear nS
         refine hK.out _ _ ⟨(blk_cell (HS.out.blk 3 rfl) 0).trans rfl, (blk_cell (HS.out.blk 4 rfl) j).trans (LC_at (⟨A1_, t, c1_, ((pdt.take t).map (fun x => x - 1))⟩ : Lw) HJL.out)⟩ (fun hHeld => ?_)
         clear hK K
         refine norm_ (a' := ?_) ?_ ?_
         rotate_left
         ·show Act.put _ (some 108) _ = _
          simp only [Act.put, List.setIfInBounds_toArray, List.set_cons_zero, List.set_cons_succ]
          rfl
         refine one_ (i := 9) (N := (some 109)) #[true, true, true, true, true, true, true, true, true, true, false, false] rfl rfl (by kernel_rfl) (by decide) (fun K hK => ?_)
         refine HS.out.appendRows_step (j + 7) (LT_get (set_at (⟨A1_, t, c1_, ((pdt.take t).map (fun x => x - 1))⟩ : Lw) HJL.out)) t (t + 1) (by rw [List.length_map, List.length_take, Nat.min_eq_left (Nat.le_of_lt htl)]) (by rfl) (.tmp 105) (.tmp 108) rfl Try.underlying22 info3 (some ⟨gM, 0, none⟩) 1 1 [v_] _ rfl rfl rfl (rowI_C (l := [v_]) (HS.out.blk 0 rfl) (by simp)) rfl rfl (by have := HDL.out; omega) ?_
         intro A2_ c2_ wJ nJ
         have nS : Aside0 (Sx w wJ ((.blk gM #[.int .i64 v_] 3) :: (.blk gP #[.bool false, .bool false, .slice Q2 psh.length d2, .slice (some ad3) pdt.length d3] 66) :: (.row (.slice As S.length cs) S) :: (.blk gG #[.slice (some ⟨gL, 0, none⟩) ps.length ps.length] 117) :: (.blk gL (LC (L.set j (⟨A1_, t, c1_, ((pdt.take t).map (fun x => x - 1))⟩ : Lw))) 22) :: (.blk gR #[.slice none 0 0, .slice none 0 0] 70) :: (.blk gA #[.bool a, .slice (some ad1) la1.length ca1, .slice Aa2 la2.length ca2] 28) :: LT (L.set j (⟨A2_, t + 1, c2_, ((pdt.take t).map (fun x => x - 1)) ++ [v_]⟩ : Lw)))) := Aside0.mk (Eq.mp (congrArg (fun t_ => Sx w wJ ((.blk gM #[.int .i64 v_] 3) :: (.blk gP #[.bool false, .bool false, .slice Q2 psh.length d2, .slice (some ad3) pdt.length d3] 66) :: (.row (.slice As S.length cs) S) :: (.blk gG #[.slice (some ⟨gL, 0, none⟩) ps.length ps.length] 117) :: (.blk gL (LC (L.set j (⟨A1_, t, c1_, ((pdt.take t).map (fun x => x - 1))⟩ : Lw))) 22) :: (.blk gR #[.slice none 0 0, .slice none 0 0] 70) :: (.blk gA #[.bool a, .slice (some ad1) la1.length ca1, .slice Aa2 la2.length ca2] 28) :: t_)) (set_tail (L := L) (j := j) (x := (⟨A1_, t, c1_, ((pdt.take t).map (fun x => x - 1))⟩ : Lw)) (y := (⟨A2_, t + 1, c2_, ((pdt.take t).map (fun x => x - 1)) ++ [v_]⟩ : Lw)))) nJ)
         clear HS nJ
         have HS := nS
         clear nS
         refine hK.out _ _ ⟨(blk_cell (HS.out.blk 3 rfl) 0).trans rfl, (blk_cell (HS.out.blk 4 rfl) j).trans (LC_at (⟨A1_, t, c1_, ((pdt.take t).map (fun x => x - 1))⟩ : Lw) HJL.out)⟩ (fun hHeld => ?_)
         clear hK K
         refine norm_ (a' := ?_) ?_ ?_
         rotate_left
         ·show Act.put _ (some 109) _ = _
          simp only [Act.put, List.setIfInBounds_toArray, List.set_cons_zero, List.set_cons_succ]
          rfl
         refine pure_ (i := 10) (N := (some 110)) (v := ?_) (a' := ?_) #[true, true, true, true, true, true, true, true, true, true, true, false] rfl rfl (by kernel_rfl) (fun _ _ _ h => h) (Or.inl ⟨by rfl, ?_⟩) ?_ ?_
         rotate_left
         ·intro w'
          go_simp
          with_reducible rfl
         rotate_left
         ·simp only [Act.put, List.setIfInBounds_toArray, List.set_cons_zero, List.set_cons_succ]
          rfl
         refine last_ (i := 11) (N := none) #[true, true, true, true, true, true, true, true, true, true, true, true] rfl rfl (by kernel_rfl) (by decide) (fun K hK => ?_)
         refine store_cell_step (by rfl) 22 (.tmp 110) (.tmp 109) rfl gL j rfl (.slice A2_ (t + 1) c2_) rfl (LC (L.set j (⟨A1_, t, c1_, ((pdt.take t).map (fun x => x - 1))⟩ : Lw))) 22 (HS.out.blk 4 rfl) (by rw [LC_size, List.length_set]; exact HJL.out) rfl (by kernel_rfl) ?_
         intro wz hxz hbz
         have nS : Aside0 (Sx w wz ((.blk gM #[.int .i64 v_] 3) :: (.blk gP #[.bool false, .bool false, .slice Q2 psh.length d2, .slice (some ad3) pdt.length d3] 66) :: (.row (.slice As S.length cs) S) :: (.blk gG #[.slice (some ⟨gL, 0, none⟩) ps.length ps.length] 117) :: (.blk gL (LC (L.set j (⟨A2_, t + 1, c2_, ((pdt.take t).map (fun x => x - 1)) ++ [v_]⟩ : Lw))) 22) :: (.blk gR #[.slice none 0 0, .slice none 0 0] 70) :: (.blk gA #[.bool a, .slice (some ad1) la1.length ca1, .slice Aa2 la2.length ca2] 28) :: LT (L.set j (⟨A2_, t + 1, c2_, ((pdt.take t).map (fun x => x - 1)) ++ [v_]⟩ : Lw)))) := Aside0.mk (by have h_ := HS.out.put 4 rfl hxz hbz; rw [show (LC (L.set j (⟨A1_, t, c1_, ((pdt.take t).map (fun x => x - 1))⟩ : Lw))).setIfInBounds j (.slice A2_ (t + 1) c2_) = LC (L.set j (⟨A2_, t + 1, c2_, ((pdt.take t).map (fun x => x - 1)) ++ [v_]⟩ : Lw)) from by rw [show (Value.slice A2_ (t + 1) c2_) = Lw.v (⟨A2_, t + 1, c2_, ((pdt.take t).map (fun x => x - 1)) ++ [v_]⟩ : Lw) from rfl, LC_set, List.set_set]] at h_; exact h_)
         clear HS hxz hbz
         have HS := nS
         clear nS
         refine hK.out _ _ ?_
         clear hK K
         refine done_ (by kernel_rfl) ?_
         go_simp
         clear wv
         have w2 := HW2.out
         go_wp2
         go_roundw
         case rel =>
          refine ⟨t + 1, A2_, c2_, by first | rfl | (push_cast; rfl), ⟨htl⟩, ⟨?_⟩, ⟨?_⟩⟩
          ·rw [take_succX pdt t htl, List.all_append, HAL.out, ← HX.out]; simpa using HIN.out
          ·have h_ := HS.out.sub (List.sublist_cons_self _ _)
           rw [take_succX pdt t htl, List.map_append, ← HX.out, List.map_cons, List.map_nil, HV.out]
           exact h_
         case measure => simp [intOf]; omega
        ·have HIN := Aside0.mk hin
         have HWI := Aside0.mk (within_eqX x_ (N : Int) false (by simpa using hin))
         clear hin
         go_wp2_with (first | ((with_reducible refine gate_dst (N := 93) rfl ?_); refine ev_load rfl 22 (.tmp 92) rfl ⟨gA, 1, none⟩ rfl (.slice (some ad1) la1.length ca1) ((blk_cell (HS.out.blk 5 rfl) 1).trans rfl) (by kernel_rfl) ?_) | ((with_reducible refine gate_dst (N := 96) rfl ?_); refine ev_load rfl 3 (.tmp 95) rfl (ad1.add j) rfl (.int .i64 (N : Int)) ((C_at (Kd.C_below Ha1.out HS.out.below) j HJA.out).trans HN1.out) (by kernel_rfl) ?_) | (go_at_call 118; refine (impl_within.calls x_ 1 (N : Int) false _ HWI.out).mono ?_; rintro e wm2 ⟨rfl, hdm2⟩; have hbm2 := Drawn0.below hdm2; clear hdm2; have nS : Aside0 (Sx w wm2 ((.blk gP #[.bool false, .bool false, .slice Q2 psh.length d2, .slice (some ad3) pdt.length d3] 66) :: (.row (.slice As S.length cs) S) :: (.blk gG #[.slice (some ⟨gL, 0, none⟩) ps.length ps.length] 117) :: (.blk gL (LC (L.set j (⟨A1_, t, c1_, ((pdt.take t).map (fun x => x - 1))⟩ : Lw))) 22) :: (.blk gR #[.slice none 0 0, .slice none 0 0] 70) :: (.blk gA #[.bool a, .slice (some ad1) la1.length ca1, .slice Aa2 la2.length ca2] 28) :: LT (L.set j (⟨A1_, t, c1_, ((pdt.take t).map (fun x => x - 1))⟩ : Lw)))) := Aside0.mk (HS.out.step hbm2); clear HS; have HS := nS; clear nS hbm2) | ((with_reducible refine gate_store rfl ?_); refine store_named rfl 70 (.tmp 4) (.tmp 99) rfl gR #[.slice none 0 0, .slice none 0 0] rfl rfl 70 #[.slice none 0 0, .slice none 0 0] (HS.out.blk 4 rfl) (by kernel_rfl) rfl (by simp [Value.oneCell']) ?_; intro wqm3 hxqm3 hbqm3; have nS : Aside0 (Sx w wqm3 ((.blk gP #[.bool false, .bool false, .slice Q2 psh.length d2, .slice (some ad3) pdt.length d3] 66) :: (.row (.slice As S.length cs) S) :: (.blk gG #[.slice (some ⟨gL, 0, none⟩) ps.length ps.length] 117) :: (.blk gL (LC (L.set j (⟨A1_, t, c1_, ((pdt.take t).map (fun x => x - 1))⟩ : Lw))) 22) :: (.blk gR #[.slice none 0 0, .slice none 0 0] 70) :: (.blk gA #[.bool a, .slice (some ad1) la1.length ca1, .slice Aa2 la2.length ca2] 28) :: LT (L.set j (⟨A1_, t, c1_, ((pdt.take t).map (fun x => x - 1))⟩ : Lw)))) := Aside0.mk (HS.out.put 4 rfl hxqm3 hbqm3); clear HS; have HS := nS; clear nS hxqm3 hbqm3))
         refine ⟨_, results_ct rfl _ _ gR 70 #[.slice none 0 0, .slice none 0 0] (0, 0) _ rfl (HS.out.blk 4 rfl) Try.underlying70 rfl (by kernel_rfl), ?_⟩
         exact MovePost.bad (HI.out.stop HN.out hlt (c := 6) (by rw [HPJ.out, HN0.out]; unfold pickC; rw [if_neg Bool.false_ne_true, if_pos ⟨hok, rfl⟩, if_neg (not_all HX.out htl HIN.out)]) (by decide)) (by decide) HS.out.below
       ·obtain rfl : t = pdt.length := by have := ht.out; omega
        rw [List.take_length] at HAL HS
        have p3 : ¬ (pdt.length : Int) < (pdt.length : Int) := by omega
        have w1 := HW1.out
        go_wp2_with (first | ((with_reducible refine gate_dst (N := 115) rfl ?_); refine ev_load rfl 22 (.tmp 114) rfl ⟨gP, 2, none⟩ rfl (.slice Q2 psh.length d2) ((blk_cell (HS.out.blk 0 rfl) 2).trans rfl) (by kernel_rfl) ?_) | ((with_reducible refine gate_dst (N := 116) rfl ?_); refine HS.out.appendRows 1 rfl S.length (S.length + psh.length) rfl rfl (.tmp 112) (.tmp 115) rfl Try.underlying22 info3 Q2 psh.length d2 psh _ rfl rfl rfl (Kd.C_below HC2.out HS.out.below) rfl rfl (by have := HI.out.sl; have := HI.out.le; have := H5.out; have := HN.out; have := HPS.out; omega) ?_; intro A2_ c2_ wS nJ; have nS : Aside0 (Sx w wS ((.blk gP #[.bool false, .bool false, .slice Q2 psh.length d2, .slice Q3 pdt.length d3] 66) :: (.row (.slice A2_ (S.length + psh.length) c2_) (S ++ psh)) :: (.blk gG #[.slice (some ⟨gL, 0, none⟩) ps.length ps.length] 117) :: (.blk gL (LC (L.set j (⟨A1_, pdt.length, c1_, (pdt.map (fun x => x - 1))⟩ : Lw))) 22) :: (.blk gR #[.slice none 0 0, .slice none 0 0] 70) :: (.blk gA #[.bool a, .slice (some ad1) la1.length ca1, .slice Aa2 la2.length ca2] 28) :: LT (L.set j (⟨A1_, pdt.length, c1_, (pdt.map (fun x => x - 1))⟩ : Lw)))) := Aside0.mk nJ; clear HS nJ; have HS := nS; clear nS))
        go_roundw
        case rel =>
         refine ⟨j + 1, (L.set j (⟨A1_, pdt.length, c1_, (pdt.map (fun x => x - 1))⟩ : Lw)), A2_, c2_, S ++ psh, by first | rfl | (push_cast; rfl), by rw [List.length_append], ⟨HI.out.next HN.out hlt HR.out (x := ⟨A1_, pdt.length, c1_, (pdt.map (fun x => x - 1))⟩) ?_ _ ?_ (by rw [List.length_append]; have := HPS.out; omega)⟩, ⟨?_⟩⟩
         ·rw [HPJ.out, HN0.out]; unfold pickC; rw [if_neg Bool.false_ne_true, if_pos ⟨hok, rfl⟩, if_pos HAL.out]
         ·rw [HPJ.out]; rfl
         ·have h_ := HS.out.sub (List.sublist_cons_self _ _)
          rw [List.length_append]
          exact h_
        case measure => simp [intOf]; omega
     ·go_wp2_with (first | ((with_reducible refine gate_dst (N := 40) rfl ?_); refine ev_load rfl 4 (.tmp 39) rfl ⟨gP, 0, none⟩ rfl (.bool false) ((blk_cell (HS.out.blk 0 rfl) 0).trans rfl) (by kernel_rfl) ?_) | ((with_reducible refine gate_dst (N := 74) rfl ?_); refine wpList_load_mid rfl 28 (.tmp 73) rfl gP 1 rfl [.bool true, .slice Q2 psh.length d2, .slice Q3 pdt.length d3] _ (blk_mid3 (HS.out.blk 0 rfl)) Try.underlying28 rfl (by kernel_rfl) ?_) | (go_at_call 116; refine (impl_ArrayOk.calls kk true Q2 d2 psh Q3 d3 pdt true _ (Kd.C_below HC2.out HS.out.below) HL2.out (Kd.C_below HC3.out HS.out.below) HL3.out HAO.out).mono ?_; rintro e wb1 ⟨rfl, hbb1⟩; have nS : Aside0 (Sx w wb1 ((.blk gP #[.bool false, .bool true, .slice Q2 psh.length d2, .slice Q3 pdt.length d3] 66) :: (.row (.slice As S.length cs) S) :: (.blk gG #[.slice (some ⟨gL, 0, none⟩) ps.length ps.length] 117) :: (.blk gL (LC L) 22) :: (.blk gR #[.slice none 0 0, .slice none 0 0] 70) :: (.blk gA #[.bool a, .slice (some ad1) la1.length ca1, .slice Aa2 la2.length ca2] 28) :: LT L)) := Aside0.mk (HS.out.step hbb1); clear HS; have HS := nS; clear nS hbb1) | ((with_reducible refine wpList_guardedB ?hw ?_); (case hw => first | rfl | (go_simp; done))) | ((with_reducible refine gate_dst (N := 80) rfl ?_); refine ev_load rfl 4 (.tmp 79) rfl ⟨gP, 1, none⟩ rfl (.bool true) ((blk_cell (HS.out.blk 0 rfl) 1).trans rfl) (by kernel_rfl) ?_) | ((with_reducible refine gate_store rfl ?_); refine store_named rfl 70 (.tmp 4) (.tmp 82) rfl gR #[.slice none 0 0, .slice none 0 0] rfl rfl 70 #[.slice none 0 0, .slice none 0 0] (HS.out.blk 4 rfl) (by kernel_rfl) rfl (by simp [Value.oneCell']) ?_; intro wqb2 hxqb2 hbqb2; have nS : Aside0 (Sx w wqb2 ((.blk gP #[.bool false, .bool true, .slice Q2 psh.length d2, .slice Q3 pdt.length d3] 66) :: (.row (.slice As S.length cs) S) :: (.blk gG #[.slice (some ⟨gL, 0, none⟩) ps.length ps.length] 117) :: (.blk gL (LC L) 22) :: (.blk gR #[.slice none 0 0, .slice none 0 0] 70) :: (.blk gA #[.bool a, .slice (some ad1) la1.length ca1, .slice Aa2 la2.length ca2] 28) :: LT L)) := Aside0.mk (HS.out.put 4 rfl hxqb2 hbqb2); clear HS; have HS := nS; clear nS hxqb2 hbqb2))
      refine ⟨_, results_ct rfl _ _ gR 70 #[.slice none 0 0, .slice none 0 0] (0, 0) _ rfl (HS.out.blk 4 rfl) Try.underlying70 rfl (by kernel_rfl), ?_⟩
      exact MovePost.bad (HI.out.stop HN.out hlt (c := 3) (by rw [HPJ.out, HN0.out]; unfold pickC; rw [if_neg Bool.false_ne_true, if_neg (by simp)]) (by decide)) (by decide) HS.out.below
   ·obtain ⟨bd_, hbd⟩ : ∃ b, b = !pickBad ⟨true, pb, psh, pdt⟩ := ⟨_, rfl⟩
    have HNO := Aside0.mk (nothing_eq pb psh pdt bd_ hbd)
    have HBD := Aside0.mk hbd
    clear hbd
    cases bd_
    ·go_wp2_with (first | ((with_reducible refine gate_dst (N := 40) rfl ?_); refine ev_load rfl 4 (.tmp 39) rfl ⟨gP, 0, none⟩ rfl (.bool true) ((blk_cell (HS.out.blk 0 rfl) 0).trans rfl) (by kernel_rfl) ?_) | ((with_reducible refine gate_dst (N := 42) rfl ?_); refine wpList_load_mid rfl 28 (.tmp 41) rfl gP 1 rfl [.bool pb, .slice Q2 psh.length d2, .slice Q3 pdt.length d3] _ (blk_mid3 (HS.out.blk 0 rfl)) Try.underlying28 rfl (by kernel_rfl) ?_) | (go_at_call 117; refine (impl_Array_nothing.calls pb Q2 d2 psh Q3 d3 pdt false _ (Kd.C_below HC2.out HS.out.below) HL2.out (Kd.C_below HC3.out HS.out.below) HL3.out HNO.out).mono ?_; rintro e wa1 ⟨rfl, hba1⟩; have nS : Aside0 (Sx w wa1 ((.blk gP #[.bool true, .bool pb, .slice Q2 psh.length d2, .slice Q3 pdt.length d3] 66) :: (.row (.slice As S.length cs) S) :: (.blk gG #[.slice (some ⟨gL, 0, none⟩) ps.length ps.length] 117) :: (.blk gL (LC L) 22) :: (.blk gR #[.slice none 0 0, .slice none 0 0] 70) :: (.blk gA #[.bool a, .slice (some ad1) la1.length ca1, .slice Aa2 la2.length ca2] 28) :: LT L)) := Aside0.mk (HS.out.step hba1); clear HS; have HS := nS; clear nS hba1) | ((with_reducible refine gate_store rfl ?_); refine store_named rfl 70 (.tmp 4) (.tmp 45) rfl gR #[.slice none 0 0, .slice none 0 0] rfl rfl 70 #[.slice none 0 0, .slice none 0 0] (HS.out.blk 4 rfl) (by kernel_rfl) rfl (by simp [Value.oneCell']) ?_; intro wqa2 hxqa2 hbqa2; have nS : Aside0 (Sx w wqa2 ((.blk gP #[.bool true, .bool pb, .slice Q2 psh.length d2, .slice Q3 pdt.length d3] 66) :: (.row (.slice As S.length cs) S) :: (.blk gG #[.slice (some ⟨gL, 0, none⟩) ps.length ps.length] 117) :: (.blk gL (LC L) 22) :: (.blk gR #[.slice none 0 0, .slice none 0 0] 70) :: (.blk gA #[.bool a, .slice (some ad1) la1.length ca1, .slice Aa2 la2.length ca2] 28) :: LT L)) := Aside0.mk (HS.out.put 4 rfl hxqa2 hbqa2); clear HS; have HS := nS; clear nS hxqa2 hbqa2))
     refine ⟨_, results_ct rfl _ _ gR 70 #[.slice none 0 0, .slice none 0 0] (0, 0) _ rfl (HS.out.blk 4 rfl) Try.underlying70 rfl (by kernel_rfl), ?_⟩
     exact MovePost.bad (HI.out.stop HN.out hlt (c := 3) (by rw [HPJ.out, HN0.out]; unfold pickC; rw [if_pos rfl, if_pos (by simpa using HBD.out.symm)]) (by decide)) (by decide) HS.out.below
    ·go_wp2_with (first | ((with_reducible refine gate_dst (N := 40) rfl ?_); refine ev_load rfl 4 (.tmp 39) rfl ⟨gP, 0, none⟩ rfl (.bool true) ((blk_cell (HS.out.blk 0 rfl) 0).trans rfl) (by kernel_rfl) ?_) | ((with_reducible refine gate_dst (N := 42) rfl ?_); refine wpList_load_mid rfl 28 (.tmp 41) rfl gP 1 rfl [.bool pb, .slice Q2 psh.length d2, .slice Q3 pdt.length d3] _ (blk_mid3 (HS.out.blk 0 rfl)) Try.underlying28 rfl (by kernel_rfl) ?_) | (go_at_call 117; refine (impl_Array_nothing.calls pb Q2 d2 psh Q3 d3 pdt true _ (Kd.C_below HC2.out HS.out.below) HL2.out (Kd.C_below HC3.out HS.out.below) HL3.out HNO.out).mono ?_; rintro e wa1 ⟨rfl, hba1⟩; have nS : Aside0 (Sx w wa1 ((.blk gP #[.bool true, .bool pb, .slice Q2 psh.length d2, .slice Q3 pdt.length d3] 66) :: (.row (.slice As S.length cs) S) :: (.blk gG #[.slice (some ⟨gL, 0, none⟩) ps.length ps.length] 117) :: (.blk gL (LC L) 22) :: (.blk gR #[.slice none 0 0, .slice none 0 0] 70) :: (.blk gA #[.bool a, .slice (some ad1) la1.length ca1, .slice Aa2 la2.length ca2] 28) :: LT L)) := Aside0.mk (HS.out.step hba1); clear HS; have HS := nS; clear nS hba1) | ((with_reducible refine gate_dst (N := 48) rfl ?_); refine ev_load rfl 22 (.tmp 47) rfl ⟨gA, 1, none⟩ rfl (.slice (some ad1) la1.length ca1) ((blk_cell (HS.out.blk 5 rfl) 1).trans rfl) (by kernel_rfl) ?_) | ((with_reducible refine gate_dst (N := 51) rfl ?_); refine ev_load rfl 3 (.tmp 50) rfl (ad1.add j) rfl (.int .i64 (N : Int)) ((C_at (Kd.C_below Ha1.out HS.out.below) j HJA.out).trans HN1.out) (by kernel_rfl) ?_) | ((with_reducible refine gate_dst (N := 52) rfl ?_); refine lit_event ?hg (N := 52) ?hd (cs := #[.int .i64 (N : Int)]) (t := 3) (n := 1) ?hr ?_; (case hd => rfl); (case hg => rfl); (case hr => first | (go_simp; done) | (go_simp; rfl)); intro gV hga2 wa2 hxa2 hba2; have nS : Aside0 (Sx w wa2 ((.blk gV #[.int .i64 (N : Int)] 3) :: (.blk gP #[.bool true, .bool pb, .slice Q2 psh.length d2, .slice Q3 pdt.length d3] 66) :: (.row (.slice As S.length cs) S) :: (.blk gG #[.slice (some ⟨gL, 0, none⟩) ps.length ps.length] 117) :: (.blk gL (LC L) 22) :: (.blk gR #[.slice none 0 0, .slice none 0 0] 70) :: (.blk gA #[.bool a, .slice (some ad1) la1.length ca1, .slice Aa2 la2.length ca2] 28) :: LT L)) := Aside0.mk (HS.out.box hga2 hxa2 hba2); clear HS; have HS := nS; clear nS hga2 hxa2 hba2) | ((with_reducible refine gate_dst (N := 53) rfl ?_); refine HS.out.appendRows 2 rfl S.length (S.length + 1) rfl rfl (.tmp 46) (.tmp 52) rfl Try.underlying22 info3 (some ⟨gV, 0, none⟩) 1 1 [(N : Int)] _ rfl rfl rfl (rowI_C (l := [(N : Int)]) (HS.out.blk 0 rfl) (by simp)) rfl rfl (by have := HI.out.sl; have := HI.out.le; have := H5.out; have := HN.out; omega) ?_; intro A2_ c2_ wS nJ; have nS : Aside0 (Sx w wS ((.blk gV #[.int .i64 (N : Int)] 3) :: (.blk gP #[.bool true, .bool pb, .slice Q2 psh.length d2, .slice Q3 pdt.length d3] 66) :: (.row (.slice A2_ (S.length + 1) c2_) (S ++ [(N : Int)])) :: (.blk gG #[.slice (some ⟨gL, 0, none⟩) ps.length ps.length] 117) :: (.blk gL (LC L) 22) :: (.blk gR #[.slice none 0 0, .slice none 0 0] 70) :: (.blk gA #[.bool a, .slice (some ad1) la1.length ca1, .slice Aa2 la2.length ca2] 28) :: LT L)) := Aside0.mk nJ; clear HS nJ; have HS := nS; clear nS) | ((with_reducible refine gate_dst (N := 55) rfl ?_); refine ev_load rfl 22 (.tmp 54) rfl ⟨gA, 1, none⟩ rfl (.slice (some ad1) la1.length ca1) ((blk_cell (HS.out.blk 6 rfl) 1).trans rfl) (by kernel_rfl) ?_) | ((with_reducible refine gate_dst (N := 58) rfl ?_); refine ev_load rfl 3 (.tmp 57) rfl (ad1.add j) rfl (.int .i64 (N : Int)) ((C_at (Kd.C_below Ha1.out HS.out.below) j HJA.out).trans HN1.out) (by kernel_rfl) ?_))
     obtain ⟨As2, eA2⟩ : ∃ x, x = A2_ := ⟨_, rfl⟩
     subst eA2
     obtain ⟨cs2, ec2⟩ : ∃ x, x = c2_ := ⟨_, rfl⟩
     subst ec2
     have nS : Aside0 (Sx w _ ((.blk gP #[.bool true, .bool pb, .slice Q2 psh.length d2, .slice Q3 pdt.length d3] 66) :: (.row (.slice As2 (S.length + 1) cs2) (S ++ [(N : Int)])) :: (.blk gG #[.slice (some ⟨gL, 0, none⟩) ps.length ps.length] 117) :: (.blk gL (LC L) 22) :: (.blk gR #[.slice none 0 0, .slice none 0 0] 70) :: (.blk gA #[.bool a, .slice (some ad1) la1.length ca1, .slice Aa2 la2.length ca2] 28) :: LT L)) := Aside0.mk (HS.out.sub (List.sublist_cons_self _ _))
     clear HS
     have HS := nS
     clear nS
     go_loopw [10, 59] (fun _ z wr => ∃ (i : Nat) (A1_ : Option Addr) (c1_ : Nat), z = .int .i64 (i : Int) ∧ Aside0 (i ≤ N) ∧ Aside0 (Sx w wr ((.blk gP #[.bool true, .bool pb, .slice Q2 psh.length d2, .slice Q3 pdt.length d3] 66) :: (.row (.slice As2 (S.length + 1) cs2) (S ++ [(N : Int)])) :: (.blk gG #[.slice (some ⟨gL, 0, none⟩) ps.length ps.length] 117) :: (.blk gL (LC (L.set j (⟨A1_, i, c1_, upN i⟩ : Lw))) 22) :: (.blk gR #[.slice none 0 0, .slice none 0 0] 70) :: (.blk gA #[.bool a, .slice (some ad1) la1.length ca1, .slice Aa2 la2.length ca2] 28) :: LT (L.set j (⟨A1_, i, c1_, upN i⟩ : Lw))))) (fun _ z _ => N - (intOf z).toNat)
     case atStart => exact ⟨0, A0, c0_, rfl, ⟨Nat.zero_le _⟩, ⟨by rw [show L.set j (⟨A0, 0, c0_, upN 0⟩ : Lw) = L from set_same HL.out]; exact HS.out⟩⟩
     case round =>
      clear HS
      obtain ⟨i, A1_, c1_, rfl, hi, HS⟩ := hrel
      by_cases hil : i < N
      ·have w2 : IntKind.i64.wrap ((i : Int) + 1) = ((i + 1 : Nat) : Int) := by rw [IntWalk.i64_in _ (by have := HNB.out; omega)]; omega
       have p3 : (i : Int) < (N : Int) := by omega
       go_upto_region 15 with fail
       have nS := Aside0.mk HS.out.drew
       clear HS
       have HS := nS
       clear nS
       refine start_ (n := 11) (S := (fun w' => w'.cell? ⟨gG, 0, none⟩ = some (.slice (some ⟨gL, 0, none⟩) ps.length ps.length) ∧ w'.cell? ⟨gL, j, none⟩ = some (.slice A1_ i c1_))) (ds := [10]) #[false, false, false, false, false, false, false, false, false, false, false] (by kernel_rfl) rfl rfl ⟨(blk_cell (HS.out.blk 2 rfl) 0).trans rfl, (blk_cell (HS.out.blk 3 rfl) j).trans (LC_at (⟨A1_, i, c1_, (upN i)⟩ : Lw) HJL.out)⟩ (fun hHeld => ?_)
       refine take_ (i := 0) (N := (some 62)) (v := ?_) (a' := ?_) #[true, false, false, false, false, false, false, false, false, false, false] rfl rfl (by kernel_rfl) (fun _ _ _ h => h) (Or.inl ⟨by rfl, ?_⟩) hHeld ?_ ?_
       rotate_left
       ·rintro w' ⟨s0, s1⟩
        go_simp
        with_reducible rfl
       rotate_left
       ·simp only [Act.put, List.setIfInBounds_toArray, List.set_cons_zero, List.set_cons_succ]
        rfl
       refine pure_ (i := 1) (N := (some 63)) (v := ?_) (a' := ?_) #[true, true, false, false, false, false, false, false, false, false, false] rfl rfl (by kernel_rfl) (fun _ _ _ h => h) (Or.inl ⟨by rfl, ?_⟩) ?_ ?_
       rotate_left
       ·intro w'
        go_simp
        with_reducible rfl
       rotate_left
       ·simp only [Act.put, List.setIfInBounds_toArray, List.set_cons_zero, List.set_cons_succ]
        rfl
       refine take_ (i := 2) (N := (some 64)) (v := ?_) (a' := ?_) #[true, true, true, false, false, false, false, false, false, false, false] rfl rfl (by kernel_rfl) (fun _ _ _ h => h) (Or.inl ⟨by rfl, ?_⟩) hHeld ?_ ?_
       rotate_left
       ·rintro w' ⟨s0, s1⟩
        go_simp
        with_reducible rfl
       rotate_left
       ·simp only [Act.put, List.setIfInBounds_toArray, List.set_cons_zero, List.set_cons_succ]
        rfl
       refine pure_ (i := 3) (N := (some 65)) (v := ?_) (a' := ?_) #[true, true, true, true, false, false, false, false, false, false, false] rfl rfl (by kernel_rfl) (fun _ _ _ h => h) (Or.inl ⟨by rfl, ?_⟩) ?_ ?_
       rotate_left
       ·intro w'
        go_simp
        with_reducible rfl
       rotate_left
       ·simp only [Act.put, List.setIfInBounds_toArray, List.set_cons_zero, List.set_cons_succ]
        rfl
       refine pure_ (i := 4) (N := (some 66)) (v := ?_) (a' := ?_) #[true, true, true, true, true, false, false, false, false, false, false] rfl rfl (by kernel_rfl) (fun _ _ _ h => h) (Or.inl ⟨by rfl, ?_⟩) ?_ ?_
       rotate_left
       ·intro w'
        go_simp
        with_reducible rfl
       rotate_left
       ·simp only [Act.put, List.setIfInBounds_toArray, List.set_cons_zero, List.set_cons_succ]
        rfl
       refine take_ (i := 5) (N := (some 67)) (v := ?_) (a' := ?_) #[true, true, true, true, true, true, false, false, false, false, false] rfl rfl (by kernel_rfl) (fun _ _ _ h => h) (Or.inl ⟨by rfl, ?_⟩) hHeld ?_ ?_
       rotate_left
       ·rintro w' ⟨s0, s1⟩
        go_simp
        with_reducible rfl
       rotate_left
       ·simp only [Act.put, List.setIfInBounds_toArray, List.set_cons_zero, List.set_cons_succ]
        rfl
       refine pure_ (i := 6) (N := (some 68)) (v := ?_) (a' := ?_) #[true, true, true, true, true, true, true, false, false, false, false] rfl rfl (by kernel_rfl) (fun _ _ _ h => h) (Or.inl ⟨by rfl, ?_⟩) ?_ ?_
       rotate_left
       ·intro w'
        go_simp
        with_reducible rfl
       rotate_left
       ·simp only [Act.put, List.setIfInBounds_toArray, List.set_cons_zero, List.set_cons_succ]
        rfl
       refine one_ (i := 7) (N := (some 69)) #[true, true, true, true, true, true, true, true, false, false, false] rfl rfl (by kernel_rfl) (by decide) (fun K hK => ?_)
       refine lit_step (by rfl) rfl #[.int .i64 (i : Int)] 3 1 (by first | (go_simp; done) | (go_simp; rfl)) ?_
       intro gM wM hgM hxM hbM
       have nS : Aside0 (Sx w wM ((.blk gM #[.int .i64 (i : Int)] 3) :: (.blk gP #[.bool true, .bool pb, .slice Q2 psh.length d2, .slice Q3 pdt.length d3] 66) :: (.row (.slice As2 (S.length + 1) cs2) (S ++ [(N : Int)])) :: (.blk gG #[.slice (some ⟨gL, 0, none⟩) ps.length ps.length] 117) :: (.blk gL (LC (L.set j (⟨A1_, i, c1_, upN i⟩ : Lw))) 22) :: (.blk gR #[.slice none 0 0, .slice none 0 0] 70) :: (.blk gA #[.bool a, .slice (some ad1) la1.length ca1, .slice Aa2 la2.length ca2] 28) :: LT (L.set j (⟨A1_, i, c1_, upN i⟩ : Lw)))) := Aside0.mk (HS.out.box hgM.symm hxM hbM)
       clear HS hgM hxM hbM
       have HS := nS
       clear nS
       refine hK.out _ _ ⟨(blk_cell (HS.out.blk 3 rfl) 0).trans rfl, (blk_cell (HS.out.blk 4 rfl) j).trans (LC_at (⟨A1_, i, c1_, (upN i)⟩ : Lw) HJL.out)⟩ (fun hHeld => ?_)
       clear hK K
       refine norm_ (a' := ?_) ?_ ?_
       rotate_left
       ·show Act.put _ (some 69) _ = _
        simp only [Act.put, List.setIfInBounds_toArray, List.set_cons_zero, List.set_cons_succ]
        rfl
       refine one_ (i := 8) (N := (some 70)) #[true, true, true, true, true, true, true, true, true, false, false] rfl rfl (by kernel_rfl) (by decide) (fun K hK => ?_)
       refine HS.out.appendRows_step (j + 7) (LT_get (set_at (⟨A1_, i, c1_, (upN i)⟩ : Lw) HJL.out)) i (i + 1) (upN_len i) (by rfl) (.tmp 67) (.tmp 69) rfl Try.underlying22 info3 (some ⟨gM, 0, none⟩) 1 1 [(i : Int)] _ rfl rfl rfl (rowI_C (l := [(i : Int)]) (HS.out.blk 0 rfl) (by simp)) rfl rfl (by have := HNB.out; omega) ?_
       intro A2_ c2_ wJ nJ
       have nS : Aside0 (Sx w wJ ((.blk gM #[.int .i64 (i : Int)] 3) :: (.blk gP #[.bool true, .bool pb, .slice Q2 psh.length d2, .slice Q3 pdt.length d3] 66) :: (.row (.slice As2 (S.length + 1) cs2) (S ++ [(N : Int)])) :: (.blk gG #[.slice (some ⟨gL, 0, none⟩) ps.length ps.length] 117) :: (.blk gL (LC (L.set j (⟨A1_, i, c1_, upN i⟩ : Lw))) 22) :: (.blk gR #[.slice none 0 0, .slice none 0 0] 70) :: (.blk gA #[.bool a, .slice (some ad1) la1.length ca1, .slice Aa2 la2.length ca2] 28) :: LT (L.set j (⟨A2_, i + 1, c2_, (upN i) ++ [(i : Int)]⟩ : Lw)))) := Aside0.mk (Eq.mp (congrArg (fun t_ => Sx w wJ ((.blk gM #[.int .i64 (i : Int)] 3) :: (.blk gP #[.bool true, .bool pb, .slice Q2 psh.length d2, .slice Q3 pdt.length d3] 66) :: (.row (.slice As2 (S.length + 1) cs2) (S ++ [(N : Int)])) :: (.blk gG #[.slice (some ⟨gL, 0, none⟩) ps.length ps.length] 117) :: (.blk gL (LC (L.set j (⟨A1_, i, c1_, upN i⟩ : Lw))) 22) :: (.blk gR #[.slice none 0 0, .slice none 0 0] 70) :: (.blk gA #[.bool a, .slice (some ad1) la1.length ca1, .slice Aa2 la2.length ca2] 28) :: t_)) (set_tail (L := L) (j := j) (x := (⟨A1_, i, c1_, (upN i)⟩ : Lw)) (y := (⟨A2_, i + 1, c2_, (upN i) ++ [(i : Int)]⟩ : Lw)))) nJ)
       clear HS nJ
       have HS := nS
       clear nS
       refine hK.out _ _ ⟨(blk_cell (HS.out.blk 3 rfl) 0).trans rfl, (blk_cell (HS.out.blk 4 rfl) j).trans (LC_at (⟨A1_, i, c1_, (upN i)⟩ : Lw) HJL.out)⟩ (fun hHeld => ?_)
       clear hK K
       refine norm_ (a' := ?_) ?_ ?_
       rotate_left
       ·show Act.put _ (some 70) _ = _
        simp only [Act.put, List.setIfInBounds_toArray, List.set_cons_zero, List.set_cons_succ]
        rfl
       refine pure_ (i := 9) (N := (some 71)) (v := ?_) (a' := ?_) #[true, true, true, true, true, true, true, true, true, true, false] rfl rfl (by kernel_rfl) (fun _ _ _ h => h) (Or.inl ⟨by rfl, ?_⟩) ?_ ?_
       rotate_left
       ·intro w'
        go_simp
        with_reducible rfl
       rotate_left
       ·simp only [Act.put, List.setIfInBounds_toArray, List.set_cons_zero, List.set_cons_succ]
        rfl
       refine last_ (i := 10) (N := none) #[true, true, true, true, true, true, true, true, true, true, true] rfl rfl (by kernel_rfl) (by decide) (fun K hK => ?_)
       refine store_cell_step (by rfl) 22 (.tmp 71) (.tmp 70) rfl gL j rfl (.slice A2_ (i + 1) c2_) rfl (LC (L.set j (⟨A1_, i, c1_, (upN i)⟩ : Lw))) 22 (HS.out.blk 4 rfl) (by rw [LC_size, List.length_set]; exact HJL.out) rfl (by kernel_rfl) ?_
       intro wz hxz hbz
       have nS : Aside0 (Sx w wz ((.blk gM #[.int .i64 (i : Int)] 3) :: (.blk gP #[.bool true, .bool pb, .slice Q2 psh.length d2, .slice Q3 pdt.length d3] 66) :: (.row (.slice As2 (S.length + 1) cs2) (S ++ [(N : Int)])) :: (.blk gG #[.slice (some ⟨gL, 0, none⟩) ps.length ps.length] 117) :: (.blk gL (LC (L.set j (⟨A2_, i + 1, c2_, (upN i) ++ [(i : Int)]⟩ : Lw))) 22) :: (.blk gR #[.slice none 0 0, .slice none 0 0] 70) :: (.blk gA #[.bool a, .slice (some ad1) la1.length ca1, .slice Aa2 la2.length ca2] 28) :: LT (L.set j (⟨A2_, i + 1, c2_, (upN i) ++ [(i : Int)]⟩ : Lw)))) := Aside0.mk (by have h_ := HS.out.put 4 rfl hxz hbz; rw [show (LC (L.set j (⟨A1_, i, c1_, (upN i)⟩ : Lw))).setIfInBounds j (.slice A2_ (i + 1) c2_) = LC (L.set j (⟨A2_, i + 1, c2_, (upN i) ++ [(i : Int)]⟩ : Lw)) from by rw [show (Value.slice A2_ (i + 1) c2_) = Lw.v (⟨A2_, i + 1, c2_, (upN i) ++ [(i : Int)]⟩ : Lw) from rfl, LC_set, List.set_set]] at h_; exact h_)
       clear HS hxz hbz
       have HS := nS
       clear nS
       refine hK.out _ _ ?_
       clear hK K
       refine done_ (by kernel_rfl) ?_
       go_simp
       go_wp2
       go_roundw
       case rel => exact ⟨i + 1, A2_, c2_, by first | rfl | (push_cast; rfl), ⟨hil⟩, ⟨HS.out.sub (List.sublist_cons_self _ _)⟩⟩
       case measure => simp [intOf]; omega
      ·obtain rfl : i = N := by have := hi.out; omega
       have p3 : ¬ (i : Int) < (i : Int) := by omega
       have w1 := HW1.out
       go_wp2
       go_roundw
       case rel =>
        refine ⟨j + 1, L.set j (⟨A1_, i, c1_, upN i⟩ : Lw), As2, cs2, S ++ [(i : Int)], by first | rfl | (push_cast; rfl), by simp, ⟨HI.out.next HN.out hlt HR.out (x := ⟨A1_, i, c1_, upN i⟩) ?_ _ ?_ (by simp)⟩, ⟨?_⟩⟩
        ·rw [HPJ.out, HN0.out]; unfold pickC; rw [if_pos rfl, if_neg (by simpa using HBD.out.symm), Int.toNat_natCast]
        ·rw [HPJ.out, HN0.out]; rfl
        ·have h_ := HS.out.sub (List.sublist_cons_self _ _)
         rw [show (S ++ [(i : Int)]).length = S.length + 1 by simp]
         exact h_
       case measure => simp [intOf]; omega
  ·obtain rfl : j = ps.length := by have := HI.out.le; omega
   have HE := idx_end HI.out HN.out H5.out HR.out
   have p3 : ¬ (ps.length : Int) < (ps.length : Int) := by omega
   have HSL := Aside0.mk HI.out.sl
   rcases hok : shOk S with _ | _
   ·obtain ⟨ks, hks⟩ := (shapeOk_no (l := S) (by rw [hok]; decide)).rounds
    have HSO := Aside0.mk hks
    have HE1 := Aside0.mk (HE.1 hok)
    clear hks HE
    go_wp2_with (first | (go_at_call 94; refine (impl_shapeOk.calls ks As cs S 0 false _ (HS.out.C 0 rfl) (HS.out.cap 0 rfl) HSO.out).mono ?_; rintro e wx1 ⟨rfl, hdx1⟩; have hbx1 := Drawn0.below hdx1; clear hdx1; have nS : Aside0 (Sx w wx1 ((.row (.slice As S.length cs) S) :: (.blk gG #[.slice (some ⟨gL, 0, none⟩) ps.length ps.length] 117) :: (.blk gL (LC L) 22) :: (.blk gR #[.slice none 0 0, .slice none 0 0] 70) :: (.blk gA #[.bool a, .slice Aa1 la1.length ca1, .slice Aa2 la2.length ca2] 28) :: LT L)) := Aside0.mk (HS.out.step hbx1); clear HS; have HS := nS; clear nS hbx1) | ((with_reducible refine gate_store rfl ?_); refine store_named rfl 70 (.tmp 4) (.tmp 125) rfl gR #[.slice none 0 0, .slice none 0 0] rfl rfl 70 #[.slice none 0 0, .slice none 0 0] (HS.out.blk 3 rfl) (by kernel_rfl) rfl (by simp [Value.oneCell']) ?_; intro wqx2 hxqx2 hbqx2; have nS : Aside0 (Sx w wqx2 ((.row (.slice As S.length cs) S) :: (.blk gG #[.slice (some ⟨gL, 0, none⟩) ps.length ps.length] 117) :: (.blk gL (LC L) 22) :: (.blk gR #[.slice none 0 0, .slice none 0 0] 70) :: (.blk gA #[.bool a, .slice Aa1 la1.length ca1, .slice Aa2 la2.length ca2] 28) :: LT L)) := Aside0.mk (HS.out.put 3 rfl hxqx2 hbqx2); clear HS; have HS := nS; clear nS hxqx2 hbqx2))
    refine ⟨_, results_ct rfl _ _ gR 70 #[.slice none 0 0, .slice none 0 0] (0, 0) _ rfl (HS.out.blk 3 rfl) Try.underlying70 rfl (by kernel_rfl), ?_⟩
    exact MovePost.bad (HE1.out) (by decide) HS.out.below
   ·obtain ⟨ls, hls, hcok, hcl, hcp, hcp2, hct, hwv⟩ := HE.2 hok
    obtain ⟨ks, hks⟩ := (shapeOk_yes (l := S) hok).rounds
    obtain ⟨kc, hkc⟩ := (shapeOk_yes hcok).rounds
    have HSO := Aside0.mk hks
    have HKC := Aside0.mk hkc
    have HLS := Aside0.mk hls
    have HCL := Aside0.mk hcl
    have HCP := Aside0.mk (And.intro hcp hcp2)
    have HCT := Aside0.mk hct
    have HWV := Aside0.mk hwv
    clear hks hkc hls hcl hcp hcp2 hct hwv hcok HE
    have hmk2 := make_row ps.length (by have := H5.out; have := HN.out; omega)
    go_wp2_with (first | (go_at_call 94; refine (impl_shapeOk.calls ks As cs S (prod S) true _ (HS.out.C 0 rfl) (HS.out.cap 0 rfl) HSO.out).mono ?_; rintro e wx1 ⟨rfl, hdx1⟩; have hbx1 := Drawn0.below hdx1; clear hdx1; have nS : Aside0 (Sx w wx1 ((.row (.slice As S.length cs) S) :: (.blk gG #[.slice (some ⟨gL, 0, none⟩) ps.length ps.length] 117) :: (.blk gL (LC L) 22) :: (.blk gR #[.slice none 0 0, .slice none 0 0] 70) :: (.blk gA #[.bool a, .slice Aa1 la1.length ca1, .slice Aa2 la2.length ca2] 28) :: LT L)) := Aside0.mk (HS.out.step hbx1); clear HS; have HS := nS; clear nS hbx1) | ((with_reducible refine gate_dst (N := 15) rfl ?_); refine box_ev (cs := #[.slice none 0 0, .slice none 0 0]) (t := 70) ?_; intro gM hgx2 wx2 hxx2 hbx2; have nS : Aside0 (Sx w wx2 ((.blk gM #[.slice none 0 0, .slice none 0 0] 70) :: (.row (.slice As S.length cs) S) :: (.blk gG #[.slice (some ⟨gL, 0, none⟩) ps.length ps.length] 117) :: (.blk gL (LC L) 22) :: (.blk gR #[.slice none 0 0, .slice none 0 0] 70) :: (.blk gA #[.bool a, .slice Aa1 la1.length ca1, .slice Aa2 la2.length ca2] 28) :: LT L)) := Aside0.mk (HS.out.box hgx2 hxx2 hbx2); clear HS; have HS := nS; clear nS hgx2 hxx2 hbx2) | ((with_reducible refine gate_store rfl ?_); refine store_named rfl 70 (.tmp 15) (.tmp 127) rfl gM #[.slice As S.length cs, .slice none 0 0] rfl rfl 70 #[.slice none 0 0, .slice none 0 0] (HS.out.blk 0 rfl) (by kernel_rfl) rfl (by simp [Value.oneCell']) ?_; intro wx3 hxx3 hbx3; have nS : Aside0 (Sx w wx3 ((.blk gM #[.slice As S.length cs, .slice none 0 0] 70) :: (.row (.slice As S.length cs) S) :: (.blk gG #[.slice (some ⟨gL, 0, none⟩) ps.length ps.length] 117) :: (.blk gL (LC L) 22) :: (.blk gR #[.slice none 0 0, .slice none 0 0] 70) :: (.blk gA #[.bool a, .slice Aa1 la1.length ca1, .slice Aa2 la2.length ca2] 28) :: LT L)) := Aside0.mk (HS.out.put 0 rfl hxx3 hbx3); clear HS; have HS := nS; clear nS hxx3 hbx3) | ((with_reducible refine gate_dst (N := 128) rfl ?_); refine ev_load rfl 117 (.tmp 7) rfl ⟨gG, 0, none⟩ rfl (.slice (some ⟨gL, 0, none⟩) ps.length ps.length) ((blk_cell (HS.out.blk 2 rfl) 0).trans rfl) (by kernel_rfl) ?_) | ((with_reducible refine gate_dst (N := 130) rfl ?_); refine lit_event ?hg (N := 130) ?hd (cs := (rowI (List.replicate ps.length 0))) (t := 3) (n := ps.length) ?hr ?_; (case hd => rfl); (case hg => rfl); (case hr => first | (go_simp; done) | (go_simp; rfl)); intro gC hgx4 wx4 hxx4 hbx4; have nS : Aside0 (Sx w wx4 ((.blk gC (rowI (List.replicate ps.length 0)) 3) :: (.blk gM #[.slice As S.length cs, .slice none 0 0] 70) :: (.row (.slice As S.length cs) S) :: (.blk gG #[.slice (some ⟨gL, 0, none⟩) ps.length ps.length] 117) :: (.blk gL (LC L) 22) :: (.blk gR #[.slice none 0 0, .slice none 0 0] 70) :: (.blk gA #[.bool a, .slice Aa1 la1.length ca1, .slice Aa2 la2.length ca2] 28) :: LT L)) := Aside0.mk (HS.out.box hgx4 hxx4 hbx4); clear HS; have HS := nS; clear nS hgx4 hxx4 hbx4) | ((with_reducible refine gate_dst (N := 131) rfl ?_); refine ev_load rfl 117 (.tmp 7) rfl ⟨gG, 0, none⟩ rfl (.slice (some ⟨gL, 0, none⟩) ps.length ps.length) ((blk_cell (HS.out.blk 3 rfl) 0).trans rfl) (by kernel_rfl) ?_))
    have HS0 : Aside0 (Sx w _ ((.blk gC (rowI ((cntsL ls).take 0 ++ List.replicate (ps.length - 0) 0)) 3) :: (.blk gM #[.slice As S.length cs, .slice none 0 0] 70) :: (.row (.slice As S.length cs) S) :: (.blk gG #[.slice (some ⟨gL, 0, none⟩) ps.length ps.length] 117) :: (.blk gL (LC L) 22) :: (.blk gR #[.slice none 0 0, .slice none 0 0] 70) :: (.blk gA #[.bool a, .slice Aa1 la1.length ca1, .slice Aa2 la2.length ca2] 28) :: LT L)) := Aside0.mk (by rw [show (cntsL ls).take 0 ++ List.replicate (ps.length - 0) 0 = List.replicate ps.length 0 by simp]; exact HS.out)
    clear HS
    go_loopw [17, 18, 133] (fun _ _ z wr => ∃ t : Nat, z = .int .i64 (t : Int) ∧ Aside0 (t ≤ ps.length) ∧ Aside0 (Sx w wr ((.blk gC (rowI ((cntsL ls).take t ++ List.replicate (ps.length - t) 0)) 3) :: (.blk gM #[.slice As S.length cs, .slice none 0 0] 70) :: (.row (.slice As S.length cs) S) :: (.blk gG #[.slice (some ⟨gL, 0, none⟩) ps.length ps.length] 117) :: (.blk gL (LC L) 22) :: (.blk gR #[.slice none 0 0, .slice none 0 0] 70) :: (.blk gA #[.bool a, .slice Aa1 la1.length ca1, .slice Aa2 la2.length ca2] 28) :: LT L))) (fun _ _ z _ => ps.length - (intOf z).toNat)
    case atStart => exact ⟨0, rfl, ⟨Nat.zero_le _⟩, HS0⟩
    case round =>
     clear HS0
     obtain ⟨t, rfl, ht, HS⟩ := hrel
     by_cases htl : t < ps.length
     ·have hnn := H5.out
      have hnl := HN.out
      obtain ⟨x_, hx⟩ : ∃ x, L[t]? = some x := ⟨L[t]'(by rw [HI.out.len]; exact htl), List.getElem?_eq_getElem _⟩
      obtain ⟨At, nt, ct, xt⟩ := x_
      have hnt : nt = xt.length := (Kd.R_reads' (HS.out.row (t + 7) (LT_get hx))).1
      subst hnt
      have hct : rd (cntsL ls) (t : Int) = (xt.length : Int) := by rw [HLS.out]; exact cnts_at hx
      have HXT := Aside0.mk hct
      clear hct
      have xG : wr.cell? ⟨gL, t, none⟩ = some (.slice At xt.length ct) := (blk_cell (HS.out.blk 4 rfl) t).trans (LC_get hx)
      have w2 : IntKind.i64.wrap ((t : Int) + 1) = ((t + 1 : Nat) : Int) := by rw [IntWalk.i64_in _ (by omega)]; omega
      have p3 : (t : Int) < (ps.length : Int) := by omega
      have p4 : 0 ≤ (t : Int) := by omega
      clear hnn hnl hx
      go_wp2_with (first | ((with_reducible refine gate_store rfl ?_); refine ev_store rfl 3 (.tmp 142) (.tmp 141) rfl gC t rfl (.int .i64 (xt.length : Int)) rfl (rowI ((cntsL ls).take t ++ List.replicate (ps.length - t) 0)) 3 (HS.out.blk 0 rfl) (cnt_size HCL.out htl) rfl (by kernel_rfl) ?_; intro wz hxz hbz; have nS : Aside0 (Sx w wz ((.blk gC (rowI (((cntsL ls).take t ++ List.replicate (ps.length - t) 0).set t (xt.length : Int))) 3) :: (.blk gM #[.slice As S.length cs, .slice none 0 0] 70) :: (.row (.slice As S.length cs) S) :: (.blk gG #[.slice (some ⟨gL, 0, none⟩) ps.length ps.length] 117) :: (.blk gL (LC L) 22) :: (.blk gR #[.slice none 0 0, .slice none 0 0] 70) :: (.blk gA #[.bool a, .slice Aa1 la1.length ca1, .slice Aa2 la2.length ca2] 28) :: LT L)) := Aside0.mk (by have h_ := HS.out.put 0 rfl hxz hbz; rw [rowI_set] at h_; exact h_); clear HS hxz hbz; have HS := nS; clear nS))
      clear xG
      go_roundw
      case rel =>
       refine ⟨t + 1, by first | rfl | (push_cast; rfl), ⟨htl⟩, ⟨?_⟩⟩
       have h_ := HS.out
       rw [cnt_next HCL.out htl HXT.out] at h_
       exact h_
      case measure => simp [intOf]; omega
     ·obtain rfl : t = ps.length := by have := ht.out; omega
      rw [cnt_all HCL.out] at HS
      have p3 : ¬ (ps.length : Int) < (ps.length : Int) := by omega
      go_wp2_with (first | ((with_reducible refine gate_dst (N := 144) rfl ?_); refine ev_load rfl 117 (.tmp 7) rfl ⟨gG, 0, none⟩ rfl (.slice (some ⟨gL, 0, none⟩) ps.length ps.length) ((blk_cell (HS.out.blk 3 rfl) 0).trans rfl) (by kernel_rfl) ?_) | ((with_reducible refine gate_dst (N := 146) rfl ?_); refine lit_event ?hg (N := 146) ?hd (cs := (rowI (List.replicate ps.length 0))) (t := 3) (n := ps.length) ?hr ?_; (case hd => rfl); (case hg => rfl); (case hr => first | (go_simp; done) | (go_simp; rfl)); intro gQ hgz5 wz5 hxz5 hbz5; have nS : Aside0 (Sx w wz5 ((.blk gQ (rowI (List.replicate ps.length 0)) 3) :: (.blk gC (rowI (cntsL ls)) 3) :: (.blk gM #[.slice As S.length cs, .slice none 0 0] 70) :: (.row (.slice As S.length cs) S) :: (.blk gG #[.slice (some ⟨gL, 0, none⟩) ps.length ps.length] 117) :: (.blk gL (LC L) 22) :: (.blk gR #[.slice none 0 0, .slice none 0 0] 70) :: (.blk gA #[.bool a, .slice Aa1 la1.length ca1, .slice Aa2 la2.length ca2] 28) :: LT L)) := Aside0.mk (HS.out.box hgz5 hxz5 hbz5); clear HS; have HS := nS; clear nS hgz5 hxz5 hbz5) | ((with_reducible refine gate_dst (N := 19) rfl ?_); refine box_ev (cs := #[.slice none 0 0]) (t := 22) ?_; intro gV hgz6 wz6 hxz6 hbz6; have nS : Aside0 (Sx w wz6 ((.blk gV #[.slice none 0 0] 22) :: (.blk gQ (rowI (List.replicate ps.length 0)) 3) :: (.blk gC (rowI (cntsL ls)) 3) :: (.blk gM #[.slice As S.length cs, .slice none 0 0] 70) :: (.row (.slice As S.length cs) S) :: (.blk gG #[.slice (some ⟨gL, 0, none⟩) ps.length ps.length] 117) :: (.blk gL (LC L) 22) :: (.blk gR #[.slice none 0 0, .slice none 0 0] 70) :: (.blk gA #[.bool a, .slice Aa1 la1.length ca1, .slice Aa2 la2.length ca2] 28) :: LT L)) := Aside0.mk (HS.out.box hgz6 hxz6 hbz6); clear HS; have HS := nS; clear nS hgz6 hxz6 hbz6) | ((with_reducible refine gate_store rfl ?_); refine ev_store rfl 22 (.tmp 19) (.tmp 146) rfl gV 0 rfl (.slice (some ⟨gQ, 0, none⟩) ps.length ps.length) rfl #[.slice none 0 0] 22 (HS.out.blk 0 rfl) (show 0 < 1 from by decide) rfl (by kernel_rfl) ?_; intro wz7 hxz7 hbz7; have nS : Aside0 (Sx w wz7 ((.blk gV #[.slice (some ⟨gQ, 0, none⟩) ps.length ps.length] 22) :: (.blk gQ (rowI (List.replicate ps.length 0)) 3) :: (.blk gC (rowI (cntsL ls)) 3) :: (.blk gM #[.slice As S.length cs, .slice none 0 0] 70) :: (.row (.slice As S.length cs) S) :: (.blk gG #[.slice (some ⟨gL, 0, none⟩) ps.length ps.length] 117) :: (.blk gL (LC L) 22) :: (.blk gR #[.slice none 0 0, .slice none 0 0] 70) :: (.blk gA #[.bool a, .slice Aa1 la1.length ca1, .slice Aa2 la2.length ca2] 28) :: LT L)) := Aside0.mk (HS.out.put 0 rfl hxz7 hbz7); clear HS; have HS := nS; clear nS hxz7 hbz7) | (go_at_call 119; refine (indexes_box (some ⟨gC, 0, none⟩) ps.length ps.length _).mono ?_; rintro e wz8 ⟨gX, rfl, hgz8, hxz8, hbz8⟩; have nS : Aside0 (Sx w wz8 ((.blk gX #[.slice (some ⟨gC, 0, none⟩) ps.length ps.length] 22) :: (.blk gV #[.slice (some ⟨gQ, 0, none⟩) ps.length ps.length] 22) :: (.blk gQ (rowI (List.replicate ps.length 0)) 3) :: (.blk gC (rowI (cntsL ls)) 3) :: (.blk gM #[.slice As S.length cs, .slice none 0 0] 70) :: (.row (.slice As S.length cs) S) :: (.blk gG #[.slice (some ⟨gL, 0, none⟩) ps.length ps.length] 117) :: (.blk gL (LC L) 22) :: (.blk gR #[.slice none 0 0, .slice none 0 0] 70) :: (.blk gA #[.bool a, .slice Aa1 la1.length ca1, .slice Aa2 la2.length ca2] 28) :: LT L)) := Aside0.mk (HS.out.box hgz8 hxz8 hbz8); clear HS; have HS := nS; clear nS hbz8 hgz8 hxz8))
      have HSP : Aside0 (Sx w _ ((.blk gX #[.slice (some ⟨gC, 0, none⟩) ps.length ps.length] 22) :: (.blk gV #[.slice (some ⟨gQ, 0, none⟩) ps.length ps.length] 22) :: (.blk gQ (rowI (List.replicate ps.length 0)) 3) :: (.blk gC (rowI (cntsL ls)) 3) :: (.blk gM #[.slice As S.length cs, .slice none 0 0] 70) :: (.row (.slice As S.length cs) S) :: (.blk gG #[.slice (some ⟨gL, 0, none⟩) ps.length ps.length] 117) :: (.blk gL (LC L) 22) :: (.blk gR #[.slice none 0 0, .slice none 0 0] 70) :: (.blk gA #[.bool a, .slice Aa1 la1.length ca1, .slice Aa2 la2.length ca2] 28) :: LT L)) := Aside0.mk HS.out
      clear HS
      obtain ⟨W0, hW0⟩ : ∃ W0, wz8 = W0 := ⟨_, rfl⟩
      rw [hW0] at HSP ⊢
      clear hW0
      have HS0 : Aside0 (Sx w W0 ((.blk gX #[.slice (some ⟨gC, 0, none⟩) ps.length ps.length] 22) :: (.blk gV #[.slice (some ⟨gQ, 0, none⟩) ps.length ps.length] 22) :: (.blk gQ (rowI (List.replicate ps.length 0)) 3) :: (.row (.slice none 0 0) []) :: (.blk gC (rowI (cntsL ls)) 3) :: (.blk gM #[.slice As S.length cs, (.slice none 0 0)] 70) :: (.row (.slice As S.length cs) S) :: (.blk gG #[.slice (some ⟨gL, 0, none⟩) ps.length ps.length] 117) :: (.blk gL (LC L) 22) :: (.blk gR #[.slice none 0 0, .slice none 0 0] 70) :: (.blk gA #[.bool a, .slice Aa1 la1.length ca1, .slice Aa2 la2.length ca2] 28) :: LT L)) := Aside0.mk (HSP.out.nilRow 3 (by simp))
      clear HSP
      have HLT := Aside0.mk (show gX < W0.heap.size ∧ gV < W0.heap.size ∧ gQ < W0.heap.size ∧ gC < W0.heap.size ∧ gM < W0.heap.size ∧ gG < W0.heap.size ∧ gL < W0.heap.size ∧ gR < W0.heap.size ∧ gA < W0.heap.size from ⟨blk_lt (HS0.out.blk 0 rfl), blk_lt (HS0.out.blk 1 rfl), blk_lt (HS0.out.blk 2 rfl), blk_lt (HS0.out.blk 4 rfl), blk_lt (HS0.out.blk 5 rfl), blk_lt (HS0.out.blk 7 rfl), blk_lt (HS0.out.blk 8 rfl), blk_lt (HS0.out.blk 9 rfl), blk_lt (HS0.out.blk 10 rfl)⟩)
      have HLR := Aside0.mk (fun k (hk : (Value.slice As S.length cs).ownBlock = some k) => (Th.lt (HS0.out.get 6 rfl) k hk).2)
      have HLL := Aside0.mk (fun T (hT : T ∈ LT L) k (hk : T.on k) => (Th.lt (HS0.out.ok T (by simp [hT])) k hk).2)
      have HGE_ := Aside0.mk (fun T (hT : T ∈ LT L) k (hk : T.on k) => (Th.lt (HS0.out.ok T (by simp [hT])) k hk).1)
      refine range_indexes gX (some ⟨gC, 0, none⟩) ps.length (cntsL ls) rfl (by rw [HCL.out]; exact HS0.out.blk 0 rfl) (rowI_C (HS0.out.blk 4 rfl) (by rw [HCL.out]; have := H5.out; have := HN.out; omega)) (by rw [HCL.out]; exact Nat.le_refl _) (by rw [HCL.out, HN.out]; exact H5.out) HCP.out.2 kc HKC.out rfl
       (fun t W => ∃ (src : List Int) (v : Value), src.length = ps.length ∧ Sx w W ((.blk gX #[.slice (some ⟨gC, 0, none⟩) ps.length ps.length] 22) :: (.blk gV #[.slice (some ⟨gQ, 0, none⟩) ps.length ps.length] 22) :: (.blk gQ (rowI src) 3) :: (.row v (placesN la1 ls t)) :: (.blk gC (rowI (cntsL ls)) 3) :: (.blk gM #[.slice As S.length cs, v] 70) :: (.row (.slice As S.length cs) S) :: (.blk gG #[.slice (some ⟨gL, 0, none⟩) ps.length ps.length] 117) :: (.blk gL (LC L) 22) :: (.blk gR #[.slice none 0 0, .slice none 0 0] 70) :: (.blk gA #[.bool a, .slice Aa1 la1.length ca1, .slice Aa2 la2.length ca2] 28) :: LT L) ∧ ∀ k, v.ownBlock = some k → W0.heap.size + 3 ≤ k)
       ?inv ⟨_, _, by simp, HS0.out, by simp [Value.ownBlock]⟩ ?a1 ?assign ?body ?done
      case inv =>
       rintro t A B ⟨src, v, e1, h1, e2⟩ hb
       refine ⟨src, v, e1, h1.butS hb (fun T hT k hk => ?_) (fun k hk => by have := HS0.out.below.size; omega), e2⟩
       have := HLT.out
       simp only [List.mem_cons] at hT
       rcases hT with rfl | rfl | rfl | rfl | rfl | rfl | rfl | rfl | rfl | rfl | rfl | hT
       all_goals first
        | (have e : k = _ := hk; subst e; omega)
        | (have := e2 k hk; omega)
        | (have := HLR.out k hk; omega)
        | (have := HLL.out _ hT k hk; omega)
      case assign =>
       intro lo W K hK
       gi_wp2
       exact hK
      case body =>
       rintro lo t W ⟨src, v, hsrc, hS, hv⟩ hlt hat hge
       have HS1 := Aside0.mk hS
       have HV := Aside0.mk hv
       have HAT := Aside0.mk hat
       have HGE := Aside0.mk hge
       have HTT := Aside0.mk hlt
       have HSRC := Aside0.mk hsrc
       have HTP := Aside0.mk (show (t : Int) < prod (cntsL ls) by have := HCP.out.1; omega)
       have HIX := Aside0.mk (HCT.out t HTP.out).1
       have HIR := Aside0.mk (HCT.out t HTP.out).2
       have HR_ : Aside0 (Rx (fun k => k = gQ ∨ k = gM ∨ v.ownBlock = some k) W W ((.blk gX #[.slice (some ⟨gC, 0, none⟩) ps.length ps.length] 22) :: (.blk gV #[.slice (some ⟨gQ, 0, none⟩) ps.length ps.length] 22) :: (.blk gQ (rowI src) 3) :: (.row v (placesN la1 ls t)) :: (.blk gC (rowI (cntsL ls)) 3) :: (.blk gM #[.slice As S.length cs, v] 70) :: (.row (.slice As S.length cs) S) :: (.blk gG #[.slice (some ⟨gL, 0, none⟩) ps.length ps.length] 117) :: (.blk gL (LC L) 22) :: (.blk gR #[.slice none 0 0, .slice none 0 0] 70) :: (.blk gA #[.bool a, .slice Aa1 la1.length ca1, .slice Aa2 la2.length ca2] 28) :: LT L)) := Aside0.mk (Rx.start hS)
       have HOO : Aside0 (∀ k, (fun k => k = gQ ∨ k = gM ∨ v.ownBlock = some k) k → w.heap.size ≤ k) := Aside0.mk (fun k hk => by
        rcases hk with rfl | rfl | hk
        ·exact (HS1.out.get 2 rfl).2
        ·exact (HS1.out.get 5 rfl).2
        ·exact Kd.R_base (HS1.out.row 3 rfl) k hk)
       have HNG : Aside0 (¬ (fun k => k = gQ ∨ k = gM ∨ v.ownBlock = some k) (W0.heap.size + 2)) := Aside0.mk (fun hk => by
        have := HLT.out
        rcases hk with e | e | e
        ·omega
        ·omega
        ·have := HV.out _ e; omega)
       have HCI := Aside0.mk ((idxL_len (cntsL ls) t).trans HCL.out)
       clear hS hv hat hge hlt hsrc
       rw [HCL.out]
       gi_wp2
       gi_loopw [21, 22, 152] (fun _ _ z wr => ∃ (q : Nat) (sr : List Int), z = .int .i64 (q : Int) ∧ Aside0 (q ≤ ps.length) ∧ Aside0 (sr.length = ps.length) ∧ Aside0 (sr.take q = (pickGo ls (digs (cntsL ls) (t : Int))).take q) ∧ Aside0 (Rx (fun k => k = gQ ∨ k = gM ∨ v.ownBlock = some k) W wr ((.blk gX #[.slice (some ⟨gC, 0, none⟩) ps.length ps.length] 22) :: (.blk gV #[.slice (some ⟨gQ, 0, none⟩) ps.length ps.length] 22) :: (.blk gQ (rowI sr) 3) :: (.row v (placesN la1 ls t)) :: (.blk gC (rowI (cntsL ls)) 3) :: (.blk gM #[.slice As S.length cs, v] 70) :: (.row (.slice As S.length cs) S) :: (.blk gG #[.slice (some ⟨gL, 0, none⟩) ps.length ps.length] 117) :: (.blk gL (LC L) 22) :: (.blk gR #[.slice none 0 0, .slice none 0 0] 70) :: (.blk gA #[.bool a, .slice Aa1 la1.length ca1, .slice Aa2 la2.length ca2] 28) :: LT L)))
        (fun _ _ z _ => ps.length - (intOf z).toNat)
       case atStart => exact ⟨0, src, rfl, ⟨Nat.zero_le _⟩, HSRC, ⟨by simp⟩, HR_⟩
       case round =>
        clear HR_
        obtain ⟨q, sr, rfl, hq, hsr, htk, HX⟩ := hrel
        have HBW := Aside0.mk (HS1.out.below.trans (HX.out.fr.below HOO.out HS1.out.below.size))
        by_cases hlt : q < ps.length
        ·have hir := HIR.out q hlt
         obtain ⟨x_, hx⟩ : ∃ x, L[q]? = some x := ⟨L[q]'(by rw [HI.out.len]; exact hlt), List.getElem?_eq_getElem _⟩
         obtain ⟨At, nt, ct, xt⟩ := x_
         have hxt : ls.getD q [] = xt := by rw [HLS.out]; exact xs_at hx
         rw [hxt] at hir
         obtain ⟨m, hm⟩ := Int.eq_ofNat_of_zero_le hir.1
         have hml : m < xt.length := by omega
         have hrow := HX.out.row (q + 11) (LT_get hx)
         obtain rfl : nt = xt.length := (Kd.R_reads' hrow).1
         obtain ⟨gl, cl, el, -, -, -⟩ := Kd.R_form hrow (show 0 < xt.length by omega)
         have xL : wr.cell? ⟨gL, q, none⟩ = some (.slice At xt.length ct) := (blk_cell (HX.out.blk 8 rfl) q).trans (LC_get hx)
         obtain ⟨rfl, -, rfl⟩ : At = some ⟨gl, 0, none⟩ ∧ True ∧ ct = cl := by
          have e_ : (Value.slice At xt.length ct) = .slice (some ⟨gl, 0, none⟩) xt.length cl := el
          injection e_ with e1 e2 e3
          exact ⟨e1, trivial, e3⟩
         have yE : wr.cell? ⟨gl, m, none⟩ = some (.int .i64 (rd xt (m : Int))) := by
          have := Kd.R_cell (0 : Int) (enc := Value.int .i64) hrow (m : Int) (by omega) (by omega)
          rw [Int.toNat_natCast] at this
          exact this.1
         obtain ⟨z, hz⟩ : ∃ z, z = rd xt (m : Int) := ⟨_, rfl⟩
         rw [← hz] at yE
         have HZ := Aside0.mk (show z = rd (pickGo ls (digs (cntsL ls) (t : Int))) (q : Int) by
          rw [rd_pickGo ls _ q (by rw [digs_len, HCL.out]; exact (ls_len HLS.out HI.out.len)) (by rw [digs_len, HCL.out]; exact hlt), hxt, hm, hz])
         have xI := rowI_cell (HX.out.fr.blk HAT.out HNG.out) q (by rw [HCI.out]; exact hlt)
         rw [HIX.out, hm] at xI
         have xV : wr.cell? ⟨gV, 0, none⟩ = some (.slice (some ⟨gQ, 0, none⟩) ps.length ps.length) := (blk_cell (HX.out.blk 1 rfl) 0).trans rfl
         have xG : wr.cell? ⟨gG, 0, none⟩ = some (.slice (some ⟨gL, 0, none⟩) ps.length ps.length) := (blk_cell (HX.out.blk 7 rfl) 0).trans rfl
         have xQ := rowI_cell (HX.out.blk 2 rfl) q (by rw [hsr.out]; exact hlt)
         have fQ := blk_frozen (HX.out.blk 2 rfl) q
         have p4 : (q : Int) < (ps.length : Int) := by omega
         have p5 : 0 ≤ (q : Int) := by omega
         have p6 : (m : Int) < (xt.length : Int) := by omega
         have p7 : 0 ≤ (m : Int) := by omega
         have hn5 := H5.out
         have hnl := HN.out
         have w2 : IntKind.i64.wrap ((q : Int) + 1) = ((q + 1 : Nat) : Int) := by rw [IntWalk.i64_in _ (by omega)]; omega
         have HW2 := Aside0.mk w2
         clear w2 hn5 hnl hir hx hxt hm hml hrow el hz
         gi_wp2
         refine tail_round 10 (by rintro ⟨_, _, h⟩; exact h) (by kernel_rfl) (by kernel_rfl) (by kernel_rfl) ?_
         simp only [List.take_succ_cons, List.take_zero, List.drop_succ_cons, List.drop_zero]
         repeat still_step
         refine wpStill_nil ?_
         go_wp2
         have w2 := HW2.out
         gi_wp2
         refine ⟨⟨q + 1, sr.set q z, by first | rfl | (push_cast; rfl), ⟨hlt⟩, ⟨by rw [List.length_set]; exact hsr.out⟩, ⟨?_⟩, ⟨?_⟩⟩, by simp [intOf]; omega⟩
         ·rw [take_set_succ _ _ _ (by rw [hsr.out]; exact hlt), htk.out, HZ.out, ← take_succX _ _ (by rw [pickGo_len _ _ (by rw [digs_len, HCL.out]; exact (ls_len HLS.out HI.out.len)), digs_len, HCL.out]; exact hlt)]
         ·exact HX.out.drew.put 2 rfl (.inl (.inl rfl)) (rowI_put (HX.out.drew.blk 2 rfl) q z) (But1.set1 gQ q wr.drew (.int .i64 z))
        ·obtain rfl : q = ps.length := by have := hq.out; omega
         have HSE : Aside0 (sr = pickGo ls (digs (cntsL ls) (t : Int))) := Aside0.mk (by
          have h := htk.out
          rw [List.take_of_length_le (by rw [hsr.out]; exact Nat.le_refl _), List.take_of_length_le (by rw [pickGo_len _ _ (by rw [digs_len, HCL.out]; exact (ls_len HLS.out HI.out.len)), digs_len, HCL.out]; exact Nat.le_refl _)] at h; exact h)
         have p4 : ¬ (ps.length : Int) < (ps.length : Int) := by omega
         have xM0 : wr.cell? ⟨gM, 1, none⟩ = some v := (blk_cell (HX.out.blk 5 rfl) 1).trans rfl
         have xA0 : wr.cell? ⟨gA, 1, none⟩ = some (.slice Aa1 la1.length ca1) := (blk_cell (HX.out.blk 10 rfl) 1).trans rfl
         have xV0 : wr.cell? ⟨gV, 0, none⟩ = some (.slice (some ⟨gQ, 0, none⟩) ps.length ps.length) := (blk_cell (HX.out.blk 1 rfl) 0).trans rfl
         have hnum : ∀ W', Below wr.heap.size wr W' → Calls Try.prog 120 #[.slice Aa1 la1.length ca1, .slice (some ⟨gQ, 0, none⟩) ps.length ps.length] W' fun e w' => e = .returned (.int .i64 (numGo la1 0 0 sr)) ∧ ∃ m, w' = W'.drewN m := fun W' hW => by
          have h := impl_number.calls (sr.length + 1) Aa1 ca1 la1 (some ⟨gQ, 0, none⟩) sr.length sr _ W' (Kd.C_below Ha1.out (HBW.out.trans (hW.mono HBW.out.size))) Ka1.out (rowI_C (blk_below (HX.out.blk 2 rfl) hW) (by have := hsr.out; have := HN.out; have := H5.out; omega)) (Nat.le_refl _) (number_ev la1 sr (by have := hsr.out; have := HN.out; omega) (by have := hsr.out; have := HN.out; have := H5.out; omega))
          rw [hsr.out] at h
          exact h.mono fun _ _ h => ⟨h.1, h.2.out⟩
         have HNM := Aside0.mk hnum
         clear hnum
         gi_wp2
         refine any_round (by rintro ⟨_, _, h⟩; exact h) (by kernel_rfl) (by kernel_rfl) ?_
         refine wpAny_take (i := 0) (v := ?_) rfl (by kernel_rfl) (by kernel_rfl) (by kernel_rfl) (fun _ _ _ h => h) (Or.inl ⟨by rfl, ?_⟩) ?_
         rotate_left
         ·intro w'; go_simp; try with_reducible rfl
         refine wpAny_take (i := 2) (v := ?_) rfl (by kernel_rfl) (by kernel_rfl) (by kernel_rfl) (fun _ _ _ h => h) (Or.inl ⟨by rfl, ?_⟩) ?_
         rotate_left
         ·intro w'; go_simp; try with_reducible rfl
         refine wpAny_ready (rs := [1, 3, 4]) (by kernel_rfl) (by simp) ?_
         refine AllReady.cons rfl (fun K hK => ?_) ?_
         ·go_simp
          refine hK _ _ ?_
          clear hK K
          refine wpAny_ready (rs := [3, 4]) (by kernel_rfl) (by simp) ?_
          refine AllReady.cons rfl (fun K hK => ?_) ?_
          ·go_simp
           refine hK _ _ ?_
           clear hK K
           refine wpAny_ready (rs := [4]) (by kernel_rfl) (by simp) ?_
           refine AllReady.cons rfl (fun K hK => ?_) ?_
           ·go_simp
            refine hK _ _ ?_
            clear hK K
            refine wpAny_ready (rs := [5]) (by kernel_rfl) (by simp) ?_
            refine AllReady.cons rfl (fun K hK => ?_) ?_
            ·go_simp
             refine (HNM.out _ (below_drew (Below.refl _ _))).mono ?_
             rintro e w' ⟨rfl, m, rfl⟩
             have HR1 := Aside0.mk (HX.out.drewN (1 + m))
             refine hK _ _ ?_
             clear hK K
             refine wpAny_ready (rs := [6]) (by kernel_rfl) (by simp) ?_
             refine AllReady.cons rfl (fun K hK => ?_) ?_
             ·go_simp
              have xM9 : ((wr.drewN (1 + m)).alloc (.cells #[.int .i64 (numGo la1 0 0 sr)] 3)).cell? ⟨gM, 1, none⟩ = some v := (blk_cell (blk_alloc (HR1.out.blk 5 rfl) _) 1).trans rfl
              refine hK _ _ ?_
              clear hK K
              refine wpAny_ready (rs := [7]) (by kernel_rfl) (by simp) ?_
              refine AllReady.cons rfl (fun K hK => ?_) ?_
              ·refine HR1.out.append_step 3 rfl (fun k e => .inl (.inr (.inr e))) rfl (.tmp 169) (.tmp 174) rfl Try.underlying22 info3 (numGo la1 0 0 sr) rfl rfl (by have := HTT.out; have := HCP.out; rw [placesN_len]; omega) ?_
               intro v1 w1 hr1 hat1
               obtain ⟨Av, cv, hv_⟩ := Kd.R_slice (hr1.row 3 rfl)
               obtain ⟨nv, hnv⟩ : ∃ n, n = (placesN la1 ls t ++ [numGo la1 0 0 sr]).length := ⟨_, rfl⟩
               rw [← hnv] at hv_
               subst hv_
               clear hnv
               have HR2 : Aside0 (Rx (fun k => k = gQ ∨ k = gM ∨ v.ownBlock = some k) W w1 ((.blk gX #[.slice (some ⟨gC, 0, none⟩) ps.length ps.length] 22) :: (.blk gV #[.slice (some ⟨gQ, 0, none⟩) ps.length ps.length] 22) :: (.blk gQ (rowI sr) 3) :: (.row (.slice Av nv cv) (placesN la1 ls t ++ [numGo la1 0 0 sr])) :: (.blk gC (rowI (cntsL ls)) 3) :: (.blk gM #[.slice As S.length cs, v] 70) :: (.row (.slice As S.length cs) S) :: (.blk gG #[.slice (some ⟨gL, 0, none⟩) ps.length ps.length] 117) :: (.blk gL (LC L) 22) :: (.blk gR #[.slice none 0 0, .slice none 0 0] 70) :: (.blk gA #[.bool a, .slice Aa1 la1.length ca1, .slice Aa2 la2.length ca2] 28) :: LT L)) := Aside0.mk hr1
               have HV1 : Aside0 (∀ k, ((.slice Av nv cv) : Value).ownBlock = some k → W0.heap.size + 3 ≤ k) := Aside0.mk (fun k e => by
                rcases hat1 with h | ⟨b, h, hb⟩
                ·exact HV.out k (h ▸ e)
                ·rw [h] at e; cases e; have h1 : W.heap.size ≤ (wr.drewN (1 + m)).heap.size := HR1.out.fr.size; have := HGE.out; omega)
               have xM2 : w1.cell? ⟨gM, 1, none⟩ = some v := (blk_cell (HR2.out.blk 5 rfl) 1).trans rfl
               have fM2 := blk_frozen (HR2.out.blk 5 rfl) 1
               have HR3 : Aside0 (Rx (fun k => k = gQ ∨ k = gM ∨ v.ownBlock = some k) W (w1.setCell ⟨gM, 1, none⟩ (.slice Av nv cv)) ((.blk gX #[.slice (some ⟨gC, 0, none⟩) ps.length ps.length] 22) :: (.blk gV #[.slice (some ⟨gQ, 0, none⟩) ps.length ps.length] 22) :: (.blk gQ (rowI sr) 3) :: (.row (.slice Av nv cv) (placesN la1 ls t ++ [numGo la1 0 0 sr])) :: (.blk gC (rowI (cntsL ls)) 3) :: (.blk gM #[.slice As S.length cs, (.slice Av nv cv)] 70) :: (.row (.slice As S.length cs) S) :: (.blk gG #[.slice (some ⟨gL, 0, none⟩) ps.length ps.length] 117) :: (.blk gL (LC L) 22) :: (.blk gR #[.slice none 0 0, .slice none 0 0] 70) :: (.blk gA #[.bool a, .slice Aa1 la1.length ca1, .slice Aa2 la2.length ca2] 28) :: LT L)) := Aside0.mk (HR2.out.put 5 rfl (.inl (.inr (.inl rfl))) (blk_set (HR2.out.blk 5 rfl) 1 _) (But1.set1 gM 1 w1 _))
               clear hr1 hat1
               refine hK _ _ ?_
               clear hK K
               refine wpAny_take (i := 8) (v := ?_) rfl (by kernel_rfl) (by kernel_rfl) (by kernel_rfl) (fun _ _ _ h => h) (Or.inl ⟨by rfl, ?_⟩) ?_
               rotate_left
               ·intro w'; go_simp; try with_reducible rfl
               refine wpAny_ready (rs := [9]) (by kernel_rfl) (by simp) ?_
               refine AllReady.cons rfl (fun K hK => ?_) ?_
               ·go_simp
                refine hK _ _ ?_
                clear hK K
                refine wpAny_done (by kernel_rfl) ?_ _
                gi_wp2
                have hz := HLT.out
                refine ⟨HR3.out.keeps (fun k hk => by rcases hk with rfl | rfl | hk; exact Th.cells (HS1.out.get 2 rfl) _ rfl; exact Th.cells (HS1.out.get 5 rfl) _ rfl; exact Th.cells (HS1.out.get 3 rfl) k hk), fun k hk => HR3.out.fr.same k ?_ ?_, HR3.out.fr.blk HAT.out HNG.out, ⟨sr, .slice Av nv cv, hsr.out, ?_, ?_⟩⟩
                ·rcases hk with rfl | ⟨_, hk⟩
                 ·exact blk_lt (HS1.out.blk 0 rfl)
                 ·cases hk; exact blk_lt (HS1.out.blk 4 rfl)
                ·rcases hk with rfl | ⟨_, hk⟩
                 ·rintro (e | e | e)
                  ·exact HS1.out.apart 0 2 (by decide) rfl rfl _ rfl e
                  ·exact HS1.out.apart 0 5 (by decide) rfl rfl _ rfl e
                  ·exact HS1.out.apart 0 3 (by decide) rfl rfl _ rfl e
                 ·cases hk
                  rintro (e | e | e)
                  ·exact HS1.out.apart 4 2 (by decide) rfl rfl _ rfl e
                  ·exact HS1.out.apart 4 5 (by decide) rfl rfl _ rfl e
                  ·exact HS1.out.apart 4 3 (by decide) rfl rfl _ rfl e
                ·have e1 : placesN la1 ls (t + 1) = placesN la1 ls t ++ [numGo la1 0 0 sr] := by rw [HSE.out]; rfl
                 rw [e1]
                 refine Rx.back HS1.out HR3.out HOO.out (fun T hT k hk => ?_)
                 have hw0 := HS0.out.below.size
                 simp only [List.mem_cons] at hT
                 rcases hT with rfl | rfl | rfl | rfl | rfl | rfl | rfl | rfl | rfl | rfl | rfl | hT
                 ·rw [show k = gX from hk]; exact (HS1.out.get 0 rfl).2
                 ·rw [show k = gV from hk]; exact (HS1.out.get 1 rfl).2
                 ·rw [show k = gQ from hk]; exact (HS1.out.get 2 rfl).2
                 ·have := HV1.out k hk; omega
                 ·rw [show k = gC from hk]; exact (HS1.out.get 4 rfl).2
                 ·rw [show k = gM from hk]; exact (HS1.out.get 5 rfl).2
                 ·exact Kd.R_base (HS1.out.row 6 rfl) k hk
                 ·rw [show k = gG from hk]; exact (HS1.out.get 7 rfl).2
                 ·rw [show k = gL from hk]; exact (HS1.out.get 8 rfl).2
                 ·rw [show k = gR from hk]; exact (HS1.out.get 9 rfl).2
                 ·rw [show k = gA from hk]; exact (HS1.out.get 10 rfl).2
                 ·exact HGE_.out T hT k hk
                ·exact HV1.out
               exact AllReady.nil
              exact AllReady.nil
             exact AllReady.nil
            exact AllReady.nil
           exact AllReady.nil
          refine AllReady.cons rfl (fun K hK => ?_) ?_
          ·go_simp
           refine hK _ _ ?_
           clear hK K
           refine wpAny_ready (rs := [3]) (by kernel_rfl) (by simp) ?_
           refine AllReady.cons rfl (fun K hK => ?_) ?_
           ·go_simp
            refine hK _ _ ?_
            clear hK K
            refine wpAny_ready (rs := [5]) (by kernel_rfl) (by simp) ?_
            refine AllReady.cons rfl (fun K hK => ?_) ?_
            ·go_simp
             refine (HNM.out _ (below_drew (Below.refl _ _))).mono ?_
             rintro e w' ⟨rfl, m, rfl⟩
             have HR1 := Aside0.mk (HX.out.drewN (1 + m))
             refine hK _ _ ?_
             clear hK K
             refine wpAny_ready (rs := [6]) (by kernel_rfl) (by simp) ?_
             refine AllReady.cons rfl (fun K hK => ?_) ?_
             ·go_simp
              have xM9 : ((wr.drewN (1 + m)).alloc (.cells #[.int .i64 (numGo la1 0 0 sr)] 3)).cell? ⟨gM, 1, none⟩ = some v := (blk_cell (blk_alloc (HR1.out.blk 5 rfl) _) 1).trans rfl
              refine hK _ _ ?_
              clear hK K
              refine wpAny_ready (rs := [7]) (by kernel_rfl) (by simp) ?_
              refine AllReady.cons rfl (fun K hK => ?_) ?_
              ·refine HR1.out.append_step 3 rfl (fun k e => .inl (.inr (.inr e))) rfl (.tmp 169) (.tmp 174) rfl Try.underlying22 info3 (numGo la1 0 0 sr) rfl rfl (by have := HTT.out; have := HCP.out; rw [placesN_len]; omega) ?_
               intro v1 w1 hr1 hat1
               obtain ⟨Av, cv, hv_⟩ := Kd.R_slice (hr1.row 3 rfl)
               obtain ⟨nv, hnv⟩ : ∃ n, n = (placesN la1 ls t ++ [numGo la1 0 0 sr]).length := ⟨_, rfl⟩
               rw [← hnv] at hv_
               subst hv_
               clear hnv
               have HR2 : Aside0 (Rx (fun k => k = gQ ∨ k = gM ∨ v.ownBlock = some k) W w1 ((.blk gX #[.slice (some ⟨gC, 0, none⟩) ps.length ps.length] 22) :: (.blk gV #[.slice (some ⟨gQ, 0, none⟩) ps.length ps.length] 22) :: (.blk gQ (rowI sr) 3) :: (.row (.slice Av nv cv) (placesN la1 ls t ++ [numGo la1 0 0 sr])) :: (.blk gC (rowI (cntsL ls)) 3) :: (.blk gM #[.slice As S.length cs, v] 70) :: (.row (.slice As S.length cs) S) :: (.blk gG #[.slice (some ⟨gL, 0, none⟩) ps.length ps.length] 117) :: (.blk gL (LC L) 22) :: (.blk gR #[.slice none 0 0, .slice none 0 0] 70) :: (.blk gA #[.bool a, .slice Aa1 la1.length ca1, .slice Aa2 la2.length ca2] 28) :: LT L)) := Aside0.mk hr1
               have HV1 : Aside0 (∀ k, ((.slice Av nv cv) : Value).ownBlock = some k → W0.heap.size + 3 ≤ k) := Aside0.mk (fun k e => by
                rcases hat1 with h | ⟨b, h, hb⟩
                ·exact HV.out k (h ▸ e)
                ·rw [h] at e; cases e; have h1 : W.heap.size ≤ (wr.drewN (1 + m)).heap.size := HR1.out.fr.size; have := HGE.out; omega)
               have xM2 : w1.cell? ⟨gM, 1, none⟩ = some v := (blk_cell (HR2.out.blk 5 rfl) 1).trans rfl
               have fM2 := blk_frozen (HR2.out.blk 5 rfl) 1
               have HR3 : Aside0 (Rx (fun k => k = gQ ∨ k = gM ∨ v.ownBlock = some k) W (w1.setCell ⟨gM, 1, none⟩ (.slice Av nv cv)) ((.blk gX #[.slice (some ⟨gC, 0, none⟩) ps.length ps.length] 22) :: (.blk gV #[.slice (some ⟨gQ, 0, none⟩) ps.length ps.length] 22) :: (.blk gQ (rowI sr) 3) :: (.row (.slice Av nv cv) (placesN la1 ls t ++ [numGo la1 0 0 sr])) :: (.blk gC (rowI (cntsL ls)) 3) :: (.blk gM #[.slice As S.length cs, (.slice Av nv cv)] 70) :: (.row (.slice As S.length cs) S) :: (.blk gG #[.slice (some ⟨gL, 0, none⟩) ps.length ps.length] 117) :: (.blk gL (LC L) 22) :: (.blk gR #[.slice none 0 0, .slice none 0 0] 70) :: (.blk gA #[.bool a, .slice Aa1 la1.length ca1, .slice Aa2 la2.length ca2] 28) :: LT L)) := Aside0.mk (HR2.out.put 5 rfl (.inl (.inr (.inl rfl))) (blk_set (HR2.out.blk 5 rfl) 1 _) (But1.set1 gM 1 w1 _))
               clear hr1 hat1
               refine hK _ _ ?_
               clear hK K
               refine wpAny_take (i := 8) (v := ?_) rfl (by kernel_rfl) (by kernel_rfl) (by kernel_rfl) (fun _ _ _ h => h) (Or.inl ⟨by rfl, ?_⟩) ?_
               rotate_left
               ·intro w'; go_simp; try with_reducible rfl
               refine wpAny_ready (rs := [9]) (by kernel_rfl) (by simp) ?_
               refine AllReady.cons rfl (fun K hK => ?_) ?_
               ·go_simp
                refine hK _ _ ?_
                clear hK K
                refine wpAny_done (by kernel_rfl) ?_ _
                gi_wp2
                have hz := HLT.out
                refine ⟨HR3.out.keeps (fun k hk => by rcases hk with rfl | rfl | hk; exact Th.cells (HS1.out.get 2 rfl) _ rfl; exact Th.cells (HS1.out.get 5 rfl) _ rfl; exact Th.cells (HS1.out.get 3 rfl) k hk), fun k hk => HR3.out.fr.same k ?_ ?_, HR3.out.fr.blk HAT.out HNG.out, ⟨sr, .slice Av nv cv, hsr.out, ?_, ?_⟩⟩
                ·rcases hk with rfl | ⟨_, hk⟩
                 ·exact blk_lt (HS1.out.blk 0 rfl)
                 ·cases hk; exact blk_lt (HS1.out.blk 4 rfl)
                ·rcases hk with rfl | ⟨_, hk⟩
                 ·rintro (e | e | e)
                  ·exact HS1.out.apart 0 2 (by decide) rfl rfl _ rfl e
                  ·exact HS1.out.apart 0 5 (by decide) rfl rfl _ rfl e
                  ·exact HS1.out.apart 0 3 (by decide) rfl rfl _ rfl e
                 ·cases hk
                  rintro (e | e | e)
                  ·exact HS1.out.apart 4 2 (by decide) rfl rfl _ rfl e
                  ·exact HS1.out.apart 4 5 (by decide) rfl rfl _ rfl e
                  ·exact HS1.out.apart 4 3 (by decide) rfl rfl _ rfl e
                ·have e1 : placesN la1 ls (t + 1) = placesN la1 ls t ++ [numGo la1 0 0 sr] := by rw [HSE.out]; rfl
                 rw [e1]
                 refine Rx.back HS1.out HR3.out HOO.out (fun T hT k hk => ?_)
                 have hw0 := HS0.out.below.size
                 simp only [List.mem_cons] at hT
                 rcases hT with rfl | rfl | rfl | rfl | rfl | rfl | rfl | rfl | rfl | rfl | rfl | hT
                 ·rw [show k = gX from hk]; exact (HS1.out.get 0 rfl).2
                 ·rw [show k = gV from hk]; exact (HS1.out.get 1 rfl).2
                 ·rw [show k = gQ from hk]; exact (HS1.out.get 2 rfl).2
                 ·have := HV1.out k hk; omega
                 ·rw [show k = gC from hk]; exact (HS1.out.get 4 rfl).2
                 ·rw [show k = gM from hk]; exact (HS1.out.get 5 rfl).2
                 ·exact Kd.R_base (HS1.out.row 6 rfl) k hk
                 ·rw [show k = gG from hk]; exact (HS1.out.get 7 rfl).2
                 ·rw [show k = gL from hk]; exact (HS1.out.get 8 rfl).2
                 ·rw [show k = gR from hk]; exact (HS1.out.get 9 rfl).2
                 ·rw [show k = gA from hk]; exact (HS1.out.get 10 rfl).2
                 ·exact HGE_.out T hT k hk
                ·exact HV1.out
               exact AllReady.nil
              exact AllReady.nil
             exact AllReady.nil
            exact AllReady.nil
           exact AllReady.nil
          exact AllReady.nil
         refine AllReady.cons rfl (fun K hK => ?_) ?_
         ·go_simp
          refine hK _ _ ?_
          clear hK K
          refine wpAny_ready (rs := [1, 4]) (by kernel_rfl) (by simp) ?_
          refine AllReady.cons rfl (fun K hK => ?_) ?_
          ·go_simp
           refine hK _ _ ?_
           clear hK K
           refine wpAny_ready (rs := [4]) (by kernel_rfl) (by simp) ?_
           refine AllReady.cons rfl (fun K hK => ?_) ?_
           ·go_simp
            refine hK _ _ ?_
            clear hK K
            refine wpAny_ready (rs := [5]) (by kernel_rfl) (by simp) ?_
            refine AllReady.cons rfl (fun K hK => ?_) ?_
            ·go_simp
             refine (HNM.out _ (below_drew (Below.refl _ _))).mono ?_
             rintro e w' ⟨rfl, m, rfl⟩
             have HR1 := Aside0.mk (HX.out.drewN (1 + m))
             refine hK _ _ ?_
             clear hK K
             refine wpAny_ready (rs := [6]) (by kernel_rfl) (by simp) ?_
             refine AllReady.cons rfl (fun K hK => ?_) ?_
             ·go_simp
              have xM9 : ((wr.drewN (1 + m)).alloc (.cells #[.int .i64 (numGo la1 0 0 sr)] 3)).cell? ⟨gM, 1, none⟩ = some v := (blk_cell (blk_alloc (HR1.out.blk 5 rfl) _) 1).trans rfl
              refine hK _ _ ?_
              clear hK K
              refine wpAny_ready (rs := [7]) (by kernel_rfl) (by simp) ?_
              refine AllReady.cons rfl (fun K hK => ?_) ?_
              ·refine HR1.out.append_step 3 rfl (fun k e => .inl (.inr (.inr e))) rfl (.tmp 169) (.tmp 174) rfl Try.underlying22 info3 (numGo la1 0 0 sr) rfl rfl (by have := HTT.out; have := HCP.out; rw [placesN_len]; omega) ?_
               intro v1 w1 hr1 hat1
               obtain ⟨Av, cv, hv_⟩ := Kd.R_slice (hr1.row 3 rfl)
               obtain ⟨nv, hnv⟩ : ∃ n, n = (placesN la1 ls t ++ [numGo la1 0 0 sr]).length := ⟨_, rfl⟩
               rw [← hnv] at hv_
               subst hv_
               clear hnv
               have HR2 : Aside0 (Rx (fun k => k = gQ ∨ k = gM ∨ v.ownBlock = some k) W w1 ((.blk gX #[.slice (some ⟨gC, 0, none⟩) ps.length ps.length] 22) :: (.blk gV #[.slice (some ⟨gQ, 0, none⟩) ps.length ps.length] 22) :: (.blk gQ (rowI sr) 3) :: (.row (.slice Av nv cv) (placesN la1 ls t ++ [numGo la1 0 0 sr])) :: (.blk gC (rowI (cntsL ls)) 3) :: (.blk gM #[.slice As S.length cs, v] 70) :: (.row (.slice As S.length cs) S) :: (.blk gG #[.slice (some ⟨gL, 0, none⟩) ps.length ps.length] 117) :: (.blk gL (LC L) 22) :: (.blk gR #[.slice none 0 0, .slice none 0 0] 70) :: (.blk gA #[.bool a, .slice Aa1 la1.length ca1, .slice Aa2 la2.length ca2] 28) :: LT L)) := Aside0.mk hr1
               have HV1 : Aside0 (∀ k, ((.slice Av nv cv) : Value).ownBlock = some k → W0.heap.size + 3 ≤ k) := Aside0.mk (fun k e => by
                rcases hat1 with h | ⟨b, h, hb⟩
                ·exact HV.out k (h ▸ e)
                ·rw [h] at e; cases e; have h1 : W.heap.size ≤ (wr.drewN (1 + m)).heap.size := HR1.out.fr.size; have := HGE.out; omega)
               have xM2 : w1.cell? ⟨gM, 1, none⟩ = some v := (blk_cell (HR2.out.blk 5 rfl) 1).trans rfl
               have fM2 := blk_frozen (HR2.out.blk 5 rfl) 1
               have HR3 : Aside0 (Rx (fun k => k = gQ ∨ k = gM ∨ v.ownBlock = some k) W (w1.setCell ⟨gM, 1, none⟩ (.slice Av nv cv)) ((.blk gX #[.slice (some ⟨gC, 0, none⟩) ps.length ps.length] 22) :: (.blk gV #[.slice (some ⟨gQ, 0, none⟩) ps.length ps.length] 22) :: (.blk gQ (rowI sr) 3) :: (.row (.slice Av nv cv) (placesN la1 ls t ++ [numGo la1 0 0 sr])) :: (.blk gC (rowI (cntsL ls)) 3) :: (.blk gM #[.slice As S.length cs, (.slice Av nv cv)] 70) :: (.row (.slice As S.length cs) S) :: (.blk gG #[.slice (some ⟨gL, 0, none⟩) ps.length ps.length] 117) :: (.blk gL (LC L) 22) :: (.blk gR #[.slice none 0 0, .slice none 0 0] 70) :: (.blk gA #[.bool a, .slice Aa1 la1.length ca1, .slice Aa2 la2.length ca2] 28) :: LT L)) := Aside0.mk (HR2.out.put 5 rfl (.inl (.inr (.inl rfl))) (blk_set (HR2.out.blk 5 rfl) 1 _) (But1.set1 gM 1 w1 _))
               clear hr1 hat1
               refine hK _ _ ?_
               clear hK K
               refine wpAny_take (i := 8) (v := ?_) rfl (by kernel_rfl) (by kernel_rfl) (by kernel_rfl) (fun _ _ _ h => h) (Or.inl ⟨by rfl, ?_⟩) ?_
               rotate_left
               ·intro w'; go_simp; try with_reducible rfl
               refine wpAny_ready (rs := [9]) (by kernel_rfl) (by simp) ?_
               refine AllReady.cons rfl (fun K hK => ?_) ?_
               ·go_simp
                refine hK _ _ ?_
                clear hK K
                refine wpAny_done (by kernel_rfl) ?_ _
                gi_wp2
                have hz := HLT.out
                refine ⟨HR3.out.keeps (fun k hk => by rcases hk with rfl | rfl | hk; exact Th.cells (HS1.out.get 2 rfl) _ rfl; exact Th.cells (HS1.out.get 5 rfl) _ rfl; exact Th.cells (HS1.out.get 3 rfl) k hk), fun k hk => HR3.out.fr.same k ?_ ?_, HR3.out.fr.blk HAT.out HNG.out, ⟨sr, .slice Av nv cv, hsr.out, ?_, ?_⟩⟩
                ·rcases hk with rfl | ⟨_, hk⟩
                 ·exact blk_lt (HS1.out.blk 0 rfl)
                 ·cases hk; exact blk_lt (HS1.out.blk 4 rfl)
                ·rcases hk with rfl | ⟨_, hk⟩
                 ·rintro (e | e | e)
                  ·exact HS1.out.apart 0 2 (by decide) rfl rfl _ rfl e
                  ·exact HS1.out.apart 0 5 (by decide) rfl rfl _ rfl e
                  ·exact HS1.out.apart 0 3 (by decide) rfl rfl _ rfl e
                 ·cases hk
                  rintro (e | e | e)
                  ·exact HS1.out.apart 4 2 (by decide) rfl rfl _ rfl e
                  ·exact HS1.out.apart 4 5 (by decide) rfl rfl _ rfl e
                  ·exact HS1.out.apart 4 3 (by decide) rfl rfl _ rfl e
                ·have e1 : placesN la1 ls (t + 1) = placesN la1 ls t ++ [numGo la1 0 0 sr] := by rw [HSE.out]; rfl
                 rw [e1]
                 refine Rx.back HS1.out HR3.out HOO.out (fun T hT k hk => ?_)
                 have hw0 := HS0.out.below.size
                 simp only [List.mem_cons] at hT
                 rcases hT with rfl | rfl | rfl | rfl | rfl | rfl | rfl | rfl | rfl | rfl | rfl | hT
                 ·rw [show k = gX from hk]; exact (HS1.out.get 0 rfl).2
                 ·rw [show k = gV from hk]; exact (HS1.out.get 1 rfl).2
                 ·rw [show k = gQ from hk]; exact (HS1.out.get 2 rfl).2
                 ·have := HV1.out k hk; omega
                 ·rw [show k = gC from hk]; exact (HS1.out.get 4 rfl).2
                 ·rw [show k = gM from hk]; exact (HS1.out.get 5 rfl).2
                 ·exact Kd.R_base (HS1.out.row 6 rfl) k hk
                 ·rw [show k = gG from hk]; exact (HS1.out.get 7 rfl).2
                 ·rw [show k = gL from hk]; exact (HS1.out.get 8 rfl).2
                 ·rw [show k = gR from hk]; exact (HS1.out.get 9 rfl).2
                 ·rw [show k = gA from hk]; exact (HS1.out.get 10 rfl).2
                 ·exact HGE_.out T hT k hk
                ·exact HV1.out
               exact AllReady.nil
              exact AllReady.nil
             exact AllReady.nil
            exact AllReady.nil
           exact AllReady.nil
          refine AllReady.cons rfl (fun K hK => ?_) ?_
          ·go_simp
           refine hK _ _ ?_
           clear hK K
           refine wpAny_ready (rs := [1, 5]) (by kernel_rfl) (by simp) ?_
           refine AllReady.cons rfl (fun K hK => ?_) ?_
           ·go_simp
            refine hK _ _ ?_
            clear hK K
            refine wpAny_ready (rs := [5]) (by kernel_rfl) (by simp) ?_
            refine AllReady.cons rfl (fun K hK => ?_) ?_
            ·go_simp
             refine (HNM.out _ (below_drew (Below.refl _ _))).mono ?_
             rintro e w' ⟨rfl, m, rfl⟩
             have HR1 := Aside0.mk (HX.out.drewN (1 + m))
             refine hK _ _ ?_
             clear hK K
             refine wpAny_ready (rs := [6]) (by kernel_rfl) (by simp) ?_
             refine AllReady.cons rfl (fun K hK => ?_) ?_
             ·go_simp
              have xM9 : ((wr.drewN (1 + m)).alloc (.cells #[.int .i64 (numGo la1 0 0 sr)] 3)).cell? ⟨gM, 1, none⟩ = some v := (blk_cell (blk_alloc (HR1.out.blk 5 rfl) _) 1).trans rfl
              refine hK _ _ ?_
              clear hK K
              refine wpAny_ready (rs := [7]) (by kernel_rfl) (by simp) ?_
              refine AllReady.cons rfl (fun K hK => ?_) ?_
              ·refine HR1.out.append_step 3 rfl (fun k e => .inl (.inr (.inr e))) rfl (.tmp 169) (.tmp 174) rfl Try.underlying22 info3 (numGo la1 0 0 sr) rfl rfl (by have := HTT.out; have := HCP.out; rw [placesN_len]; omega) ?_
               intro v1 w1 hr1 hat1
               obtain ⟨Av, cv, hv_⟩ := Kd.R_slice (hr1.row 3 rfl)
               obtain ⟨nv, hnv⟩ : ∃ n, n = (placesN la1 ls t ++ [numGo la1 0 0 sr]).length := ⟨_, rfl⟩
               rw [← hnv] at hv_
               subst hv_
               clear hnv
               have HR2 : Aside0 (Rx (fun k => k = gQ ∨ k = gM ∨ v.ownBlock = some k) W w1 ((.blk gX #[.slice (some ⟨gC, 0, none⟩) ps.length ps.length] 22) :: (.blk gV #[.slice (some ⟨gQ, 0, none⟩) ps.length ps.length] 22) :: (.blk gQ (rowI sr) 3) :: (.row (.slice Av nv cv) (placesN la1 ls t ++ [numGo la1 0 0 sr])) :: (.blk gC (rowI (cntsL ls)) 3) :: (.blk gM #[.slice As S.length cs, v] 70) :: (.row (.slice As S.length cs) S) :: (.blk gG #[.slice (some ⟨gL, 0, none⟩) ps.length ps.length] 117) :: (.blk gL (LC L) 22) :: (.blk gR #[.slice none 0 0, .slice none 0 0] 70) :: (.blk gA #[.bool a, .slice Aa1 la1.length ca1, .slice Aa2 la2.length ca2] 28) :: LT L)) := Aside0.mk hr1
               have HV1 : Aside0 (∀ k, ((.slice Av nv cv) : Value).ownBlock = some k → W0.heap.size + 3 ≤ k) := Aside0.mk (fun k e => by
                rcases hat1 with h | ⟨b, h, hb⟩
                ·exact HV.out k (h ▸ e)
                ·rw [h] at e; cases e; have h1 : W.heap.size ≤ (wr.drewN (1 + m)).heap.size := HR1.out.fr.size; have := HGE.out; omega)
               have xM2 : w1.cell? ⟨gM, 1, none⟩ = some v := (blk_cell (HR2.out.blk 5 rfl) 1).trans rfl
               have fM2 := blk_frozen (HR2.out.blk 5 rfl) 1
               have HR3 : Aside0 (Rx (fun k => k = gQ ∨ k = gM ∨ v.ownBlock = some k) W (w1.setCell ⟨gM, 1, none⟩ (.slice Av nv cv)) ((.blk gX #[.slice (some ⟨gC, 0, none⟩) ps.length ps.length] 22) :: (.blk gV #[.slice (some ⟨gQ, 0, none⟩) ps.length ps.length] 22) :: (.blk gQ (rowI sr) 3) :: (.row (.slice Av nv cv) (placesN la1 ls t ++ [numGo la1 0 0 sr])) :: (.blk gC (rowI (cntsL ls)) 3) :: (.blk gM #[.slice As S.length cs, (.slice Av nv cv)] 70) :: (.row (.slice As S.length cs) S) :: (.blk gG #[.slice (some ⟨gL, 0, none⟩) ps.length ps.length] 117) :: (.blk gL (LC L) 22) :: (.blk gR #[.slice none 0 0, .slice none 0 0] 70) :: (.blk gA #[.bool a, .slice Aa1 la1.length ca1, .slice Aa2 la2.length ca2] 28) :: LT L)) := Aside0.mk (HR2.out.put 5 rfl (.inl (.inr (.inl rfl))) (blk_set (HR2.out.blk 5 rfl) 1 _) (But1.set1 gM 1 w1 _))
               clear hr1 hat1
               refine hK _ _ ?_
               clear hK K
               refine wpAny_take (i := 8) (v := ?_) rfl (by kernel_rfl) (by kernel_rfl) (by kernel_rfl) (fun _ _ _ h => h) (Or.inl ⟨by rfl, ?_⟩) ?_
               rotate_left
               ·intro w'; go_simp; try with_reducible rfl
               refine wpAny_ready (rs := [9]) (by kernel_rfl) (by simp) ?_
               refine AllReady.cons rfl (fun K hK => ?_) ?_
               ·go_simp
                refine hK _ _ ?_
                clear hK K
                refine wpAny_done (by kernel_rfl) ?_ _
                gi_wp2
                have hz := HLT.out
                refine ⟨HR3.out.keeps (fun k hk => by rcases hk with rfl | rfl | hk; exact Th.cells (HS1.out.get 2 rfl) _ rfl; exact Th.cells (HS1.out.get 5 rfl) _ rfl; exact Th.cells (HS1.out.get 3 rfl) k hk), fun k hk => HR3.out.fr.same k ?_ ?_, HR3.out.fr.blk HAT.out HNG.out, ⟨sr, .slice Av nv cv, hsr.out, ?_, ?_⟩⟩
                ·rcases hk with rfl | ⟨_, hk⟩
                 ·exact blk_lt (HS1.out.blk 0 rfl)
                 ·cases hk; exact blk_lt (HS1.out.blk 4 rfl)
                ·rcases hk with rfl | ⟨_, hk⟩
                 ·rintro (e | e | e)
                  ·exact HS1.out.apart 0 2 (by decide) rfl rfl _ rfl e
                  ·exact HS1.out.apart 0 5 (by decide) rfl rfl _ rfl e
                  ·exact HS1.out.apart 0 3 (by decide) rfl rfl _ rfl e
                 ·cases hk
                  rintro (e | e | e)
                  ·exact HS1.out.apart 4 2 (by decide) rfl rfl _ rfl e
                  ·exact HS1.out.apart 4 5 (by decide) rfl rfl _ rfl e
                  ·exact HS1.out.apart 4 3 (by decide) rfl rfl _ rfl e
                ·have e1 : placesN la1 ls (t + 1) = placesN la1 ls t ++ [numGo la1 0 0 sr] := by rw [HSE.out]; rfl
                 rw [e1]
                 refine Rx.back HS1.out HR3.out HOO.out (fun T hT k hk => ?_)
                 have hw0 := HS0.out.below.size
                 simp only [List.mem_cons] at hT
                 rcases hT with rfl | rfl | rfl | rfl | rfl | rfl | rfl | rfl | rfl | rfl | rfl | hT
                 ·rw [show k = gX from hk]; exact (HS1.out.get 0 rfl).2
                 ·rw [show k = gV from hk]; exact (HS1.out.get 1 rfl).2
                 ·rw [show k = gQ from hk]; exact (HS1.out.get 2 rfl).2
                 ·have := HV1.out k hk; omega
                 ·rw [show k = gC from hk]; exact (HS1.out.get 4 rfl).2
                 ·rw [show k = gM from hk]; exact (HS1.out.get 5 rfl).2
                 ·exact Kd.R_base (HS1.out.row 6 rfl) k hk
                 ·rw [show k = gG from hk]; exact (HS1.out.get 7 rfl).2
                 ·rw [show k = gL from hk]; exact (HS1.out.get 8 rfl).2
                 ·rw [show k = gR from hk]; exact (HS1.out.get 9 rfl).2
                 ·rw [show k = gA from hk]; exact (HS1.out.get 10 rfl).2
                 ·exact HGE_.out T hT k hk
                ·exact HV1.out
               exact AllReady.nil
              exact AllReady.nil
             exact AllReady.nil
            exact AllReady.nil
           refine AllReady.cons rfl (fun K hK => ?_) ?_
           ·go_simp
            refine (HNM.out _ (below_drew (Below.refl _ _))).mono ?_
            rintro e w' ⟨rfl, m, rfl⟩
            have HR1 := Aside0.mk (HX.out.drewN (1 + m))
            refine hK _ _ ?_
            clear hK K
            refine wpAny_ready (rs := [1, 6]) (by kernel_rfl) (by simp) ?_
            refine AllReady.cons rfl (fun K hK => ?_) ?_
            ·go_simp
             refine hK _ _ ?_
             clear hK K
             refine wpAny_ready (rs := [6]) (by kernel_rfl) (by simp) ?_
             refine AllReady.cons rfl (fun K hK => ?_) ?_
             ·go_simp
              have xM9 : ((wr.drewN (1 + m)).alloc (.cells #[.int .i64 (numGo la1 0 0 sr)] 3)).cell? ⟨gM, 1, none⟩ = some v := (blk_cell (blk_alloc (HR1.out.blk 5 rfl) _) 1).trans rfl
              refine hK _ _ ?_
              clear hK K
              refine wpAny_ready (rs := [7]) (by kernel_rfl) (by simp) ?_
              refine AllReady.cons rfl (fun K hK => ?_) ?_
              ·refine HR1.out.append_step 3 rfl (fun k e => .inl (.inr (.inr e))) rfl (.tmp 169) (.tmp 174) rfl Try.underlying22 info3 (numGo la1 0 0 sr) rfl rfl (by have := HTT.out; have := HCP.out; rw [placesN_len]; omega) ?_
               intro v1 w1 hr1 hat1
               obtain ⟨Av, cv, hv_⟩ := Kd.R_slice (hr1.row 3 rfl)
               obtain ⟨nv, hnv⟩ : ∃ n, n = (placesN la1 ls t ++ [numGo la1 0 0 sr]).length := ⟨_, rfl⟩
               rw [← hnv] at hv_
               subst hv_
               clear hnv
               have HR2 : Aside0 (Rx (fun k => k = gQ ∨ k = gM ∨ v.ownBlock = some k) W w1 ((.blk gX #[.slice (some ⟨gC, 0, none⟩) ps.length ps.length] 22) :: (.blk gV #[.slice (some ⟨gQ, 0, none⟩) ps.length ps.length] 22) :: (.blk gQ (rowI sr) 3) :: (.row (.slice Av nv cv) (placesN la1 ls t ++ [numGo la1 0 0 sr])) :: (.blk gC (rowI (cntsL ls)) 3) :: (.blk gM #[.slice As S.length cs, v] 70) :: (.row (.slice As S.length cs) S) :: (.blk gG #[.slice (some ⟨gL, 0, none⟩) ps.length ps.length] 117) :: (.blk gL (LC L) 22) :: (.blk gR #[.slice none 0 0, .slice none 0 0] 70) :: (.blk gA #[.bool a, .slice Aa1 la1.length ca1, .slice Aa2 la2.length ca2] 28) :: LT L)) := Aside0.mk hr1
               have HV1 : Aside0 (∀ k, ((.slice Av nv cv) : Value).ownBlock = some k → W0.heap.size + 3 ≤ k) := Aside0.mk (fun k e => by
                rcases hat1 with h | ⟨b, h, hb⟩
                ·exact HV.out k (h ▸ e)
                ·rw [h] at e; cases e; have h1 : W.heap.size ≤ (wr.drewN (1 + m)).heap.size := HR1.out.fr.size; have := HGE.out; omega)
               have xM2 : w1.cell? ⟨gM, 1, none⟩ = some v := (blk_cell (HR2.out.blk 5 rfl) 1).trans rfl
               have fM2 := blk_frozen (HR2.out.blk 5 rfl) 1
               have HR3 : Aside0 (Rx (fun k => k = gQ ∨ k = gM ∨ v.ownBlock = some k) W (w1.setCell ⟨gM, 1, none⟩ (.slice Av nv cv)) ((.blk gX #[.slice (some ⟨gC, 0, none⟩) ps.length ps.length] 22) :: (.blk gV #[.slice (some ⟨gQ, 0, none⟩) ps.length ps.length] 22) :: (.blk gQ (rowI sr) 3) :: (.row (.slice Av nv cv) (placesN la1 ls t ++ [numGo la1 0 0 sr])) :: (.blk gC (rowI (cntsL ls)) 3) :: (.blk gM #[.slice As S.length cs, (.slice Av nv cv)] 70) :: (.row (.slice As S.length cs) S) :: (.blk gG #[.slice (some ⟨gL, 0, none⟩) ps.length ps.length] 117) :: (.blk gL (LC L) 22) :: (.blk gR #[.slice none 0 0, .slice none 0 0] 70) :: (.blk gA #[.bool a, .slice Aa1 la1.length ca1, .slice Aa2 la2.length ca2] 28) :: LT L)) := Aside0.mk (HR2.out.put 5 rfl (.inl (.inr (.inl rfl))) (blk_set (HR2.out.blk 5 rfl) 1 _) (But1.set1 gM 1 w1 _))
               clear hr1 hat1
               refine hK _ _ ?_
               clear hK K
               refine wpAny_take (i := 8) (v := ?_) rfl (by kernel_rfl) (by kernel_rfl) (by kernel_rfl) (fun _ _ _ h => h) (Or.inl ⟨by rfl, ?_⟩) ?_
               rotate_left
               ·intro w'; go_simp; try with_reducible rfl
               refine wpAny_ready (rs := [9]) (by kernel_rfl) (by simp) ?_
               refine AllReady.cons rfl (fun K hK => ?_) ?_
               ·go_simp
                refine hK _ _ ?_
                clear hK K
                refine wpAny_done (by kernel_rfl) ?_ _
                gi_wp2
                have hz := HLT.out
                refine ⟨HR3.out.keeps (fun k hk => by rcases hk with rfl | rfl | hk; exact Th.cells (HS1.out.get 2 rfl) _ rfl; exact Th.cells (HS1.out.get 5 rfl) _ rfl; exact Th.cells (HS1.out.get 3 rfl) k hk), fun k hk => HR3.out.fr.same k ?_ ?_, HR3.out.fr.blk HAT.out HNG.out, ⟨sr, .slice Av nv cv, hsr.out, ?_, ?_⟩⟩
                ·rcases hk with rfl | ⟨_, hk⟩
                 ·exact blk_lt (HS1.out.blk 0 rfl)
                 ·cases hk; exact blk_lt (HS1.out.blk 4 rfl)
                ·rcases hk with rfl | ⟨_, hk⟩
                 ·rintro (e | e | e)
                  ·exact HS1.out.apart 0 2 (by decide) rfl rfl _ rfl e
                  ·exact HS1.out.apart 0 5 (by decide) rfl rfl _ rfl e
                  ·exact HS1.out.apart 0 3 (by decide) rfl rfl _ rfl e
                 ·cases hk
                  rintro (e | e | e)
                  ·exact HS1.out.apart 4 2 (by decide) rfl rfl _ rfl e
                  ·exact HS1.out.apart 4 5 (by decide) rfl rfl _ rfl e
                  ·exact HS1.out.apart 4 3 (by decide) rfl rfl _ rfl e
                ·have e1 : placesN la1 ls (t + 1) = placesN la1 ls t ++ [numGo la1 0 0 sr] := by rw [HSE.out]; rfl
                 rw [e1]
                 refine Rx.back HS1.out HR3.out HOO.out (fun T hT k hk => ?_)
                 have hw0 := HS0.out.below.size
                 simp only [List.mem_cons] at hT
                 rcases hT with rfl | rfl | rfl | rfl | rfl | rfl | rfl | rfl | rfl | rfl | rfl | hT
                 ·rw [show k = gX from hk]; exact (HS1.out.get 0 rfl).2
                 ·rw [show k = gV from hk]; exact (HS1.out.get 1 rfl).2
                 ·rw [show k = gQ from hk]; exact (HS1.out.get 2 rfl).2
                 ·have := HV1.out k hk; omega
                 ·rw [show k = gC from hk]; exact (HS1.out.get 4 rfl).2
                 ·rw [show k = gM from hk]; exact (HS1.out.get 5 rfl).2
                 ·exact Kd.R_base (HS1.out.row 6 rfl) k hk
                 ·rw [show k = gG from hk]; exact (HS1.out.get 7 rfl).2
                 ·rw [show k = gL from hk]; exact (HS1.out.get 8 rfl).2
                 ·rw [show k = gR from hk]; exact (HS1.out.get 9 rfl).2
                 ·rw [show k = gA from hk]; exact (HS1.out.get 10 rfl).2
                 ·exact HGE_.out T hT k hk
                ·exact HV1.out
               exact AllReady.nil
              exact AllReady.nil
             exact AllReady.nil
            refine AllReady.cons rfl (fun K hK => ?_) ?_
            ·go_simp
             have xM9 : ((wr.drewN (1 + m)).alloc (.cells #[.int .i64 (numGo la1 0 0 sr)] 3)).cell? ⟨gM, 1, none⟩ = some v := (blk_cell (blk_alloc (HR1.out.blk 5 rfl) _) 1).trans rfl
             refine hK _ _ ?_
             clear hK K
             refine wpAny_ready (rs := [1]) (by kernel_rfl) (by simp) ?_
             refine AllReady.cons rfl (fun K hK => ?_) ?_
             ·go_simp
              refine hK _ _ ?_
              clear hK K
              refine wpAny_ready (rs := [7]) (by kernel_rfl) (by simp) ?_
              refine AllReady.cons rfl (fun K hK => ?_) ?_
              ·refine HR1.out.append_step 3 rfl (fun k e => .inl (.inr (.inr e))) rfl (.tmp 169) (.tmp 174) rfl Try.underlying22 info3 (numGo la1 0 0 sr) rfl rfl (by have := HTT.out; have := HCP.out; rw [placesN_len]; omega) ?_
               intro v1 w1 hr1 hat1
               obtain ⟨Av, cv, hv_⟩ := Kd.R_slice (hr1.row 3 rfl)
               obtain ⟨nv, hnv⟩ : ∃ n, n = (placesN la1 ls t ++ [numGo la1 0 0 sr]).length := ⟨_, rfl⟩
               rw [← hnv] at hv_
               subst hv_
               clear hnv
               have HR2 : Aside0 (Rx (fun k => k = gQ ∨ k = gM ∨ v.ownBlock = some k) W w1 ((.blk gX #[.slice (some ⟨gC, 0, none⟩) ps.length ps.length] 22) :: (.blk gV #[.slice (some ⟨gQ, 0, none⟩) ps.length ps.length] 22) :: (.blk gQ (rowI sr) 3) :: (.row (.slice Av nv cv) (placesN la1 ls t ++ [numGo la1 0 0 sr])) :: (.blk gC (rowI (cntsL ls)) 3) :: (.blk gM #[.slice As S.length cs, v] 70) :: (.row (.slice As S.length cs) S) :: (.blk gG #[.slice (some ⟨gL, 0, none⟩) ps.length ps.length] 117) :: (.blk gL (LC L) 22) :: (.blk gR #[.slice none 0 0, .slice none 0 0] 70) :: (.blk gA #[.bool a, .slice Aa1 la1.length ca1, .slice Aa2 la2.length ca2] 28) :: LT L)) := Aside0.mk hr1
               have HV1 : Aside0 (∀ k, ((.slice Av nv cv) : Value).ownBlock = some k → W0.heap.size + 3 ≤ k) := Aside0.mk (fun k e => by
                rcases hat1 with h | ⟨b, h, hb⟩
                ·exact HV.out k (h ▸ e)
                ·rw [h] at e; cases e; have h1 : W.heap.size ≤ (wr.drewN (1 + m)).heap.size := HR1.out.fr.size; have := HGE.out; omega)
               have xM2 : w1.cell? ⟨gM, 1, none⟩ = some v := (blk_cell (HR2.out.blk 5 rfl) 1).trans rfl
               have fM2 := blk_frozen (HR2.out.blk 5 rfl) 1
               have HR3 : Aside0 (Rx (fun k => k = gQ ∨ k = gM ∨ v.ownBlock = some k) W (w1.setCell ⟨gM, 1, none⟩ (.slice Av nv cv)) ((.blk gX #[.slice (some ⟨gC, 0, none⟩) ps.length ps.length] 22) :: (.blk gV #[.slice (some ⟨gQ, 0, none⟩) ps.length ps.length] 22) :: (.blk gQ (rowI sr) 3) :: (.row (.slice Av nv cv) (placesN la1 ls t ++ [numGo la1 0 0 sr])) :: (.blk gC (rowI (cntsL ls)) 3) :: (.blk gM #[.slice As S.length cs, (.slice Av nv cv)] 70) :: (.row (.slice As S.length cs) S) :: (.blk gG #[.slice (some ⟨gL, 0, none⟩) ps.length ps.length] 117) :: (.blk gL (LC L) 22) :: (.blk gR #[.slice none 0 0, .slice none 0 0] 70) :: (.blk gA #[.bool a, .slice Aa1 la1.length ca1, .slice Aa2 la2.length ca2] 28) :: LT L)) := Aside0.mk (HR2.out.put 5 rfl (.inl (.inr (.inl rfl))) (blk_set (HR2.out.blk 5 rfl) 1 _) (But1.set1 gM 1 w1 _))
               clear hr1 hat1
               refine hK _ _ ?_
               clear hK K
               refine wpAny_take (i := 8) (v := ?_) rfl (by kernel_rfl) (by kernel_rfl) (by kernel_rfl) (fun _ _ _ h => h) (Or.inl ⟨by rfl, ?_⟩) ?_
               rotate_left
               ·intro w'; go_simp; try with_reducible rfl
               refine wpAny_ready (rs := [9]) (by kernel_rfl) (by simp) ?_
               refine AllReady.cons rfl (fun K hK => ?_) ?_
               ·go_simp
                refine hK _ _ ?_
                clear hK K
                refine wpAny_done (by kernel_rfl) ?_ _
                gi_wp2
                have hz := HLT.out
                refine ⟨HR3.out.keeps (fun k hk => by rcases hk with rfl | rfl | hk; exact Th.cells (HS1.out.get 2 rfl) _ rfl; exact Th.cells (HS1.out.get 5 rfl) _ rfl; exact Th.cells (HS1.out.get 3 rfl) k hk), fun k hk => HR3.out.fr.same k ?_ ?_, HR3.out.fr.blk HAT.out HNG.out, ⟨sr, .slice Av nv cv, hsr.out, ?_, ?_⟩⟩
                ·rcases hk with rfl | ⟨_, hk⟩
                 ·exact blk_lt (HS1.out.blk 0 rfl)
                 ·cases hk; exact blk_lt (HS1.out.blk 4 rfl)
                ·rcases hk with rfl | ⟨_, hk⟩
                 ·rintro (e | e | e)
                  ·exact HS1.out.apart 0 2 (by decide) rfl rfl _ rfl e
                  ·exact HS1.out.apart 0 5 (by decide) rfl rfl _ rfl e
                  ·exact HS1.out.apart 0 3 (by decide) rfl rfl _ rfl e
                 ·cases hk
                  rintro (e | e | e)
                  ·exact HS1.out.apart 4 2 (by decide) rfl rfl _ rfl e
                  ·exact HS1.out.apart 4 5 (by decide) rfl rfl _ rfl e
                  ·exact HS1.out.apart 4 3 (by decide) rfl rfl _ rfl e
                ·have e1 : placesN la1 ls (t + 1) = placesN la1 ls t ++ [numGo la1 0 0 sr] := by rw [HSE.out]; rfl
                 rw [e1]
                 refine Rx.back HS1.out HR3.out HOO.out (fun T hT k hk => ?_)
                 have hw0 := HS0.out.below.size
                 simp only [List.mem_cons] at hT
                 rcases hT with rfl | rfl | rfl | rfl | rfl | rfl | rfl | rfl | rfl | rfl | rfl | hT
                 ·rw [show k = gX from hk]; exact (HS1.out.get 0 rfl).2
                 ·rw [show k = gV from hk]; exact (HS1.out.get 1 rfl).2
                 ·rw [show k = gQ from hk]; exact (HS1.out.get 2 rfl).2
                 ·have := HV1.out k hk; omega
                 ·rw [show k = gC from hk]; exact (HS1.out.get 4 rfl).2
                 ·rw [show k = gM from hk]; exact (HS1.out.get 5 rfl).2
                 ·exact Kd.R_base (HS1.out.row 6 rfl) k hk
                 ·rw [show k = gG from hk]; exact (HS1.out.get 7 rfl).2
                 ·rw [show k = gL from hk]; exact (HS1.out.get 8 rfl).2
                 ·rw [show k = gR from hk]; exact (HS1.out.get 9 rfl).2
                 ·rw [show k = gA from hk]; exact (HS1.out.get 10 rfl).2
                 ·exact HGE_.out T hT k hk
                ·exact HV1.out
               exact AllReady.nil
              exact AllReady.nil
             exact AllReady.nil
            exact AllReady.nil
           exact AllReady.nil
          exact AllReady.nil
         refine AllReady.cons rfl (fun K hK => ?_) ?_
         ·go_simp
          refine hK _ _ ?_
          clear hK K
          refine wpAny_ready (rs := [1, 3]) (by kernel_rfl) (by simp) ?_
          refine AllReady.cons rfl (fun K hK => ?_) ?_
          ·go_simp
           refine hK _ _ ?_
           clear hK K
           refine wpAny_ready (rs := [3]) (by kernel_rfl) (by simp) ?_
           refine AllReady.cons rfl (fun K hK => ?_) ?_
           ·go_simp
            refine hK _ _ ?_
            clear hK K
            refine wpAny_ready (rs := [5]) (by kernel_rfl) (by simp) ?_
            refine AllReady.cons rfl (fun K hK => ?_) ?_
            ·go_simp
             refine (HNM.out _ (below_drew (Below.refl _ _))).mono ?_
             rintro e w' ⟨rfl, m, rfl⟩
             have HR1 := Aside0.mk (HX.out.drewN (1 + m))
             refine hK _ _ ?_
             clear hK K
             refine wpAny_ready (rs := [6]) (by kernel_rfl) (by simp) ?_
             refine AllReady.cons rfl (fun K hK => ?_) ?_
             ·go_simp
              have xM9 : ((wr.drewN (1 + m)).alloc (.cells #[.int .i64 (numGo la1 0 0 sr)] 3)).cell? ⟨gM, 1, none⟩ = some v := (blk_cell (blk_alloc (HR1.out.blk 5 rfl) _) 1).trans rfl
              refine hK _ _ ?_
              clear hK K
              refine wpAny_ready (rs := [7]) (by kernel_rfl) (by simp) ?_
              refine AllReady.cons rfl (fun K hK => ?_) ?_
              ·refine HR1.out.append_step 3 rfl (fun k e => .inl (.inr (.inr e))) rfl (.tmp 169) (.tmp 174) rfl Try.underlying22 info3 (numGo la1 0 0 sr) rfl rfl (by have := HTT.out; have := HCP.out; rw [placesN_len]; omega) ?_
               intro v1 w1 hr1 hat1
               obtain ⟨Av, cv, hv_⟩ := Kd.R_slice (hr1.row 3 rfl)
               obtain ⟨nv, hnv⟩ : ∃ n, n = (placesN la1 ls t ++ [numGo la1 0 0 sr]).length := ⟨_, rfl⟩
               rw [← hnv] at hv_
               subst hv_
               clear hnv
               have HR2 : Aside0 (Rx (fun k => k = gQ ∨ k = gM ∨ v.ownBlock = some k) W w1 ((.blk gX #[.slice (some ⟨gC, 0, none⟩) ps.length ps.length] 22) :: (.blk gV #[.slice (some ⟨gQ, 0, none⟩) ps.length ps.length] 22) :: (.blk gQ (rowI sr) 3) :: (.row (.slice Av nv cv) (placesN la1 ls t ++ [numGo la1 0 0 sr])) :: (.blk gC (rowI (cntsL ls)) 3) :: (.blk gM #[.slice As S.length cs, v] 70) :: (.row (.slice As S.length cs) S) :: (.blk gG #[.slice (some ⟨gL, 0, none⟩) ps.length ps.length] 117) :: (.blk gL (LC L) 22) :: (.blk gR #[.slice none 0 0, .slice none 0 0] 70) :: (.blk gA #[.bool a, .slice Aa1 la1.length ca1, .slice Aa2 la2.length ca2] 28) :: LT L)) := Aside0.mk hr1
               have HV1 : Aside0 (∀ k, ((.slice Av nv cv) : Value).ownBlock = some k → W0.heap.size + 3 ≤ k) := Aside0.mk (fun k e => by
                rcases hat1 with h | ⟨b, h, hb⟩
                ·exact HV.out k (h ▸ e)
                ·rw [h] at e; cases e; have h1 : W.heap.size ≤ (wr.drewN (1 + m)).heap.size := HR1.out.fr.size; have := HGE.out; omega)
               have xM2 : w1.cell? ⟨gM, 1, none⟩ = some v := (blk_cell (HR2.out.blk 5 rfl) 1).trans rfl
               have fM2 := blk_frozen (HR2.out.blk 5 rfl) 1
               have HR3 : Aside0 (Rx (fun k => k = gQ ∨ k = gM ∨ v.ownBlock = some k) W (w1.setCell ⟨gM, 1, none⟩ (.slice Av nv cv)) ((.blk gX #[.slice (some ⟨gC, 0, none⟩) ps.length ps.length] 22) :: (.blk gV #[.slice (some ⟨gQ, 0, none⟩) ps.length ps.length] 22) :: (.blk gQ (rowI sr) 3) :: (.row (.slice Av nv cv) (placesN la1 ls t ++ [numGo la1 0 0 sr])) :: (.blk gC (rowI (cntsL ls)) 3) :: (.blk gM #[.slice As S.length cs, (.slice Av nv cv)] 70) :: (.row (.slice As S.length cs) S) :: (.blk gG #[.slice (some ⟨gL, 0, none⟩) ps.length ps.length] 117) :: (.blk gL (LC L) 22) :: (.blk gR #[.slice none 0 0, .slice none 0 0] 70) :: (.blk gA #[.bool a, .slice Aa1 la1.length ca1, .slice Aa2 la2.length ca2] 28) :: LT L)) := Aside0.mk (HR2.out.put 5 rfl (.inl (.inr (.inl rfl))) (blk_set (HR2.out.blk 5 rfl) 1 _) (But1.set1 gM 1 w1 _))
               clear hr1 hat1
               refine hK _ _ ?_
               clear hK K
               refine wpAny_take (i := 8) (v := ?_) rfl (by kernel_rfl) (by kernel_rfl) (by kernel_rfl) (fun _ _ _ h => h) (Or.inl ⟨by rfl, ?_⟩) ?_
               rotate_left
               ·intro w'; go_simp; try with_reducible rfl
               refine wpAny_ready (rs := [9]) (by kernel_rfl) (by simp) ?_
               refine AllReady.cons rfl (fun K hK => ?_) ?_
               ·go_simp
                refine hK _ _ ?_
                clear hK K
                refine wpAny_done (by kernel_rfl) ?_ _
                gi_wp2
                have hz := HLT.out
                refine ⟨HR3.out.keeps (fun k hk => by rcases hk with rfl | rfl | hk; exact Th.cells (HS1.out.get 2 rfl) _ rfl; exact Th.cells (HS1.out.get 5 rfl) _ rfl; exact Th.cells (HS1.out.get 3 rfl) k hk), fun k hk => HR3.out.fr.same k ?_ ?_, HR3.out.fr.blk HAT.out HNG.out, ⟨sr, .slice Av nv cv, hsr.out, ?_, ?_⟩⟩
                ·rcases hk with rfl | ⟨_, hk⟩
                 ·exact blk_lt (HS1.out.blk 0 rfl)
                 ·cases hk; exact blk_lt (HS1.out.blk 4 rfl)
                ·rcases hk with rfl | ⟨_, hk⟩
                 ·rintro (e | e | e)
                  ·exact HS1.out.apart 0 2 (by decide) rfl rfl _ rfl e
                  ·exact HS1.out.apart 0 5 (by decide) rfl rfl _ rfl e
                  ·exact HS1.out.apart 0 3 (by decide) rfl rfl _ rfl e
                 ·cases hk
                  rintro (e | e | e)
                  ·exact HS1.out.apart 4 2 (by decide) rfl rfl _ rfl e
                  ·exact HS1.out.apart 4 5 (by decide) rfl rfl _ rfl e
                  ·exact HS1.out.apart 4 3 (by decide) rfl rfl _ rfl e
                ·have e1 : placesN la1 ls (t + 1) = placesN la1 ls t ++ [numGo la1 0 0 sr] := by rw [HSE.out]; rfl
                 rw [e1]
                 refine Rx.back HS1.out HR3.out HOO.out (fun T hT k hk => ?_)
                 have hw0 := HS0.out.below.size
                 simp only [List.mem_cons] at hT
                 rcases hT with rfl | rfl | rfl | rfl | rfl | rfl | rfl | rfl | rfl | rfl | rfl | hT
                 ·rw [show k = gX from hk]; exact (HS1.out.get 0 rfl).2
                 ·rw [show k = gV from hk]; exact (HS1.out.get 1 rfl).2
                 ·rw [show k = gQ from hk]; exact (HS1.out.get 2 rfl).2
                 ·have := HV1.out k hk; omega
                 ·rw [show k = gC from hk]; exact (HS1.out.get 4 rfl).2
                 ·rw [show k = gM from hk]; exact (HS1.out.get 5 rfl).2
                 ·exact Kd.R_base (HS1.out.row 6 rfl) k hk
                 ·rw [show k = gG from hk]; exact (HS1.out.get 7 rfl).2
                 ·rw [show k = gL from hk]; exact (HS1.out.get 8 rfl).2
                 ·rw [show k = gR from hk]; exact (HS1.out.get 9 rfl).2
                 ·rw [show k = gA from hk]; exact (HS1.out.get 10 rfl).2
                 ·exact HGE_.out T hT k hk
                ·exact HV1.out
               exact AllReady.nil
              exact AllReady.nil
             exact AllReady.nil
            exact AllReady.nil
           exact AllReady.nil
          refine AllReady.cons rfl (fun K hK => ?_) ?_
          ·go_simp
           refine hK _ _ ?_
           clear hK K
           refine wpAny_ready (rs := [1, 5]) (by kernel_rfl) (by simp) ?_
           refine AllReady.cons rfl (fun K hK => ?_) ?_
           ·go_simp
            refine hK _ _ ?_
            clear hK K
            refine wpAny_ready (rs := [5]) (by kernel_rfl) (by simp) ?_
            refine AllReady.cons rfl (fun K hK => ?_) ?_
            ·go_simp
             refine (HNM.out _ (below_drew (Below.refl _ _))).mono ?_
             rintro e w' ⟨rfl, m, rfl⟩
             have HR1 := Aside0.mk (HX.out.drewN (1 + m))
             refine hK _ _ ?_
             clear hK K
             refine wpAny_ready (rs := [6]) (by kernel_rfl) (by simp) ?_
             refine AllReady.cons rfl (fun K hK => ?_) ?_
             ·go_simp
              have xM9 : ((wr.drewN (1 + m)).alloc (.cells #[.int .i64 (numGo la1 0 0 sr)] 3)).cell? ⟨gM, 1, none⟩ = some v := (blk_cell (blk_alloc (HR1.out.blk 5 rfl) _) 1).trans rfl
              refine hK _ _ ?_
              clear hK K
              refine wpAny_ready (rs := [7]) (by kernel_rfl) (by simp) ?_
              refine AllReady.cons rfl (fun K hK => ?_) ?_
              ·refine HR1.out.append_step 3 rfl (fun k e => .inl (.inr (.inr e))) rfl (.tmp 169) (.tmp 174) rfl Try.underlying22 info3 (numGo la1 0 0 sr) rfl rfl (by have := HTT.out; have := HCP.out; rw [placesN_len]; omega) ?_
               intro v1 w1 hr1 hat1
               obtain ⟨Av, cv, hv_⟩ := Kd.R_slice (hr1.row 3 rfl)
               obtain ⟨nv, hnv⟩ : ∃ n, n = (placesN la1 ls t ++ [numGo la1 0 0 sr]).length := ⟨_, rfl⟩
               rw [← hnv] at hv_
               subst hv_
               clear hnv
               have HR2 : Aside0 (Rx (fun k => k = gQ ∨ k = gM ∨ v.ownBlock = some k) W w1 ((.blk gX #[.slice (some ⟨gC, 0, none⟩) ps.length ps.length] 22) :: (.blk gV #[.slice (some ⟨gQ, 0, none⟩) ps.length ps.length] 22) :: (.blk gQ (rowI sr) 3) :: (.row (.slice Av nv cv) (placesN la1 ls t ++ [numGo la1 0 0 sr])) :: (.blk gC (rowI (cntsL ls)) 3) :: (.blk gM #[.slice As S.length cs, v] 70) :: (.row (.slice As S.length cs) S) :: (.blk gG #[.slice (some ⟨gL, 0, none⟩) ps.length ps.length] 117) :: (.blk gL (LC L) 22) :: (.blk gR #[.slice none 0 0, .slice none 0 0] 70) :: (.blk gA #[.bool a, .slice Aa1 la1.length ca1, .slice Aa2 la2.length ca2] 28) :: LT L)) := Aside0.mk hr1
               have HV1 : Aside0 (∀ k, ((.slice Av nv cv) : Value).ownBlock = some k → W0.heap.size + 3 ≤ k) := Aside0.mk (fun k e => by
                rcases hat1 with h | ⟨b, h, hb⟩
                ·exact HV.out k (h ▸ e)
                ·rw [h] at e; cases e; have h1 : W.heap.size ≤ (wr.drewN (1 + m)).heap.size := HR1.out.fr.size; have := HGE.out; omega)
               have xM2 : w1.cell? ⟨gM, 1, none⟩ = some v := (blk_cell (HR2.out.blk 5 rfl) 1).trans rfl
               have fM2 := blk_frozen (HR2.out.blk 5 rfl) 1
               have HR3 : Aside0 (Rx (fun k => k = gQ ∨ k = gM ∨ v.ownBlock = some k) W (w1.setCell ⟨gM, 1, none⟩ (.slice Av nv cv)) ((.blk gX #[.slice (some ⟨gC, 0, none⟩) ps.length ps.length] 22) :: (.blk gV #[.slice (some ⟨gQ, 0, none⟩) ps.length ps.length] 22) :: (.blk gQ (rowI sr) 3) :: (.row (.slice Av nv cv) (placesN la1 ls t ++ [numGo la1 0 0 sr])) :: (.blk gC (rowI (cntsL ls)) 3) :: (.blk gM #[.slice As S.length cs, (.slice Av nv cv)] 70) :: (.row (.slice As S.length cs) S) :: (.blk gG #[.slice (some ⟨gL, 0, none⟩) ps.length ps.length] 117) :: (.blk gL (LC L) 22) :: (.blk gR #[.slice none 0 0, .slice none 0 0] 70) :: (.blk gA #[.bool a, .slice Aa1 la1.length ca1, .slice Aa2 la2.length ca2] 28) :: LT L)) := Aside0.mk (HR2.out.put 5 rfl (.inl (.inr (.inl rfl))) (blk_set (HR2.out.blk 5 rfl) 1 _) (But1.set1 gM 1 w1 _))
               clear hr1 hat1
               refine hK _ _ ?_
               clear hK K
               refine wpAny_take (i := 8) (v := ?_) rfl (by kernel_rfl) (by kernel_rfl) (by kernel_rfl) (fun _ _ _ h => h) (Or.inl ⟨by rfl, ?_⟩) ?_
               rotate_left
               ·intro w'; go_simp; try with_reducible rfl
               refine wpAny_ready (rs := [9]) (by kernel_rfl) (by simp) ?_
               refine AllReady.cons rfl (fun K hK => ?_) ?_
               ·go_simp
                refine hK _ _ ?_
                clear hK K
                refine wpAny_done (by kernel_rfl) ?_ _
                gi_wp2
                have hz := HLT.out
                refine ⟨HR3.out.keeps (fun k hk => by rcases hk with rfl | rfl | hk; exact Th.cells (HS1.out.get 2 rfl) _ rfl; exact Th.cells (HS1.out.get 5 rfl) _ rfl; exact Th.cells (HS1.out.get 3 rfl) k hk), fun k hk => HR3.out.fr.same k ?_ ?_, HR3.out.fr.blk HAT.out HNG.out, ⟨sr, .slice Av nv cv, hsr.out, ?_, ?_⟩⟩
                ·rcases hk with rfl | ⟨_, hk⟩
                 ·exact blk_lt (HS1.out.blk 0 rfl)
                 ·cases hk; exact blk_lt (HS1.out.blk 4 rfl)
                ·rcases hk with rfl | ⟨_, hk⟩
                 ·rintro (e | e | e)
                  ·exact HS1.out.apart 0 2 (by decide) rfl rfl _ rfl e
                  ·exact HS1.out.apart 0 5 (by decide) rfl rfl _ rfl e
                  ·exact HS1.out.apart 0 3 (by decide) rfl rfl _ rfl e
                 ·cases hk
                  rintro (e | e | e)
                  ·exact HS1.out.apart 4 2 (by decide) rfl rfl _ rfl e
                  ·exact HS1.out.apart 4 5 (by decide) rfl rfl _ rfl e
                  ·exact HS1.out.apart 4 3 (by decide) rfl rfl _ rfl e
                ·have e1 : placesN la1 ls (t + 1) = placesN la1 ls t ++ [numGo la1 0 0 sr] := by rw [HSE.out]; rfl
                 rw [e1]
                 refine Rx.back HS1.out HR3.out HOO.out (fun T hT k hk => ?_)
                 have hw0 := HS0.out.below.size
                 simp only [List.mem_cons] at hT
                 rcases hT with rfl | rfl | rfl | rfl | rfl | rfl | rfl | rfl | rfl | rfl | rfl | hT
                 ·rw [show k = gX from hk]; exact (HS1.out.get 0 rfl).2
                 ·rw [show k = gV from hk]; exact (HS1.out.get 1 rfl).2
                 ·rw [show k = gQ from hk]; exact (HS1.out.get 2 rfl).2
                 ·have := HV1.out k hk; omega
                 ·rw [show k = gC from hk]; exact (HS1.out.get 4 rfl).2
                 ·rw [show k = gM from hk]; exact (HS1.out.get 5 rfl).2
                 ·exact Kd.R_base (HS1.out.row 6 rfl) k hk
                 ·rw [show k = gG from hk]; exact (HS1.out.get 7 rfl).2
                 ·rw [show k = gL from hk]; exact (HS1.out.get 8 rfl).2
                 ·rw [show k = gR from hk]; exact (HS1.out.get 9 rfl).2
                 ·rw [show k = gA from hk]; exact (HS1.out.get 10 rfl).2
                 ·exact HGE_.out T hT k hk
                ·exact HV1.out
               exact AllReady.nil
              exact AllReady.nil
             exact AllReady.nil
            exact AllReady.nil
           refine AllReady.cons rfl (fun K hK => ?_) ?_
           ·go_simp
            refine (HNM.out _ (below_drew (Below.refl _ _))).mono ?_
            rintro e w' ⟨rfl, m, rfl⟩
            have HR1 := Aside0.mk (HX.out.drewN (1 + m))
            refine hK _ _ ?_
            clear hK K
            refine wpAny_ready (rs := [1, 6]) (by kernel_rfl) (by simp) ?_
            refine AllReady.cons rfl (fun K hK => ?_) ?_
            ·go_simp
             refine hK _ _ ?_
             clear hK K
             refine wpAny_ready (rs := [6]) (by kernel_rfl) (by simp) ?_
             refine AllReady.cons rfl (fun K hK => ?_) ?_
             ·go_simp
              have xM9 : ((wr.drewN (1 + m)).alloc (.cells #[.int .i64 (numGo la1 0 0 sr)] 3)).cell? ⟨gM, 1, none⟩ = some v := (blk_cell (blk_alloc (HR1.out.blk 5 rfl) _) 1).trans rfl
              refine hK _ _ ?_
              clear hK K
              refine wpAny_ready (rs := [7]) (by kernel_rfl) (by simp) ?_
              refine AllReady.cons rfl (fun K hK => ?_) ?_
              ·refine HR1.out.append_step 3 rfl (fun k e => .inl (.inr (.inr e))) rfl (.tmp 169) (.tmp 174) rfl Try.underlying22 info3 (numGo la1 0 0 sr) rfl rfl (by have := HTT.out; have := HCP.out; rw [placesN_len]; omega) ?_
               intro v1 w1 hr1 hat1
               obtain ⟨Av, cv, hv_⟩ := Kd.R_slice (hr1.row 3 rfl)
               obtain ⟨nv, hnv⟩ : ∃ n, n = (placesN la1 ls t ++ [numGo la1 0 0 sr]).length := ⟨_, rfl⟩
               rw [← hnv] at hv_
               subst hv_
               clear hnv
               have HR2 : Aside0 (Rx (fun k => k = gQ ∨ k = gM ∨ v.ownBlock = some k) W w1 ((.blk gX #[.slice (some ⟨gC, 0, none⟩) ps.length ps.length] 22) :: (.blk gV #[.slice (some ⟨gQ, 0, none⟩) ps.length ps.length] 22) :: (.blk gQ (rowI sr) 3) :: (.row (.slice Av nv cv) (placesN la1 ls t ++ [numGo la1 0 0 sr])) :: (.blk gC (rowI (cntsL ls)) 3) :: (.blk gM #[.slice As S.length cs, v] 70) :: (.row (.slice As S.length cs) S) :: (.blk gG #[.slice (some ⟨gL, 0, none⟩) ps.length ps.length] 117) :: (.blk gL (LC L) 22) :: (.blk gR #[.slice none 0 0, .slice none 0 0] 70) :: (.blk gA #[.bool a, .slice Aa1 la1.length ca1, .slice Aa2 la2.length ca2] 28) :: LT L)) := Aside0.mk hr1
               have HV1 : Aside0 (∀ k, ((.slice Av nv cv) : Value).ownBlock = some k → W0.heap.size + 3 ≤ k) := Aside0.mk (fun k e => by
                rcases hat1 with h | ⟨b, h, hb⟩
                ·exact HV.out k (h ▸ e)
                ·rw [h] at e; cases e; have h1 : W.heap.size ≤ (wr.drewN (1 + m)).heap.size := HR1.out.fr.size; have := HGE.out; omega)
               have xM2 : w1.cell? ⟨gM, 1, none⟩ = some v := (blk_cell (HR2.out.blk 5 rfl) 1).trans rfl
               have fM2 := blk_frozen (HR2.out.blk 5 rfl) 1
               have HR3 : Aside0 (Rx (fun k => k = gQ ∨ k = gM ∨ v.ownBlock = some k) W (w1.setCell ⟨gM, 1, none⟩ (.slice Av nv cv)) ((.blk gX #[.slice (some ⟨gC, 0, none⟩) ps.length ps.length] 22) :: (.blk gV #[.slice (some ⟨gQ, 0, none⟩) ps.length ps.length] 22) :: (.blk gQ (rowI sr) 3) :: (.row (.slice Av nv cv) (placesN la1 ls t ++ [numGo la1 0 0 sr])) :: (.blk gC (rowI (cntsL ls)) 3) :: (.blk gM #[.slice As S.length cs, (.slice Av nv cv)] 70) :: (.row (.slice As S.length cs) S) :: (.blk gG #[.slice (some ⟨gL, 0, none⟩) ps.length ps.length] 117) :: (.blk gL (LC L) 22) :: (.blk gR #[.slice none 0 0, .slice none 0 0] 70) :: (.blk gA #[.bool a, .slice Aa1 la1.length ca1, .slice Aa2 la2.length ca2] 28) :: LT L)) := Aside0.mk (HR2.out.put 5 rfl (.inl (.inr (.inl rfl))) (blk_set (HR2.out.blk 5 rfl) 1 _) (But1.set1 gM 1 w1 _))
               clear hr1 hat1
               refine hK _ _ ?_
               clear hK K
               refine wpAny_take (i := 8) (v := ?_) rfl (by kernel_rfl) (by kernel_rfl) (by kernel_rfl) (fun _ _ _ h => h) (Or.inl ⟨by rfl, ?_⟩) ?_
               rotate_left
               ·intro w'; go_simp; try with_reducible rfl
               refine wpAny_ready (rs := [9]) (by kernel_rfl) (by simp) ?_
               refine AllReady.cons rfl (fun K hK => ?_) ?_
               ·go_simp
                refine hK _ _ ?_
                clear hK K
                refine wpAny_done (by kernel_rfl) ?_ _
                gi_wp2
                have hz := HLT.out
                refine ⟨HR3.out.keeps (fun k hk => by rcases hk with rfl | rfl | hk; exact Th.cells (HS1.out.get 2 rfl) _ rfl; exact Th.cells (HS1.out.get 5 rfl) _ rfl; exact Th.cells (HS1.out.get 3 rfl) k hk), fun k hk => HR3.out.fr.same k ?_ ?_, HR3.out.fr.blk HAT.out HNG.out, ⟨sr, .slice Av nv cv, hsr.out, ?_, ?_⟩⟩
                ·rcases hk with rfl | ⟨_, hk⟩
                 ·exact blk_lt (HS1.out.blk 0 rfl)
                 ·cases hk; exact blk_lt (HS1.out.blk 4 rfl)
                ·rcases hk with rfl | ⟨_, hk⟩
                 ·rintro (e | e | e)
                  ·exact HS1.out.apart 0 2 (by decide) rfl rfl _ rfl e
                  ·exact HS1.out.apart 0 5 (by decide) rfl rfl _ rfl e
                  ·exact HS1.out.apart 0 3 (by decide) rfl rfl _ rfl e
                 ·cases hk
                  rintro (e | e | e)
                  ·exact HS1.out.apart 4 2 (by decide) rfl rfl _ rfl e
                  ·exact HS1.out.apart 4 5 (by decide) rfl rfl _ rfl e
                  ·exact HS1.out.apart 4 3 (by decide) rfl rfl _ rfl e
                ·have e1 : placesN la1 ls (t + 1) = placesN la1 ls t ++ [numGo la1 0 0 sr] := by rw [HSE.out]; rfl
                 rw [e1]
                 refine Rx.back HS1.out HR3.out HOO.out (fun T hT k hk => ?_)
                 have hw0 := HS0.out.below.size
                 simp only [List.mem_cons] at hT
                 rcases hT with rfl | rfl | rfl | rfl | rfl | rfl | rfl | rfl | rfl | rfl | rfl | hT
                 ·rw [show k = gX from hk]; exact (HS1.out.get 0 rfl).2
                 ·rw [show k = gV from hk]; exact (HS1.out.get 1 rfl).2
                 ·rw [show k = gQ from hk]; exact (HS1.out.get 2 rfl).2
                 ·have := HV1.out k hk; omega
                 ·rw [show k = gC from hk]; exact (HS1.out.get 4 rfl).2
                 ·rw [show k = gM from hk]; exact (HS1.out.get 5 rfl).2
                 ·exact Kd.R_base (HS1.out.row 6 rfl) k hk
                 ·rw [show k = gG from hk]; exact (HS1.out.get 7 rfl).2
                 ·rw [show k = gL from hk]; exact (HS1.out.get 8 rfl).2
                 ·rw [show k = gR from hk]; exact (HS1.out.get 9 rfl).2
                 ·rw [show k = gA from hk]; exact (HS1.out.get 10 rfl).2
                 ·exact HGE_.out T hT k hk
                ·exact HV1.out
               exact AllReady.nil
              exact AllReady.nil
             exact AllReady.nil
            refine AllReady.cons rfl (fun K hK => ?_) ?_
            ·go_simp
             have xM9 : ((wr.drewN (1 + m)).alloc (.cells #[.int .i64 (numGo la1 0 0 sr)] 3)).cell? ⟨gM, 1, none⟩ = some v := (blk_cell (blk_alloc (HR1.out.blk 5 rfl) _) 1).trans rfl
             refine hK _ _ ?_
             clear hK K
             refine wpAny_ready (rs := [1]) (by kernel_rfl) (by simp) ?_
             refine AllReady.cons rfl (fun K hK => ?_) ?_
             ·go_simp
              refine hK _ _ ?_
              clear hK K
              refine wpAny_ready (rs := [7]) (by kernel_rfl) (by simp) ?_
              refine AllReady.cons rfl (fun K hK => ?_) ?_
              ·refine HR1.out.append_step 3 rfl (fun k e => .inl (.inr (.inr e))) rfl (.tmp 169) (.tmp 174) rfl Try.underlying22 info3 (numGo la1 0 0 sr) rfl rfl (by have := HTT.out; have := HCP.out; rw [placesN_len]; omega) ?_
               intro v1 w1 hr1 hat1
               obtain ⟨Av, cv, hv_⟩ := Kd.R_slice (hr1.row 3 rfl)
               obtain ⟨nv, hnv⟩ : ∃ n, n = (placesN la1 ls t ++ [numGo la1 0 0 sr]).length := ⟨_, rfl⟩
               rw [← hnv] at hv_
               subst hv_
               clear hnv
               have HR2 : Aside0 (Rx (fun k => k = gQ ∨ k = gM ∨ v.ownBlock = some k) W w1 ((.blk gX #[.slice (some ⟨gC, 0, none⟩) ps.length ps.length] 22) :: (.blk gV #[.slice (some ⟨gQ, 0, none⟩) ps.length ps.length] 22) :: (.blk gQ (rowI sr) 3) :: (.row (.slice Av nv cv) (placesN la1 ls t ++ [numGo la1 0 0 sr])) :: (.blk gC (rowI (cntsL ls)) 3) :: (.blk gM #[.slice As S.length cs, v] 70) :: (.row (.slice As S.length cs) S) :: (.blk gG #[.slice (some ⟨gL, 0, none⟩) ps.length ps.length] 117) :: (.blk gL (LC L) 22) :: (.blk gR #[.slice none 0 0, .slice none 0 0] 70) :: (.blk gA #[.bool a, .slice Aa1 la1.length ca1, .slice Aa2 la2.length ca2] 28) :: LT L)) := Aside0.mk hr1
               have HV1 : Aside0 (∀ k, ((.slice Av nv cv) : Value).ownBlock = some k → W0.heap.size + 3 ≤ k) := Aside0.mk (fun k e => by
                rcases hat1 with h | ⟨b, h, hb⟩
                ·exact HV.out k (h ▸ e)
                ·rw [h] at e; cases e; have h1 : W.heap.size ≤ (wr.drewN (1 + m)).heap.size := HR1.out.fr.size; have := HGE.out; omega)
               have xM2 : w1.cell? ⟨gM, 1, none⟩ = some v := (blk_cell (HR2.out.blk 5 rfl) 1).trans rfl
               have fM2 := blk_frozen (HR2.out.blk 5 rfl) 1
               have HR3 : Aside0 (Rx (fun k => k = gQ ∨ k = gM ∨ v.ownBlock = some k) W (w1.setCell ⟨gM, 1, none⟩ (.slice Av nv cv)) ((.blk gX #[.slice (some ⟨gC, 0, none⟩) ps.length ps.length] 22) :: (.blk gV #[.slice (some ⟨gQ, 0, none⟩) ps.length ps.length] 22) :: (.blk gQ (rowI sr) 3) :: (.row (.slice Av nv cv) (placesN la1 ls t ++ [numGo la1 0 0 sr])) :: (.blk gC (rowI (cntsL ls)) 3) :: (.blk gM #[.slice As S.length cs, (.slice Av nv cv)] 70) :: (.row (.slice As S.length cs) S) :: (.blk gG #[.slice (some ⟨gL, 0, none⟩) ps.length ps.length] 117) :: (.blk gL (LC L) 22) :: (.blk gR #[.slice none 0 0, .slice none 0 0] 70) :: (.blk gA #[.bool a, .slice Aa1 la1.length ca1, .slice Aa2 la2.length ca2] 28) :: LT L)) := Aside0.mk (HR2.out.put 5 rfl (.inl (.inr (.inl rfl))) (blk_set (HR2.out.blk 5 rfl) 1 _) (But1.set1 gM 1 w1 _))
               clear hr1 hat1
               refine hK _ _ ?_
               clear hK K
               refine wpAny_take (i := 8) (v := ?_) rfl (by kernel_rfl) (by kernel_rfl) (by kernel_rfl) (fun _ _ _ h => h) (Or.inl ⟨by rfl, ?_⟩) ?_
               rotate_left
               ·intro w'; go_simp; try with_reducible rfl
               refine wpAny_ready (rs := [9]) (by kernel_rfl) (by simp) ?_
               refine AllReady.cons rfl (fun K hK => ?_) ?_
               ·go_simp
                refine hK _ _ ?_
                clear hK K
                refine wpAny_done (by kernel_rfl) ?_ _
                gi_wp2
                have hz := HLT.out
                refine ⟨HR3.out.keeps (fun k hk => by rcases hk with rfl | rfl | hk; exact Th.cells (HS1.out.get 2 rfl) _ rfl; exact Th.cells (HS1.out.get 5 rfl) _ rfl; exact Th.cells (HS1.out.get 3 rfl) k hk), fun k hk => HR3.out.fr.same k ?_ ?_, HR3.out.fr.blk HAT.out HNG.out, ⟨sr, .slice Av nv cv, hsr.out, ?_, ?_⟩⟩
                ·rcases hk with rfl | ⟨_, hk⟩
                 ·exact blk_lt (HS1.out.blk 0 rfl)
                 ·cases hk; exact blk_lt (HS1.out.blk 4 rfl)
                ·rcases hk with rfl | ⟨_, hk⟩
                 ·rintro (e | e | e)
                  ·exact HS1.out.apart 0 2 (by decide) rfl rfl _ rfl e
                  ·exact HS1.out.apart 0 5 (by decide) rfl rfl _ rfl e
                  ·exact HS1.out.apart 0 3 (by decide) rfl rfl _ rfl e
                 ·cases hk
                  rintro (e | e | e)
                  ·exact HS1.out.apart 4 2 (by decide) rfl rfl _ rfl e
                  ·exact HS1.out.apart 4 5 (by decide) rfl rfl _ rfl e
                  ·exact HS1.out.apart 4 3 (by decide) rfl rfl _ rfl e
                ·have e1 : placesN la1 ls (t + 1) = placesN la1 ls t ++ [numGo la1 0 0 sr] := by rw [HSE.out]; rfl
                 rw [e1]
                 refine Rx.back HS1.out HR3.out HOO.out (fun T hT k hk => ?_)
                 have hw0 := HS0.out.below.size
                 simp only [List.mem_cons] at hT
                 rcases hT with rfl | rfl | rfl | rfl | rfl | rfl | rfl | rfl | rfl | rfl | rfl | hT
                 ·rw [show k = gX from hk]; exact (HS1.out.get 0 rfl).2
                 ·rw [show k = gV from hk]; exact (HS1.out.get 1 rfl).2
                 ·rw [show k = gQ from hk]; exact (HS1.out.get 2 rfl).2
                 ·have := HV1.out k hk; omega
                 ·rw [show k = gC from hk]; exact (HS1.out.get 4 rfl).2
                 ·rw [show k = gM from hk]; exact (HS1.out.get 5 rfl).2
                 ·exact Kd.R_base (HS1.out.row 6 rfl) k hk
                 ·rw [show k = gG from hk]; exact (HS1.out.get 7 rfl).2
                 ·rw [show k = gL from hk]; exact (HS1.out.get 8 rfl).2
                 ·rw [show k = gR from hk]; exact (HS1.out.get 9 rfl).2
                 ·rw [show k = gA from hk]; exact (HS1.out.get 10 rfl).2
                 ·exact HGE_.out T hT k hk
                ·exact HV1.out
               exact AllReady.nil
              exact AllReady.nil
             exact AllReady.nil
            exact AllReady.nil
           exact AllReady.nil
          exact AllReady.nil
         exact AllReady.nil
      case done =>
       rintro W ⟨src, v, e1, hS, hv⟩ hD
       obtain ⟨Av, cv, rfl⟩ := Kd.R_slice (hS.row 3 rfl)
       have HS := Aside0.mk hS
       have HD := Aside0.mk hD
       clear hS hv hD
       go_wp2_with (first | ((with_reducible refine gate_dst (N := 177) rfl ?_); refine wpList_load_row rfl 70 (.tmp 15) rfl gM rfl 70 #[.slice As S.length cs, .slice Av (placesN la1 ls (prod (cntsL ls)).toNat).length cv] (0, 0) _ (HS.out.blk 5 rfl) Try.underlying70 rfl (by kernel_rfl) ?_) | ((with_reducible refine gate_store rfl ?_); refine store_named rfl 70 (.tmp 4) (.tmp 177) rfl gR #[.slice As S.length cs, .slice Av (placesN la1 ls (prod (cntsL ls)).toNat).length cv] rfl rfl 70 #[.slice none 0 0, .slice none 0 0] (HS.out.blk 9 rfl) (by kernel_rfl) rfl (by simp [Value.oneCell']) ?_; intro w1 hx hb; have HD1 := Aside0.mk ((hb.same W0.heap.size (by have := HLT.out; omega)).trans HD.out); have HS1 := Aside0.mk (HS.out.put 9 rfl hx hb); clear hx hb))
       have hz := HLT.out
       have hrF : Kd.R (Kd.int .i64) 3 (w1.putObj W0.heap.size (.deferred none)) w.heap.size (fun _ => True) (.slice Av (placesN la1 ls (prod (cntsL ls)).toNat).length cv) (placesN la1 ls (prod (cntsL ls)).toNat) := Kd.R_of_own (ownsRow_putObj (Kd.own_of_R (HS1.out.row 3 rfl)) _ HD1.out rfl) (fun _ _ => trivial)
       have hrS : Kd.R (Kd.int .i64) 3 (w1.putObj W0.heap.size (.deferred none)) w.heap.size (fun _ => True) (.slice As S.length cs) S := Kd.R_of_own (ownsRow_putObj (Kd.own_of_R (HS1.out.row 6 rfl)) _ HD1.out rfl) (fun _ _ => trivial)
       have hcF := Kd.R_reads' hrF
       have hcS := Kd.R_reads' hrS
       refine ⟨by simp, .inl ⟨_, _, rfl, run_takeDeferred HD1.out, ?_⟩⟩
       refine ⟨_, results_ct rfl _ _ gR 70 #[.slice As S.length cs, .slice Av (placesN la1 ls (prod (cntsL ls)).toNat).length cv] (0, 0) _ rfl ((World.putObj_heap_other (by omega)).trans (HS1.out.blk 9 rfl)) Try.underlying70 rfl (by kernel_rfl), S, (placesN la1 ls (prod (cntsL ls)).toNat), As, cs, Av, cv, by rw [HWV.out]; rfl, fun _ => by rw [HWV.out]; exact ⟨rfl, rfl⟩, hcS.2.2, by omega, hcF.2.2, by omega, HS1.out.below.trans (belowK_b (w := w) (Nat.le_refl _) w1 W0.heap.size _ _ HS0.out.below.size HD1.out rfl rfl)⟩
end Go.Proofs.Ytehfcnndjhjkoaa.PA
