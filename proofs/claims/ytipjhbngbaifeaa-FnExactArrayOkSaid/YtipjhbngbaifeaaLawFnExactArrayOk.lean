/- ArrayOk of the program answers as the reference's: at every input the call returns true and each argument reads as before. No condition. -/
import Derived.Test.YtipjhbngbaifeaaRows
import Derived.Test.YtipjhbngbaifeaaFLawsFnExactArrayOk
import Derived.Test.YtipjhbngbaifeaaQFnExactArrayOk
import Derived.Test.YtipjhbngbaifeaaHOpen
import Derived.WalkKit
import Derived.ProofKit
import Derived.OpenShut
import Derived.ShutString
import Derived.ChangeOld
import Derived.Below
import Derived.SizedLaws
namespace Go.Proofs.Ytipjhbngbaifeaa.fnExactArrayOk
open Go.ChangeShapes Go.WideShapes Go.ChangeAt Go.RowKit
open Go.ChangeMaps (open_string shut_string)
set_option linter.unusedVariables false
theorem own : ownKnob Try.prog.godebug = none := by kernel_rfl
theorem laidOut : laidOutB Try.prog = true := by kernel_rfl
set_option maxRecDepth 100000 in
theorem lifted (os : Os) (started : os.Started) (H : Type) (enc : TypeId × Value → H) :
    ReturnsInHanded {} Try.checked os 4 .any (Rows.fnExactArrayOkSpec.pre6 enc Try.prog Try.f4 Rows.fnExactArrayOkRow.domain false) (Rows.fnExactArrayOkSpec.post enc Try.prog Try.f4 false true false false) := by
  refine returnsInHanded_of_change_sized (C := Try.checked) own started (by kernel_rfl) Try.func4
    (ChangeSpec.witness6 (enc := enc) (C := Try.checked) false ⟨#[], #[.agg #[.bool false, .slice none 0 0, .slice none 0 0]], []⟩ 8 (by kernel_rfl) (by kernel_rfl) (by kernel_rfl) (by kernel_rfl)) ?_
  intro W base args ds gs before hval0 hW hcnd hsz0 _
  have hval : ∀ (j : Nat) t v, Try.f4.params[j]? = some t → args[j]? = some v → Value.okWide Try.prog W .any base t v := hval0
  have hW' := hW
  obtain ⟨p, q, hA0, hV, rfl, hfz, hnd⟩ := hW
  have hA : DataW.TrodAll enc Try.prog W 0 (fun _ => true) true Try.f4.params.toList args.toList ds p := hA0
  rw [Try.params4] at hA hval
  obtain ⟨v0, vs0, d0, ds0, p0, q0, hargs, rfl, rfl, h0, r0⟩ := trodAll_cons hA
  obtain ⟨rfl, rfl, rfl⟩ := trodAll_nil r0
  obtain rfl : args = #[v0] := by cases args; simp_all
  obtain ⟨rfl, rfl⟩ := trodVars_none hV
  have k0 := h0
  have lt0 : ∀ x ∈ p0, x.block < W.heap.size := by obtain ⟨m, hm⟩ := k0; exact DataW.trod_lt m _ _ _ hm
  obtain ⟨a0, A0_1, l0_1, c0_1, A0_2, l0_2, c0_2, rfl, s0_1, s0_2⟩ := PA.open_bss Try.underlying25 (by kernel_rfl) (by kernel_rfl) Try.underlying4 Try.underlying23 Try.underlying23 Try.underlying3 (by kernel_rfl) (hval 0 25 v0 rfl rfl) h0
  clear hA0 hval0 hsz0
  obtain ⟨k, hk⟩ := PA.qFnExactArrayOk a0 l0_1 l0_2 s0_1.max s0_1.wf s0_2.max s0_2.wf
  refine (PA.laws_FnExactArrayOk.calls k a0 _ _ l0_1 _ _ l0_2 true ⟨rfl⟩ W (Go.Proofs.YtipjhbngbaifeaaW.PrintWords.Kd.C_of_reads (d := (0 : Int)) (h1 := fun _ => rfl) s0_1.reads) s0_1.cap (Go.Proofs.YtipjhbngbaifeaaW.PrintWords.Kd.C_of_reads (d := (0 : Int)) (h1 := fun _ => rfl) s0_2.reads) s0_2.cap hk).mono fun e W' ⟨he, bel0⟩ => ?_
  have bel : Below W.heap.size W W' := bel0
  subst he
  exact ⟨_, rfl, _, _, _, [], _, [], hW', trodAll_mk1 (shut_bool Try.underlying4 _), (trodAll_cons_mk (Below.trod laidOut (by kernel_rfl) (of_decide_eq_true (by kernel_rfl)) k0 bel lt0) trodAll_mk0), rfl, bel.frame _, fun h => by cases h⟩
theorem over : Rows.fnExactArrayOkRow.holds Try.pinned (OpenSpec.ofChange Rows.fnExactArrayOkSpec) :=
  OpenClaim.holds_of_wide 4 Try.f4 rfl rfl rfl rfl rfl rfl rfl ⟨rfl, rfl, rfl, rfl, rfl⟩ rfl rfl rfl rfl rfl (by kernel_rfl) Try.func4 (by kernel_rfl)
    (of_decide_eq_true (by kernel_rfl)) (by unfold Func.isWrapper; first | (rw [if_pos (by decide +kernel)]; kernel_rfl) | (rw [if_neg (by decide +kernel)]; exact ⟨rfl, rfl⟩))
    (fun os started H enc _ => lifted os started H enc)
end Go.Proofs.Ytipjhbngbaifeaa.fnExactArrayOk
namespace Go.Proofs.Ytipjhbngbaifeaa
theorem fnExactArrayOk_holds : Rows.FnExactArrayOkSaid := fnExactArrayOk.over
#print axioms fnExactArrayOk_holds
end Go.Proofs.Ytipjhbngbaifeaa
