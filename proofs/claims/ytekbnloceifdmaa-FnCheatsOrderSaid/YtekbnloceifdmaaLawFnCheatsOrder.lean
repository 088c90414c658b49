/- The row of the law FnCheatsOrder: for every input it returns true, and each argument reads afterwards as before. No condition. -/
import Derived.Test.YtekbnloceifdmaaRows
import Derived.Test.YtekbnloceifdmaaPFnCheatsOrderx10
import Derived.Test.YtekbnloceifdmaaPureFnCheatsOrder
import Derived.Test.YtekbnloceifdmaaOpenFnCheatsOrder
import Derived.WalkKit
import Derived.ProofKit
import Derived.OpenShut
import Derived.ShutString
import Derived.ChangeOld
import Derived.Below
import Derived.SizedLaws
import Derived.Carry
namespace Go.Proofs.Ytekbnloceifdmaa.fnCheatsOrder
open Go.ChangeShapes Go.WideShapes Go.ChangeAt Go.RowKit Go.Proofs.Ytekbnloceifdmaa.PFnCheatsOrder Go.Proofs.YtekbnloceifdmaaW.PrintWords
open Go.ChangeMaps (open_string shut_string)
set_option linter.unusedVariables false
theorem own : ownKnob Try.prog.godebug = none := by kernel_rfl
theorem laidOut : laidOutB Try.prog = true := by kernel_rfl
set_option maxRecDepth 100000 in
theorem lifted (os : Os) (started : os.Started) (H : Type) (enc : TypeId × Value → H) :
    ReturnsInHanded {} Try.checked os 8 .any (Rows.fnCheatsOrderSpec.pre6 enc Try.prog Try.f8 Rows.fnCheatsOrderRow.domain false) (Rows.fnCheatsOrderSpec.post enc Try.prog Try.f8 false true false false) := by
  refine returnsInHanded_of_change_sized (C := Try.checked) own started (by kernel_rfl) Try.func8
    (ChangeSpec.witness6 (enc := enc) (C := Try.checked) false ⟨#[], #[.slice none 0 0], []⟩ 8 (by kernel_rfl) (by kernel_rfl) (by kernel_rfl) (by kernel_rfl)) ?_
  intro W base args ds gs before hval0 hW hcnd hsz0 _
  have hval : ∀ (j : Nat) t v, Try.f8.params[j]? = some t → args[j]? = some v → Value.okWide Try.prog W .any base t v := hval0
  have hW' := hW
  obtain ⟨p, q, hA0, hV, rfl, hfz, hnd⟩ := hW
  have hA : DataW.TrodAll enc Try.prog W 0 (fun _ => true) true Try.f8.params.toList args.toList ds p := hA0
  rw [Try.params8] at hA hval
  obtain ⟨v0, vs0, d0, ds0, p0, q0, hargs, rfl, rfl, h0, r0⟩ := trodAll_cons hA
  obtain ⟨rfl, rfl, rfl⟩ := trodAll_nil r0
  obtain rfl : args = #[v0] := by cases args; simp_all
  obtain ⟨rfl, rfl⟩ := trodVars_none hV
  have k0 := h0
  have lt0 : ∀ x ∈ p0, x.block < W.heap.size := by obtain ⟨m, hm⟩ := k0; exact DataW.trod_lt m _ _ _ hm
  obtain ⟨b0, len0, cap0, rfl⟩ := okWide_slice Try.underlying35 (hval 0 35 v0 rfl rfl)
  obtain ⟨l0, rfl, hc0, hC0, w0⟩ := Open.arg_slice (Open.opens_slice Try.underlying35 (by kernel_rfl) (Open.opens_int Try.underlying5 (by kernel_rfl))) h0
  clear hA0 hval0 hsz0
  obtain ⟨k, H⟩ := Pure.FnCheatsOrder l0 w0.1 w0.2
  refine (laws_FnCheatsOrder.calls k b0 cap0 l0 true W hC0 hc0 H).mono fun e W' ⟨he, bel⟩ => ?_
  subst he
  exact ⟨_, rfl, _, _, _, [], _, [], hW', trodAll_mk1 (shut_bool Try.underlying4 _), (trodAll_cons_mk (Below.trod laidOut (by kernel_rfl) (of_decide_eq_true (by kernel_rfl)) k0 bel lt0) trodAll_mk0), rfl, bel.frame _, fun h => by cases h⟩
theorem over : Rows.fnCheatsOrderRow.holds Try.pinned (OpenSpec.ofChange Rows.fnCheatsOrderSpec) :=
  OpenClaim.holds_of_wide 8 Try.f8 rfl rfl rfl rfl rfl rfl rfl ⟨rfl, rfl, rfl, rfl, rfl⟩ rfl rfl rfl rfl rfl (by kernel_rfl) Try.func8 (by kernel_rfl)
    (of_decide_eq_true (by kernel_rfl)) (by unfold Func.isWrapper; first | (rw [if_pos (by decide +kernel)]; kernel_rfl) | (rw [if_neg (by decide +kernel)]; exact ⟨rfl, rfl⟩))
    (fun os started H enc _ => lifted os started H enc)
theorem proved : Rows.FnCheatsOrderSaid := over
#print axioms proved
end Go.Proofs.Ytekbnloceifdmaa.fnCheatsOrder
namespace Go.Proofs.Ytekbnloceifdmaa
/-- The row, under a short name, for the claim. -/
theorem fnCheatsOrder_holds : Rows.FnCheatsOrderSaid := fnCheatsOrder.proved
end Go.Proofs.Ytekbnloceifdmaa
