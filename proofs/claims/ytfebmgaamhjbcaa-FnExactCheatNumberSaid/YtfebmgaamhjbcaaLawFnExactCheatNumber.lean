/- The row of the law FnExactCheatNumber: for every input it returns true, and each argument reads afterwards as before. No condition. -/
import Derived.Test.YtfebmgaamhjbcaaRows
import Derived.Test.YtfebmgaamhjbcaaPFnExactCheatNumberx1
import Derived.Test.YtfebmgaamhjbcaaPureFnExactCheatNumber
import Derived.Test.YtfebmgaamhjbcaaOpen
import Derived.WalkKit
import Derived.ProofKit
import Derived.OpenShut
import Derived.ShutString
import Derived.ChangeOld
import Derived.Below
import Derived.SizedLaws
import Derived.Carry
namespace Go.Proofs.Ytfebmgaamhjbcaa.fnExactCheatNumber
open Go.ChangeShapes Go.WideShapes Go.ChangeAt Go.RowKit Go.Proofs.Ytfebmgaamhjbcaa.PFnExactCheatNumber Go.Proofs.YtfebmgaamhjbcaaW.PrintWords
open Go.ChangeMaps (open_string shut_string)
set_option linter.unusedVariables false
theorem own : ownKnob Try.prog.godebug = none := by kernel_rfl
theorem laidOut : laidOutB Try.prog = true := by kernel_rfl
set_option maxRecDepth 100000 in
theorem lifted (os : Os) (started : os.Started) (H : Type) (enc : TypeId × Value → H) :
    ReturnsInHanded {} Try.checked os 7 .any (Rows.fnExactCheatNumberSpec.pre6 enc Try.prog Try.f7 Rows.fnExactCheatNumberRow.domain false) (Rows.fnExactCheatNumberSpec.post enc Try.prog Try.f7 false true false false) := by
  refine returnsInHanded_of_change_sized (C := Try.checked) own started (by kernel_rfl) Try.func7
    (ChangeSpec.witness6 (enc := enc) (C := Try.checked) false ⟨#[], #[.agg #[.int .i64 0, .int .i64 0, .int .i64 0]], []⟩ 8 (by kernel_rfl) (by kernel_rfl) (by kernel_rfl) (by kernel_rfl)) ?_
  intro W base args ds gs before hval0 hW hcnd hsz0 _
  have hval : ∀ (j : Nat) t v, Try.f7.params[j]? = some t → args[j]? = some v → Value.okWide Try.prog W .any base t v := hval0
  have hW' := hW
  obtain ⟨p, q, hA0, hV, rfl, hfz, hnd⟩ := hW
  have hA : DataW.TrodAll enc Try.prog W 0 (fun _ => true) true Try.f7.params.toList args.toList ds p := hA0
  rw [Try.params7] at hA hval
  obtain ⟨v0, vs0, d0, ds0, p0, q0, hargs, rfl, rfl, h0, r0⟩ := trodAll_cons hA
  obtain ⟨rfl, rfl, rfl⟩ := trodAll_nil r0
  obtain rfl : args = #[v0] := by cases args; simp_all
  obtain ⟨rfl, rfl⟩ := trodVars_none hV
  have k0 := h0
  have lt0 : ∀ x ∈ p0, x.block < W.heap.size := by obtain ⟨m, hm⟩ := k0; exact DataW.trod_lt m _ _ _ hm
  obtain ⟨⟨cl0⟩, rfl, hz0⟩ := okWide_struct Try.underlying37 (hval 0 37 v0 rfl rfl)
  obtain ⟨x0, hK0, w0⟩ := Open.arg (Open.opens_struct (d := (Kd.pair (Kd.int .i64) (Kd.pair (Kd.int .i64) (Kd.int .i64)))) Try.underlying37 (by kernel_rfl) (Open.opensF_cons (i := 0) rfl rfl (Open.opens_int Try.underlying3 (by kernel_rfl)) (Open.opensF_cons (i := 1) rfl rfl (Open.opens_int Try.underlying3 (by kernel_rfl)) (Open.opensF_last (i := 2) rfl rfl (Open.opens_int Try.underlying3 (by kernel_rfl)))))) h0
  obtain ⟨x0_0, x0_1, x0_2⟩ := x0
  obtain ⟨_, _, e0_0, rfl, ⟨_, _, e0_1, rfl, rfl⟩⟩ := hK0
  subst e0_1
  have e0 : cl0 = _ := e0_0
  subst e0
  obtain ⟨w0_0, w0_1, w0_2⟩ := w0
  clear hA0 hval0 hsz0
  obtain ⟨k, H⟩ := Pure.FnExactCheatNumber x0_0 x0_1 x0_2 w0_0 w0_1 w0_2
  refine (laws_FnExactCheatNumber.calls k x0_0 x0_1 x0_2 true W  H).mono fun e W' ⟨he, bel⟩ => ?_
  subst he
  exact ⟨_, rfl, _, _, _, [], _, [], hW', trodAll_mk1 (shut_bool Try.underlying4 _), (trodAll_cons_mk (Below.trod laidOut (by kernel_rfl) (of_decide_eq_true (by kernel_rfl)) k0 bel lt0) trodAll_mk0), rfl, bel.frame _, fun h => by cases h⟩
theorem over : Rows.fnExactCheatNumberRow.holds Try.pinned (OpenSpec.ofChange Rows.fnExactCheatNumberSpec) :=
  OpenClaim.holds_of_wide 7 Try.f7 rfl rfl rfl rfl rfl rfl rfl ⟨rfl, rfl, rfl, rfl, rfl⟩ rfl rfl rfl rfl rfl (by kernel_rfl) Try.func7 (by kernel_rfl)
    (of_decide_eq_true (by kernel_rfl)) (by unfold Func.isWrapper; first | (rw [if_pos (by decide +kernel)]; kernel_rfl) | (rw [if_neg (by decide +kernel)]; exact ⟨rfl, rfl⟩))
    (fun os started H enc _ => lifted os started H enc)
theorem proved : Rows.FnExactCheatNumberSaid := over
#print axioms proved
end Go.Proofs.Ytfebmgaamhjbcaa.fnExactCheatNumber
namespace Go.Proofs.Ytfebmgaamhjbcaa
/-- The row, under a short name, for the claim. -/
theorem fnExactCheatNumber_holds : Rows.FnExactCheatNumberSaid := fnExactCheatNumber.proved
end Go.Proofs.Ytfebmgaamhjbcaa
