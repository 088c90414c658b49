/- The row of the law FnExactMoveBox: for every input it returns true, and each argument reads afterwards as before. No condition. -/
import Derived.Test.YtnboeejakonkpaaRows
import Derived.Test.YtnboeejakonkpaaPFnExactMoveBoxx9
import Derived.Test.YtnboeejakonkpaaPureFnExactMoveBox
import Derived.Test.YtnboeejakonkpaaOpen
import Derived.WalkKit
import Derived.ProofKit
import Derived.OpenShut
import Derived.ShutString
import Derived.ChangeOld
import Derived.Below
import Derived.SizedLaws
import Derived.Carry
namespace Go.Proofs.Ytnboeejakonkpaa.fnExactMoveBox
open Go.ChangeShapes Go.WideShapes Go.ChangeAt Go.RowKit Go.Proofs.Ytnboeejakonkpaa.PFnExactMoveBox Go.Proofs.YtnboeejakonkpaaW.PrintWords
open Go.ChangeMaps (open_string shut_string)
set_option linter.unusedVariables false
theorem own : ownKnob Try.prog.godebug = none := by kernel_rfl
theorem laidOut : laidOutB Try.prog = true := by kernel_rfl
set_option maxRecDepth 100000 in
theorem lifted (os : Os) (started : os.Started) (H : Type) (enc : TypeId × Value → H) :
    ReturnsInHanded {} Try.checked os 6 .any (Rows.fnExactMoveBoxSpec.pre6 enc Try.prog Try.f6 Rows.fnExactMoveBoxRow.domain false) (Rows.fnExactMoveBoxSpec.post enc Try.prog Try.f6 false true false false) := by
  refine returnsInHanded_of_change_sized (C := Try.checked) own started (by kernel_rfl) Try.func6
    (ChangeSpec.witness6 (enc := enc) (C := Try.checked) false ⟨#[], #[.slice none 0 0, .agg #[.int .i64 0, .int .i64 0, .int .i64 0, .int .i64 0], .int .i64 0, .int .i64 0], []⟩ 8 (by kernel_rfl) (by kernel_rfl) (by kernel_rfl) (by kernel_rfl)) ?_
  intro W base args ds gs before hval0 hW hcnd hsz0 _
  have hval : ∀ (j : Nat) t v, Try.f6.params[j]? = some t → args[j]? = some v → Value.okWide Try.prog W .any base t v := hval0
  have hW' := hW
  obtain ⟨p, q, hA0, hV, rfl, hfz, hnd⟩ := hW
  have hA : DataW.TrodAll enc Try.prog W 0 (fun _ => true) true Try.f6.params.toList args.toList ds p := hA0
  rw [Try.params6] at hA hval
  obtain ⟨v0, vs0, d0, ds0, p0, q0, hargs, rfl, rfl, h0, r0⟩ := trodAll_cons hA
  obtain ⟨v1, vs1, d1, ds1, p1, q1, rfl, rfl, rfl, h1, r1⟩ := trodAll_cons r0
  obtain ⟨v2, vs2, d2, ds2, p2, q2, rfl, rfl, rfl, h2, r2⟩ := trodAll_cons r1
  obtain ⟨v3, vs3, d3, ds3, p3, q3, rfl, rfl, rfl, h3, r3⟩ := trodAll_cons r2
  obtain ⟨rfl, rfl, rfl⟩ := trodAll_nil r3
  obtain rfl : args = #[v0, v1, v2, v3] := by cases args; simp_all
  obtain ⟨rfl, rfl⟩ := trodVars_none hV
  have k0 := h0
  have lt0 : ∀ x ∈ p0, x.block < W.heap.size := by obtain ⟨m, hm⟩ := k0; exact DataW.trod_lt m _ _ _ hm
  obtain ⟨b0, len0, cap0, rfl⟩ := okWide_slice Try.underlying22 (hval 0 22 v0 rfl rfl)
  obtain ⟨l0, rfl, hc0, hC0, w0⟩ := Open.arg_slice (Open.opens_slice Try.underlying22 (by kernel_rfl) (Open.opens_slice Try.underlying36 (by kernel_rfl) (Open.opens_bool Try.underlying4 (by kernel_rfl)))) h0
  have k1 := h1
  have lt1 : ∀ x ∈ p1, x.block < W.heap.size := by obtain ⟨m, hm⟩ := k1; exact DataW.trod_lt m _ _ _ hm
  obtain ⟨⟨cl1⟩, rfl, hz1⟩ := okWide_struct Try.underlying24 (hval 1 24 v1 rfl rfl)
  obtain ⟨x1, hK1, w1⟩ := Open.arg (Open.opens_struct (d := (Kd.pair (Kd.int .i64) (Kd.pair (Kd.int .i64) (Kd.pair (Kd.int .i64) (Kd.int .i64))))) (p := fun a : Int × Int × Int × Int => ((Lit.int .i64 a.1).wf = true) ∧ ((Lit.int .i64 a.2.1).wf = true) ∧ ((Lit.int .i64 a.2.2.1).wf = true) ∧ ((Lit.int .i64 a.2.2.2).wf = true)) Try.underlying24 (by kernel_rfl) (Open.opensF_cons (i := 0) (p0 := fun a : Int => (Lit.int .i64 a).wf = true) (p := fun a : Int × Int × Int => ((Lit.int .i64 a.1).wf = true) ∧ ((Lit.int .i64 a.2.1).wf = true) ∧ ((Lit.int .i64 a.2.2).wf = true)) rfl rfl (Open.opens_int Try.underlying3 (by kernel_rfl)) (Open.opensF_cons (i := 1) (p0 := fun a : Int => (Lit.int .i64 a).wf = true) (p := fun a : Int × Int => ((Lit.int .i64 a.1).wf = true) ∧ ((Lit.int .i64 a.2).wf = true)) rfl rfl (Open.opens_int Try.underlying3 (by kernel_rfl)) (Open.opensF_cons (i := 2) (p0 := fun a : Int => (Lit.int .i64 a).wf = true) (p := fun a : Int => ((Lit.int .i64 a).wf = true)) rfl rfl (Open.opens_int Try.underlying3 (by kernel_rfl)) (Open.opensF_last (i := 3) rfl rfl (Open.opens_int Try.underlying3 (by kernel_rfl))))))) h1
  obtain ⟨x1_0, x1_1, x1_2, x1_3⟩ := x1
  obtain ⟨_, _, e1_0, rfl, ⟨_, _, e1_1, rfl, ⟨_, _, e1_2, rfl, rfl⟩⟩⟩ := hK1
  subst e1_2
  subst e1_1
  have e1 : cl1 = _ := e1_0
  subst e1
  obtain ⟨w1_0, w1_1, w1_2, w1_3⟩ := w1
  obtain ⟨a2, rfl, rfl, rfl, w2⟩ := open_int Try.underlying3 (hval 2 3 v2 rfl rfl) h2
  obtain ⟨a3, rfl, rfl, rfl, w3⟩ := open_int Try.underlying3 (hval 3 3 v3 rfl rfl) h3
  clear hA0 hval0 hsz0
  obtain ⟨k, H⟩ := Pure.FnExactMoveBox l0 x1_0 x1_1 x1_2 x1_3 a2 a3 w0.1 w0.2 w1_0 w1_1 w1_2 w1_3 w2 w3
  refine (laws_FnExactMoveBox.calls k b0 cap0 l0 x1_0 x1_1 x1_2 x1_3 a2 a3 true W hC0 hc0 H).mono fun e W' ⟨he, bel⟩ => ?_
  subst he
  exact ⟨_, rfl, _, _, _, [], _, [], hW', trodAll_mk1 (shut_bool Try.underlying4 _), (trodAll_cons_mk (Below.trod laidOut (by kernel_rfl) (of_decide_eq_true (by kernel_rfl)) k0 bel lt0) (trodAll_cons_mk (Below.trod laidOut (by kernel_rfl) (of_decide_eq_true (by kernel_rfl)) k1 bel lt1) (trodAll_cons_mk (shut_int Try.underlying3 w2) (trodAll_cons_mk (shut_int Try.underlying3 w3) trodAll_mk0)))), rfl, bel.frame _, fun h => by cases h⟩
theorem over : Rows.fnExactMoveBoxRow.holds Try.pinned (OpenSpec.ofChange Rows.fnExactMoveBoxSpec) :=
  OpenClaim.holds_of_wide 6 Try.f6 rfl rfl rfl rfl rfl rfl rfl ⟨rfl, rfl, rfl, rfl, rfl⟩ rfl rfl rfl rfl rfl (by kernel_rfl) Try.func6 (by kernel_rfl)
    (of_decide_eq_true (by kernel_rfl)) (by unfold Func.isWrapper; first | (rw [if_pos (by decide +kernel)]; kernel_rfl) | (rw [if_neg (by decide +kernel)]; exact ⟨rfl, rfl⟩))
    (fun os started H enc _ => lifted os started H enc)
theorem proved : Rows.FnExactMoveBoxSaid := over
#print axioms proved
end Go.Proofs.Ytnboeejakonkpaa.fnExactMoveBox
namespace Go.Proofs.Ytnboeejakonkpaa
/-- The row, under a short name, for the claim. -/
theorem fnExactMoveBox_holds : Rows.FnExactMoveBoxSaid := fnExactMoveBox.proved
end Go.Proofs.Ytnboeejakonkpaa
