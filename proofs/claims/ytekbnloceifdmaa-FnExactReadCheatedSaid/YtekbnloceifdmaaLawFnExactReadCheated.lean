/- The row of the law FnExactReadCheated: for every input it returns true, and each argument reads afterwards as before. No condition. -/
import Derived.Test.YtekbnloceifdmaaRows
import Derived.Test.YtekbnloceifdmaaPFnExactReadCheatedx6
import Derived.Test.YtekbnloceifdmaaPureFnExactReadCheated
import Derived.Test.YtekbnloceifdmaaOpen
import Derived.WalkKit
import Derived.ProofKit
import Derived.OpenShut
import Derived.ShutString
import Derived.ChangeOld
import Derived.Below
import Derived.SizedLaws
import Derived.Carry
namespace Go.Proofs.Ytekbnloceifdmaa.fnExactReadCheated
open Go.ChangeShapes Go.WideShapes Go.ChangeAt Go.RowKit Go.Proofs.Ytekbnloceifdmaa.PFnExactReadCheated Go.Proofs.YtekbnloceifdmaaW.PrintWords
open Go.ChangeMaps (open_string shut_string)
set_option linter.unusedVariables false
theorem own : ownKnob Try.prog.godebug = none := by kernel_rfl
theorem laidOut : laidOutB Try.prog = true := by kernel_rfl
set_option maxRecDepth 100000 in
theorem lifted (os : Os) (started : os.Started) (H : Type) (enc : TypeId × Value → H) :
    ReturnsInHanded {} Try.checked os 7 .any (Rows.fnExactReadCheatedSpec.pre6 enc Try.prog Try.f7 Rows.fnExactReadCheatedRow.domain false) (Rows.fnExactReadCheatedSpec.post enc Try.prog Try.f7 false true false false) := by
  refine returnsInHanded_of_change_sized (C := Try.checked) own started (by kernel_rfl) Try.func7
    (ChangeSpec.witness6 (enc := enc) (C := Try.checked) false ⟨#[], #[.agg #[.slice none 0 0, .slice none 0 0, .int .i64 0], .slice none 0 0, .int .i64 0], []⟩ 8 (by kernel_rfl) (by kernel_rfl) (by kernel_rfl) (by kernel_rfl)) ?_
  intro W base args ds gs before hval0 hW hcnd hsz0 _
  have hval : ∀ (j : Nat) t v, Try.f7.params[j]? = some t → args[j]? = some v → Value.okWide Try.prog W .any base t v := hval0
  have hW' := hW
  obtain ⟨p, q, hA0, hV, rfl, hfz, hnd⟩ := hW
  have hA : DataW.TrodAll enc Try.prog W 0 (fun _ => true) true Try.f7.params.toList args.toList ds p := hA0
  rw [Try.params7] at hA hval
  obtain ⟨v0, vs0, d0, ds0, p0, q0, hargs, rfl, rfl, h0, r0⟩ := trodAll_cons hA
  obtain ⟨v1, vs1, d1, ds1, p1, q1, rfl, rfl, rfl, h1, r1⟩ := trodAll_cons r0
  obtain ⟨v2, vs2, d2, ds2, p2, q2, rfl, rfl, rfl, h2, r2⟩ := trodAll_cons r1
  obtain ⟨rfl, rfl, rfl⟩ := trodAll_nil r2
  obtain rfl : args = #[v0, v1, v2] := by cases args; simp_all
  obtain ⟨rfl, rfl⟩ := trodVars_none hV
  have k0 := h0
  have lt0 : ∀ x ∈ p0, x.block < W.heap.size := by obtain ⟨m, hm⟩ := k0; exact DataW.trod_lt m _ _ _ hm
  obtain ⟨⟨cl0⟩, rfl, hz0⟩ := okWide_struct Try.underlying45 (hval 0 45 v0 rfl rfl)
  obtain ⟨x0, hK0, w0⟩ := Open.arg (Open.opens_struct (d := (Kd.pair (Kd.slice 3 (Kd.int .i64)) (Kd.pair (Kd.slice 22 (Kd.slice 3 (Kd.int .i64))) (Kd.int .i64)))) (p := fun a : (List Int) × (List (List Int)) × Int => (a.1.length ≤ 9223372036854775807 ∧ ∀ y ∈ a.1, (Lit.int .i64 y).wf = true) ∧ (a.2.1.length ≤ 9223372036854775807 ∧ ∀ y ∈ a.2.1, y.length ≤ 9223372036854775807 ∧ ∀ z ∈ y, (Lit.int .i64 z).wf = true) ∧ ((Lit.int .i64 a.2.2).wf = true)) Try.underlying45 (by kernel_rfl) (Open.opensF_cons (i := 0) (p0 := fun a : (List Int) => a.length ≤ 9223372036854775807 ∧ ∀ y ∈ a, (Lit.int .i64 y).wf = true) (p := fun a : (List (List Int)) × Int => (a.1.length ≤ 9223372036854775807 ∧ ∀ y ∈ a.1, y.length ≤ 9223372036854775807 ∧ ∀ z ∈ y, (Lit.int .i64 z).wf = true) ∧ ((Lit.int .i64 a.2).wf = true)) rfl rfl (Open.opens_slice Try.underlying22 (by kernel_rfl) (Open.opens_int Try.underlying3 (by kernel_rfl))) (Open.opensF_cons (i := 1) (p0 := fun a : (List (List Int)) => a.length ≤ 9223372036854775807 ∧ ∀ y ∈ a, y.length ≤ 9223372036854775807 ∧ ∀ z ∈ y, (Lit.int .i64 z).wf = true) (p := fun a : Int => ((Lit.int .i64 a).wf = true)) rfl rfl (Open.opens_slice Try.underlying23 (by kernel_rfl) (Open.opens_slice Try.underlying22 (by kernel_rfl) (Open.opens_int Try.underlying3 (by kernel_rfl)))) (Open.opensF_last (i := 2) rfl rfl (Open.opens_int Try.underlying3 (by kernel_rfl)))))) h0
  obtain ⟨x0_0, x0_1, x0_2⟩ := x0
  obtain ⟨_, _, e0_0, ⟨b0_0, cap0_0, rfl, hc0_0, hC0_0⟩, ⟨_, _, e0_1, ⟨b0_1, cap0_1, rfl, hc0_1, hC0_1⟩, rfl⟩⟩ := hK0
  subst e0_1
  have e0 : cl0 = _ := e0_0
  subst e0
  obtain ⟨w0_0, w0_1, w0_2⟩ := w0
  have k1 := h1
  have lt1 : ∀ x ∈ p1, x.block < W.heap.size := by obtain ⟨m, hm⟩ := k1; exact DataW.trod_lt m _ _ _ hm
  obtain ⟨b1, len1, cap1, rfl⟩ := okWide_slice Try.underlying46 (hval 1 46 v1 rfl rfl)
  obtain ⟨l1, rfl, hc1, hC1, w1⟩ := Open.arg_slice (Open.opens_slice Try.underlying46 (by kernel_rfl) (Open.opens_iso (d := (Kd.pair (Kd.int .i64) (Kd.pair (Kd.int .i64) (Kd.int .i64)))) (q := fun x : S90 => ((Lit.int .i64 x.f0).wf = true) ∧ ((Lit.int .i64 x.f1).wf = true) ∧ ((Lit.int .i64 x.f2).wf = true)) (fun x : S90 => (x.f0, x.f1, x.f2)) (fun a => ⟨a.1, a.2.1, a.2.2⟩) (fun a => rfl) (fun a h => h) (Open.opens_struct (d := (Kd.pair (Kd.int .i64) (Kd.pair (Kd.int .i64) (Kd.int .i64)))) (p := fun a : Int × Int × Int => ((Lit.int .i64 a.1).wf = true) ∧ ((Lit.int .i64 a.2.1).wf = true) ∧ ((Lit.int .i64 a.2.2).wf = true)) Try.underlying90 (by kernel_rfl) (Open.opensF_cons (i := 0) (p0 := fun a : Int => (Lit.int .i64 a).wf = true) (p := fun a : Int × Int => ((Lit.int .i64 a.1).wf = true) ∧ ((Lit.int .i64 a.2).wf = true)) rfl rfl (Open.opens_int Try.underlying3 (by kernel_rfl)) (Open.opensF_cons (i := 1) (p0 := fun a : Int => (Lit.int .i64 a).wf = true) (p := fun a : Int => ((Lit.int .i64 a).wf = true)) rfl rfl (Open.opens_int Try.underlying3 (by kernel_rfl)) (Open.opensF_last (i := 2) rfl rfl (Open.opens_int Try.underlying3 (by kernel_rfl)))))))) h1
  obtain ⟨a2, rfl, rfl, rfl, w2⟩ := open_int Try.underlying3 (hval 2 3 v2 rfl rfl) h2
  clear hA0 hval0 hsz0
  obtain ⟨k, H⟩ := Pure.FnExactReadCheated x0_0 x0_1 x0_2 l1 a2 w0_0.1 w0_0.2 w0_1.1 w0_1.2 w0_2 w1.1 w1.2 w2
  refine (laws_FnExactReadCheated.calls k b0_0 cap0_0 x0_0 b0_1 cap0_1 x0_1 x0_2 b1 cap1 l1 a2 true W hC0_0 hc0_0 hC0_1 hc0_1 hC1 hc1 H).mono fun e W' ⟨he, bel⟩ => ?_
  subst he
  exact ⟨_, rfl, _, _, _, [], _, [], hW', trodAll_mk1 (shut_bool Try.underlying4 _), (trodAll_cons_mk (Below.trod laidOut (by kernel_rfl) (of_decide_eq_true (by kernel_rfl)) k0 bel lt0) (trodAll_cons_mk (Below.trod laidOut (by kernel_rfl) (of_decide_eq_true (by kernel_rfl)) k1 bel lt1) (trodAll_cons_mk (shut_int Try.underlying3 w2) trodAll_mk0))), rfl, bel.frame _, fun h => by cases h⟩
theorem over : Rows.fnExactReadCheatedRow.holds Try.pinned (OpenSpec.ofChange Rows.fnExactReadCheatedSpec) :=
  OpenClaim.holds_of_wide 7 Try.f7 rfl rfl rfl rfl rfl rfl rfl ⟨rfl, rfl, rfl, rfl, rfl⟩ rfl rfl rfl rfl rfl (by kernel_rfl) Try.func7 (by kernel_rfl)
    (of_decide_eq_true (by kernel_rfl)) (by unfold Func.isWrapper; first | (rw [if_pos (by decide +kernel)]; kernel_rfl) | (rw [if_neg (by decide +kernel)]; exact ⟨rfl, rfl⟩))
    (fun os started H enc _ => lifted os started H enc)
theorem proved : Rows.FnExactReadCheatedSaid := over
#print axioms proved
end Go.Proofs.Ytekbnloceifdmaa.fnExactReadCheated
namespace Go.Proofs.Ytekbnloceifdmaa
/-- The row, under a short name, for the claim. -/
theorem fnExactReadCheated_holds : Rows.FnExactReadCheatedSaid := fnExactReadCheated.proved
end Go.Proofs.Ytekbnloceifdmaa
