/- The row of the law FnExactNoteAt: for every input it returns true, and each argument reads afterwards as before. No condition. -/
import Derived.Test.YtnflmekjeehgaaaRows
import Derived.Test.YtnflmekjeehgaaaPFnExactNoteAtx3
import Derived.Test.YtnflmekjeehgaaaPureFnExactNoteAt
import Derived.Test.YtnflmekjeehgaaaOpen
import Derived.WalkKit
import Derived.ProofKit
import Derived.OpenShut
import Derived.ShutString
import Derived.ChangeOld
import Derived.Below
import Derived.SizedLaws
import Derived.Carry
namespace Go.Proofs.Ytnflmekjeehgaaa.fnExactNoteAt
open Go.ChangeShapes Go.WideShapes Go.ChangeAt Go.RowKit Go.Proofs.Ytnflmekjeehgaaa.PFnExactNoteAt Go.Proofs.YtnflmekjeehgaaaW.PrintWords
open Go.ChangeMaps (open_string shut_string)
set_option linter.unusedVariables false
theorem own : ownKnob Try.prog.godebug = none := by kernel_rfl
theorem laidOut : laidOutB Try.prog = true := by kernel_rfl
set_option maxRecDepth 100000 in
theorem lifted (os : Os) (started : os.Started) (H : Type) (enc : TypeId × Value → H) :
    ReturnsInHanded {} Try.checked os 4 .any (Rows.fnExactNoteAtSpec.pre6 enc Try.prog Try.f4 Rows.fnExactNoteAtRow.domain false) (Rows.fnExactNoteAtSpec.post enc Try.prog Try.f4 false true false false) := by
  refine returnsInHanded_of_change_sized (C := Try.checked) own started (by kernel_rfl) Try.func4
    (ChangeSpec.witness6 (enc := enc) (C := Try.checked) false ⟨#[], #[.slice none 0 0, .int .i64 0], []⟩ 8 (by kernel_rfl) (by kernel_rfl) (by kernel_rfl) (by kernel_rfl)) ?_
  intro W base args ds gs before hval0 hW hcnd hsz0 _
  have hval : ∀ (j : Nat) t v, Try.f4.params[j]? = some t → args[j]? = some v → Value.okWide Try.prog W .any base t v := hval0
  have hW' := hW
  obtain ⟨p, q, hA0, hV, rfl, hfz, hnd⟩ := hW
  have hA : DataW.TrodAll enc Try.prog W 0 (fun _ => true) true Try.f4.params.toList args.toList ds p := hA0
  rw [Try.params4] at hA hval
  obtain ⟨v0, vs0, d0, ds0, p0, q0, hargs, rfl, rfl, h0, r0⟩ := trodAll_cons hA
  obtain ⟨v1, vs1, d1, ds1, p1, q1, rfl, rfl, rfl, h1, r1⟩ := trodAll_cons r0
  obtain ⟨rfl, rfl, rfl⟩ := trodAll_nil r1
  obtain rfl : args = #[v0, v1] := by cases args; simp_all
  obtain ⟨rfl, rfl⟩ := trodVars_none hV
  have k0 := h0
  have lt0 : ∀ x ∈ p0, x.block < W.heap.size := by obtain ⟨m, hm⟩ := k0; exact DataW.trod_lt m _ _ _ hm
  obtain ⟨b0, len0, cap0, rfl⟩ := okWide_slice Try.underlying31 (hval 0 31 v0 rfl rfl)
  obtain ⟨l0, rfl, hc0, hC0, w0⟩ := Open.arg_slice (Open.opens_slice Try.underlying31 (by kernel_rfl) (Open.opens_iso (d := (Kd.pair (Kd.int .i64) (Kd.int .i64))) (q := fun x : S63 => ((Lit.int .i64 x.f0).wf = true) ∧ ((Lit.int .i64 x.f1).wf = true)) (fun x : S63 => (x.f0, x.f1)) (fun a => ⟨a.1, a.2⟩) (fun a => rfl) (fun a h => h) (Open.opens_struct (d := (Kd.pair (Kd.int .i64) (Kd.int .i64))) (p := fun a : Int × Int => ((Lit.int .i64 a.1).wf = true) ∧ ((Lit.int .i64 a.2).wf = true)) Try.underlying63 (by kernel_rfl) (Open.opensF_cons (i := 0) (p0 := fun a : Int => (Lit.int .i64 a).wf = true) (p := fun a : Int => ((Lit.int .i64 a).wf = true)) rfl rfl (Open.opens_int Try.underlying3 (by kernel_rfl)) (Open.opensF_last (i := 1) rfl rfl (Open.opens_int Try.underlying3 (by kernel_rfl))))))) h0
  obtain ⟨a1, rfl, rfl, rfl, w1⟩ := open_int Try.underlying3 (hval 1 3 v1 rfl rfl) h1
  clear hA0 hval0 hsz0
  obtain ⟨k, H⟩ := Pure.FnExactNoteAt l0 a1 w0.1 w0.2 w1
  refine (laws_FnExactNoteAt.calls k b0 cap0 l0 a1 true W hC0 hc0 H).mono fun e W' ⟨he, bel⟩ => ?_
  subst he
  exact ⟨_, rfl, _, _, _, [], _, [], hW', trodAll_mk1 (shut_bool Try.underlying4 _), (trodAll_cons_mk (Below.trod laidOut (by kernel_rfl) (of_decide_eq_true (by kernel_rfl)) k0 bel lt0) (trodAll_cons_mk (shut_int Try.underlying3 w1) trodAll_mk0)), rfl, bel.frame _, fun h => by cases h⟩
theorem over : Rows.fnExactNoteAtRow.holds Try.pinned (OpenSpec.ofChange Rows.fnExactNoteAtSpec) :=
  OpenClaim.holds_of_wide 4 Try.f4 rfl rfl rfl rfl rfl rfl rfl ⟨rfl, rfl, rfl, rfl, rfl⟩ rfl rfl rfl rfl rfl (by kernel_rfl) Try.func4 (by kernel_rfl)
    (of_decide_eq_true (by kernel_rfl)) (by unfold Func.isWrapper; first | (rw [if_pos (by decide +kernel)]; kernel_rfl) | (rw [if_neg (by decide +kernel)]; exact ⟨rfl, rfl⟩))
    (fun os started H enc _ => lifted os started H enc)
theorem proved : Rows.FnExactNoteAtSaid := over
#print axioms proved
end Go.Proofs.Ytnflmekjeehgaaa.fnExactNoteAt
namespace Go.Proofs.Ytnflmekjeehgaaa
/-- The row, under a short name, for the claim. -/
theorem fnExactNoteAt_holds : Rows.FnExactNoteAtSaid := fnExactNoteAt.proved
end Go.Proofs.Ytnflmekjeehgaaa
