/- The length of a step for a pitch is the reference's, for every number. No condition. -/
import Derived.Test.YtfebmgaamhjbcaaPFnExactPitchLengthx1
import Derived.DataShut
namespace Go.Proofs.Ytfebmgaamhjbcaa.Pure
open Go.RowKit Go.Proofs.Ytfebmgaamhjbcaa.PFnExactPitchLength Go.Proofs.YtfebmgaamhjbcaaW.PrintWords Go.Proofs.YtfebmgaamhjbcaaW.PrintLast
set_option linter.unusedSimpArgs false
set_option linter.unusedVariables false
theorem i64_of {n : Int} (h : (Lit.int .i64 n).wf = true) : -9223372036854775808 ≤ n ∧ n ≤ 9223372036854775807 := (Lit.wf_int_iff .i64 n).1 h
theorem u8_of {n : Int} (h : (Lit.int .u8 n).wf = true) : 0 ≤ n ∧ n ≤ 255 := (Lit.wf_int_iff .u8 n).1 h
theorem w64 {x : Int} (h0 : -9223372036854775808 ≤ x) (h1 : x ≤ 9223372036854775807) : wrap64 x = x := by unfold wrap64; omega
theorem some_dec {p q : Prop} [Decidable p] [Decidable q] (h : p ↔ q) : some (decide p) = some (decide q) := by simp only [h]
theorem some_ff {p : Prop} [Decidable p] (h : ¬ p) : some false = some (decide p) := by rw [decide_eq_false h]
theorem some_tt {p : Prop} [Decidable p] (h : p) : some true = some (decide p) := by rw [decide_eq_true h]
theorem tmod_nn {a b : Int} (h : 0 ≤ a) : Int.tmod a b = a % b := Int.tmod_eq_emod_of_nonneg h
theorem tdiv_nn {a b : Int} (h : 0 ≤ a) : Int.tdiv a b = a / b := Int.tdiv_eq_ediv_of_nonneg h
/-- With enough rounds it answers, and Q holds of the answer. -/
def Tot {α : Type} (g : Nat → Option α) (Q : α → Prop) : Prop := ∃ r, Q r ∧ ∃ K, ∀ k, K ≤ k → g k = some r
section
variable {α β : Type} {g h : Nat → Option α} {f : Nat → α → Option β} {Q : α → Prop} {R : β → Prop} {c : Prop} [Decidable c]
theorem Tot.ret {r : α} (h : Q r) : Tot (fun _ => some r) Q := ⟨r, h, 0, fun _ _ => rfl⟩
theorem Tot.of {r : α} (e : ∀ k, 0 < k → g k = some r) (h : Q r) : Tot g Q := ⟨r, h, 1, fun k hk => e k hk⟩
theorem Tot.bind (hg : Tot g Q) (hf : ∀ a, Q a → Tot (fun k => f k a) R) : Tot (fun k => (g k).bind (f k)) R := by
  obtain ⟨a, ha, K, hK⟩ := hg
  obtain ⟨b, hb, L, hL⟩ := hf a ha
  refine ⟨b, hb, K + L, fun k hk => ?_⟩
  show (g k).bind (f k) = some b
  rw [hK k (by omega)]
  exact hL k (by omega)
theorem Tot.ite (hg : c → Tot g Q) (hh : ¬ c → Tot h Q) : Tot (fun k => if c then g k else h k) Q := by
  by_cases hc : c
  · simp only [if_pos hc]; exact hg hc
  · simp only [if_neg hc]; exact hh hc
theorem Tot.pos (hc : c) (hg : Tot g Q) : Tot (fun k => if c then g k else h k) Q := by simp only [if_pos hc]; exact hg
theorem Tot.neg (hc : ¬ c) (hh : Tot h Q) : Tot (fun k => if c then g k else h k) Q := by simp only [if_neg hc]; exact hh
theorem Tot.up (h : Tot (fun k => g (k + 1)) Q) : Tot g Q := by
  obtain ⟨r, hr, K, hK⟩ := h
  refine ⟨r, hr, K + 1, fun k hk => ?_⟩
  obtain ⟨m, rfl⟩ : ∃ m, k = m + 1 := ⟨k - 1, by omega⟩
  exact hK m (by omega)
theorem Tot.mono {Q' : α → Prop} (h : Tot g Q) (hq : ∀ a, Q a → Q' a) : Tot g Q' := by
  obtain ⟨r, hr, K⟩ := h
  exact ⟨r, hq r hr, K⟩
theorem Tot.ex {g : Nat → Option Bool} (h : Tot g (· = true)) : ∃ k, g k = some true := by
  obtain ⟨r, rfl, K, hK⟩ := h
  exact ⟨K, hK K (Nat.le_refl _)⟩
/-- Two runs of the same answer alike. -/
theorem Tot.same (h : Tot g Q) : ∃ r, Q r ∧ Tot g (· = r) := by
  obtain ⟨r, hr, K⟩ := h
  exact ⟨r, hr, r, rfl, K⟩
end
theorem l1In_eq (a b c : Int) : spec_l1In.f a b c = some (decide (b ≤ a ∧ a ≤ c)) := by
  unfold spec_l1In.f
  split
  · exact some_dec (by omega)
  · exact some_ff (by omega)
theorem pitch_cases {a : Int} (h : 0 ≤ a ∧ a ≤ 35) : a = 0 ∨ a = 1 ∨ a = 2 ∨ a = 3 ∨ a = 4 ∨ a = 5 ∨ a = 6 ∨ a = 7 ∨ a = 8 ∨ a = 9 ∨ a = 10 ∨ a = 11 ∨ a = 12 ∨ a = 13 ∨ a = 14 ∨ a = 15 ∨ a = 16 ∨ a = 17 ∨ a = 18 ∨ a = 19 ∨ a = 20 ∨ a = 21 ∨ a = 22 ∨ a = 23 ∨ a = 24 ∨ a = 25 ∨ a = 26 ∨ a = 27 ∨ a = 28 ∨ a = 29 ∨ a = 30 ∨ a = 31 ∨ a = 32 ∨ a = 33 ∨ a = 34 ∨ a = 35 := by omega
theorem specPitch_eq (a : Int) : spec_PitchLength.f a = impl_PitchLength.f a := by
  by_cases h : 0 ≤ a ∧ a ≤ 35
  · rcases pitch_cases h with rfl | rfl | rfl | rfl | rfl | rfl | rfl | rfl | rfl | rfl | rfl | rfl | rfl | rfl | rfl | rfl | rfl | rfl | rfl | rfl | rfl | rfl | rfl | rfl | rfl | rfl | rfl | rfl | rfl | rfl | rfl | rfl | rfl | rfl | rfl | rfl <;> decide +kernel
  · unfold spec_PitchLength.f impl_PitchLength.f
    rw [l1In_eq, if_neg h]
    simp only [Option.bind_some, decide_eq_true_eq, if_neg h]
theorem FnExactPitchLength : laws_FnExactPitchLength.Pure := by
  intro a _
  unfold laws_FnExactPitchLength.f
  rw [specPitch_eq]
  obtain ⟨r, hr⟩ : ∃ r, impl_PitchLength.f a = some r := ⟨_, rfl⟩
  rw [hr]
  simp only [Option.bind_some, if_true]
end Go.Proofs.Ytfebmgaamhjbcaa.Pure
