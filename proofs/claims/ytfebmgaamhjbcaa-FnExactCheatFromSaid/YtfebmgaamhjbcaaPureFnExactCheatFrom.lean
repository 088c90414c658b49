/- The reading of a cheat out of a number is that of the reference, for every number. No condition. -/
import Derived.Test.YtfebmgaamhjbcaaPFnExactCheatFromx1
import Derived.DataShut
namespace Go.Proofs.Ytfebmgaamhjbcaa.Pure
open Go.RowKit Go.Proofs.Ytfebmgaamhjbcaa.PFnExactCheatFrom Go.Proofs.YtfebmgaamhjbcaaW.PrintWords Go.Proofs.YtfebmgaamhjbcaaW.PrintLast
theorem i64_of {n : Int} (h : (Lit.int .i64 n).wf = true) : -9223372036854775808 ≤ n ∧ n ≤ 9223372036854775807 := (Lit.wf_int_iff .i64 n).1 h
theorem u8_of {n : Int} (h : (Lit.int .u8 n).wf = true) : 0 ≤ n ∧ n ≤ 255 := (Lit.wf_int_iff .u8 n).1 h
theorem w64 {x : Int} (h0 : -9223372036854775808 ≤ x) (h1 : x ≤ 9223372036854775807) : wrap64 x = x := by unfold wrap64; omega
theorem some_dec {p q : Prop} [Decidable p] [Decidable q] (h : p ↔ q) : some (decide p) = some (decide q) := by simp only [h]
theorem some_ff {p : Prop} [Decidable p] (h : ¬ p) : some false = some (decide p) := by rw [decide_eq_false h]
theorem some_tt {p : Prop} [Decidable p] (h : p) : some true = some (decide p) := by rw [decide_eq_true h]
theorem tmod_nn {a b : Int} (h : 0 ≤ a) : Int.tmod a b = a % b := Int.tmod_eq_emod_of_nonneg h
theorem tdiv_nn {a b : Int} (h : 0 ≤ a) : Int.tdiv a b = a / b := Int.tdiv_eq_ediv_of_nonneg h
/-- With enough rounds it answers, and Q holds of the answer. -/
def Tot {α : Type} (g : Nat → Option α) (Q : α → Prop) : Prop := ∃ r, Q r ∧ ∃ K, ∀ k, K ≤ k → g k = some r
section
variable {α β : Type} {g h : Nat → Option α} {f : Nat → α → Option β} {Q : α → Prop} {R : β → Prop} {c : Prop} [Decidable c]
theorem Tot.ret {r : α} (h : Q r) : Tot (fun _ => some r) Q := ⟨r, h, 0, fun _ _ => rfl⟩
theorem Tot.of {r : α} (e : ∀ k, 0 < k → g k = some r) (h : Q r) : Tot g Q := ⟨r, h, 1, fun k hk => e k hk⟩
theorem Tot.bind (hg : Tot g Q) (hf : ∀ a, Q a → Tot (fun k => f k a) R) : Tot (fun k => (g k).bind (f k)) R := by
  obtain ⟨a, ha, K, hK⟩ := hg
  obtain ⟨b, hb, L, hL⟩ := hf a ha
  refine ⟨b, hb, K + L, fun k hk => ?_⟩
  show (g k).bind (f k) = some b
  rw [hK k (by omega)]
  exact hL k (by omega)
theorem Tot.ite (hg : c → Tot g Q) (hh : ¬ c → Tot h Q) : Tot (fun k => if c then g k else h k) Q := by
  by_cases hc : c
  · simp only [if_pos hc]; exact hg hc
  · simp only [if_neg hc]; exact hh hc
theorem Tot.pos (hc : c) (hg : Tot g Q) : Tot (fun k => if c then g k else h k) Q := by simp only [if_pos hc]; exact hg
theorem Tot.neg (hc : ¬ c) (hh : Tot h Q) : Tot (fun k => if c then g k else h k) Q := by simp only [if_neg hc]; exact hh
theorem Tot.up (h : Tot (fun k => g (k + 1)) Q) : Tot g Q := by
  obtain ⟨r, hr, K, hK⟩ := h
  refine ⟨r, hr, K + 1, fun k hk => ?_⟩
  obtain ⟨m, rfl⟩ : ∃ m, k = m + 1 := ⟨k - 1, by omega⟩
  exact hK m (by omega)
theorem Tot.mono {Q' : α → Prop} (h : Tot g Q) (hq : ∀ a, Q a → Q' a) : Tot g Q' := by
  obtain ⟨r, hr, K⟩ := h
  exact ⟨r, hq r hr, K⟩
theorem Tot.ex {g : Nat → Option Bool} (h : Tot g (· = true)) : ∃ k, g k = some true := by
  obtain ⟨r, rfl, K, hK⟩ := h
  exact ⟨K, hK K (Nat.le_refl _)⟩
/-- Two runs of the same answer alike. -/
theorem Tot.same (h : Tot g Q) : ∃ r, Q r ∧ Tot g (· = r) := by
  obtain ⟨r, hr, K⟩ := h
  exact ⟨r, hr, r, rfl, K⟩
end
theorem l1In_eq (a b c : Int) : spec_l1In.f a b c = some (decide (b ≤ a ∧ a ≤ c)) := by
  unfold spec_l1In.f
  split
  · exact some_dec (by omega)
  · exact some_ff (by omega)
theorem within_eq (a b c : Int) : impl_within.f a b c = some (decide (b ≤ a ∧ a ≤ c)) := by
  unfold impl_within.f
  split
  · exact some_dec (by omega)
  · exact some_ff (by omega)
theorem isByte_eq (a : Int) : impl_isByte.f a = some (decide (0 ≤ a ∧ a ≤ 255)) := by
  unfold impl_isByte.f
  rw [within_eq]; rfl
theorem cheatValid_eq (a b c : Int) : impl_cheatValid.f a b c = some (decide ((0 ≤ a ∧ a ≤ 1023) ∧ (0 ≤ b ∧ b ≤ 255) ∧ -1 ≤ c ∧ c ≤ 255)) := by
  unfold impl_cheatValid.f
  simp only [within_eq, isByte_eq, Option.bind_some, decide_eq_true_eq]
  repeat' split
  all_goals first | exact some_dec (by omega) | exact some_ff (by omega)
def cheatOf (a : Int) : Int × Int × Int × Bool := if 0 ≤ a ∧ a ≤ 67371007 then (a % 1024, a / 1024 % 256, a / 262144 - 1, true) else (0, 0, 0, false)
theorem specCheatFrom_eq (a : Int) (hb : -9223372036854775808 ≤ a ∧ a ≤ 9223372036854775807) : spec_CheatFrom.f a = some (cheatOf a) := by
  unfold spec_CheatFrom.f cheatOf
  simp only [l1In_eq, Option.bind_some, decide_eq_true_eq]
  split
  · rename_i h
    rw [Int.tmod_eq_emod_of_nonneg h.1, Int.tdiv_eq_ediv_of_nonneg h.1, Int.tdiv_eq_ediv_of_nonneg h.1, w64 (x := a / 1024) (by omega) (by omega), Int.tmod_eq_emod_of_nonneg (by omega), w64 (x := a / 262144) (by omega) (by omega), w64 (by omega) (by omega)]
  · rfl
theorem implCheatFrom_eq (a : Int) (hb : -9223372036854775808 ≤ a ∧ a ≤ 9223372036854775807) : impl_CheatFrom.f a = some (cheatOf a) := by
  unfold impl_CheatFrom.f cheatOf
  split
  · rename_i h
    rw [if_neg (by omega)]
  · rename_i h
    have h0 : 0 ≤ a := by omega
    rw [Int.tmod_eq_emod_of_nonneg h0, Int.tdiv_eq_ediv_of_nonneg h0, Int.tdiv_eq_ediv_of_nonneg h0, w64 (x := a / 1024) (by omega) (by omega), Int.tmod_eq_emod_of_nonneg (a := a / 1024) (by omega), w64 (x := a / 262144) (by omega) (by omega), w64 (by omega) (by omega)]
    simp only [cheatValid_eq, Option.bind_some, decide_eq_true_eq]
    by_cases h1 : a ≤ 67371007
    · rw [if_pos (by omega), if_pos (by omega)]
    · rw [if_neg (by omega), if_neg (by omega)]
theorem FnExactCheatFrom : laws_FnExactCheatFrom.Pure := by
  intro a h
  have hb := i64_of h
  unfold laws_FnExactCheatFrom.f
  rw [specCheatFrom_eq a hb, implCheatFrom_eq a hb]
  simp [laws_eqCheat.f]
end Go.Proofs.Ytfebmgaamhjbcaa.Pure
