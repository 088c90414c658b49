/- The number of a cheat is the reference's, for every cheat. No condition. -/
import Derived.Test.YtfebmgaamhjbcaaPFnExactCheatNumberx1
import Derived.DataShut
namespace Go.Proofs.Ytfebmgaamhjbcaa.Pure
open Go.RowKit Go.Proofs.Ytfebmgaamhjbcaa.PFnExactCheatNumber Go.Proofs.YtfebmgaamhjbcaaW.PrintWords Go.Proofs.YtfebmgaamhjbcaaW.PrintLast
theorem i64_of {n : Int} (h : (Lit.int .i64 n).wf = true) : -9223372036854775808 ≤ n ∧ n ≤ 9223372036854775807 := (Lit.wf_int_iff .i64 n).1 h
theorem u8_of {n : Int} (h : (Lit.int .u8 n).wf = true) : 0 ≤ n ∧ n ≤ 255 := (Lit.wf_int_iff .u8 n).1 h
theorem w64 {x : Int} (h0 : -9223372036854775808 ≤ x) (h1 : x ≤ 9223372036854775807) : wrap64 x = x := by unfold wrap64; omega
theorem some_dec {p q : Prop} [Decidable p] [Decidable q] (h : p ↔ q) : some (decide p) = some (decide q) := by simp only [h]
theorem some_ff {p : Prop} [Decidable p] (h : ¬ p) : some false = some (decide p) := by rw [decide_eq_false h]
theorem some_tt {p : Prop} [Decidable p] (h : p) : some true = some (decide p) := by rw [decide_eq_true h]
theorem tmod_nn {a b : Int} (h : 0 ≤ a) : Int.tmod a b = a % b := Int.tmod_eq_emod_of_nonneg h
theorem tdiv_nn {a b : Int} (h : 0 ≤ a) : Int.tdiv a b = a / b := Int.tdiv_eq_ediv_of_nonneg h
/-- With enough rounds it answers, and Q holds of the answer. -/
def Tot {α : Type} (g : Nat → Option α) (Q : α → Prop) : Prop := ∃ r, Q r ∧ ∃ K, ∀ k, K ≤ k → g k = some r
section
variable {α β : Type} {g h : Nat → Option α} {f : Nat → α → Option β} {Q : α → Prop} {R : β → Prop} {c : Prop} [Decidable c]
theorem Tot.ret {r : α} (h : Q r) : Tot (fun _ => some r) Q := ⟨r, h, 0, fun _ _ => rfl⟩
theorem Tot.of {r : α} (e : ∀ k, 0 < k → g k = some r) (h : Q r) : Tot g Q := ⟨r, h, 1, fun k hk => e k hk⟩
theorem Tot.bind (hg : Tot g Q) (hf : ∀ a, Q a → Tot (fun k => f k a) R) : Tot (fun k => (g k).bind (f k)) R := by
  obtain ⟨a, ha, K, hK⟩ := hg
  obtain ⟨b, hb, L, hL⟩ := hf a ha
  refine ⟨b, hb, K + L, fun k hk => ?_⟩
  show (g k).bind (f k) = some b
  rw [hK k (by omega)]
  exact hL k (by omega)
theorem Tot.ite (hg : c → Tot g Q) (hh : ¬ c → Tot h Q) : Tot (fun k => if c then g k else h k) Q := by
  by_cases hc : c
  · simp only [if_pos hc]; exact hg hc
  · simp only [if_neg hc]; exact hh hc
theorem Tot.pos (hc : c) (hg : Tot g Q) : Tot (fun k => if c then g k else h k) Q := by simp only [if_pos hc]; exact hg
theorem Tot.neg (hc : ¬ c) (hh : Tot h Q) : Tot (fun k => if c then g k else h k) Q := by simp only [if_neg hc]; exact hh
theorem Tot.up (h : Tot (fun k => g (k + 1)) Q) : Tot g Q := by
  obtain ⟨r, hr, K, hK⟩ := h
  refine ⟨r, hr, K + 1, fun k hk => ?_⟩
  obtain ⟨m, rfl⟩ : ∃ m, k = m + 1 := ⟨k - 1, by omega⟩
  exact hK m (by omega)
theorem Tot.mono {Q' : α → Prop} (h : Tot g Q) (hq : ∀ a, Q a → Q' a) : Tot g Q' := by
  obtain ⟨r, hr, K⟩ := h
  exact ⟨r, hq r hr, K⟩
theorem Tot.ex {g : Nat → Option Bool} (h : Tot g (· = true)) : ∃ k, g k = some true := by
  obtain ⟨r, rfl, K, hK⟩ := h
  exact ⟨K, hK K (Nat.le_refl _)⟩
/-- Two runs of the same answer alike. -/
theorem Tot.same (h : Tot g Q) : ∃ r, Q r ∧ Tot g (· = r) := by
  obtain ⟨r, hr, K⟩ := h
  exact ⟨r, hr, r, rfl, K⟩
end
theorem l1In_eq (a b c : Int) : spec_l1In.f a b c = some (decide (b ≤ a ∧ a ≤ c)) := by
  unfold spec_l1In.f
  split
  · exact some_dec (by omega)
  · exact some_ff (by omega)
theorem l1Byte_eq (a : Int) : spec_l1Byte.f a = some (decide (0 ≤ a ∧ a ≤ 255)) := by
  unfold spec_l1Byte.f
  rw [l1In_eq]; rfl
theorem within_eq (a b c : Int) : impl_within.f a b c = some (decide (b ≤ a ∧ a ≤ c)) := by
  unfold impl_within.f
  split
  · exact some_dec (by omega)
  · exact some_ff (by omega)
theorem isByte_eq (a : Int) : impl_isByte.f a = some (decide (0 ≤ a ∧ a ≤ 255)) := by
  unfold impl_isByte.f
  rw [within_eq]; rfl
theorem cheatValid_eq (a b c : Int) : impl_cheatValid.f a b c = some (decide ((0 ≤ a ∧ a ≤ 1023) ∧ (0 ≤ b ∧ b ≤ 255) ∧ -1 ≤ c ∧ c ≤ 255)) := by
  unfold impl_cheatValid.f
  simp only [within_eq, isByte_eq, Option.bind_some, decide_eq_true_eq]
  repeat' split
  all_goals first | exact some_dec (by omega) | exact some_ff (by omega)
/-- A valid cheat. -/
def CV (x : S33) : Prop := (0 ≤ x.f0 ∧ x.f0 ≤ 1023) ∧ (0 ≤ x.f1 ∧ x.f1 ≤ 255) ∧ -1 ≤ x.f2 ∧ x.f2 ≤ 255
theorem cheat_at {xs : List S33} {i : Nat} (h : i < xs.length) : rd_T33 xs (i : Int) = xs[i] := by
  unfold rd_T33
  rw [List.getD_eq_getElem?_getD, Int.toNat_natCast, List.getElem?_eq_getElem h]; rfl
theorem cheat_ext {x y : S33} (h0 : x.f0 = y.f0) (h1 : x.f1 = y.f1) (h2 : x.f2 = y.f2) : x = y := by
  cases x; cases y; simp only at h0 h1 h2; rw [h0, h1, h2]
theorem next_i {i n : Nat} (h : i < n) (hn : n ≤ 9223372036854775807) : wrap64 ((i : Int) + 1) = ((i + 1 : Nat) : Int) := by
  rw [w64] <;> omega
theorem all_drop {α : Type} {P : α → Prop} {xs : List α} {i : Nat} (h : i < xs.length) : (∀ x ∈ xs.drop i, P x) ↔ P xs[i] ∧ ∀ x ∈ xs.drop (i + 1), P x := by
  rw [List.drop_eq_getElem_cons h, List.forall_mem_cons]
theorem specCheats_loop (xs : List S33) (hm : xs.length ≤ 9223372036854775807) : ∀ (d i : Nat), xs.length - i = d → i ≤ xs.length →
    Tot (fun k => spec_CheatsValid.l0 k xs (i : Int)) (fun r => r = true ↔ (∀ x ∈ xs.drop i, CV x) ∧ xs.length ≤ 8) := by
  intro d
  induction d with
  | zero =>
    intro i hd hi
    refine Tot.up ?_
    simp only [spec_CheatsValid.l0]
    refine Tot.neg (by omega) (Tot.ret ?_)
    rw [List.drop_of_length_le (by omega)]
    simp
    omega
  | succ d ih =>
    intro i hd hi
    have hlt : i < xs.length := by omega
    refine Tot.up ?_
    simp only [spec_CheatsValid.l0, cheat_at hlt, next_i hlt hm, l1In_eq, l1Byte_eq, Option.bind_some, decide_eq_true_eq]
    refine Tot.pos (by omega) (Tot.pos (by omega) (Tot.ite (fun h1 => Tot.ite (fun h2 => Tot.ite (fun h3 => ?_) (fun h3 => ?_)) (fun h2 => ?_)) (fun h1 => ?_)))
    · refine (ih (i + 1) (by omega) (by omega)).mono fun r hr => ?_
      rw [hr, all_drop hlt]
      exact ⟨fun z => ⟨⟨⟨h1, h2, h3⟩, z.1⟩, z.2⟩, fun z => ⟨z.1.2, z.2⟩⟩
    · refine Tot.ret ?_
      rw [all_drop hlt]
      exact ⟨fun z => (by cases z), fun z => absurd z.1.1.2.2 h3⟩
    · refine Tot.ret ?_
      rw [all_drop hlt]
      exact ⟨fun z => (by cases z), fun z => absurd z.1.1.2.1 h2⟩
    · refine Tot.ret ?_
      rw [all_drop hlt]
      exact ⟨fun z => (by cases z), fun z => absurd z.1.1.1 h1⟩
theorem specCheats_tot (xs : List S33) (hm : xs.length ≤ 9223372036854775807) : Tot (fun k => spec_CheatsValid.f k xs) (fun r => r = true ↔ (∀ x ∈ xs, CV x) ∧ xs.length ≤ 8) := by
  unfold spec_CheatsValid.f
  exact specCheats_loop xs hm xs.length 0 rfl (Nat.zero_le _)
def CVp (a b c : Int) : Prop := (0 ≤ a ∧ a ≤ 1023) ∧ (0 ≤ b ∧ b ≤ 255) ∧ -1 ≤ c ∧ c ≤ 255
instance (a b c : Int) : Decidable (CVp a b c) := by unfold CVp; infer_instance
def numOf (a b c : Int) : Int := if CVp a b c then a + 1024 * b + 262144 * (c + 1) else -1
theorem num_wrap {a b c : Int} (h : CVp a b c) : wrap64 ((wrap64 (a + (wrap64 (1024 * b)))) + (wrap64 (262144 * (wrap64 (c + 1))))) = a + 1024 * b + 262144 * (c + 1) := by
  unfold CVp at h
  rw [w64 (x := 1024 * b) (by omega) (by omega), w64 (x := c + 1) (by omega) (by omega), w64 (x := 262144 * (c + 1)) (by omega) (by omega), w64 (x := a + 1024 * b) (by omega) (by omega), w64 (by omega) (by omega)]
theorem implNumber_eq (a b c : Int) : impl_CheatNumber.f a b c = some (numOf a b c) := by
  unfold impl_CheatNumber.f numOf
  simp only [cheatValid_eq, Option.bind_some, decide_eq_true_eq]
  by_cases h : CVp a b c
  · rw [if_pos (show (0 ≤ a ∧ a ≤ 1023) ∧ (0 ≤ b ∧ b ≤ 255) ∧ -1 ≤ c ∧ c ≤ 255 from h), if_pos h, num_wrap h]
  · rw [if_neg (show ¬ ((0 ≤ a ∧ a ≤ 1023) ∧ (0 ≤ b ∧ b ≤ 255) ∧ -1 ≤ c ∧ c ≤ 255) from h), if_neg h]
theorem specNumber_tot (a b c : Int) : Tot (fun k => spec_CheatNumber.f k a b c) (· = numOf a b c) := by
  unfold spec_CheatNumber.f numOf
  refine Tot.bind (specCheats_tot _ (by simp)) fun r hr => ?_
  have hr' : r = true ↔ CVp a b c := by
    rw [hr]; simp [CV, CVp]
  refine Tot.ite (fun h => Tot.ret ?_) (fun h => Tot.ret ?_)
  · rw [if_pos (hr'.1 h), num_wrap (hr'.1 h)]
  · rw [if_neg (fun z => h (hr'.2 z))]
theorem FnExactCheatNumber (a b c : Int) (_ : (Lit.int .i64 a).wf = true) (_ : (Lit.int .i64 b).wf = true) (_ : (Lit.int .i64 c).wf = true) : ∃ k, laws_FnExactCheatNumber.f k a b c = some true := by
  refine Tot.ex ?_
  unfold laws_FnExactCheatNumber.f
  simp only [laws_toCheat.f, Option.bind_some]
  refine Tot.bind (specNumber_tot a b c) ?_
  rintro r rfl
  simp only [implNumber_eq, Option.bind_some]
  exact Tot.pos (by simp) (Tot.ret rfl)
end Go.Proofs.Ytfebmgaamhjbcaa.Pure
