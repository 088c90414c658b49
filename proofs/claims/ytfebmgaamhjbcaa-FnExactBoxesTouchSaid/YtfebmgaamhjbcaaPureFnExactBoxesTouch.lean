/- The program's word on whether two rectangles touch is the reference's, for all rectangles. No condition. -/
import Derived.Test.YtfebmgaamhjbcaaPFnExactBoxesTouchx2
import Derived.DataShut
namespace Go.Proofs.Ytfebmgaamhjbcaa.Pure
open Go.RowKit Go.Proofs.Ytfebmgaamhjbcaa.PFnExactBoxesTouch Go.Proofs.YtfebmgaamhjbcaaW.PrintWords Go.Proofs.YtfebmgaamhjbcaaW.PrintLast
theorem i64_of {n : Int} (h : (Lit.int .i64 n).wf = true) : -9223372036854775808 ≤ n ∧ n ≤ 9223372036854775807 := (Lit.wf_int_iff .i64 n).1 h
theorem u8_of {n : Int} (h : (Lit.int .u8 n).wf = true) : 0 ≤ n ∧ n ≤ 255 := (Lit.wf_int_iff .u8 n).1 h
theorem w64 {x : Int} (h0 : -9223372036854775808 ≤ x) (h1 : x ≤ 9223372036854775807) : wrap64 x = x := by unfold wrap64; omega
theorem some_dec {p q : Prop} [Decidable p] [Decidable q] (h : p ↔ q) : some (decide p) = some (decide q) := by simp only [h]
theorem some_ff {p : Prop} [Decidable p] (h : ¬ p) : some false = some (decide p) := by rw [decide_eq_false h]
theorem some_tt {p : Prop} [Decidable p] (h : p) : some true = some (decide p) := by rw [decide_eq_true h]
theorem tmod_nn {a b : Int} (h : 0 ≤ a) : Int.tmod a b = a % b := Int.tmod_eq_emod_of_nonneg h
theorem tdiv_nn {a b : Int} (h : 0 ≤ a) : Int.tdiv a b = a / b := Int.tdiv_eq_ediv_of_nonneg h
/-- With enough rounds it answers, and Q holds of the answer. -/
def Tot {α : Type} (g : Nat → Option α) (Q : α → Prop) : Prop := ∃ r, Q r ∧ ∃ K, ∀ k, K ≤ k → g k = some r
section
variable {α β : Type} {g h : Nat → Option α} {f : Nat → α → Option β} {Q : α → Prop} {R : β → Prop} {c : Prop} [Decidable c]
theorem Tot.ret {r : α} (h : Q r) : Tot (fun _ => some r) Q := ⟨r, h, 0, fun _ _ => rfl⟩
theorem Tot.of {r : α} (e : ∀ k, 0 < k → g k = some r) (h : Q r) : Tot g Q := ⟨r, h, 1, fun k hk => e k hk⟩
theorem Tot.bind (hg : Tot g Q) (hf : ∀ a, Q a → Tot (fun k => f k a) R) : Tot (fun k => (g k).bind (f k)) R := by
  obtain ⟨a, ha, K, hK⟩ := hg
  obtain ⟨b, hb, L, hL⟩ := hf a ha
  refine ⟨b, hb, K + L, fun k hk => ?_⟩
  show (g k).bind (f k) = some b
  rw [hK k (by omega)]
  exact hL k (by omega)
theorem Tot.ite (hg : c → Tot g Q) (hh : ¬ c → Tot h Q) : Tot (fun k => if c then g k else h k) Q := by
  by_cases hc : c
  · simp only [if_pos hc]; exact hg hc
  · simp only [if_neg hc]; exact hh hc
theorem Tot.pos (hc : c) (hg : Tot g Q) : Tot (fun k => if c then g k else h k) Q := by simp only [if_pos hc]; exact hg
theorem Tot.neg (hc : ¬ c) (hh : Tot h Q) : Tot (fun k => if c then g k else h k) Q := by simp only [if_neg hc]; exact hh
theorem Tot.up (h : Tot (fun k => g (k + 1)) Q) : Tot g Q := by
  obtain ⟨r, hr, K, hK⟩ := h
  refine ⟨r, hr, K + 1, fun k hk => ?_⟩
  obtain ⟨m, rfl⟩ : ∃ m, k = m + 1 := ⟨k - 1, by omega⟩
  exact hK m (by omega)
theorem Tot.mono {Q' : α → Prop} (h : Tot g Q) (hq : ∀ a, Q a → Q' a) : Tot g Q' := by
  obtain ⟨r, hr, K⟩ := h
  exact ⟨r, hq r hr, K⟩
theorem Tot.ex {g : Nat → Option Bool} (h : Tot g (· = true)) : ∃ k, g k = some true := by
  obtain ⟨r, rfl, K, hK⟩ := h
  exact ⟨K, hK K (Nat.le_refl _)⟩
/-- Two runs of the same answer alike. -/
theorem Tot.same (h : Tot g Q) : ∃ r, Q r ∧ Tot g (· = r) := by
  obtain ⟨r, hr, K⟩ := h
  exact ⟨r, hr, r, rfl, K⟩
end
theorem l1In_eq (a b c : Int) : spec_l1In.f a b c = some (decide (b ≤ a ∧ a ≤ c)) := by
  unfold spec_l1In.f
  split
  · exact some_dec (by omega)
  · exact some_ff (by omega)
theorem within_eq (a b c : Int) : impl_within.f a b c = some (decide (b ≤ a ∧ a ≤ c)) := by
  unfold impl_within.f
  split
  · exact some_dec (by omega)
  · exact some_ff (by omega)
def BV (a b c d : Int) : Prop := (-1000 ≤ a ∧ a ≤ 1000) ∧ (-1000 ≤ b ∧ b ≤ 1000) ∧ (1 ≤ c ∧ c ≤ 40) ∧ (1 ≤ d ∧ d ≤ 40)
instance (a b c d : Int) : Decidable (BV a b c d) := by unfold BV; infer_instance
theorem specBoxValid_eq (a b c d : Int) : spec_BoxValid.f a b c d = some (decide (BV a b c d)) := by
  unfold spec_BoxValid.f
  simp only [l1In_eq, Option.bind_some, decide_eq_true_eq]
  repeat' split
  all_goals first | exact some_dec (by unfold BV; omega) | exact some_ff (by unfold BV; omega)
theorem implBoxValid_eq (a b c d : Int) : impl_BoxValid.f a b c d = some (decide (BV a b c d)) := by
  unfold impl_BoxValid.f
  simp only [within_eq, Option.bind_some, decide_eq_true_eq]
  repeat' split
  all_goals first | exact some_dec (by unfold BV; omega) | exact some_ff (by unfold BV; omega)
def BT (a b c d a' b' c' d' : Int) : Prop := BV a b c d ∧ BV a' b' c' d' ∧ a < a' + c' ∧ a' < a + c ∧ b < b' + d' ∧ b' < b + d
instance (a b c d a' b' c' d' : Int) : Decidable (BT a b c d a' b' c' d') := by unfold BT; infer_instance
theorem bv_w {a b c d : Int} (h : BV a b c d) : wrap64 (a + c) = a + c ∧ wrap64 (b + d) = b + d := by
  unfold BV at h
  exact ⟨w64 (by omega) (by omega), w64 (by omega) (by omega)⟩
theorem specTouch_eq (a b c d a' b' c' d' : Int) : spec_BoxesTouch.f a b c d a' b' c' d' = some (decide (BT a b c d a' b' c' d')) := by
  unfold spec_BoxesTouch.f
  simp only [specBoxValid_eq, Option.bind_some, decide_eq_true_eq]
  split
  · rename_i h
    split
    · rename_i h'
      rw [(bv_w h).1, (bv_w h).2, (bv_w h').1, (bv_w h').2]
      repeat' split
      all_goals first | exact some_dec (by unfold BT; simp only [h, h', true_and]; omega) | exact some_ff (by unfold BT; omega)
    · rename_i h'
      exact some_ff (by unfold BT; exact fun z => h' z.2.1)
  · rename_i h
    exact some_ff (by unfold BT; exact fun z => h z.1)
theorem implTouch_eq (a b c d a' b' c' d' : Int) : impl_BoxesTouch.f a b c d a' b' c' d' = some (decide (BT a b c d a' b' c' d')) := by
  unfold impl_BoxesTouch.f
  simp only [implBoxValid_eq, Option.bind_some, decide_eq_true_eq]
  split
  · rename_i h
    split
    · rename_i h'
      rw [(bv_w h).1, (bv_w h).2, (bv_w h').1, (bv_w h').2]
      repeat' split
      all_goals first | exact some_dec (by unfold BT; simp only [h, h', true_and]; omega) | exact some_ff (by unfold BT; omega)
    · rename_i h'
      exact some_ff (by unfold BT; exact fun z => h' z.2.1)
  · rename_i h
    exact some_ff (by unfold BT; exact fun z => h z.1)
theorem FnExactBoxesTouch (a b c d a' b' c' d' : Int) (_ : (Lit.int .i64 a).wf = true) (_ : (Lit.int .i64 b).wf = true) (_ : (Lit.int .i64 c).wf = true) (_ : (Lit.int .i64 d).wf = true)
    (_ : (Lit.int .i64 a').wf = true) (_ : (Lit.int .i64 b').wf = true) (_ : (Lit.int .i64 c').wf = true) (_ : (Lit.int .i64 d').wf = true) : laws_FnExactBoxesTouch.f a b c d a' b' c' d' = some true := by
  simp only [laws_FnExactBoxesTouch.f, laws_toBox.f, specTouch_eq, implTouch_eq, Option.bind_some, bne_self_eq_false, Bool.false_eq_true, if_false]
end Go.Proofs.Ytfebmgaamhjbcaa.Pure
