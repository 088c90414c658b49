/- The program's word on whether cheats are valid is the reference's, for at most 2^20 cheats (more of them the law lets pass). -/
import Derived.Test.YtfebmgaamhjbcaaPFnExactCheatsValidx2
import Derived.DataShut
namespace Go.Proofs.Ytfebmgaamhjbcaa.Pure
open Go.RowKit Go.Proofs.Ytfebmgaamhjbcaa.PFnExactCheatsValid Go.Proofs.YtfebmgaamhjbcaaW.PrintWords Go.Proofs.YtfebmgaamhjbcaaW.PrintLast
theorem i64_of {n : Int} (h : (Lit.int .i64 n).wf = true) : -9223372036854775808 ≤ n ∧ n ≤ 9223372036854775807 := (Lit.wf_int_iff .i64 n).1 h
theorem u8_of {n : Int} (h : (Lit.int .u8 n).wf = true) : 0 ≤ n ∧ n ≤ 255 := (Lit.wf_int_iff .u8 n).1 h
theorem w64 {x : Int} (h0 : -9223372036854775808 ≤ x) (h1 : x ≤ 9223372036854775807) : wrap64 x = x := by unfold wrap64; omega
theorem some_dec {p q : Prop} [Decidable p] [Decidable q] (h : p ↔ q) : some (decide p) = some (decide q) := by simp only [h]
theorem some_ff {p : Prop} [Decidable p] (h : ¬ p) : some false = some (decide p) := by rw [decide_eq_false h]
theorem some_tt {p : Prop} [Decidable p] (h : p) : some true = some (decide p) := by rw [decide_eq_true h]
theorem tmod_nn {a b : Int} (h : 0 ≤ a) : Int.tmod a b = a % b := Int.tmod_eq_emod_of_nonneg h
theorem tdiv_nn {a b : Int} (h : 0 ≤ a) : Int.tdiv a b = a / b := Int.tdiv_eq_ediv_of_nonneg h
/-- With enough rounds it answers, and Q holds of the answer. -/
def Tot {α : Type} (g : Nat → Option α) (Q : α → Prop) : Prop := ∃ r, Q r ∧ ∃ K, ∀ k, K ≤ k → g k = some r
section
variable {α β : Type} {g h : Nat → Option α} {f : Nat → α → Option β} {Q : α → Prop} {R : β → Prop} {c : Prop} [Decidable c]
theorem Tot.ret {r : α} (h : Q r) : Tot (fun _ => some r) Q := ⟨r, h, 0, fun _ _ => rfl⟩
theorem Tot.of {r : α} (e : ∀ k, 0 < k → g k = some r) (h : Q r) : Tot g Q := ⟨r, h, 1, fun k hk => e k hk⟩
theorem Tot.bind (hg : Tot g Q) (hf : ∀ a, Q a → Tot (fun k => f k a) R) : Tot (fun k => (g k).bind (f k)) R := by
  obtain ⟨a, ha, K, hK⟩ := hg
  obtain ⟨b, hb, L, hL⟩ := hf a ha
  refine ⟨b, hb, K + L, fun k hk => ?_⟩
  show (g k).bind (f k) = some b
  rw [hK k (by omega)]
  exact hL k (by omega)
theorem Tot.ite (hg : c → Tot g Q) (hh : ¬ c → Tot h Q) : Tot (fun k => if c then g k else h k) Q := by
  by_cases hc : c
  · simp only [if_pos hc]; exact hg hc
  · simp only [if_neg hc]; exact hh hc
theorem Tot.pos (hc : c) (hg : Tot g Q) : Tot (fun k => if c then g k else h k) Q := by simp only [if_pos hc]; exact hg
theorem Tot.neg (hc : ¬ c) (hh : Tot h Q) : Tot (fun k => if c then g k else h k) Q := by simp only [if_neg hc]; exact hh
theorem Tot.up (h : Tot (fun k => g (k + 1)) Q) : Tot g Q := by
  obtain ⟨r, hr, K, hK⟩ := h
  refine ⟨r, hr, K + 1, fun k hk => ?_⟩
  obtain ⟨m, rfl⟩ : ∃ m, k = m + 1 := ⟨k - 1, by omega⟩
  exact hK m (by omega)
theorem Tot.mono {Q' : α → Prop} (h : Tot g Q) (hq : ∀ a, Q a → Q' a) : Tot g Q' := by
  obtain ⟨r, hr, K⟩ := h
  exact ⟨r, hq r hr, K⟩
theorem Tot.ex {g : Nat → Option Bool} (h : Tot g (· = true)) : ∃ k, g k = some true := by
  obtain ⟨r, rfl, K, hK⟩ := h
  exact ⟨K, hK K (Nat.le_refl _)⟩
/-- Two runs of the same answer alike. -/
theorem Tot.same (h : Tot g Q) : ∃ r, Q r ∧ Tot g (· = r) := by
  obtain ⟨r, hr, K⟩ := h
  exact ⟨r, hr, r, rfl, K⟩
end
theorem l1In_eq (a b c : Int) : spec_l1In.f a b c = some (decide (b ≤ a ∧ a ≤ c)) := by
  unfold spec_l1In.f
  split
  · exact some_dec (by omega)
  · exact some_ff (by omega)
theorem l1Byte_eq (a : Int) : spec_l1Byte.f a = some (decide (0 ≤ a ∧ a ≤ 255)) := by
  unfold spec_l1Byte.f
  rw [l1In_eq]; rfl
theorem within_eq (a b c : Int) : impl_within.f a b c = some (decide (b ≤ a ∧ a ≤ c)) := by
  unfold impl_within.f
  split
  · exact some_dec (by omega)
  · exact some_ff (by omega)
theorem isByte_eq (a : Int) : impl_isByte.f a = some (decide (0 ≤ a ∧ a ≤ 255)) := by
  unfold impl_isByte.f
  rw [within_eq]; rfl
theorem cheatValid_eq (a b c : Int) : impl_cheatValid.f a b c = some (decide ((0 ≤ a ∧ a ≤ 1023) ∧ (0 ≤ b ∧ b ≤ 255) ∧ -1 ≤ c ∧ c ≤ 255)) := by
  unfold impl_cheatValid.f
  simp only [within_eq, isByte_eq, Option.bind_some, decide_eq_true_eq]
  repeat' split
  all_goals first | exact some_dec (by omega) | exact some_ff (by omega)
/-- A valid cheat. -/
def CV (x : S33) : Prop := (0 ≤ x.f0 ∧ x.f0 ≤ 1023) ∧ (0 ≤ x.f1 ∧ x.f1 ≤ 255) ∧ -1 ≤ x.f2 ∧ x.f2 ≤ 255
theorem cheat_at {xs : List S33} {i : Nat} (h : i < xs.length) : rd_T33 xs (i : Int) = xs[i] := by
  unfold rd_T33
  rw [List.getD_eq_getElem?_getD, Int.toNat_natCast, List.getElem?_eq_getElem h]; rfl
theorem cheat_ext {x y : S33} (h0 : x.f0 = y.f0) (h1 : x.f1 = y.f1) (h2 : x.f2 = y.f2) : x = y := by
  cases x; cases y; simp only at h0 h1 h2; rw [h0, h1, h2]
theorem next_i {i n : Nat} (h : i < n) (hn : n ≤ 9223372036854775807) : wrap64 ((i : Int) + 1) = ((i + 1 : Nat) : Int) := by
  rw [w64] <;> omega
theorem all_drop {α : Type} {P : α → Prop} {xs : List α} {i : Nat} (h : i < xs.length) : (∀ x ∈ xs.drop i, P x) ↔ P xs[i] ∧ ∀ x ∈ xs.drop (i + 1), P x := by
  rw [List.drop_eq_getElem_cons h, List.forall_mem_cons]
theorem specCheats_loop (xs : List S33) (hm : xs.length ≤ 9223372036854775807) : ∀ (d i : Nat), xs.length - i = d → i ≤ xs.length →
    Tot (fun k => spec_CheatsValid.l0 k xs (i : Int)) (fun r => r = true ↔ (∀ x ∈ xs.drop i, CV x) ∧ xs.length ≤ 8) := by
  intro d
  induction d with
  | zero =>
    intro i hd hi
    refine Tot.up ?_
    simp only [spec_CheatsValid.l0]
    refine Tot.neg (by omega) (Tot.ret ?_)
    rw [List.drop_of_length_le (by omega)]
    simp
    omega
  | succ d ih =>
    intro i hd hi
    have hlt : i < xs.length := by omega
    refine Tot.up ?_
    simp only [spec_CheatsValid.l0, cheat_at hlt, next_i hlt hm, l1In_eq, l1Byte_eq, Option.bind_some, decide_eq_true_eq]
    refine Tot.pos (by omega) (Tot.pos (by omega) (Tot.ite (fun h1 => Tot.ite (fun h2 => Tot.ite (fun h3 => ?_) (fun h3 => ?_)) (fun h2 => ?_)) (fun h1 => ?_)))
    · refine (ih (i + 1) (by omega) (by omega)).mono fun r hr => ?_
      rw [hr, all_drop hlt]
      exact ⟨fun z => ⟨⟨⟨h1, h2, h3⟩, z.1⟩, z.2⟩, fun z => ⟨z.1.2, z.2⟩⟩
    · refine Tot.ret ?_
      rw [all_drop hlt]
      exact ⟨fun z => (by cases z), fun z => absurd z.1.1.2.2 h3⟩
    · refine Tot.ret ?_
      rw [all_drop hlt]
      exact ⟨fun z => (by cases z), fun z => absurd z.1.1.2.1 h2⟩
    · refine Tot.ret ?_
      rw [all_drop hlt]
      exact ⟨fun z => (by cases z), fun z => absurd z.1.1.1 h1⟩
theorem specCheats_tot (xs : List S33) (hm : xs.length ≤ 9223372036854775807) : Tot (fun k => spec_CheatsValid.f k xs) (fun r => r = true ↔ (∀ x ∈ xs, CV x) ∧ xs.length ≤ 8) := by
  unfold spec_CheatsValid.f
  exact specCheats_loop xs hm xs.length 0 rfl (Nat.zero_le _)
theorem implCheats_loop (xs : List S33) (hm : xs.length ≤ 9223372036854775807) : ∀ (d i : Nat), xs.length - i = d → i ≤ xs.length →
    Tot (fun k => impl_CheatsValid.l0 k xs (xs.length : Int) (i : Int)) (fun r => r = true ↔ ∀ x ∈ xs.drop i, CV x) := by
  intro d
  induction d with
  | zero =>
    intro i hd hi
    refine Tot.up ?_
    simp only [impl_CheatsValid.l0]
    refine Tot.neg (by omega) (Tot.ret ?_)
    rw [List.drop_of_length_le (by omega)]
    simp
  | succ d ih =>
    intro i hd hi
    have hlt : i < xs.length := by omega
    refine Tot.up ?_
    simp only [impl_CheatsValid.l0, cheat_at hlt, next_i hlt hm, cheatValid_eq, Option.bind_some, decide_eq_true_eq]
    refine Tot.pos (by omega) (Tot.pos (by omega) (Tot.pos (by omega) (Tot.ite (fun h1 => ?_) (fun h1 => ?_))))
    · refine (ih (i + 1) (by omega) (by omega)).mono fun r hr => ?_
      rw [hr, all_drop hlt]
      exact ⟨fun z => ⟨h1, z⟩, fun z => z.2⟩
    · refine Tot.ret ?_
      rw [all_drop hlt]
      exact ⟨fun z => (by cases z), fun z => absurd z.1 h1⟩
theorem implCheats_tot (xs : List S33) (hm : xs.length ≤ 9223372036854775807) : Tot (fun k => impl_CheatsValid.f k xs) (fun r => r = true ↔ (∀ x ∈ xs, CV x) ∧ xs.length ≤ 8) := by
  unfold impl_CheatsValid.f
  refine Tot.ite (fun h => Tot.ret ⟨fun z => (by cases z), fun z => by omega⟩) (fun h => ?_)
  exact (implCheats_loop xs hm xs.length 0 rfl (Nat.zero_le _)).mono fun r hr => by rw [hr]; exact ⟨fun z => ⟨z, by omega⟩, fun z => z.1⟩
theorem lcheat_at {xs : List S37} {i : Nat} (h : i < xs.length) : rd_T37 xs (i : Int) = xs[i] := by
  unfold rd_T37
  rw [List.getD_eq_getElem?_getD, Int.toNat_natCast, List.getElem?_eq_getElem h]; rfl
def conv (x : S37) : S33 := ⟨x.f0, x.f1, x.f2⟩
theorem take_set {α : Type} {ys : List α} {i : Nat} (h : i < ys.length) (c : α) : (ys.set i c).take (i + 1) = ys.take i ++ [c] := by
  rw [List.take_succ_eq_append_getElem (by rw [List.length_set]; exact h), List.getElem_set_self, List.take_set, List.set_eq_of_length_le (by rw [List.length_take]; omega)]
theorem toCheats_loop (xs : List S37) (hm : xs.length ≤ 9223372036854775807) : ∀ (d i : Nat) (ys : List S33), xs.length - i = d → i ≤ xs.length → ys.length = xs.length →
    Tot (fun k => laws_toCheatS.l0 k xs ys (i : Int)) (· = ys.take i ++ (xs.drop i).map conv) := by
  intro d
  induction d with
  | zero =>
    intro i ys hd hi hy
    refine Tot.up ?_
    simp only [laws_toCheatS.l0]
    refine Tot.neg (by omega) (Tot.ret ?_)
    rw [List.drop_of_length_le (by omega), List.take_of_length_le (by omega)]
    simp
  | succ d ih =>
    intro i ys hd hi hy
    have hlt : i < xs.length := by omega
    refine Tot.up ?_
    simp only [laws_toCheatS.l0, lcheat_at hlt, next_i hlt hm, laws_toCheat.f, Option.bind_some, Int.toNat_natCast]
    refine Tot.pos (by omega) (Tot.pos (by omega) (Tot.pos (by omega) ?_))
    refine (ih (i + 1) _ (by omega) (by omega) (by rw [List.length_set]; exact hy)).mono fun r hr => ?_
    rw [hr, take_set (by omega), List.drop_eq_getElem_cons hlt, List.map_cons, List.append_assoc]
    rfl
theorem toCheats_tot (xs : List S37) (hm : xs.length ≤ 1048576) : Tot (fun k => laws_toCheatS.f k xs) (· = xs.map conv) := by
  unfold laws_toCheatS.f
  simp only [Int.toNat_natCast]
  refine Tot.pos (by omega) (Tot.pos (by omega) ?_)
  refine (toCheats_loop xs (by omega) xs.length 0 _ rfl (Nat.zero_le _) (by rw [List.length_replicate])).mono fun r hr => ?_
  rw [hr]; simp
theorem eqCheats_loop (xs ys : List S33) (hm : xs.length ≤ 9223372036854775807) (hl : xs.length = ys.length) : ∀ (d i : Nat), xs.length - i = d → i ≤ xs.length →
    Tot (fun k => laws_eqCheatS.l0 k xs ys (i : Int)) (fun r => r = true ↔ xs.drop i = ys.drop i) := by
  intro d
  induction d with
  | zero =>
    intro i hd hi
    refine Tot.up ?_
    simp only [laws_eqCheatS.l0]
    refine Tot.neg (by omega) (Tot.ret ?_)
    rw [List.drop_of_length_le (by omega), List.drop_of_length_le (by omega)]
    simp
  | succ d ih =>
    intro i hd hi
    have hlt : i < xs.length := by omega
    have hlt' : i < ys.length := by omega
    refine Tot.up ?_
    simp only [laws_eqCheatS.l0, cheat_at hlt, cheat_at hlt', next_i hlt hm, laws_eqCheat.f]
    refine Tot.pos (by omega) (Tot.pos (by omega) (Tot.pos (by omega) ?_))
    rw [List.drop_eq_getElem_cons hlt, List.drop_eq_getElem_cons hlt']
    by_cases h0 : xs[i].f0 = ys[i].f0
    · by_cases h1 : xs[i].f1 = ys[i].f1
      · by_cases h2 : xs[i].f2 = ys[i].f2
        · simp only [if_pos h0, if_pos h1, if_pos h2, Option.bind_some, if_true]
          refine (ih (i + 1) (by omega) (by omega)).mono fun r hr => ?_
          rw [hr, cheat_ext h0 h1 h2]
          exact ⟨fun z => by rw [z], fun z => (List.cons.inj z).2⟩
        · simp only [if_pos h0, if_pos h1, if_neg h2, Option.bind_some, Bool.false_eq_true, if_false]
          refine Tot.ret ⟨fun z => (by cases z), fun z => absurd (by rw [(List.cons.inj z).1]) h2⟩
      · simp only [if_pos h0, if_neg h1, Option.bind_some, Bool.false_eq_true, if_false]
        refine Tot.ret ⟨fun z => (by cases z), fun z => absurd (by rw [(List.cons.inj z).1]) h1⟩
    · simp only [if_neg h0, Option.bind_some, Bool.false_eq_true, if_false]
      refine Tot.ret ⟨fun z => (by cases z), fun z => absurd (by rw [(List.cons.inj z).1]) h0⟩
theorem eqCheats_tot (xs ys : List S33) (hm : xs.length ≤ 9223372036854775807) : Tot (fun k => laws_eqCheatS.f k xs ys) (fun r => r = true ↔ xs = ys) := by
  unfold laws_eqCheatS.f
  refine Tot.ite (fun h => ?_) (fun h => Tot.ret ⟨fun z => (by cases z), fun z => absurd (by rw [z]) h⟩)
  exact eqCheats_loop xs ys hm (by omega) xs.length 0 rfl (Nat.zero_le _)
theorem szCheats_eq (xs : List S37) (hm : xs.length ≤ 9223372036854775807) : laws_szCheatS.f xs 1048576 = some (if xs.length ≤ 1048576 then 1048576 - (xs.length : Int) else -1) := by
  unfold laws_szCheatS.f
  rw [w64 (by omega) (by omega)]
  by_cases h : xs.length ≤ 1048576
  · rw [if_neg (by omega), if_pos h]
  · rw [if_pos (by omega), if_neg h]
theorem FnExactCheatsValid (l0 : List S37) (hm : l0.length ≤ 9223372036854775807) (_ : ∀ y ∈ l0, ((Lit.int .i64 y.f0).wf = true) ∧ ((Lit.int .i64 y.f1).wf = true) ∧ ((Lit.int .i64 y.f2).wf = true)) : ∃ k, laws_FnExactCheatsValid.f k l0 = some true := by
  refine Tot.ex ?_
  unfold laws_FnExactCheatsValid.f
  simp only [szCheats_eq l0 hm, Option.bind_some]
  refine Tot.ite (fun _ => Tot.ret rfl) (fun hn => ?_)
  have hl : l0.length ≤ 1048576 := by
    by_cases h : l0.length ≤ 1048576
    · exact h
    · rw [if_neg h] at hn; omega
  refine Tot.bind (toCheats_tot l0 hl) ?_
  rintro xs rfl
  have hx : (l0.map conv).length ≤ 9223372036854775807 := by rw [List.length_map]; exact hm
  refine Tot.bind (specCheats_tot _ hx) fun r1 h1 => ?_
  refine Tot.bind (toCheats_tot l0 hl) ?_
  rintro xs rfl
  refine Tot.bind (implCheats_tot _ hx) fun r2 h2 => ?_
  have e : r2 = r1 := by rw [Bool.eq_iff_iff, h1, h2]
  subst e
  refine Tot.neg (by simp) (Tot.bind (toCheats_tot l0 hl) ?_)
  rintro xs rfl
  refine Tot.bind (eqCheats_tot _ _ hx) fun r3 h3 => ?_
  exact Tot.pos (h3.2 rfl) (Tot.ret rfl)
end Go.Proofs.Ytfebmgaamhjbcaa.Pure
