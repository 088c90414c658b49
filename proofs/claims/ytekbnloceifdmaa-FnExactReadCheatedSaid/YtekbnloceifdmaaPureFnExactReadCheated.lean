/- The program's ReadCheated answers as the reference's and leaves its arguments. (More than 2^20 cells the law lets pass.) -/
import Derived.Test.YtekbnloceifdmaaPFnExactReadCheatedx6
import Derived.DataShut
namespace Go.Proofs.Ytekbnloceifdmaa.Pure
open Go.RowKit Go.Proofs.Ytekbnloceifdmaa.PFnExactReadCheated Go.Proofs.YtekbnloceifdmaaW.PrintWords Go.Proofs.YtekbnloceifdmaaW.PrintLast
set_option linter.unusedSimpArgs false
set_option linter.unusedVariables false
theorem i64_of {n : Int} (h : (Lit.int .i64 n).wf = true) : -9223372036854775808 ≤ n ∧ n ≤ 9223372036854775807 := (Lit.wf_int_iff .i64 n).1 h
theorem u8_of {n : Int} (h : (Lit.int .u8 n).wf = true) : 0 ≤ n ∧ n ≤ 255 := (Lit.wf_int_iff .u8 n).1 h
theorem w64 {x : Int} (h0 : -9223372036854775808 ≤ x) (h1 : x ≤ 9223372036854775807) : wrap64 x = x := by unfold wrap64; omega
theorem some_dec {p q : Prop} [Decidable p] [Decidable q] (h : p ↔ q) : some (decide p) = some (decide q) := by simp only [h]
theorem some_ff {p : Prop} [Decidable p] (h : ¬ p) : some false = some (decide p) := by rw [decide_eq_false h]
theorem some_tt {p : Prop} [Decidable p] (h : p) : some true = some (decide p) := by rw [decide_eq_true h]
theorem tmod_nn {a b : Int} (h : 0 ≤ a) : Int.tmod a b = a % b := Int.tmod_eq_emod_of_nonneg h
theorem tdiv_nn {a b : Int} (h : 0 ≤ a) : Int.tdiv a b = a / b := Int.tdiv_eq_ediv_of_nonneg h
/-- With enough rounds it answers, and Q holds of the answer. -/
def Tot {α : Type} (g : Nat → Option α) (Q : α → Prop) : Prop := ∃ r, Q r ∧ ∃ K, ∀ k, K ≤ k → g k = some r
section
variable {α β : Type} {g h : Nat → Option α} {f : Nat → α → Option β} {Q : α → Prop} {R : β → Prop} {c : Prop} [Decidable c]
theorem Tot.ret {r : α} (h : Q r) : Tot (fun _ => some r) Q := ⟨r, h, 0, fun _ _ => rfl⟩
theorem Tot.of {r : α} (e : ∀ k, 0 < k → g k = some r) (h : Q r) : Tot g Q := ⟨r, h, 1, fun k hk => e k hk⟩
theorem Tot.bind (hg : Tot g Q) (hf : ∀ a, Q a → Tot (fun k => f k a) R) : Tot (fun k => (g k).bind (f k)) R := by
  obtain ⟨a, ha, K, hK⟩ := hg
  obtain ⟨b, hb, L, hL⟩ := hf a ha
  refine ⟨b, hb, K + L, fun k hk => ?_⟩
  show (g k).bind (f k) = some b
  rw [hK k (by omega)]
  exact hL k (by omega)
theorem Tot.ite (hg : c → Tot g Q) (hh : ¬ c → Tot h Q) : Tot (fun k => if c then g k else h k) Q := by
  by_cases hc : c
  · simp only [if_pos hc]; exact hg hc
  · simp only [if_neg hc]; exact hh hc
theorem Tot.pos (hc : c) (hg : Tot g Q) : Tot (fun k => if c then g k else h k) Q := by simp only [if_pos hc]; exact hg
theorem Tot.neg (hc : ¬ c) (hh : Tot h Q) : Tot (fun k => if c then g k else h k) Q := by simp only [if_neg hc]; exact hh
theorem Tot.up (h : Tot (fun k => g (k + 1)) Q) : Tot g Q := by
  obtain ⟨r, hr, K, hK⟩ := h
  refine ⟨r, hr, K + 1, fun k hk => ?_⟩
  obtain ⟨m, rfl⟩ : ∃ m, k = m + 1 := ⟨k - 1, by omega⟩
  exact hK m (by omega)
theorem Tot.mono {Q' : α → Prop} (h : Tot g Q) (hq : ∀ a, Q a → Q' a) : Tot g Q' := by
  obtain ⟨r, hr, K⟩ := h
  exact ⟨r, hq r hr, K⟩
theorem Tot.ex {g : Nat → Option Bool} (h : Tot g (· = true)) : ∃ k, g k = some true := by
  obtain ⟨r, rfl, K, hK⟩ := h
  exact ⟨K, hK K (Nat.le_refl _)⟩
/-- Two runs of the same answer alike. -/
theorem Tot.same (h : Tot g Q) : ∃ r, Q r ∧ Tot g (· = r) := by
  obtain ⟨r, hr, K⟩ := h
  exact ⟨r, hr, r, rfl, K⟩
end
theorem rd_at {xs : List Int} {i : Nat} (h : i < xs.length) : rd xs (i : Int) = xs[i] := by
  unfold rd
  rw [List.getD_eq_getElem?_getD, Int.toNat_natCast, List.getElem?_eq_getElem h]; rfl
theorem inext {i n : Nat} (h : i < n) (hn : n ≤ 9223372036854775807) : wrap64 ((i : Int) + 1) = ((i + 1 : Nat) : Int) := by
  rw [w64] <;> omega
theorem iall_drop {α : Type} {P : α → Prop} {xs : List α} {i : Nat} (h : i < xs.length) : (∀ x ∈ xs.drop i, P x) ↔ P xs[i] ∧ ∀ x ∈ xs.drop (i + 1), P x := by
  rw [List.drop_eq_getElem_cons h, List.forall_mem_cons]
theorem itake_set {α : Type} {ys : List α} {i : Nat} (h : i < ys.length) (c : α) : (ys.set i c).take (i + 1) = ys.take i ++ [c] := by
  rw [List.take_succ_eq_append_getElem (by rw [List.length_set]; exact h), List.getElem_set_self, List.take_set, List.set_eq_of_length_le (by rw [List.length_take]; omega)]
theorem l1In_eq (a b c : Int) : spec_l1In.f a b c = some (decide (b ≤ a ∧ a ≤ c)) := by
  unfold spec_l1In.f
  split
  · exact some_dec (by omega)
  · exact some_ff (by omega)
theorem l1Byte_eq (a : Int) : spec_l1Byte.f a = some (decide (0 ≤ a ∧ a ≤ 255)) := by
  unfold spec_l1Byte.f
  rw [l1In_eq]; rfl
theorem within_eq (a b c : Int) : impl_within.f a b c = some (decide (b ≤ a ∧ a ≤ c)) := by
  unfold impl_within.f
  split
  · exact some_dec (by omega)
  · exact some_ff (by omega)
theorem isByte_eq (a : Int) : impl_isByte.f a = some (decide (0 ≤ a ∧ a ≤ 255)) := by
  unfold impl_isByte.f
  rw [within_eq]; rfl
def Byt (x : Int) : Prop := 0 ≤ x ∧ x ≤ 255
theorem l2Bytes_loop (xs : List Int) (n : Int) (hm : xs.length ≤ 9223372036854775807) : ∀ (d i : Nat), xs.length - i = d → i ≤ xs.length →
    Tot (fun k => spec_l2Bytes.l0 k xs n (i : Int)) (fun r => r = true ↔ (∀ x ∈ xs.drop i, Byt x) ∧ (xs.length : Int) = n) := by
  intro d
  induction d with
  | zero =>
    intro i hd hi
    refine Tot.up ?_
    simp only [spec_l2Bytes.l0]
    refine Tot.neg (by omega) (Tot.ret ?_)
    rw [List.drop_of_length_le (by omega)]
    simp
  | succ d ih =>
    intro i hd hi
    have hlt : i < xs.length := by omega
    refine Tot.up ?_
    simp only [spec_l2Bytes.l0, rd_at hlt, inext hlt hm, l1Byte_eq, Option.bind_some, decide_eq_true_eq]
    refine Tot.pos (by omega) (Tot.pos (by omega) (Tot.ite (fun h => ?_) (fun h => Tot.ret ?_)))
    · refine (ih (i + 1) (by omega) (by omega)).mono fun r hr => ?_
      rw [hr, iall_drop hlt]
      exact ⟨fun z => ⟨⟨h, z.1⟩, z.2⟩, fun z => ⟨z.1.2, z.2⟩⟩
    · rw [iall_drop hlt]
      exact ⟨fun z => (by cases z), fun z => absurd z.1.1 h⟩
theorem l2Bytes_tot (xs : List Int) (n : Int) (hm : xs.length ≤ 9223372036854775807) : Tot (fun k => spec_l2Bytes.f k xs n) (fun r => r = true ↔ (∀ x ∈ xs, Byt x) ∧ (xs.length : Int) = n) := by
  unfold spec_l2Bytes.f
  exact l2Bytes_loop xs n hm xs.length 0 rfl (Nat.zero_le _)
theorem allBytes_loop (xs : List Int) (hm : xs.length ≤ 9223372036854775807) : ∀ (d i : Nat), xs.length - i = d → i ≤ xs.length →
    Tot (fun k => impl_allBytes.l0 k xs (xs.length : Int) (i : Int)) (fun r => r = true ↔ ∀ x ∈ xs.drop i, Byt x) := by
  intro d
  induction d with
  | zero =>
    intro i hd hi
    refine Tot.up ?_
    simp only [impl_allBytes.l0]
    refine Tot.neg (by omega) (Tot.ret ?_)
    rw [List.drop_of_length_le (by omega)]
    simp
  | succ d ih =>
    intro i hd hi
    have hlt : i < xs.length := by omega
    refine Tot.up ?_
    simp only [impl_allBytes.l0, rd_at hlt, inext hlt hm, isByte_eq, Option.bind_some, decide_eq_true_eq]
    refine Tot.pos (by omega) (Tot.pos (by omega) (Tot.pos (by omega) (Tot.ite (fun h => ?_) (fun h => Tot.ret ?_))))
    · refine (ih (i + 1) (by omega) (by omega)).mono fun r hr => ?_
      rw [hr, iall_drop hlt]
      exact ⟨fun z => ⟨h, z⟩, fun z => z.2⟩
    · rw [iall_drop hlt]
      exact ⟨fun z => (by cases z), fun z => absurd z.1 h⟩
theorem allBytes_tot (xs : List Int) (hm : xs.length ≤ 9223372036854775807) : Tot (fun k => impl_allBytes.f k xs) (fun r => r = true ↔ ∀ x ∈ xs, Byt x) := by
  unfold impl_allBytes.f
  exact allBytes_loop xs hm xs.length 0 rfl (Nat.zero_le _)
/-! ### Banks -/
theorem rdR_at {xs : List (List Int)} {i : Nat} (h : i < xs.length) : rd_L1 xs (i : Int) = xs[i] := by
  unfold rd_L1
  rw [List.getD_eq_getElem?_getD, Int.toNat_natCast, List.getElem?_eq_getElem h]; rfl
def BankOk (x : List Int) : Prop := x.length = 256 ∧ ∀ b ∈ x, Byt b
def ValidRom (r : List (List Int)) : Prop := (1 ≤ r.length ∧ r.length ≤ 4) ∧ ∀ x ∈ r, BankOk x
theorem sum_bd : ∀ (l : List Int), (∀ x ∈ l, Byt x) → 0 ≤ l.sum ∧ l.sum ≤ 255 * l.length
  | [], _ => by simp
  | x :: l, h => by
    have h1 := h x (List.mem_cons_self ..)
    have h2 := sum_bd l (fun y hy => h y (List.mem_cons_of_mem _ hy))
    unfold Byt at h1
    rw [List.sum_cons, List.length_cons]
    omega
theorem sum_drop {l : List Int} {i : Nat} (h : i < l.length) : (l.drop i).sum = l[i] + (l.drop (i + 1)).sum := by
  rw [List.drop_eq_getElem_cons h, List.sum_cons]
theorem flat_drop {r : List (List Int)} {i : Nat} (h : i < r.length) : (r.drop i).flatten = r[i] ++ (r.drop (i + 1)).flatten := by
  rw [List.drop_eq_getElem_cons h, List.flatten_cons]
theorem flat_length : ∀ {r : List (List Int)}, (∀ x ∈ r, x.length = 256) → r.flatten.length = 256 * r.length
  | [], _ => rfl
  | x :: r, h => by
    rw [List.flatten_cons, List.length_append, h x (List.mem_cons_self ..), flat_length (fun y hy => h y (List.mem_cons_of_mem _ hy)), List.length_cons]
    omega
theorem flat_byt {r : List (List Int)} (h : ∀ x ∈ r, BankOk x) : ∀ b ∈ r.flatten, Byt b := by
  intro b hb
  obtain ⟨x, hx, hbx⟩ := List.mem_flatten.1 hb
  exact (h x hx).2 b hbx
/-- The bytes of a cartridge. -/
def build (r : List (List Int)) : List Int := [71, 67, (r.length : Int), r.flatten.sum % 256] ++ r.flatten
theorem build_length {r : List (List Int)} (h : ValidRom r) : (build r).length = 4 + 256 * r.length := by
  unfold build
  rw [List.length_append, flat_length (fun x hx => (h.2 x hx).1)]
  simp
theorem banksValid_loop (r : List (List Int)) (hr : r.length ≤ 4) : ∀ (d i : Nat), r.length - i = d → i ≤ r.length → Tot (fun k => impl_banksValid.l0 k r (r.length : Int) (i : Int)) (fun q => q = true ↔ ∀ x ∈ r.drop i, BankOk x) := by
  intro d
  induction d with
  | zero =>
    intro i hd hi
    refine Tot.up ?_
    simp only [impl_banksValid.l0]
    refine Tot.neg (by omega) (Tot.ret ?_)
    rw [List.drop_of_length_le (by omega)]
    simp
  | succ d ih =>
    intro i hd hi
    have hlt : i < r.length := by omega
    refine Tot.up ?_
    simp only [impl_banksValid.l0, rdR_at hlt, inext hlt (by omega)]
    refine Tot.pos (by omega) (Tot.pos (by omega) (Tot.pos (by omega) (Tot.ite (fun h1 => ?_) (fun h1 => Tot.ret ?_))))
    · refine Tot.bind (allBytes_tot _ (by omega)) fun q hq => Tot.ite (fun h2 => ?_) (fun h2 => Tot.ret ?_)
      · refine (ih (i + 1) (by omega) (by omega)).mono fun q' hq' => ?_
        rw [hq', iall_drop hlt]
        exact ⟨fun z => ⟨⟨by omega, hq.1 h2⟩, z⟩, fun z => z.2⟩
      · rw [iall_drop hlt]
        exact ⟨fun z => (by cases z), fun z => absurd (hq.2 z.1.2) h2⟩
    · rw [iall_drop hlt]
      exact ⟨fun z => (by cases z), fun z => absurd (by rw [z.1.1]; rfl) h1⟩
theorem banksValid_tot (r : List (List Int)) : Tot (fun k => impl_banksValid.f k r) (fun q => q = true ↔ ValidRom r) := by
  unfold impl_banksValid.f
  simp only [within_eq, Option.bind_some, decide_eq_true_eq]
  refine Tot.ite (fun h => ?_) (fun h => Tot.ret ⟨fun z => (by cases z), fun z => absurd z.1 (by omega)⟩)
  refine (banksValid_loop r (by omega) r.length 0 rfl (Nat.zero_le _)).mono fun q hq => ?_
  rw [hq, List.drop_zero]
  exact ⟨fun z => ⟨by omega, z⟩, fun z => z.2⟩
def MV (ram : List Int) (rom : List (List Int)) (bank : Int) : Prop := ((∀ b ∈ ram, Byt b) ∧ ram.length = 256) ∧ ValidRom rom ∧ 0 ≤ bank ∧ bank ≤ (rom.length : Int) - 1
theorem specMV_loop (ram : List Int) (rom : List (List Int)) (bank : Int) (hm : ram.length ≤ 1048576) (hr : rom.length ≤ 1048576) (hrr : ∀ x ∈ rom, x.length ≤ 1048576) : ∀ (d i : Nat), rom.length - i = d → i ≤ rom.length → Tot (fun k => spec_MemoryValid.l0 k (i : Int) ram rom bank) (fun q => q = true ↔ (∀ x ∈ rom.drop i, BankOk x) ∧ ((∀ b ∈ ram, Byt b) ∧ ram.length = 256) ∧ (1 ≤ rom.length ∧ rom.length ≤ 4) ∧ 0 ≤ bank ∧ bank ≤ (rom.length : Int) - 1) := by
  intro d
  induction d with
  | zero =>
    intro i hd hi
    refine Tot.up ?_
    simp only [spec_MemoryValid.l0, l1In_eq, Option.bind_some, decide_eq_true_eq]
    refine Tot.neg (by omega) (Tot.bind (l2Bytes_tot ram 256 (by omega)) fun q hq => Tot.ite (fun h => Tot.ite (fun h2 => Tot.ret ?_) (fun h2 => Tot.ret ?_)) (fun h => Tot.ret ?_))
    · rw [w64 (by omega) (by omega), decide_eq_true_eq, List.drop_of_length_le (by omega)]
      have := hq.1 h
      exact ⟨fun z => ⟨by simp, ⟨this.1, by omega⟩, by omega, z⟩, fun z => z.2.2.2⟩
    · exact ⟨fun z => (by cases z), fun z => absurd z.2.2.1 (by omega)⟩
    · exact ⟨fun z => (by cases z), fun z => absurd (hq.2 ⟨z.2.1.1, by omega⟩) h⟩
  | succ d ih =>
    intro i hd hi
    have hlt : i < rom.length := by omega
    refine Tot.up ?_
    simp only [spec_MemoryValid.l0, rdR_at hlt, inext hlt (by omega)]
    refine Tot.pos (by omega) (Tot.pos (by omega) (Tot.bind (l2Bytes_tot _ 256 (by have := hrr _ (List.getElem_mem hlt); omega)) fun q hq => Tot.ite (fun h => ?_) (fun h => Tot.ret ?_)))
    · refine (ih (i + 1) (by omega) (by omega)).mono fun q' hq' => ?_
      have := hq.1 h
      rw [hq', iall_drop hlt]
      exact ⟨fun z => ⟨⟨⟨by omega, this.1⟩, z.1⟩, z.2⟩, fun z => ⟨z.1.2, z.2⟩⟩
    · rw [iall_drop hlt]
      exact ⟨fun z => (by cases z), fun z => absurd (hq.2 ⟨z.1.1.2, by rw [z.1.1.1]; rfl⟩) h⟩
theorem specMV_tot (ram : List Int) (rom : List (List Int)) (bank : Int) (hm : ram.length ≤ 1048576) (hr : rom.length ≤ 1048576) (hrr : ∀ x ∈ rom, x.length ≤ 1048576) : Tot (fun k => spec_MemoryValid.f k ram rom bank) (fun q => q = true ↔ MV ram rom bank) := by
  unfold spec_MemoryValid.f
  refine (specMV_loop ram rom bank hm hr hrr rom.length 0 rfl (Nat.zero_le _)).mono fun q hq => ?_
  rw [hq, List.drop_zero]
  exact ⟨fun z => ⟨z.2.1, ⟨z.2.2.1, z.1⟩, z.2.2.2⟩, fun z => ⟨z.2.1.2, z.1, z.2.1.1, z.2.2⟩⟩
theorem mv_new {rom : List (List Int)} : MV (List.replicate 256 0) rom 0 ↔ ValidRom rom := by
  unfold MV
  refine ⟨fun z => z.2.1, fun z => ⟨⟨fun b hb => ?_, List.length_replicate ..⟩, z, by omega, by have := z.1; omega⟩⟩
  rw [List.eq_of_mem_replicate hb]
  unfold Byt; omega
theorem mv_zero : ¬ MV [] [] 0 := fun z => by have := z.1.2; simp at this
theorem implMV_tot (ram : List Int) (rom : List (List Int)) (bank : Int) (hm : ram.length ≤ 1048576) : Tot (fun k => impl_MemoryValid.f k ram rom bank) (fun q => q = true ↔ MV ram rom bank) := by
  unfold impl_MemoryValid.f
  refine Tot.ite (fun h0 => ?_) (fun h0 => Tot.ret ⟨fun z => (by cases z), fun z => absurd (by rw [z.1.2]; rfl) h0⟩)
  refine Tot.bind (allBytes_tot ram (by omega)) fun q hq => Tot.ite (fun h1 => ?_) (fun h1 => Tot.ret ⟨fun z => (by cases z), fun z => absurd (hq.2 z.1.1) h1⟩)
  refine Tot.bind (banksValid_tot rom) fun q2 hq2 => Tot.ite (fun h2 => ?_) (fun h2 => Tot.ret ⟨fun z => (by cases z), fun z => absurd (hq2.2 z.2.1) h2⟩)
  refine Tot.ite (fun h3 => Tot.ret ?_) (fun h3 => Tot.ret ⟨fun z => (by cases z), fun z => absurd z.2.2.1 h3⟩)
  rw [decide_eq_true_eq]
  exact ⟨fun z => ⟨⟨hq.1 h1, by omega⟩, hq2.1 h2, h3, by omega⟩, fun z => by have := z.2.2.2; omega⟩
/-- A valid cheat. -/
def CV (x : S59) : Prop := (0 ≤ x.f0 ∧ x.f0 ≤ 1023) ∧ (0 ≤ x.f1 ∧ x.f1 ≤ 255) ∧ -1 ≤ x.f2 ∧ x.f2 ≤ 255
theorem cheat_at {xs : List S59} {i : Nat} (h : i < xs.length) : rd_T59 xs (i : Int) = xs[i] := by
  unfold rd_T59
  rw [List.getD_eq_getElem?_getD, Int.toNat_natCast, List.getElem?_eq_getElem h]; rfl
theorem cheat_ext {x y : S59} (h0 : x.f0 = y.f0) (h1 : x.f1 = y.f1) (h2 : x.f2 = y.f2) : x = y := by
  cases x; cases y; simp only at h0 h1 h2; rw [h0, h1, h2]
theorem next_i {i n : Nat} (h : i < n) (hn : n ≤ 9223372036854775807) : wrap64 ((i : Int) + 1) = ((i + 1 : Nat) : Int) := by
  rw [w64] <;> omega
theorem all_drop {α : Type} {P : α → Prop} {xs : List α} {i : Nat} (h : i < xs.length) : (∀ x ∈ xs.drop i, P x) ↔ P xs[i] ∧ ∀ x ∈ xs.drop (i + 1), P x := by
  rw [List.drop_eq_getElem_cons h, List.forall_mem_cons]
theorem cheatValid_eq (a b c : Int) : impl_cheatValid.f a b c = some (decide ((0 ≤ a ∧ a ≤ 1023) ∧ (0 ≤ b ∧ b ≤ 255) ∧ -1 ≤ c ∧ c ≤ 255)) := by
  unfold impl_cheatValid.f
  simp only [within_eq, isByte_eq, Option.bind_some, decide_eq_true_eq]
  repeat' split
  all_goals first | exact some_dec (by omega) | exact some_ff (by omega)
theorem implCheats_loop (xs : List S59) (hm : xs.length ≤ 9223372036854775807) : ∀ (d i : Nat), xs.length - i = d → i ≤ xs.length →
    Tot (fun k => impl_CheatsValid.l0 k xs (xs.length : Int) (i : Int)) (fun r => r = true ↔ ∀ x ∈ xs.drop i, CV x) := by
  intro d
  induction d with
  | zero =>
    intro i hd hi
    refine Tot.up ?_
    simp only [impl_CheatsValid.l0]
    refine Tot.neg (by omega) (Tot.ret ?_)
    rw [List.drop_of_length_le (by omega)]
    simp
  | succ d ih =>
    intro i hd hi
    have hlt : i < xs.length := by omega
    refine Tot.up ?_
    simp only [impl_CheatsValid.l0, cheat_at hlt, next_i hlt hm, cheatValid_eq, Option.bind_some, decide_eq_true_eq]
    refine Tot.pos (by omega) (Tot.pos (by omega) (Tot.pos (by omega) (Tot.ite (fun h1 => ?_) (fun h1 => ?_))))
    · refine (ih (i + 1) (by omega) (by omega)).mono fun r hr => ?_
      rw [hr, all_drop hlt]
      exact ⟨fun z => ⟨h1, z⟩, fun z => z.2⟩
    · refine Tot.ret ?_
      rw [all_drop hlt]
      exact ⟨fun z => (by cases z), fun z => absurd z.1 h1⟩
theorem implCheats_tot (xs : List S59) (hm : xs.length ≤ 9223372036854775807) : Tot (fun k => impl_CheatsValid.f k xs) (fun r => r = true ↔ (∀ x ∈ xs, CV x) ∧ xs.length ≤ 8) := by
  unfold impl_CheatsValid.f
  refine Tot.ite (fun h => Tot.ret ⟨fun z => (by cases z), fun z => by omega⟩) (fun h => ?_)
  exact (implCheats_loop xs hm xs.length 0 rfl (Nat.zero_le _)).mono fun r hr => by rw [hr]; exact ⟨fun z => ⟨z, by omega⟩, fun z => z.1⟩
theorem specCheats_loop (xs : List S59) (hm : xs.length ≤ 9223372036854775807) : ∀ (d i : Nat), xs.length - i = d → i ≤ xs.length →
    Tot (fun k => spec_CheatsValid.l0 k xs (i : Int)) (fun r => r = true ↔ (∀ x ∈ xs.drop i, CV x) ∧ xs.length ≤ 8) := by
  intro d
  induction d with
  | zero =>
    intro i hd hi
    refine Tot.up ?_
    simp only [spec_CheatsValid.l0]
    refine Tot.neg (by omega) (Tot.ret ?_)
    rw [List.drop_of_length_le (by omega)]
    simp
    omega
  | succ d ih =>
    intro i hd hi
    have hlt : i < xs.length := by omega
    refine Tot.up ?_
    simp only [spec_CheatsValid.l0, cheat_at hlt, next_i hlt hm, l1In_eq, l1Byte_eq, Option.bind_some, decide_eq_true_eq]
    refine Tot.pos (by omega) (Tot.pos (by omega) (Tot.ite (fun h1 => Tot.ite (fun h2 => Tot.ite (fun h3 => ?_) (fun h3 => ?_)) (fun h2 => ?_)) (fun h1 => ?_)))
    · refine (ih (i + 1) (by omega) (by omega)).mono fun r hr => ?_
      rw [hr, all_drop hlt]
      exact ⟨fun z => ⟨⟨⟨h1, h2, h3⟩, z.1⟩, z.2⟩, fun z => ⟨z.1.2, z.2⟩⟩
    · refine Tot.ret ?_
      rw [all_drop hlt]
      exact ⟨fun z => (by cases z), fun z => absurd z.1.1.2.2 h3⟩
    · refine Tot.ret ?_
      rw [all_drop hlt]
      exact ⟨fun z => (by cases z), fun z => absurd z.1.1.2.1 h2⟩
    · refine Tot.ret ?_
      rw [all_drop hlt]
      exact ⟨fun z => (by cases z), fun z => absurd z.1.1.1 h1⟩
theorem specCheats_tot (xs : List S59) (hm : xs.length ≤ 9223372036854775807) : Tot (fun k => spec_CheatsValid.f k xs) (fun r => r = true ↔ (∀ x ∈ xs, CV x) ∧ xs.length ≤ 8) := by
  unfold spec_CheatsValid.f
  exact specCheats_loop xs hm xs.length 0 rfl (Nat.zero_le _)
theorem rd_mem {xs : List Int} {i : Int} (h0 : 0 ≤ i) (h : i < (xs.length : Int)) : rd xs i ∈ xs := by
  unfold rd
  rw [List.getD_eq_getElem?_getD, List.getElem?_eq_getElem (show i.toNat < xs.length by omega)]
  exact List.getElem_mem _
/-- The byte of a valid memory at a place. -/
def pk (ram : List Int) (rom : List (List Int)) (bank a : Int) : Int := if a < 512 then rd ram (a % 256) else if a < 768 then rd (rom.getD 0 []) (a - 512) else rd (rom.getD bank.toNat []) (a - 768)
theorem getD_bank {rom : List (List Int)} (h : ∀ x ∈ rom, BankOk x) {i : Nat} (hi : i < rom.length) : BankOk (rom.getD i []) := by
  rw [List.getD_eq_getElem?_getD, List.getElem?_eq_getElem hi]
  exact h _ (List.getElem_mem hi)
theorem pk_byt {ram : List Int} {rom : List (List Int)} {bank a : Int} (h : MV ram rom bank) (h0 : 0 ≤ a) (h1 : a ≤ 1023) : 0 ≤ pk ram rom bank a ∧ pk ram rom bank a ≤ 255 := by
  obtain ⟨⟨hb, hl⟩, ⟨hr1, hr2⟩, k0, k1⟩ := h
  unfold pk
  split
  · have := hb _ (rd_mem (xs := ram) (i := a % 256) (by omega) (by omega))
    unfold Byt at this; omega
  · split
    · have hk := getD_bank hr2 (i := 0) (by omega)
      have := hk.2 _ (rd_mem (i := a - 512) (by omega) (by have := hk.1; omega))
      unfold Byt at this; omega
    · have hk := getD_bank hr2 (i := bank.toNat) (by omega)
      have := hk.2 _ (rd_mem (i := a - 768) (by omega) (by have := hk.1; omega))
      unfold Byt at this; omega
theorem implPeek {ram : List Int} {rom : List (List Int)} {bank a : Int} (h : MV ram rom bank) (h0 : 0 ≤ a) (h1 : a ≤ 1023) : impl_peek.f ram rom bank a = some (pk ram rom bank a) := by
  obtain ⟨⟨hb, hl⟩, ⟨hr1, hr2⟩, k0, k1⟩ := h
  unfold impl_peek.f pk
  by_cases c1 : a < 512
  · rw [if_pos ⟨h0, c1⟩, if_pos (by omega), if_pos c1]
  · by_cases c2 : a < 768
    · have hk := (getD_bank hr2 (i := 0) (by omega)).1
      rw [if_neg (by omega), if_pos ⟨by omega, c2⟩, if_pos ⟨by omega, by omega⟩, if_neg c1, if_pos c2]
    · have hk := (getD_bank hr2 (i := bank.toNat) (by omega)).1
      rw [if_neg (by omega), if_neg (by omega), if_pos ⟨by omega, by omega⟩, if_pos ⟨⟨k0, by omega⟩, by omega⟩, if_neg c1, if_neg c2]
/-- What ReadCheated asks of its arguments. -/
def Good (ram : List Int) (rom : List (List Int)) (bank : Int) (l : List S59) (a : Int) : Prop := MV ram rom bank ∧ ((∀ x ∈ l, CV x) ∧ l.length ≤ 8) ∧ 0 ≤ a ∧ a ≤ 1023
/-- What ReadCheated answers. -/
def RC (ram : List Int) (rom : List (List Int)) (bank : Int) (l : List S59) (a v : Int) : Prop := (Good ram rom bank l a → v = impl_ReadCheated.find a (pk ram rom bank a) l) ∧ (¬ Good ram rom bank l a → v = 0)
theorem RC_one {ram : List Int} {rom : List (List Int)} {bank : Int} {l : List S59} {a v w : Int} (h : RC ram rom bank l a v) (h' : RC ram rom bank l a w) : v = w := by
  by_cases g : Good ram rom bank l a
  · rw [h.1 g, h'.1 g]
  · rw [h.2 g, h'.2 g]
theorem implRC_tot (ram : List Int) (rom : List (List Int)) (bank : Int) (l : List S59) (a : Int) (hm : ram.length ≤ 1048576) (hl : l.length ≤ 1048576) : Tot (fun k => impl_ReadCheated.f k ram rom bank l a) (RC ram rom bank l a) := by
  unfold impl_ReadCheated.f
  refine Tot.bind (implMV_tot ram rom bank hm) fun q hq => Tot.ite (fun h1 => ?_) (fun h1 => Tot.ret ⟨fun g => absurd (hq.2 g.1) h1, fun _ => rfl⟩)
  refine Tot.bind (implCheats_tot l (by omega)) fun q2 hq2 => Tot.ite (fun h2 => ?_) (fun h2 => Tot.ret ⟨fun g => absurd (hq2.2 g.2.1) h2, fun _ => rfl⟩)
  refine Tot.ite (fun h3 => ?_) (fun h3 => Tot.ret ⟨fun g => absurd g.2.2 h3, fun _ => rfl⟩)
  rw [implPeek (hq.1 h1) h3.1 h3.2]
  exact Tot.pos (by omega) (Tot.ret ⟨fun _ => rfl, fun g => absurd ⟨hq.1 h1, hq2.1 h2, h3⟩ g⟩)
theorem specPeek {ram : List Int} {rom : List (List Int)} {bank a : Int} (h : MV ram rom bank) (h0 : 0 ≤ a) (h1 : a ≤ 1023) : spec_l2Read.f ram rom bank a = some (pk ram rom bank a) := by
  obtain ⟨⟨hb, hl⟩, ⟨hr1, hr2⟩, k0, k1⟩ := h
  unfold spec_l2Read.f pk
  rw [tmod_nn h0, w64 (x := a - 512) (by omega) (by omega), w64 (x := a - 768) (by omega) (by omega)]
  by_cases c1 : a < 512
  · rw [if_pos c1, if_pos (by omega), if_pos (by omega), if_pos c1]
  · by_cases c2 : a < 768
    · have hk : (rd_L1 rom 0).length = 256 := (getD_bank hr2 (i := 0) (by omega)).1
      rw [if_neg c1, if_pos c2, if_pos (by omega), if_pos (by omega), if_pos (by omega), if_neg c1, if_pos c2]
      rfl
    · have hk : (rd_L1 rom bank).length = 256 := (getD_bank hr2 (i := bank.toNat) (by omega)).1
      rw [if_neg c1, if_neg c2, if_pos k0, if_pos (by omega), if_pos (by omega), if_pos (by omega), if_neg c1, if_neg c2]
      rfl
theorem specRC_loop (l : List S59) (hl : l.length ≤ 1048576) (hv : ∀ x ∈ l, CV x) (a x : Int) : ∀ (d i : Nat), l.length - i = d → i ≤ l.length → Tot (fun k => spec_ReadCheated.l0 k l a x (i : Int)) (· = impl_ReadCheated.find a x (l.drop i)) := by
  intro d
  induction d with
  | zero =>
    intro i hd hi
    refine Tot.up ?_
    simp only [spec_ReadCheated.l0]
    refine Tot.neg (by omega) (Tot.ret ?_)
    rw [List.drop_of_length_le (by omega)]
    rfl
  | succ d ih =>
    intro i hd hi
    have hlt : i < l.length := by omega
    have hc := hv _ (List.getElem_mem hlt)
    unfold CV at hc
    refine Tot.up ?_
    simp only [spec_ReadCheated.l0, cheat_at hlt, next_i hlt (by omega)]
    rw [List.drop_eq_getElem_cons hlt, impl_ReadCheated.find]
    refine Tot.pos (by omega) (Tot.pos (by omega) (Tot.ite (fun h1 => Tot.ite (fun h2 => Tot.ret ?_) (fun h2 => Tot.ite (fun h3 => Tot.ret ?_) (fun h3 => ?_))) (fun h1 => ?_)))
    · rw [if_pos ⟨h1, by omega⟩]
    · rw [if_pos ⟨h1, Or.inr h3⟩]
    · rw [if_neg (fun z => by rcases z.2 with z | z; exact h2 (by omega); exact h3 z)]
      exact ih (i + 1) (by omega) (by omega)
    · rw [if_neg (fun z => h1 z.1)]
      exact ih (i + 1) (by omega) (by omega)
theorem specRC_tot (ram : List Int) (rom : List (List Int)) (bank : Int) (l : List S59) (a : Int) (hm : ram.length ≤ 1048576) (hr : rom.length ≤ 1048576) (hrr : ∀ x ∈ rom, x.length ≤ 1048576) (hl : l.length ≤ 1048576) : Tot (fun k => spec_ReadCheated.f k ram rom bank l a) (RC ram rom bank l a) := by
  have bad : ¬ Good ram rom bank l a → Tot (fun k => spec_ReadCheated.j0 k l a true ram rom bank) (RC ram rom bank l a) := fun g => by
    refine Tot.up ?_
    simp only [spec_ReadCheated.j0]
    exact Tot.pos trivial (Tot.ret ⟨fun z => absurd z g, fun _ => rfl⟩)
  unfold spec_ReadCheated.f
  refine Tot.bind (specMV_tot ram rom bank hm hr hrr) fun q hq => Tot.ite (fun h1 => ?_) (fun h1 => bad fun g => h1 (hq.2 g.1))
  refine Tot.bind (specCheats_tot l (by omega)) fun q2 hq2 => Tot.ite (fun h2 => ?_) (fun h2 => bad fun g => h2 (hq2.2 g.2.1))
  simp only [l1In_eq, Option.bind_some]
  by_cases h3 : 0 ≤ a ∧ a ≤ 1023
  · rw [decide_eq_true h3]
    refine Tot.up ?_
    simp only [spec_ReadCheated.j0, specPeek (hq.1 h1) h3.1 h3.2, Option.bind_some]
    refine Tot.neg (by decide) ((specRC_loop l hl (hq2.1 h2).1 a _ l.length 0 rfl (Nat.zero_le _)).mono fun v hv => ⟨fun _ => hv, fun g => absurd ⟨hq.1 h1, hq2.1 h2, h3⟩ g⟩)
  · rw [decide_eq_false h3]
    exact bad fun g => h3 g.2.2
theorem toInts_loop (xs : List Int) (hm : xs.length ≤ 9223372036854775807) : ∀ (d i : Nat) (ys : List Int), xs.length - i = d → i ≤ xs.length → ys.length = xs.length →
    Tot (fun k => laws_toIntS.l0 k xs ys (i : Int)) (· = ys.take i ++ xs.drop i) := by
  intro d
  induction d with
  | zero =>
    intro i ys hd hi hy
    refine Tot.up ?_
    simp only [laws_toIntS.l0]
    refine Tot.neg (by omega) (Tot.ret ?_)
    rw [List.drop_of_length_le (by omega), List.take_of_length_le (by omega), List.append_nil]
  | succ d ih =>
    intro i ys hd hi hy
    have hlt : i < xs.length := by omega
    refine Tot.up ?_
    simp only [laws_toIntS.l0, rd_at hlt, inext hlt hm, Int.toNat_natCast]
    refine Tot.pos (by omega) (Tot.pos (by omega) (Tot.pos (by omega) ?_))
    refine (ih (i + 1) _ (by omega) (by omega) (by rw [List.length_set]; exact hy)).mono fun r hr => ?_
    rw [hr, itake_set (by omega), List.drop_eq_getElem_cons hlt, List.append_assoc]
    rfl
theorem toInts_tot (xs : List Int) (hm : xs.length ≤ 35184372088832) : Tot (fun k => laws_toIntS.f k xs) (· = xs) := by
  unfold laws_toIntS.f
  simp only [Int.toNat_natCast]
  refine Tot.pos (by omega) (Tot.pos hm ?_)
  refine (toInts_loop xs (by omega) xs.length 0 _ rfl (Nat.zero_le _) (by rw [List.length_replicate])).mono fun r hr => ?_
  rw [hr]; simp
theorem eqInts_loop (xs ys : List Int) (hm : xs.length ≤ 9223372036854775807) (hl : xs.length = ys.length) : ∀ (d i : Nat), xs.length - i = d → i ≤ xs.length →
    Tot (fun k => laws_eqIntS.l0 k xs ys (i : Int)) (fun r => r = true ↔ xs.drop i = ys.drop i) := by
  intro d
  induction d with
  | zero =>
    intro i hd hi
    refine Tot.up ?_
    simp only [laws_eqIntS.l0]
    refine Tot.neg (by omega) (Tot.ret ?_)
    rw [List.drop_of_length_le (by omega), List.drop_of_length_le (by omega)]
    simp
  | succ d ih =>
    intro i hd hi
    have hlt : i < xs.length := by omega
    have hlt' : i < ys.length := by omega
    refine Tot.up ?_
    simp only [laws_eqIntS.l0, rd_at hlt, rd_at hlt', inext hlt hm]
    refine Tot.pos (by omega) (Tot.pos (by omega) (Tot.pos (by omega) ?_))
    rw [List.drop_eq_getElem_cons hlt, List.drop_eq_getElem_cons hlt']
    refine Tot.ite (fun h => ?_) (fun h => Tot.ret ⟨fun z => (by cases z), fun z => absurd (List.cons.inj z).1 h⟩)
    refine (ih (i + 1) (by omega) (by omega)).mono fun r hr => ?_
    rw [hr, h]
    exact ⟨fun z => by rw [z], fun z => (List.cons.inj z).2⟩
theorem eqInts_tot (xs ys : List Int) (hm : xs.length ≤ 9223372036854775807) : Tot (fun k => laws_eqIntS.f k xs ys) (fun r => r = true ↔ xs = ys) := by
  unfold laws_eqIntS.f
  refine Tot.ite (fun h => ?_) (fun h => Tot.ret ⟨fun z => (by cases z), fun z => absurd (by rw [z]) h⟩)
  exact eqInts_loop xs ys hm (by omega) xs.length 0 rfl (Nat.zero_le _)
theorem toRows_loop (xs : List (List Int)) (hm : xs.length ≤ 9223372036854775807) (hr : ∀ r ∈ xs, r.length ≤ 35184372088832) : ∀ (d i : Nat) (ys : List (List Int)), xs.length - i = d → i ≤ xs.length → ys.length = xs.length →
    Tot (fun k => laws_toIntSS.l0 k xs ys (i : Int)) (· = ys.take i ++ xs.drop i) := by
  intro d
  induction d with
  | zero =>
    intro i ys hd hi hy
    refine Tot.up ?_
    simp only [laws_toIntSS.l0]
    refine Tot.neg (by omega) (Tot.ret ?_)
    rw [List.drop_of_length_le (by omega), List.take_of_length_le (by omega), List.append_nil]
  | succ d ih =>
    intro i ys hd hi hy
    have hlt : i < xs.length := by omega
    refine Tot.up ?_
    simp only [laws_toIntSS.l0, rdR_at hlt, inext hlt hm, Int.toNat_natCast]
    refine Tot.pos (by omega) (Tot.pos (by omega) (Tot.bind (toInts_tot _ (hr _ (List.getElem_mem hlt))) ?_))
    rintro r rfl
    refine Tot.pos (by omega) ?_
    refine (ih (i + 1) _ (by omega) (by omega) (by rw [List.length_set]; exact hy)).mono fun r hr => ?_
    rw [hr, itake_set (by omega), List.drop_eq_getElem_cons hlt, List.append_assoc]
    rfl
theorem toRows_tot (xs : List (List Int)) (hm : xs.length ≤ 1048576) (hr : ∀ r ∈ xs, r.length ≤ 35184372088832) : Tot (fun k => laws_toIntSS.f k xs) (· = xs) := by
  unfold laws_toIntSS.f
  simp only [Int.toNat_natCast]
  refine Tot.pos (by omega) (Tot.pos (by omega) ?_)
  refine (toRows_loop xs (by omega) hr xs.length 0 _ rfl (Nat.zero_le _) (by rw [List.length_replicate])).mono fun r hr => ?_
  rw [hr]; simp
theorem eqRows_loop (xs ys : List (List Int)) (hm : xs.length ≤ 9223372036854775807) (hr : ∀ r ∈ xs, r.length ≤ 9223372036854775807) (hl : xs.length = ys.length) : ∀ (d i : Nat), xs.length - i = d → i ≤ xs.length →
    Tot (fun k => laws_eqIntSS.l0 k xs ys (i : Int)) (fun r => r = true ↔ xs.drop i = ys.drop i) := by
  intro d
  induction d with
  | zero =>
    intro i hd hi
    refine Tot.up ?_
    simp only [laws_eqIntSS.l0]
    refine Tot.neg (by omega) (Tot.ret ?_)
    rw [List.drop_of_length_le (by omega), List.drop_of_length_le (by omega)]
    simp
  | succ d ih =>
    intro i hd hi
    have hlt : i < xs.length := by omega
    have hlt' : i < ys.length := by omega
    refine Tot.up ?_
    simp only [laws_eqIntSS.l0, rdR_at hlt, rdR_at hlt', inext hlt hm]
    refine Tot.pos (by omega) (Tot.pos (by omega) (Tot.pos (by omega) ?_))
    rw [List.drop_eq_getElem_cons hlt, List.drop_eq_getElem_cons hlt']
    refine Tot.bind (eqInts_tot _ _ (hr _ (List.getElem_mem hlt))) fun r hr => ?_
    refine Tot.ite (fun h => ?_) (fun h => Tot.ret ⟨fun z => (by cases z), fun z => absurd (hr.2 (List.cons.inj z).1) h⟩)
    refine (ih (i + 1) (by omega) (by omega)).mono fun r' hr' => ?_
    rw [hr', hr.1 h]
    exact ⟨fun z => by rw [z], fun z => (List.cons.inj z).2⟩
theorem eqRows_tot (xs ys : List (List Int)) (hm : xs.length ≤ 9223372036854775807) (hr : ∀ r ∈ xs, r.length ≤ 9223372036854775807) : Tot (fun k => laws_eqIntSS.f k xs ys) (fun r => r = true ↔ xs = ys) := by
  unfold laws_eqIntSS.f
  refine Tot.ite (fun h => ?_) (fun h => Tot.ret ⟨fun z => (by cases z), fun z => absurd (by rw [z]) h⟩)
  exact eqRows_loop xs ys hm hr (by omega) xs.length 0 rfl (Nat.zero_le _)
theorem szRows_loop (xs : List (List Int)) (hm : xs.length ≤ 1048576) (hr : ∀ r ∈ xs, r.length ≤ 9223372036854775807) : ∀ (d i : Nat) (left : Int), xs.length - i = d → i ≤ xs.length → 0 ≤ left → left ≤ 1048576 →
    Tot (fun k => laws_szIntSS.l0 k xs left (i : Int)) (fun r => (0 ≤ r → ∀ x ∈ xs.drop i, x.length ≤ 1048576) ∧ r ≤ 1048576) := by
  intro d
  induction d with
  | zero =>
    intro i left hd hi h0 h1
    refine Tot.up ?_
    simp only [laws_szIntSS.l0]
    refine Tot.neg (by omega) (Tot.ret ⟨fun _ => ?_, h1⟩)
    rw [List.drop_of_length_le (by omega)]
    simp
  | succ d ih =>
    intro i left hd hi h0 h1
    have hlt : i < xs.length := by omega
    have hb := hr _ (List.getElem_mem hlt)
    refine Tot.up ?_
    simp only [laws_szIntSS.l0, rdR_at hlt, inext hlt (by omega), laws_szIntS.f, w64 (x := left - (xs[i].length : Int)) (by omega) (by omega)]
    refine Tot.pos (by omega) (Tot.pos (by omega) ?_)
    by_cases h : left - (xs[i].length : Int) < 0
    · simp only [if_pos h, Option.bind_some]
      exact Tot.pos (by omega) (Tot.ret ⟨fun z => absurd z (by omega), by omega⟩)
    · simp only [if_neg h, Option.bind_some]
      refine (ih (i + 1) _ (by omega) (by omega) (by omega) (by omega)).mono fun r hr => ?_
      refine ⟨fun z => ?_, hr.2⟩
      rw [iall_drop hlt]
      exact ⟨by omega, hr.1 z⟩
theorem szRows_tot (xs : List (List Int)) (hm : xs.length ≤ 9223372036854775807) (hr : ∀ r ∈ xs, r.length ≤ 9223372036854775807) (left : Int) (h0 : 0 ≤ left) (h1 : left ≤ 1048576) : Tot (fun k => laws_szIntSS.f k xs left) (fun r => (0 ≤ r → xs.length ≤ 1048576 ∧ ∀ x ∈ xs, x.length ≤ 1048576) ∧ r ≤ 1048576) := by
  unfold laws_szIntSS.f
  simp only [w64 (x := left - (xs.length : Int)) (by omega) (by omega)]
  refine Tot.ite (fun h => Tot.ret ⟨fun z => absurd z (by omega), by omega⟩) (fun h => ?_)
  exact (szRows_loop xs (by omega) hr xs.length 0 _ rfl (Nat.zero_le _) (by omega) (by omega)).mono fun r hr => ⟨fun z => ⟨by omega, hr.1 z⟩, hr.2⟩
theorem lcheat_at {xs : List S90} {i : Nat} (h : i < xs.length) : rd_T90 xs (i : Int) = xs[i] := by
  unfold rd_T90
  rw [List.getD_eq_getElem?_getD, Int.toNat_natCast, List.getElem?_eq_getElem h]; rfl
def conv (x : S90) : S59 := ⟨x.f0, x.f1, x.f2⟩
theorem take_set {α : Type} {ys : List α} {i : Nat} (h : i < ys.length) (c : α) : (ys.set i c).take (i + 1) = ys.take i ++ [c] := by
  rw [List.take_succ_eq_append_getElem (by rw [List.length_set]; exact h), List.getElem_set_self, List.take_set, List.set_eq_of_length_le (by rw [List.length_take]; omega)]
theorem toCheats_loop (xs : List S90) (hm : xs.length ≤ 9223372036854775807) : ∀ (d i : Nat) (ys : List S59), xs.length - i = d → i ≤ xs.length → ys.length = xs.length →
    Tot (fun k => laws_toCheatS.l0 k xs ys (i : Int)) (· = ys.take i ++ (xs.drop i).map conv) := by
  intro d
  induction d with
  | zero =>
    intro i ys hd hi hy
    refine Tot.up ?_
    simp only [laws_toCheatS.l0]
    refine Tot.neg (by omega) (Tot.ret ?_)
    rw [List.drop_of_length_le (by omega), List.take_of_length_le (by omega)]
    simp
  | succ d ih =>
    intro i ys hd hi hy
    have hlt : i < xs.length := by omega
    refine Tot.up ?_
    simp only [laws_toCheatS.l0, lcheat_at hlt, next_i hlt hm, laws_toCheat.f, Option.bind_some, Int.toNat_natCast]
    refine Tot.pos (by omega) (Tot.pos (by omega) (Tot.pos (by omega) ?_))
    refine (ih (i + 1) _ (by omega) (by omega) (by rw [List.length_set]; exact hy)).mono fun r hr => ?_
    rw [hr, take_set (by omega), List.drop_eq_getElem_cons hlt, List.map_cons, List.append_assoc]
    rfl
theorem toCheats_tot (xs : List S90) (hm : xs.length ≤ 1048576) : Tot (fun k => laws_toCheatS.f k xs) (· = xs.map conv) := by
  unfold laws_toCheatS.f
  simp only [Int.toNat_natCast]
  refine Tot.pos (by omega) (Tot.pos (by omega) ?_)
  refine (toCheats_loop xs (by omega) xs.length 0 _ rfl (Nat.zero_le _) (by rw [List.length_replicate])).mono fun r hr => ?_
  rw [hr]; simp
theorem eqCheats_loop (xs ys : List S59) (hm : xs.length ≤ 9223372036854775807) (hl : xs.length = ys.length) : ∀ (d i : Nat), xs.length - i = d → i ≤ xs.length →
    Tot (fun k => laws_eqCheatS.l0 k xs ys (i : Int)) (fun r => r = true ↔ xs.drop i = ys.drop i) := by
  intro d
  induction d with
  | zero =>
    intro i hd hi
    refine Tot.up ?_
    simp only [laws_eqCheatS.l0]
    refine Tot.neg (by omega) (Tot.ret ?_)
    rw [List.drop_of_length_le (by omega), List.drop_of_length_le (by omega)]
    simp
  | succ d ih =>
    intro i hd hi
    have hlt : i < xs.length := by omega
    have hlt' : i < ys.length := by omega
    refine Tot.up ?_
    simp only [laws_eqCheatS.l0, cheat_at hlt, cheat_at hlt', next_i hlt hm, laws_eqCheat.f]
    refine Tot.pos (by omega) (Tot.pos (by omega) (Tot.pos (by omega) ?_))
    rw [List.drop_eq_getElem_cons hlt, List.drop_eq_getElem_cons hlt']
    by_cases h0 : xs[i].f0 = ys[i].f0
    · by_cases h1 : xs[i].f1 = ys[i].f1
      · by_cases h2 : xs[i].f2 = ys[i].f2
        · simp only [if_pos h0, if_pos h1, if_pos h2, Option.bind_some, if_true]
          refine (ih (i + 1) (by omega) (by omega)).mono fun r hr => ?_
          rw [hr, cheat_ext h0 h1 h2]
          exact ⟨fun z => by rw [z], fun z => (List.cons.inj z).2⟩
        · simp only [if_pos h0, if_pos h1, if_neg h2, Option.bind_some, Bool.false_eq_true, if_false]
          refine Tot.ret ⟨fun z => (by cases z), fun z => absurd (by rw [(List.cons.inj z).1]) h2⟩
      · simp only [if_pos h0, if_neg h1, Option.bind_some, Bool.false_eq_true, if_false]
        refine Tot.ret ⟨fun z => (by cases z), fun z => absurd (by rw [(List.cons.inj z).1]) h1⟩
    · simp only [if_neg h0, Option.bind_some, Bool.false_eq_true, if_false]
      refine Tot.ret ⟨fun z => (by cases z), fun z => absurd (by rw [(List.cons.inj z).1]) h0⟩
theorem eqCheats_tot (xs ys : List S59) (hm : xs.length ≤ 9223372036854775807) : Tot (fun k => laws_eqCheatS.f k xs ys) (fun r => r = true ↔ xs = ys) := by
  unfold laws_eqCheatS.f
  refine Tot.ite (fun h => ?_) (fun h => Tot.ret ⟨fun z => (by cases z), fun z => absurd (by rw [z]) h⟩)
  exact eqCheats_loop xs ys hm (by omega) xs.length 0 rfl (Nat.zero_le _)
theorem szCheats_eq (xs : List S90) (hm : xs.length ≤ 9223372036854775807) : laws_szCheatS.f xs 1048576 = some (if xs.length ≤ 1048576 then 1048576 - (xs.length : Int) else -1) := by
  unfold laws_szCheatS.f
  rw [w64 (by omega) (by omega)]
  by_cases h : xs.length ≤ 1048576
  · rw [if_neg (by omega), if_pos h]
  · rw [if_pos (by omega), if_neg h]
theorem szCheatsL (xs : List S90) (hm : xs.length ≤ 9223372036854775807) (left : Int) (h0 : 0 ≤ left) (h1 : left ≤ 1048576) : laws_szCheatS.f xs left = some (if (xs.length : Int) ≤ left then left - (xs.length : Int) else -1) := by
  unfold laws_szCheatS.f
  rw [w64 (by omega) (by omega)]
  by_cases h : (xs.length : Int) ≤ left
  · rw [if_neg (by omega), if_pos h]
  · rw [if_pos (by omega), if_neg h]
theorem szInts1 (xs : List Int) (hm : xs.length ≤ 9223372036854775807) : laws_szIntS.f xs 1048576 = some (if xs.length ≤ 1048576 then 1048576 - (xs.length : Int) else -1) := by
  unfold laws_szIntS.f
  rw [w64 (by omega) (by omega)]
  by_cases h : xs.length ≤ 1048576
  · rw [if_neg (by omega), if_pos h]
  · rw [if_pos (by omega), if_neg h]
theorem szMem_tot (ram : List Int) (rom : List (List Int)) (bank : Int) (hm : ram.length ≤ 9223372036854775807) (hr : rom.length ≤ 9223372036854775807) (hrr : ∀ r ∈ rom, r.length ≤ 9223372036854775807) : Tot (fun k => laws_szMemory.f k ram rom bank 1048576) (fun r => (0 ≤ r → ram.length ≤ 1048576 ∧ rom.length ≤ 1048576 ∧ ∀ x ∈ rom, x.length ≤ 1048576) ∧ r ≤ 1048576) := by
  unfold laws_szMemory.f
  simp only [szInts1 ram hm, Option.bind_some]
  by_cases h : ram.length ≤ 1048576
  · simp only [if_pos h]
    refine Tot.neg (by omega) (Tot.bind (szRows_tot rom hr hrr _ (by omega) (by omega)) fun r hr => ?_)
    exact Tot.ite (fun z => Tot.ret ⟨fun y => absurd y (by omega), by omega⟩) (fun z => Tot.ret ⟨fun y => ⟨h, hr.1 y⟩, hr.2⟩)
  · simp only [if_neg h]
    exact Tot.pos (by omega) (Tot.ret ⟨fun y => absurd y (by omega), by omega⟩)
theorem toMem_tot (ram : List Int) (rom : List (List Int)) (bank : Int) (hm : ram.length ≤ 1048576) (hr : rom.length ≤ 1048576) (hrr : ∀ r ∈ rom, r.length ≤ 1048576) : Tot (fun k => laws_toMemory.f k ram rom bank) (· = (ram, rom, bank)) := by
  unfold laws_toMemory.f
  refine Tot.bind (toInts_tot ram (by omega)) ?_
  rintro _ rfl
  refine Tot.bind (toRows_tot rom hr (fun r h => by have := hrr r h; omega)) ?_
  rintro _ rfl
  exact Tot.ret rfl
theorem FnExactReadCheated (l00 : List Int) (l01 : List (List Int)) (a02 : Int) (l1 : List S90) (a2 : Int) (h00 : l00.length ≤ 9223372036854775807) (_ : ∀ y ∈ l00, (Lit.int .i64 y).wf = true) (h01 : l01.length ≤ 9223372036854775807) (h01q : ∀ r ∈ l01, r.length ≤ 9223372036854775807 ∧ ∀ u ∈ r, (Lit.int .i64 u).wf = true) (_ : (Lit.int .i64 a02).wf = true) (h1 : l1.length ≤ 9223372036854775807) (_ : ∀ y ∈ l1, ((Lit.int .i64 y.f0).wf = true) ∧ ((Lit.int .i64 y.f1).wf = true) ∧ ((Lit.int .i64 y.f2).wf = true)) (_ : (Lit.int .i64 a2).wf = true) : ∃ k, laws_FnExactReadCheated.f k l00 l01 a02 l1 a2 = some true := by
  have h01r : ∀ r ∈ l01, r.length ≤ 9223372036854775807 := fun r h => (h01q r h).1
  refine Tot.ex ?_
  unfold laws_FnExactReadCheated.f
  refine Tot.bind (szMem_tot l00 l01 a02 h00 h01 h01r) fun s hs => ?_
  refine Tot.ite (fun _ => Tot.ret rfl) (fun hn => ?_)
  obtain ⟨z0, z1, z2⟩ := hs.1 (by omega)
  simp only [szCheatsL l1 h1 s (by omega) hs.2, Option.bind_some]
  refine Tot.ite (fun _ => Tot.ret rfl) (fun hn2 => ?_)
  have hl : l1.length ≤ 1048576 := by
    by_cases h : (l1.length : Int) ≤ s
    · have := hs.2; omega
    · rw [if_neg h] at hn2; omega
  have hx : (l1.map conv).length ≤ 1048576 := by rw [List.length_map]; exact hl
  have mm := toMem_tot l00 l01 a02 z0 z1 z2
  refine Tot.bind mm ?_
  rintro _ rfl
  refine Tot.bind (toCheats_tot l1 hl) ?_
  rintro _ rfl
  refine Tot.bind (specRC_tot l00 l01 a02 _ a2 z0 z1 z2 hx) fun w hw => ?_
  refine Tot.bind mm ?_
  rintro _ rfl
  refine Tot.bind (toCheats_tot l1 hl) ?_
  rintro _ rfl
  refine Tot.bind (implRC_tot l00 l01 a02 _ a2 z0 hx) fun g hg => Tot.pos (RC_one hg hw) ?_
  refine Tot.bind mm ?_
  rintro _ rfl
  refine Tot.bind (Q := (· = true)) ?_ ?_
  · unfold laws_eqMemory.f
    refine Tot.bind (eqInts_tot l00 l00 h00) fun r hr => Tot.pos (hr.2 rfl) ?_
    refine Tot.bind (eqRows_tot l01 l01 h01 h01r) fun r hr => Tot.pos (hr.2 rfl) (Tot.pos rfl (Tot.ret rfl))
  rintro _ rfl
  refine Tot.pos rfl (Tot.bind (toCheats_tot l1 hl) ?_)
  rintro _ rfl
  exact Tot.bind (eqCheats_tot _ _ (by omega)) fun r hr => Tot.pos (hr.2 rfl) (Tot.ret rfl)
end Go.Proofs.Ytekbnloceifdmaa.Pure
