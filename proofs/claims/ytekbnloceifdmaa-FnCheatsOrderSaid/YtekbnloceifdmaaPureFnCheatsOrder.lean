/- If no two cheats are for the same address, their order does not matter. No condition. -/
import Derived.Test.YtekbnloceifdmaaPFnCheatsOrderx10
import Derived.DataShut
namespace Go.Proofs.Ytekbnloceifdmaa.Pure
open Go.RowKit Go.Proofs.Ytekbnloceifdmaa.PFnCheatsOrder Go.Proofs.YtekbnloceifdmaaW.PrintWords Go.Proofs.YtekbnloceifdmaaW.PrintLast
set_option linter.unusedSimpArgs false
set_option linter.unusedVariables false
theorem i64_of {n : Int} (h : (Lit.int .i64 n).wf = true) : -9223372036854775808 ≤ n ∧ n ≤ 9223372036854775807 := (Lit.wf_int_iff .i64 n).1 h
theorem u8_of {n : Int} (h : (Lit.int .u8 n).wf = true) : 0 ≤ n ∧ n ≤ 255 := (Lit.wf_int_iff .u8 n).1 h
theorem w64 {x : Int} (h0 : -9223372036854775808 ≤ x) (h1 : x ≤ 9223372036854775807) : wrap64 x = x := by unfold wrap64; omega
theorem some_dec {p q : Prop} [Decidable p] [Decidable q] (h : p ↔ q) : some (decide p) = some (decide q) := by simp only [h]
theorem some_ff {p : Prop} [Decidable p] (h : ¬ p) : some false = some (decide p) := by rw [decide_eq_false h]
theorem some_tt {p : Prop} [Decidable p] (h : p) : some true = some (decide p) := by rw [decide_eq_true h]
theorem tmod_nn {a b : Int} (h : 0 ≤ a) : Int.tmod a b = a % b := Int.tmod_eq_emod_of_nonneg h
theorem tdiv_nn {a b : Int} (h : 0 ≤ a) : Int.tdiv a b = a / b := Int.tdiv_eq_ediv_of_nonneg h
/-- With enough rounds it answers, and Q holds of the answer. -/
def Tot {α : Type} (g : Nat → Option α) (Q : α → Prop) : Prop := ∃ r, Q r ∧ ∃ K, ∀ k, K ≤ k → g k = some r
section
variable {α β : Type} {g h : Nat → Option α} {f : Nat → α → Option β} {Q : α → Prop} {R : β → Prop} {c : Prop} [Decidable c]
theorem Tot.ret {r : α} (h : Q r) : Tot (fun _ => some r) Q := ⟨r, h, 0, fun _ _ => rfl⟩
theorem Tot.of {r : α} (e : ∀ k, 0 < k → g k = some r) (h : Q r) : Tot g Q := ⟨r, h, 1, fun k hk => e k hk⟩
theorem Tot.bind (hg : Tot g Q) (hf : ∀ a, Q a → Tot (fun k => f k a) R) : Tot (fun k => (g k).bind (f k)) R := by
  obtain ⟨a, ha, K, hK⟩ := hg
  obtain ⟨b, hb, L, hL⟩ := hf a ha
  refine ⟨b, hb, K + L, fun k hk => ?_⟩
  show (g k).bind (f k) = some b
  rw [hK k (by omega)]
  exact hL k (by omega)
theorem Tot.ite (hg : c → Tot g Q) (hh : ¬ c → Tot h Q) : Tot (fun k => if c then g k else h k) Q := by
  by_cases hc : c
  · simp only [if_pos hc]; exact hg hc
  · simp only [if_neg hc]; exact hh hc
theorem Tot.pos (hc : c) (hg : Tot g Q) : Tot (fun k => if c then g k else h k) Q := by simp only [if_pos hc]; exact hg
theorem Tot.neg (hc : ¬ c) (hh : Tot h Q) : Tot (fun k => if c then g k else h k) Q := by simp only [if_neg hc]; exact hh
theorem Tot.up (h : Tot (fun k => g (k + 1)) Q) : Tot g Q := by
  obtain ⟨r, hr, K, hK⟩ := h
  refine ⟨r, hr, K + 1, fun k hk => ?_⟩
  obtain ⟨m, rfl⟩ : ∃ m, k = m + 1 := ⟨k - 1, by omega⟩
  exact hK m (by omega)
theorem Tot.mono {Q' : α → Prop} (h : Tot g Q) (hq : ∀ a, Q a → Q' a) : Tot g Q' := by
  obtain ⟨r, hr, K⟩ := h
  exact ⟨r, hq r hr, K⟩
theorem Tot.ex {g : Nat → Option Bool} (h : Tot g (· = true)) : ∃ k, g k = some true := by
  obtain ⟨r, rfl, K, hK⟩ := h
  exact ⟨K, hK K (Nat.le_refl _)⟩
/-- Two runs of the same answer alike. -/
theorem Tot.same (h : Tot g Q) : ∃ r, Q r ∧ Tot g (· = r) := by
  obtain ⟨r, hr, K⟩ := h
  exact ⟨r, hr, r, rfl, K⟩
end
theorem rd_at {xs : List Int} {i : Nat} (h : i < xs.length) : rd xs (i : Int) = xs[i] := by
  unfold rd
  rw [List.getD_eq_getElem?_getD, Int.toNat_natCast, List.getElem?_eq_getElem h]; rfl
theorem inext {i n : Nat} (h : i < n) (hn : n ≤ 9223372036854775807) : wrap64 ((i : Int) + 1) = ((i + 1 : Nat) : Int) := by
  rw [w64] <;> omega
theorem iall_drop {α : Type} {P : α → Prop} {xs : List α} {i : Nat} (h : i < xs.length) : (∀ x ∈ xs.drop i, P x) ↔ P xs[i] ∧ ∀ x ∈ xs.drop (i + 1), P x := by
  rw [List.drop_eq_getElem_cons h, List.forall_mem_cons]
theorem itake_set {α : Type} {ys : List α} {i : Nat} (h : i < ys.length) (c : α) : (ys.set i c).take (i + 1) = ys.take i ++ [c] := by
  rw [List.take_succ_eq_append_getElem (by rw [List.length_set]; exact h), List.getElem_set_self, List.take_set, List.set_eq_of_length_le (by rw [List.length_take]; omega)]
theorem l1In_eq (a b c : Int) : spec_l1In.f a b c = some (decide (b ≤ a ∧ a ≤ c)) := by
  unfold spec_l1In.f
  split
  · exact some_dec (by omega)
  · exact some_ff (by omega)
theorem l1Byte_eq (a : Int) : spec_l1Byte.f a = some (decide (0 ≤ a ∧ a ≤ 255)) := by
  unfold spec_l1Byte.f
  rw [l1In_eq]; rfl
theorem within_eq (a b c : Int) : impl_within.f a b c = some (decide (b ≤ a ∧ a ≤ c)) := by
  unfold impl_within.f
  split
  · exact some_dec (by omega)
  · exact some_ff (by omega)
theorem isByte_eq (a : Int) : impl_isByte.f a = some (decide (0 ≤ a ∧ a ≤ 255)) := by
  unfold impl_isByte.f
  rw [within_eq]; rfl
def Byt (x : Int) : Prop := 0 ≤ x ∧ x ≤ 255
theorem l2Bytes_loop (xs : List Int) (n : Int) (hm : xs.length ≤ 9223372036854775807) : ∀ (d i : Nat), xs.length - i = d → i ≤ xs.length →
    Tot (fun k => spec_l2Bytes.l0 k xs n (i : Int)) (fun r => r = true ↔ (∀ x ∈ xs.drop i, Byt x) ∧ (xs.length : Int) = n) := by
  intro d
  induction d with
  | zero =>
    intro i hd hi
    refine Tot.up ?_
    simp only [spec_l2Bytes.l0]
    refine Tot.neg (by omega) (Tot.ret ?_)
    rw [List.drop_of_length_le (by omega)]
    simp
  | succ d ih =>
    intro i hd hi
    have hlt : i < xs.length := by omega
    refine Tot.up ?_
    simp only [spec_l2Bytes.l0, rd_at hlt, inext hlt hm, l1Byte_eq, Option.bind_some, decide_eq_true_eq]
    refine Tot.pos (by omega) (Tot.pos (by omega) (Tot.ite (fun h => ?_) (fun h => Tot.ret ?_)))
    · refine (ih (i + 1) (by omega) (by omega)).mono fun r hr => ?_
      rw [hr, iall_drop hlt]
      exact ⟨fun z => ⟨⟨h, z.1⟩, z.2⟩, fun z => ⟨z.1.2, z.2⟩⟩
    · rw [iall_drop hlt]
      exact ⟨fun z => (by cases z), fun z => absurd z.1.1 h⟩
theorem l2Bytes_tot (xs : List Int) (n : Int) (hm : xs.length ≤ 9223372036854775807) : Tot (fun k => spec_l2Bytes.f k xs n) (fun r => r = true ↔ (∀ x ∈ xs, Byt x) ∧ (xs.length : Int) = n) := by
  unfold spec_l2Bytes.f
  exact l2Bytes_loop xs n hm xs.length 0 rfl (Nat.zero_le _)
theorem allBytes_loop (xs : List Int) (hm : xs.length ≤ 9223372036854775807) : ∀ (d i : Nat), xs.length - i = d → i ≤ xs.length →
    Tot (fun k => impl_allBytes.l0 k xs (xs.length : Int) (i : Int)) (fun r => r = true ↔ ∀ x ∈ xs.drop i, Byt x) := by
  intro d
  induction d with
  | zero =>
    intro i hd hi
    refine Tot.up ?_
    simp only [impl_allBytes.l0]
    refine Tot.neg (by omega) (Tot.ret ?_)
    rw [List.drop_of_length_le (by omega)]
    simp
  | succ d ih =>
    intro i hd hi
    have hlt : i < xs.length := by omega
    refine Tot.up ?_
    simp only [impl_allBytes.l0, rd_at hlt, inext hlt hm, isByte_eq, Option.bind_some, decide_eq_true_eq]
    refine Tot.pos (by omega) (Tot.pos (by omega) (Tot.pos (by omega) (Tot.ite (fun h => ?_) (fun h => Tot.ret ?_))))
    · refine (ih (i + 1) (by omega) (by omega)).mono fun r hr => ?_
      rw [hr, iall_drop hlt]
      exact ⟨fun z => ⟨h, z⟩, fun z => z.2⟩
    · rw [iall_drop hlt]
      exact ⟨fun z => (by cases z), fun z => absurd z.1 h⟩
theorem allBytes_tot (xs : List Int) (hm : xs.length ≤ 9223372036854775807) : Tot (fun k => impl_allBytes.f k xs) (fun r => r = true ↔ ∀ x ∈ xs, Byt x) := by
  unfold impl_allBytes.f
  exact allBytes_loop xs hm xs.length 0 rfl (Nat.zero_le _)
/-! ### Banks -/
theorem rdR_at {xs : List (List Int)} {i : Nat} (h : i < xs.length) : rd_L1 xs (i : Int) = xs[i] := by
  unfold rd_L1
  rw [List.getD_eq_getElem?_getD, Int.toNat_natCast, List.getElem?_eq_getElem h]; rfl
def BankOk (x : List Int) : Prop := x.length = 256 ∧ ∀ b ∈ x, Byt b
def ValidRom (r : List (List Int)) : Prop := (1 ≤ r.length ∧ r.length ≤ 4) ∧ ∀ x ∈ r, BankOk x
theorem sum_bd : ∀ (l : List Int), (∀ x ∈ l, Byt x) → 0 ≤ l.sum ∧ l.sum ≤ 255 * l.length
  | [], _ => by simp
  | x :: l, h => by
    have h1 := h x (List.mem_cons_self ..)
    have h2 := sum_bd l (fun y hy => h y (List.mem_cons_of_mem _ hy))
    unfold Byt at h1
    rw [List.sum_cons, List.length_cons]
    omega
theorem sum_drop {l : List Int} {i : Nat} (h : i < l.length) : (l.drop i).sum = l[i] + (l.drop (i + 1)).sum := by
  rw [List.drop_eq_getElem_cons h, List.sum_cons]
theorem flat_drop {r : List (List Int)} {i : Nat} (h : i < r.length) : (r.drop i).flatten = r[i] ++ (r.drop (i + 1)).flatten := by
  rw [List.drop_eq_getElem_cons h, List.flatten_cons]
theorem flat_length : ∀ {r : List (List Int)}, (∀ x ∈ r, x.length = 256) → r.flatten.length = 256 * r.length
  | [], _ => rfl
  | x :: r, h => by
    rw [List.flatten_cons, List.length_append, h x (List.mem_cons_self ..), flat_length (fun y hy => h y (List.mem_cons_of_mem _ hy)), List.length_cons]
    omega
theorem flat_byt {r : List (List Int)} (h : ∀ x ∈ r, BankOk x) : ∀ b ∈ r.flatten, Byt b := by
  intro b hb
  obtain ⟨x, hx, hbx⟩ := List.mem_flatten.1 hb
  exact (h x hx).2 b hbx
/-- The bytes of a cartridge. -/
def build (r : List (List Int)) : List Int := [71, 67, (r.length : Int), r.flatten.sum % 256] ++ r.flatten
theorem build_length {r : List (List Int)} (h : ValidRom r) : (build r).length = 4 + 256 * r.length := by
  unfold build
  rw [List.length_append, flat_length (fun x hx => (h.2 x hx).1)]
  simp
theorem banksValid_loop (r : List (List Int)) (hr : r.length ≤ 4) : ∀ (d i : Nat), r.length - i = d → i ≤ r.length → Tot (fun k => impl_banksValid.l0 k r (r.length : Int) (i : Int)) (fun q => q = true ↔ ∀ x ∈ r.drop i, BankOk x) := by
  intro d
  induction d with
  | zero =>
    intro i hd hi
    refine Tot.up ?_
    simp only [impl_banksValid.l0]
    refine Tot.neg (by omega) (Tot.ret ?_)
    rw [List.drop_of_length_le (by omega)]
    simp
  | succ d ih =>
    intro i hd hi
    have hlt : i < r.length := by omega
    refine Tot.up ?_
    simp only [impl_banksValid.l0, rdR_at hlt, inext hlt (by omega)]
    refine Tot.pos (by omega) (Tot.pos (by omega) (Tot.pos (by omega) (Tot.ite (fun h1 => ?_) (fun h1 => Tot.ret ?_))))
    · refine Tot.bind (allBytes_tot _ (by omega)) fun q hq => Tot.ite (fun h2 => ?_) (fun h2 => Tot.ret ?_)
      · refine (ih (i + 1) (by omega) (by omega)).mono fun q' hq' => ?_
        rw [hq', iall_drop hlt]
        exact ⟨fun z => ⟨⟨by omega, hq.1 h2⟩, z⟩, fun z => z.2⟩
      · rw [iall_drop hlt]
        exact ⟨fun z => (by cases z), fun z => absurd (hq.2 z.1.2) h2⟩
    · rw [iall_drop hlt]
      exact ⟨fun z => (by cases z), fun z => absurd (by rw [z.1.1]; rfl) h1⟩
theorem banksValid_tot (r : List (List Int)) : Tot (fun k => impl_banksValid.f k r) (fun q => q = true ↔ ValidRom r) := by
  unfold impl_banksValid.f
  simp only [within_eq, Option.bind_some, decide_eq_true_eq]
  refine Tot.ite (fun h => ?_) (fun h => Tot.ret ⟨fun z => (by cases z), fun z => absurd z.1 (by omega)⟩)
  refine (banksValid_loop r (by omega) r.length 0 rfl (Nat.zero_le _)).mono fun q hq => ?_
  rw [hq, List.drop_zero]
  exact ⟨fun z => ⟨by omega, z⟩, fun z => z.2⟩
def MV (ram : List Int) (rom : List (List Int)) (bank : Int) : Prop := ((∀ b ∈ ram, Byt b) ∧ ram.length = 256) ∧ ValidRom rom ∧ 0 ≤ bank ∧ bank ≤ (rom.length : Int) - 1
theorem specMV_loop (ram : List Int) (rom : List (List Int)) (bank : Int) (hm : ram.length ≤ 1048576) (hr : rom.length ≤ 1048576) (hrr : ∀ x ∈ rom, x.length ≤ 1048576) : ∀ (d i : Nat), rom.length - i = d → i ≤ rom.length → Tot (fun k => spec_MemoryValid.l0 k (i : Int) ram rom bank) (fun q => q = true ↔ (∀ x ∈ rom.drop i, BankOk x) ∧ ((∀ b ∈ ram, Byt b) ∧ ram.length = 256) ∧ (1 ≤ rom.length ∧ rom.length ≤ 4) ∧ 0 ≤ bank ∧ bank ≤ (rom.length : Int) - 1) := by
  intro d
  induction d with
  | zero =>
    intro i hd hi
    refine Tot.up ?_
    simp only [spec_MemoryValid.l0, l1In_eq, Option.bind_some, decide_eq_true_eq]
    refine Tot.neg (by omega) (Tot.bind (l2Bytes_tot ram 256 (by omega)) fun q hq => Tot.ite (fun h => Tot.ite (fun h2 => Tot.ret ?_) (fun h2 => Tot.ret ?_)) (fun h => Tot.ret ?_))
    · rw [w64 (by omega) (by omega), decide_eq_true_eq, List.drop_of_length_le (by omega)]
      have := hq.1 h
      exact ⟨fun z => ⟨by simp, ⟨this.1, by omega⟩, by omega, z⟩, fun z => z.2.2.2⟩
    · exact ⟨fun z => (by cases z), fun z => absurd z.2.2.1 (by omega)⟩
    · exact ⟨fun z => (by cases z), fun z => absurd (hq.2 ⟨z.2.1.1, by omega⟩) h⟩
  | succ d ih =>
    intro i hd hi
    have hlt : i < rom.length := by omega
    refine Tot.up ?_
    simp only [spec_MemoryValid.l0, rdR_at hlt, inext hlt (by omega)]
    refine Tot.pos (by omega) (Tot.pos (by omega) (Tot.bind (l2Bytes_tot _ 256 (by have := hrr _ (List.getElem_mem hlt); omega)) fun q hq => Tot.ite (fun h => ?_) (fun h => Tot.ret ?_)))
    · refine (ih (i + 1) (by omega) (by omega)).mono fun q' hq' => ?_
      have := hq.1 h
      rw [hq', iall_drop hlt]
      exact ⟨fun z => ⟨⟨⟨by omega, this.1⟩, z.1⟩, z.2⟩, fun z => ⟨z.1.2, z.2⟩⟩
    · rw [iall_drop hlt]
      exact ⟨fun z => (by cases z), fun z => absurd (hq.2 ⟨z.1.1.2, by rw [z.1.1.1]; rfl⟩) h⟩
theorem specMV_tot (ram : List Int) (rom : List (List Int)) (bank : Int) (hm : ram.length ≤ 1048576) (hr : rom.length ≤ 1048576) (hrr : ∀ x ∈ rom, x.length ≤ 1048576) : Tot (fun k => spec_MemoryValid.f k ram rom bank) (fun q => q = true ↔ MV ram rom bank) := by
  unfold spec_MemoryValid.f
  refine (specMV_loop ram rom bank hm hr hrr rom.length 0 rfl (Nat.zero_le _)).mono fun q hq => ?_
  rw [hq, List.drop_zero]
  exact ⟨fun z => ⟨z.2.1, ⟨z.2.2.1, z.1⟩, z.2.2.2⟩, fun z => ⟨z.2.1.2, z.1, z.2.1.1, z.2.2⟩⟩
theorem mv_new {rom : List (List Int)} : MV (List.replicate 256 0) rom 0 ↔ ValidRom rom := by
  unfold MV
  refine ⟨fun z => z.2.1, fun z => ⟨⟨fun b hb => ?_, List.length_replicate ..⟩, z, by omega, by have := z.1; omega⟩⟩
  rw [List.eq_of_mem_replicate hb]
  unfold Byt; omega
theorem mv_zero : ¬ MV [] [] 0 := fun z => by have := z.1.2; simp at this
/-- What NewMemory answers. -/
def NM (rom : List (List Int)) (q : List Int × List (List Int) × Int) : Prop := (ValidRom rom → q = (List.replicate 256 0, rom, 0)) ∧ (¬ ValidRom rom → q = ([], [], 0))
theorem specNew_loop (rom : List (List Int)) (hr : rom.length ≤ 1048576) (hrr : ∀ x ∈ rom, x.length ≤ 1048576) : ∀ (d i : Nat) (out : List (List Int)), rom.length - i = d → i ≤ rom.length → out ++ rom.drop i = rom → Tot (fun k => spec_NewMemory.l0 k rom (i : Int) (List.replicate 256 0) out 0) (NM rom) := by
  intro d
  induction d with
  | zero =>
    intro i out hd hi ho
    rw [List.drop_of_length_le (by omega), List.append_nil] at ho
    subst ho
    refine Tot.up ?_
    simp only [spec_NewMemory.l0]
    refine Tot.neg (by omega) (Tot.bind (specMV_tot _ out 0 (by rw [List.length_replicate]; omega) hr hrr) fun q hq => ?_)
    rw [mv_new] at hq
    exact Tot.ite (fun h => Tot.ret ⟨fun _ => rfl, fun z => absurd (hq.1 h) z⟩) (fun h => Tot.ret ⟨fun z => absurd (hq.2 z) h, fun _ => rfl⟩)
  | succ d ih =>
    intro i out hd hi ho
    have hlt : i < rom.length := by omega
    have hx := hrr _ (List.getElem_mem hlt)
    have hlen : out.length = i := by
      have := congrArg List.length ho
      rw [List.length_append, List.length_drop] at this
      omega
    refine Tot.up ?_
    simp only [spec_NewMemory.l0, rdR_at hlt, inext hlt (by omega), Option.bind_some, List.length_nil, Nat.zero_add, List.nil_append]
    refine Tot.pos (by omega) (Tot.pos (by omega) (Tot.pos (by omega) (Tot.pos (by omega) (ih (i + 1) _ (by omega) (by omega) ?_))))
    rw [List.append_assoc, List.singleton_append, ← List.drop_eq_getElem_cons hlt, ho]
theorem specNew_tot (rom : List (List Int)) (hr : rom.length ≤ 1048576) (hrr : ∀ x ∈ rom, x.length ≤ 1048576) : Tot (fun k => spec_NewMemory.f k rom) (NM rom) := by
  unfold spec_NewMemory.f
  exact Tot.pos (by omega) (specNew_loop rom hr hrr rom.length 0 [] rfl (Nat.zero_le _) rfl)
theorem implMV_tot (ram : List Int) (rom : List (List Int)) (bank : Int) (hm : ram.length ≤ 1048576) : Tot (fun k => impl_MemoryValid.f k ram rom bank) (fun q => q = true ↔ MV ram rom bank) := by
  unfold impl_MemoryValid.f
  refine Tot.ite (fun h0 => ?_) (fun h0 => Tot.ret ⟨fun z => (by cases z), fun z => absurd (by rw [z.1.2]; rfl) h0⟩)
  refine Tot.bind (allBytes_tot ram (by omega)) fun q hq => Tot.ite (fun h1 => ?_) (fun h1 => Tot.ret ⟨fun z => (by cases z), fun z => absurd (hq.2 z.1.1) h1⟩)
  refine Tot.bind (banksValid_tot rom) fun q2 hq2 => Tot.ite (fun h2 => ?_) (fun h2 => Tot.ret ⟨fun z => (by cases z), fun z => absurd (hq2.2 z.2.1) h2⟩)
  refine Tot.ite (fun h3 => Tot.ret ?_) (fun h3 => Tot.ret ⟨fun z => (by cases z), fun z => absurd z.2.2.1 h3⟩)
  rw [decide_eq_true_eq]
  exact ⟨fun z => ⟨⟨hq.1 h1, by omega⟩, hq2.1 h2, h3, by omega⟩, fun z => by have := z.2.2.2; omega⟩
/-- A valid cheat. -/
def CV (x : S59) : Prop := (0 ≤ x.f0 ∧ x.f0 ≤ 1023) ∧ (0 ≤ x.f1 ∧ x.f1 ≤ 255) ∧ -1 ≤ x.f2 ∧ x.f2 ≤ 255
theorem cheat_at {xs : List S59} {i : Nat} (h : i < xs.length) : rd_T59 xs (i : Int) = xs[i] := by
  unfold rd_T59
  rw [List.getD_eq_getElem?_getD, Int.toNat_natCast, List.getElem?_eq_getElem h]; rfl
theorem cheat_ext {x y : S59} (h0 : x.f0 = y.f0) (h1 : x.f1 = y.f1) (h2 : x.f2 = y.f2) : x = y := by
  cases x; cases y; simp only at h0 h1 h2; rw [h0, h1, h2]
theorem next_i {i n : Nat} (h : i < n) (hn : n ≤ 9223372036854775807) : wrap64 ((i : Int) + 1) = ((i + 1 : Nat) : Int) := by
  rw [w64] <;> omega
theorem all_drop {α : Type} {P : α → Prop} {xs : List α} {i : Nat} (h : i < xs.length) : (∀ x ∈ xs.drop i, P x) ↔ P xs[i] ∧ ∀ x ∈ xs.drop (i + 1), P x := by
  rw [List.drop_eq_getElem_cons h, List.forall_mem_cons]
theorem cheatValid_eq (a b c : Int) : impl_cheatValid.f a b c = some (decide ((0 ≤ a ∧ a ≤ 1023) ∧ (0 ≤ b ∧ b ≤ 255) ∧ -1 ≤ c ∧ c ≤ 255)) := by
  unfold impl_cheatValid.f
  simp only [within_eq, isByte_eq, Option.bind_some, decide_eq_true_eq]
  repeat' split
  all_goals first | exact some_dec (by omega) | exact some_ff (by omega)
theorem implCheats_loop (xs : List S59) (hm : xs.length ≤ 9223372036854775807) : ∀ (d i : Nat), xs.length - i = d → i ≤ xs.length →
    Tot (fun k => impl_CheatsValid.l0 k xs (xs.length : Int) (i : Int)) (fun r => r = true ↔ ∀ x ∈ xs.drop i, CV x) := by
  intro d
  induction d with
  | zero =>
    intro i hd hi
    refine Tot.up ?_
    simp only [impl_CheatsValid.l0]
    refine Tot.neg (by omega) (Tot.ret ?_)
    rw [List.drop_of_length_le (by omega)]
    simp
  | succ d ih =>
    intro i hd hi
    have hlt : i < xs.length := by omega
    refine Tot.up ?_
    simp only [impl_CheatsValid.l0, cheat_at hlt, next_i hlt hm, cheatValid_eq, Option.bind_some, decide_eq_true_eq]
    refine Tot.pos (by omega) (Tot.pos (by omega) (Tot.pos (by omega) (Tot.ite (fun h1 => ?_) (fun h1 => ?_))))
    · refine (ih (i + 1) (by omega) (by omega)).mono fun r hr => ?_
      rw [hr, all_drop hlt]
      exact ⟨fun z => ⟨h1, z⟩, fun z => z.2⟩
    · refine Tot.ret ?_
      rw [all_drop hlt]
      exact ⟨fun z => (by cases z), fun z => absurd z.1 h1⟩
theorem implCheats_tot (xs : List S59) (hm : xs.length ≤ 9223372036854775807) : Tot (fun k => impl_CheatsValid.f k xs) (fun r => r = true ↔ (∀ x ∈ xs, CV x) ∧ xs.length ≤ 8) := by
  unfold impl_CheatsValid.f
  refine Tot.ite (fun h => Tot.ret ⟨fun z => (by cases z), fun z => by omega⟩) (fun h => ?_)
  exact (implCheats_loop xs hm xs.length 0 rfl (Nat.zero_le _)).mono fun r hr => by rw [hr]; exact ⟨fun z => ⟨z, by omega⟩, fun z => z.1⟩
theorem specCheats_loop (xs : List S59) (hm : xs.length ≤ 9223372036854775807) : ∀ (d i : Nat), xs.length - i = d → i ≤ xs.length →
    Tot (fun k => spec_CheatsValid.l0 k xs (i : Int)) (fun r => r = true ↔ (∀ x ∈ xs.drop i, CV x) ∧ xs.length ≤ 8) := by
  intro d
  induction d with
  | zero =>
    intro i hd hi
    refine Tot.up ?_
    simp only [spec_CheatsValid.l0]
    refine Tot.neg (by omega) (Tot.ret ?_)
    rw [List.drop_of_length_le (by omega)]
    simp
    omega
  | succ d ih =>
    intro i hd hi
    have hlt : i < xs.length := by omega
    refine Tot.up ?_
    simp only [spec_CheatsValid.l0, cheat_at hlt, next_i hlt hm, l1In_eq, l1Byte_eq, Option.bind_some, decide_eq_true_eq]
    refine Tot.pos (by omega) (Tot.pos (by omega) (Tot.ite (fun h1 => Tot.ite (fun h2 => Tot.ite (fun h3 => ?_) (fun h3 => ?_)) (fun h2 => ?_)) (fun h1 => ?_)))
    · refine (ih (i + 1) (by omega) (by omega)).mono fun r hr => ?_
      rw [hr, all_drop hlt]
      exact ⟨fun z => ⟨⟨⟨h1, h2, h3⟩, z.1⟩, z.2⟩, fun z => ⟨z.1.2, z.2⟩⟩
    · refine Tot.ret ?_
      rw [all_drop hlt]
      exact ⟨fun z => (by cases z), fun z => absurd z.1.1.2.2 h3⟩
    · refine Tot.ret ?_
      rw [all_drop hlt]
      exact ⟨fun z => (by cases z), fun z => absurd z.1.1.2.1 h2⟩
    · refine Tot.ret ?_
      rw [all_drop hlt]
      exact ⟨fun z => (by cases z), fun z => absurd z.1.1.1 h1⟩
theorem specCheats_tot (xs : List S59) (hm : xs.length ≤ 9223372036854775807) : Tot (fun k => spec_CheatsValid.f k xs) (fun r => r = true ↔ (∀ x ∈ xs, CV x) ∧ xs.length ≤ 8) := by
  unfold spec_CheatsValid.f
  exact specCheats_loop xs hm xs.length 0 rfl (Nat.zero_le _)
theorem rd_mem {xs : List Int} {i : Int} (h0 : 0 ≤ i) (h : i < (xs.length : Int)) : rd xs i ∈ xs := by
  unfold rd
  rw [List.getD_eq_getElem?_getD, List.getElem?_eq_getElem (show i.toNat < xs.length by omega)]
  exact List.getElem_mem _
/-- The byte of a valid memory at a place. -/
def pk (ram : List Int) (rom : List (List Int)) (bank a : Int) : Int := if a < 512 then rd ram (a % 256) else if a < 768 then rd (rom.getD 0 []) (a - 512) else rd (rom.getD bank.toNat []) (a - 768)
theorem getD_bank {rom : List (List Int)} (h : ∀ x ∈ rom, BankOk x) {i : Nat} (hi : i < rom.length) : BankOk (rom.getD i []) := by
  rw [List.getD_eq_getElem?_getD, List.getElem?_eq_getElem hi]
  exact h _ (List.getElem_mem hi)
theorem pk_byt {ram : List Int} {rom : List (List Int)} {bank a : Int} (h : MV ram rom bank) (h0 : 0 ≤ a) (h1 : a ≤ 1023) : 0 ≤ pk ram rom bank a ∧ pk ram rom bank a ≤ 255 := by
  obtain ⟨⟨hb, hl⟩, ⟨hr1, hr2⟩, k0, k1⟩ := h
  unfold pk
  split
  · have := hb _ (rd_mem (xs := ram) (i := a % 256) (by omega) (by omega))
    unfold Byt at this; omega
  · split
    · have hk := getD_bank hr2 (i := 0) (by omega)
      have := hk.2 _ (rd_mem (i := a - 512) (by omega) (by have := hk.1; omega))
      unfold Byt at this; omega
    · have hk := getD_bank hr2 (i := bank.toNat) (by omega)
      have := hk.2 _ (rd_mem (i := a - 768) (by omega) (by have := hk.1; omega))
      unfold Byt at this; omega
theorem implPeek {ram : List Int} {rom : List (List Int)} {bank a : Int} (h : MV ram rom bank) (h0 : 0 ≤ a) (h1 : a ≤ 1023) : impl_peek.f ram rom bank a = some (pk ram rom bank a) := by
  obtain ⟨⟨hb, hl⟩, ⟨hr1, hr2⟩, k0, k1⟩ := h
  unfold impl_peek.f pk
  by_cases c1 : a < 512
  · rw [if_pos ⟨h0, c1⟩, if_pos (by omega), if_pos c1]
  · by_cases c2 : a < 768
    · have hk := (getD_bank hr2 (i := 0) (by omega)).1
      rw [if_neg (by omega), if_pos ⟨by omega, c2⟩, if_pos ⟨by omega, by omega⟩, if_neg c1, if_pos c2]
    · have hk := (getD_bank hr2 (i := bank.toNat) (by omega)).1
      rw [if_neg (by omega), if_neg (by omega), if_pos ⟨by omega, by omega⟩, if_pos ⟨⟨k0, by omega⟩, by omega⟩, if_neg c1, if_neg c2]
/-- What ReadCheated asks of its arguments. -/
def Good (ram : List Int) (rom : List (List Int)) (bank : Int) (l : List S59) (a : Int) : Prop := MV ram rom bank ∧ ((∀ x ∈ l, CV x) ∧ l.length ≤ 8) ∧ 0 ≤ a ∧ a ≤ 1023
/-- What ReadCheated answers. -/
def RC (ram : List Int) (rom : List (List Int)) (bank : Int) (l : List S59) (a v : Int) : Prop := (Good ram rom bank l a → v = impl_ReadCheated.find a (pk ram rom bank a) l) ∧ (¬ Good ram rom bank l a → v = 0)
theorem RC_one {ram : List Int} {rom : List (List Int)} {bank : Int} {l : List S59} {a v w : Int} (h : RC ram rom bank l a v) (h' : RC ram rom bank l a w) : v = w := by
  by_cases g : Good ram rom bank l a
  · rw [h.1 g, h'.1 g]
  · rw [h.2 g, h'.2 g]
theorem implRC_tot (ram : List Int) (rom : List (List Int)) (bank : Int) (l : List S59) (a : Int) (hm : ram.length ≤ 1048576) (hl : l.length ≤ 1048576) : Tot (fun k => impl_ReadCheated.f k ram rom bank l a) (RC ram rom bank l a) := by
  unfold impl_ReadCheated.f
  refine Tot.bind (implMV_tot ram rom bank hm) fun q hq => Tot.ite (fun h1 => ?_) (fun h1 => Tot.ret ⟨fun g => absurd (hq.2 g.1) h1, fun _ => rfl⟩)
  refine Tot.bind (implCheats_tot l (by omega)) fun q2 hq2 => Tot.ite (fun h2 => ?_) (fun h2 => Tot.ret ⟨fun g => absurd (hq2.2 g.2.1) h2, fun _ => rfl⟩)
  refine Tot.ite (fun h3 => ?_) (fun h3 => Tot.ret ⟨fun g => absurd g.2.2 h3, fun _ => rfl⟩)
  rw [implPeek (hq.1 h1) h3.1 h3.2]
  exact Tot.pos (by omega) (Tot.ret ⟨fun _ => rfl, fun g => absurd ⟨hq.1 h1, hq2.1 h2, h3⟩ g⟩)
theorem specPeek {ram : List Int} {rom : List (List Int)} {bank a : Int} (h : MV ram rom bank) (h0 : 0 ≤ a) (h1 : a ≤ 1023) : spec_l2Read.f ram rom bank a = some (pk ram rom bank a) := by
  obtain ⟨⟨hb, hl⟩, ⟨hr1, hr2⟩, k0, k1⟩ := h
  unfold spec_l2Read.f pk
  rw [tmod_nn h0, w64 (x := a - 512) (by omega) (by omega), w64 (x := a - 768) (by omega) (by omega)]
  by_cases c1 : a < 512
  · rw [if_pos c1, if_pos (by omega), if_pos (by omega), if_pos c1]
  · by_cases c2 : a < 768
    · have hk : (rd_L1 rom 0).length = 256 := (getD_bank hr2 (i := 0) (by omega)).1
      rw [if_neg c1, if_pos c2, if_pos (by omega), if_pos (by omega), if_pos (by omega), if_neg c1, if_pos c2]
      rfl
    · have hk : (rd_L1 rom bank).length = 256 := (getD_bank hr2 (i := bank.toNat) (by omega)).1
      rw [if_neg c1, if_neg c2, if_pos k0, if_pos (by omega), if_pos (by omega), if_pos (by omega), if_neg c1, if_neg c2]
      rfl
theorem specRC_loop (l : List S59) (hl : l.length ≤ 1048576) (hv : ∀ x ∈ l, CV x) (a x : Int) : ∀ (d i : Nat), l.length - i = d → i ≤ l.length → Tot (fun k => spec_ReadCheated.l0 k l a x (i : Int)) (· = impl_ReadCheated.find a x (l.drop i)) := by
  intro d
  induction d with
  | zero =>
    intro i hd hi
    refine Tot.up ?_
    simp only [spec_ReadCheated.l0]
    refine Tot.neg (by omega) (Tot.ret ?_)
    rw [List.drop_of_length_le (by omega)]
    rfl
  | succ d ih =>
    intro i hd hi
    have hlt : i < l.length := by omega
    have hc := hv _ (List.getElem_mem hlt)
    unfold CV at hc
    refine Tot.up ?_
    simp only [spec_ReadCheated.l0, cheat_at hlt, next_i hlt (by omega)]
    rw [List.drop_eq_getElem_cons hlt, impl_ReadCheated.find]
    refine Tot.pos (by omega) (Tot.pos (by omega) (Tot.ite (fun h1 => Tot.ite (fun h2 => Tot.ret ?_) (fun h2 => Tot.ite (fun h3 => Tot.ret ?_) (fun h3 => ?_))) (fun h1 => ?_)))
    · rw [if_pos ⟨h1, by omega⟩]
    · rw [if_pos ⟨h1, Or.inr h3⟩]
    · rw [if_neg (fun z => by rcases z.2 with z | z; exact h2 (by omega); exact h3 z)]
      exact ih (i + 1) (by omega) (by omega)
    · rw [if_neg (fun z => h1 z.1)]
      exact ih (i + 1) (by omega) (by omega)
theorem specRC_tot (ram : List Int) (rom : List (List Int)) (bank : Int) (l : List S59) (a : Int) (hm : ram.length ≤ 1048576) (hr : rom.length ≤ 1048576) (hrr : ∀ x ∈ rom, x.length ≤ 1048576) (hl : l.length ≤ 1048576) : Tot (fun k => spec_ReadCheated.f k ram rom bank l a) (RC ram rom bank l a) := by
  have bad : ¬ Good ram rom bank l a → Tot (fun k => spec_ReadCheated.j0 k l a true ram rom bank) (RC ram rom bank l a) := fun g => by
    refine Tot.up ?_
    simp only [spec_ReadCheated.j0]
    exact Tot.pos trivial (Tot.ret ⟨fun z => absurd z g, fun _ => rfl⟩)
  unfold spec_ReadCheated.f
  refine Tot.bind (specMV_tot ram rom bank hm hr hrr) fun q hq => Tot.ite (fun h1 => ?_) (fun h1 => bad fun g => h1 (hq.2 g.1))
  refine Tot.bind (specCheats_tot l (by omega)) fun q2 hq2 => Tot.ite (fun h2 => ?_) (fun h2 => bad fun g => h2 (hq2.2 g.2.1))
  simp only [l1In_eq, Option.bind_some]
  by_cases h3 : 0 ≤ a ∧ a ≤ 1023
  · rw [decide_eq_true h3]
    refine Tot.up ?_
    simp only [spec_ReadCheated.j0, specPeek (hq.1 h1) h3.1 h3.2, Option.bind_some]
    refine Tot.neg (by decide) ((specRC_loop l hl (hq2.1 h2).1 a _ l.length 0 rfl (Nat.zero_le _)).mono fun v hv => ⟨fun _ => hv, fun g => absurd ⟨hq.1 h1, hq2.1 h2, h3⟩ g⟩)
  · rw [decide_eq_false h3]
    exact bad fun g => h3 g.2.2
theorem alive_eq : laws_alive.f = some true := by decide +kernel
theorem rd_byte {b : List Int} (hb : ∀ x ∈ b, (Lit.int .u8 x).wf = true) (i : Int) : 0 ≤ rd b i ∧ rd b i ≤ 255 := by
  unfold rd
  rw [List.getD_eq_getElem?_getD]
  rcases Nat.lt_or_ge i.toNat b.length with h | h
  · rw [List.getElem?_eq_getElem h]
    exact u8_of (hb _ (List.getElem_mem h))
  · rw [List.getElem?_eq_none h]
    simp
theorem xor_nn {a b : Int} (ha : 0 ≤ a) (ha' : a < 4611686018427387904) (hb : 0 ≤ b) (hb' : b < 4611686018427387904) : 0 ≤ Go.bits .xor .i64 a b := by
  obtain ⟨m, rfl⟩ := Int.eq_ofNat_of_zero_le ha
  obtain ⟨n, rfl⟩ := Int.eq_ofNat_of_zero_le hb
  have hm : m < 2 ^ 62 := by omega
  have hn : n < 2 ^ 62 := by omega
  have hx : m ^^^ n < 2 ^ 62 := Nat.xor_lt_two_pow hm hn
  have e : Go.bits .xor .i64 (m : Int) (n : Int) = ((m ^^^ n : Nat) : Int) := by
    show IntKind.wrap .i64 ((BitVec.ofInt 64 (m : Int) ^^^ BitVec.ofInt 64 (n : Int)).toNat : Int) = _
    rw [BitVec.ofInt_natCast, BitVec.ofInt_natCast, BitVec.toNat_xor, BitVec.toNat_ofNat, BitVec.toNat_ofNat, Nat.mod_eq_of_lt (show m < 2 ^ 64 by omega), Nat.mod_eq_of_lt (show n < 2 ^ 64 by omega), IntKind.wrap_i64]
    omega
  rw [e]
  exact Int.natCast_nonneg _
/-- The bytes that draws are made of. -/
def Src (b : List Int) : Prop := (∀ x ∈ b, (Lit.int .u8 x).wf = true) ∧ b.length ≤ 2000
theorem open_tot (l : List Int) (hw : ∀ x ∈ l, (Lit.int .u8 x).wf = true) : Tot (fun _ => spec_l20Open.f l) (fun r => Src r.1 ∧ r.2 = 0) := by
  unfold spec_l20Open.f
  refine Tot.ite (fun h => ?_) (fun h => ?_)
  · refine Tot.pos (by omega) (Tot.ret ⟨⟨fun x hx => hw x (List.mem_of_mem_take hx), ?_⟩, rfl⟩)
    rw [List.length_take]; omega
  · exact Tot.ret ⟨⟨hw, by simp only; omega⟩, rfl⟩
theorem pick_tot {b : List Int} (hb : Src b) (p n : Int) (hp : 0 ≤ p) (hp' : p ≤ 1000000000) :
    Tot (fun k => spec_l20Rd_pick.f k b p n) (fun r => r.2 = p + 1 ∧ (n < 1 → r.1 = 0) ∧ (1 ≤ n → 0 ≤ r.1 ∧ r.1 < n)) := by
  have hw : wrap64 (p + 1) = p + 1 := w64 (by omega) (by omega)
  have hw1 : wrap64 (p + 1 - 1) = p := by rw [w64] <;> omega
  unfold spec_l20Rd_pick.f
  simp only [hw]
  refine Tot.ite (fun h1 => ?_) (fun h1 => ?_)
  · refine Tot.up ?_
    simp only [spec_l20Rd_pick.j0]
    exact Tot.pos (by simp) (Tot.ret ⟨rfl, fun _ => rfl, fun h => by omega⟩)
  · refine Tot.up ?_
    simp only [spec_l20Rd_pick.j0, hw1]
    refine Tot.ite (fun h2 => Tot.ret ⟨rfl, fun _ => rfl, fun h => ⟨Int.le_refl _, by omega⟩⟩) (fun h2 => ?_)
    have hl : 0 < (b.length : Int) := by
      have : ¬ ((b.length : Int) = 0) := fun h => h2 (by simp [h])
      omega
    have hl2 : (b.length : Int) ≤ 2000 := by have := hb.2; omega
    refine Tot.ite (fun h3 => ?_) (fun h3 => ?_)
    · have hr := rd_byte hb.1 p
      refine Tot.pos hp (Tot.neg (by omega) (Tot.ret ⟨rfl, fun h => absurd h h1, fun h => ?_⟩))
      rw [w64 (x := rd b p) (by omega) (by omega), tmod_nn hr.1]
      exact ⟨Int.emod_nonneg _ (by omega), Int.emod_lt_of_pos _ (by omega)⟩
    · have e7 : wrap64 (p * 7) = p * 7 := w64 (by omega) (by omega)
      have e73 : wrap64 (p * 7 + 3) = p * 7 + 3 := w64 (by omega) (by omega)
      simp only [e7, e73, tmod_nn hp, tmod_nn (show 0 ≤ p * 7 + 3 by omega), tdiv_nn hp]
      have r1 := rd_byte hb.1 (p % (b.length : Int))
      have r2 := rd_byte hb.1 ((p * 7 + 3) % (b.length : Int))
      have m1 := Int.emod_nonneg p (show (b.length : Int) ≠ 0 by omega)
      have m2 := Int.emod_lt_of_pos p hl
      have m3 := Int.emod_nonneg (p * 7 + 3) (show (b.length : Int) ≠ 0 by omega)
      have m4 := Int.emod_lt_of_pos (p * 7 + 3) hl
      have d1 : 0 ≤ p / (b.length : Int) := Int.ediv_nonneg hp (by omega)
      have d2 : p / (b.length : Int) ≤ p := Int.ediv_le_self _ hp
      refine Tot.neg (by omega) (Tot.pos m1 (Tot.pos m2 (Tot.pos m3 (Tot.pos m4 (Tot.neg (by omega) (Tot.ret ⟨rfl, fun h => absurd h h1, fun _ => ?_⟩))))))
      generalize rd b (p % (b.length : Int)) = x1 at *
      generalize rd b ((p * 7 + 3) % (b.length : Int)) = x2 at *
      generalize p / (b.length : Int) = q at *
      rw [w64 (x := x1) (by omega) (by omega), w64 (x := x2) (by omega) (by omega), w64 (x := q) (by omega) (by omega), w64 (x := x1 * 131) (by omega) (by omega), w64 (x := x2 * 1117) (by omega) (by omega), w64 (x := p * 29) (by omega) (by omega), w64 (x := q * 53) (by omega) (by omega),
        w64 (x := x1 * 131 + x2 * 1117) (by omega) (by omega), w64 (x := x1 * 131 + x2 * 1117 + p * 29) (by omega) (by omega), w64 (x := x1 * 131 + x2 * 1117 + p * 29 + q * 53) (by omega) (by omega)]
      have hs : 0 ≤ x1 * 131 + x2 * 1117 + p * 29 + q * 53 := by omega
      have hs2 : x1 * 131 + x2 * 1117 + p * 29 + q * 53 < 4611686018427387904 := by omega
      generalize x1 * 131 + x2 * 1117 + p * 29 + q * 53 = s at *
      rw [tdiv_nn hs, w64 (x := s / 64) (by omega) (by omega)]
      have hx := xor_nn hs hs2 (show 0 ≤ s / 64 by omega) (by omega)
      rw [tmod_nn hx]
      exact ⟨Int.emod_nonneg _ (by omega), Int.emod_lt_of_pos _ (by omega)⟩
theorem odd_tot {b : List Int} (hb : Src b) (p n : Int) (hp : 0 ≤ p) (hp' : p ≤ 1000000000) (hn : n ≤ 1000000000) :
    Tot (fun k => spec_l20Rd_odd.f k b p n) (fun r => p ≤ r.2 ∧ r.2 ≤ p + 1 ∧ (n < 1 → r.1 = false)) := by
  unfold spec_l20Rd_odd.f
  refine Tot.ite (fun h => ?_) (fun h => Tot.ret ⟨Int.le_refl _, by omega, fun _ => rfl⟩)
  refine Tot.bind (pick_tot hb p n hp hp') ?_
  rintro ⟨v, q⟩ ⟨hq, _, _⟩
  simp only at hq
  exact Tot.ret ⟨by simp only; omega, by simp only; omega, fun h' => by omega⟩
theorem byte_tot {b : List Int} (hb : Src b) (p n : Int) (hp : 0 ≤ p) (hp' : p ≤ 900000000) (hn : n ≤ 1000) :
    Tot (fun k => spec_l20Byte.f k b p n) (fun r => (-1 ≤ r.1 ∧ r.1 ≤ 256) ∧ p ≤ r.2 ∧ r.2 ≤ p + 10) := by
  unfold spec_l20Byte.f
  refine Tot.bind (odd_tot hb p n hp (by omega) (by omega)) ?_
  rintro ⟨v0, q0⟩ ⟨h0, h0', _⟩
  simp only at h0 h0'
  refine Tot.ite (fun _ => ?_) (fun _ => ?_)
  · simp only [Option.bind_some]
    refine Tot.bind (pick_tot hb q0 2 (by omega) (by omega)) ?_
    rintro ⟨v, q⟩ ⟨h1, _, g1⟩
    simp only at h1 g1
    have hl : v < (([(-1), 256] : List Int).length : Int) := by simp; omega
    have hm := rd_mem (xs := [(-1), 256]) (g1 (by omega)).1 hl
    simp only [List.mem_cons, List.not_mem_nil, or_false] at hm
    exact Tot.pos (g1 (by omega)).1 (Tot.pos hl (Tot.ret ⟨by simp only; omega, by simp only; omega, by simp only; omega⟩))
  · refine Tot.bind (pick_tot hb q0 256 (by omega) (by omega)) ?_
    rintro ⟨v1, q1⟩ ⟨h1, _, g1⟩
    simp only at h1 g1
    refine Tot.bind (pick_tot hb q1 256 (by omega) (by omega)) ?_
    rintro ⟨v2, q2⟩ ⟨h2, _, g2⟩
    simp only at h2 g2
    refine Tot.bind (pick_tot hb q2 256 (by omega) (by omega)) ?_
    rintro ⟨v3, q3⟩ ⟨h3, _, g3⟩
    simp only at h3 g3
    simp only [Option.bind_some]
    refine Tot.bind (pick_tot hb q3 8 (by omega) (by omega)) ?_
    rintro ⟨v, q⟩ ⟨h4, _, g4⟩
    simp only at h4 g4
    have hl : v < (([0, 1, 127, 128, 255, v1, v2, v3] : List Int).length : Int) := by simp; omega
    have hm := rd_mem (xs := [0, 1, 127, 128, 255, v1, v2, v3]) (g4 (by omega)).1 hl
    simp only [List.mem_cons, List.not_mem_nil, or_false] at hm
    have f1 := g1 (by omega)
    have f2 := g2 (by omega)
    have f3 := g3 (by omega)
    exact Tot.pos (g4 (by omega)).1 (Tot.pos hl (Tot.ret ⟨by simp only; omega, by simp only; omega, by simp only; omega⟩))
theorem place_tot {b : List Int} (hb : Src b) (p n : Int) (hp : 0 ≤ p) (hp' : p ≤ 900000000) (hn : n ≤ 1000) :
    Tot (fun k => spec_l20Place.f k b p n) (fun r => (-1 ≤ r.1 ∧ r.1 ≤ 1024) ∧ p ≤ r.2 ∧ r.2 ≤ p + 10) := by
  unfold spec_l20Place.f
  refine Tot.bind (odd_tot hb p n hp (by omega) (by omega)) ?_
  rintro ⟨v0, q0⟩ ⟨h0, h0', _⟩
  simp only at h0 h0'
  refine Tot.ite (fun _ => ?_) (fun _ => ?_)
  · simp only [Option.bind_some]
    refine Tot.bind (pick_tot hb q0 2 (by omega) (by omega)) ?_
    rintro ⟨v, q⟩ ⟨h1, _, g1⟩
    simp only at h1 g1
    have hl : v < (([(-1), 1024] : List Int).length : Int) := by simp; omega
    have hm := rd_mem (xs := [(-1), 1024]) (g1 (by omega)).1 hl
    simp only [List.mem_cons, List.not_mem_nil, or_false] at hm
    exact Tot.pos (g1 (by omega)).1 (Tot.pos hl (Tot.ret ⟨by simp only; omega, by simp only; omega, by simp only; omega⟩))
  · refine Tot.bind (pick_tot hb q0 256 (by omega) (by omega)) ?_
    rintro ⟨v1, q1⟩ ⟨h1, _, g1⟩
    simp only at h1 g1
    refine Tot.bind (pick_tot hb q1 16 (by omega) (by omega)) ?_
    rintro ⟨v2, q2⟩ ⟨h2, _, g2⟩
    simp only at h2 g2
    refine Tot.bind (pick_tot hb q2 32 (by omega) (by omega)) ?_
    rintro ⟨v3, q3⟩ ⟨h3, _, g3⟩
    simp only at h3 g3
    refine Tot.bind (pick_tot hb q3 40 (by omega) (by omega)) ?_
    rintro ⟨v4, q4⟩ ⟨h4, _, g4⟩
    simp only at h4 g4
    refine Tot.bind (pick_tot hb q4 20 (by omega) (by omega)) ?_
    rintro ⟨v5, q5⟩ ⟨h5, _, g5⟩
    simp only at h5 g5
    have f1 := g1 (by omega)
    have f2 := g2 (by omega)
    have f3 := g3 (by omega)
    have f4 := g4 (by omega)
    have f5 := g5 (by omega)
    simp only [Option.bind_some, w64 (x := v1 * 4) (by omega) (by omega), w64 (x := 240 + v3) (by omega) (by omega), w64 (x := 500 + v4) (by omega) (by omega), w64 (x := 760 + v5) (by omega) (by omega)]
    refine Tot.bind (pick_tot hb q5 5 (by omega) (by omega)) ?_
    rintro ⟨v, q⟩ ⟨h6, _, g6⟩
    simp only at h6 g6
    have hl : v < (([v1 * 4, v2, 240 + v3, 500 + v4, 760 + v5] : List Int).length : Int) := by simp; omega
    have hm := rd_mem (xs := [v1 * 4, v2, 240 + v3, 500 + v4, 760 + v5]) (g6 (by omega)).1 hl
    simp only [List.mem_cons, List.not_mem_nil, or_false] at hm
    exact Tot.pos (g6 (by omega)).1 (Tot.pos hl (Tot.ret ⟨by simp only; omega, by simp only; omega, by simp only; omega⟩))
theorem cheatsEnd {b : List Int} (hb : Src b) (xs : List S59) (x : Bool) (p : Int) (hp : 0 ≤ p) (hp' : p ≤ 1000000) (hx : x = true → 0 < xs.length) (hl : xs.length ≤ 8) : Tot (fun k => spec_l20Cheats.j1 k xs x b p) (fun r => r.1.length ≤ 80 ∧ 0 ≤ r.2 ∧ r.2 ≤ p + 20) := by
  refine Tot.up ?_
  simp only [spec_l20Cheats.j1]
  refine Tot.ite (fun h => ?_) (fun h => Tot.ret (by (try simp only); omega))
  have hpos := hx h
  refine Tot.bind (pick_tot hb p 4 hp (by omega)) ?_
  rintro ⟨v, q⟩ ⟨hq, _, hv⟩
  simp only at hq hv
  refine Tot.ite (fun _ => ?_) (fun _ => Tot.ite (fun _ => ?_) (fun _ => Tot.ite (fun _ => ?_) (fun _ => ?_)))
  · refine Tot.bind (place_tot hb _ 1 (by omega) (by omega) (by omega)) ?_
    rintro ⟨v7, q7⟩ ⟨_, h7, h7'⟩
    simp only at h7 h7'
    exact Tot.pos (by omega) (Tot.ret ⟨by rw [List.length_set]; omega, by simp only; omega, by simp only; omega⟩)
  · refine Tot.bind (byte_tot hb _ 1 (by omega) (by omega) (by omega)) ?_
    rintro ⟨v7, q7⟩ ⟨_, h7, h7'⟩
    simp only at h7 h7'
    exact Tot.pos (by omega) (Tot.ret ⟨by rw [List.length_set]; omega, by simp only; omega, by simp only; omega⟩)
  · simp only [Option.bind_some]
    refine Tot.bind (pick_tot hb _ 2 (by omega) (by omega)) ?_
    rintro ⟨v7, q7⟩ ⟨h7, _, g7⟩
    simp only at h7 g7
    exact Tot.pos (by omega) (Tot.pos (by simp; omega) (Tot.pos (by omega) (Tot.ret ⟨by rw [List.length_set]; omega, by simp only; omega, by simp only; omega⟩)))
  · exact Tot.pos (by decide) (Tot.ret ⟨by rw [List.length_replicate]; omega, by simp only; omega, by simp only; omega⟩)
theorem cheatsLoop {b : List Int} (hb : Src b) (n : Int) (hn : n ≤ 1000) : ∀ (d : Nat) (xs : List S59) (p : Int), 0 ≤ p → p + 10 * d ≤ 100000 → xs.length + d ≤ 8 → Tot (fun k => spec_l20Cheats.l0 k n xs (d : Int) b p) (fun r => r.1.length ≤ 80 ∧ 0 ≤ r.2 ∧ r.2 ≤ 100100) := by
  intro d
  induction d with
  | zero =>
    intro xs p hp hp' hl
    refine Tot.up ?_
    simp only [spec_l20Cheats.l0]
    refine Tot.neg (by omega) (Tot.ite (fun h => ?_) (fun h => ?_))
    · refine Tot.bind (odd_tot hb p n hp (by omega) (by omega)) ?_
      rintro ⟨v, q⟩ ⟨h1, h2, _⟩
      simp only at h1 h2
      exact (cheatsEnd hb xs v q (by omega) (by omega) (fun _ => by omega) (by omega)).mono fun r hr => ⟨hr.1, hr.2.1, by have := hr.2.2; omega⟩
    · exact (cheatsEnd hb xs false p hp (by omega) (fun z => (by cases z)) (by omega)).mono fun r hr => ⟨hr.1, hr.2.1, by have := hr.2.2; omega⟩
  | succ d ih =>
    intro xs p hp hp' hl
    refine Tot.up ?_
    simp only [spec_l20Cheats.l0]
    refine Tot.pos (by omega) ?_
    refine Tot.bind (pick_tot hb p 6 hp (by omega)) ?_
    rintro ⟨v1, q1⟩ ⟨h1, _, g1⟩
    simp only at h1 g1
    refine Tot.bind (pick_tot hb q1 256 (by omega) (by omega)) ?_
    rintro ⟨v2, q2⟩ ⟨h2, _, g2⟩
    simp only at h2 g2
    refine Tot.bind (pick_tot hb q2 256 (by omega) (by omega)) ?_
    rintro ⟨v3, q3⟩ ⟨h3, _, g3⟩
    simp only at h3 g3
    simp only [Option.bind_some]
    refine Tot.bind (pick_tot hb q3 3 (by omega) (by omega)) ?_
    rintro ⟨v4, q4⟩ ⟨h4, _, g4⟩
    simp only at h4 g4
    have f4 := g4 (by omega)
    refine Tot.pos f4.1 (Tot.pos (by simp; omega) (Tot.pos (by omega) ?_))
    simp only [show wrap64 (((d + 1 : Nat) : Int) - 1) = (d : Int) from by rw [w64] <;> omega]
    exact ih _ q4 (by omega) (by omega) (by rw [List.length_append, List.length_singleton]; omega)
theorem cheats_tot {b : List Int} (hb : Src b) (p n : Int) (hp : 0 ≤ p) (hp' : p ≤ 90000) (hn : n ≤ 1000) : Tot (fun k => spec_l20Cheats.f k b p n) (fun r => r.1.length ≤ 80 ∧ 0 ≤ r.2 ∧ r.2 ≤ 100100) := by
  unfold spec_l20Cheats.f
  refine Tot.bind (pick_tot hb p 5 hp (by omega)) ?_
  rintro ⟨v, q⟩ ⟨h1, _, g1⟩
  simp only at h1 g1 ⊢
  obtain ⟨m, rfl⟩ := Int.eq_ofNat_of_zero_le (g1 (by omega)).1
  exact cheatsLoop hb n hn m [] q (by omega) (by omega) (by simp; omega)
/-! ### Drawn instructions and banks -/
def oLen (a : Int) : Int := if 0 ≤ a ∧ a ≤ 15 then rd [1, 2, 3, 3, 3, 3, 3, 3, 1, 1, 3, 3, 3, 3, 1, 1] a else 0
theorem op_cases {a : Int} (h : 0 ≤ a ∧ a ≤ 15) : a = 0 ∨ a = 1 ∨ a = 2 ∨ a = 3 ∨ a = 4 ∨ a = 5 ∨ a = 6 ∨ a = 7 ∨ a = 8 ∨ a = 9 ∨ a = 10 ∨ a = 11 ∨ a = 12 ∨ a = 13 ∨ a = 14 ∨ a = 15 := by omega
theorem oLen_in {a : Int} (h : 0 ≤ a ∧ a ≤ 15) : 1 ≤ oLen a ∧ oLen a ≤ 3 := by
  rcases op_cases h with rfl | rfl | rfl | rfl | rfl | rfl | rfl | rfl | rfl | rfl | rfl | rfl | rfl | rfl | rfl | rfl <;> decide
theorem specLen_eq (a : Int) : spec_OrderLength.f a = some (oLen a) := by
  unfold spec_OrderLength.f oLen
  rw [l1In_eq]
  by_cases h : 0 ≤ a ∧ a ≤ 15
  · simp only [Option.bind_some, decide_eq_true h, if_true, if_pos h.1]
    rw [if_pos (by show a < 16; omega), if_pos h]
  · simp only [Option.bind_some, decide_eq_false h, Bool.false_eq_true, if_false, if_neg h]
/-- A valid instruction. -/
def OV (a b : Int) : Prop := (oLen a = 1 ∧ b = 0) ∨ (oLen a = 2 ∧ 0 ≤ b ∧ b ≤ 255) ∨ (oLen a = 3 ∧ 0 ≤ b ∧ b ≤ 1023)
theorem specOV_eq (a b : Int) : ∃ v, spec_OrderValid.f a b = some v ∧ (v = true ↔ OV a b) := by
  unfold spec_OrderValid.f OV
  simp only [specLen_eq, l1Byte_eq, l1In_eq, Option.bind_some, decide_eq_true_eq]
  generalize oLen a = n
  by_cases h1 : n = 1
  · subst h1
    by_cases hb : b = 0
    · exact ⟨true, by rw [if_pos rfl, if_pos hb], by simp [hb]⟩
    · refine ⟨false, by rw [if_pos rfl, if_neg hb, if_neg (by omega), if_neg (by omega)], ⟨fun z => (by cases z), fun z => by omega⟩⟩
  · rw [if_neg h1]
    by_cases h2 : n = 2
    · subst h2
      rw [if_pos rfl]
      by_cases hb : 0 ≤ b ∧ b ≤ 255
      · exact ⟨true, by rw [if_pos hb], ⟨fun _ => .inr (.inl ⟨rfl, hb⟩), fun _ => rfl⟩⟩
      · exact ⟨false, by rw [if_neg hb, if_neg (by omega)], ⟨fun z => (by cases z), fun z => by omega⟩⟩
    · rw [if_neg h2]
      by_cases h3 : n = 3
      · subst h3
        rw [if_pos rfl]
        exact ⟨_, rfl, by rw [decide_eq_true_eq]; exact ⟨fun z => .inr (.inr ⟨rfl, z⟩), fun z => by omega⟩⟩
      · exact ⟨false, by rw [if_neg h3], ⟨fun z => (by cases z), fun z => by omega⟩⟩
theorem OV_in {a b : Int} (h : OV a b) : (0 ≤ a ∧ a ≤ 15) ∧ 0 ≤ b ∧ b ≤ 1023 := by
  have : 0 ≤ a ∧ a ≤ 15 := by
    by_cases z : 0 ≤ a ∧ a ≤ 15
    · exact z
    · unfold OV oLen at h
      simp only [if_neg z] at h
      omega
  unfold OV at h
  exact ⟨this, by omega⟩
def oBytes (a b : Int) : List Int := [a, b % 256, b / 256].take (oLen a).toNat
theorem specOB_eq (a b : Int) : ∃ q, spec_OrderBytes.f a b = some q ∧ (OV a b → q = oBytes a b) ∧ (¬ OV a b → q = []) := by
  obtain ⟨v, e, hv⟩ := specOV_eq a b
  unfold spec_OrderBytes.f
  simp only [e, Option.bind_some, specLen_eq]
  cases v with
  | false => exact ⟨[], by simp, fun z => (by have := hv.2 z; cases this), fun _ => rfl⟩
  | true =>
    have h := hv.1 rfl
    have hi := OV_in h
    have hl := oLen_in hi.1
    refine ⟨oBytes a b, ?_, fun _ => rfl, fun z => absurd h z⟩
    rw [if_pos rfl, if_pos (by omega), if_pos (by show oLen a ≤ 3; omega), tmod_nn hi.2.1, tdiv_nn hi.2.1, w64 (by omega) (by omega)]
    rfl
theorem oBytes_ok {a b : Int} (h : OV a b) : (oBytes a b).length ≤ 3 ∧ ∀ x ∈ oBytes a b, Byt x := by
  have hi := OV_in h
  unfold oBytes
  refine ⟨by rw [List.length_take]; simp; omega, fun x hx => ?_⟩
  have := List.mem_of_mem_take hx
  simp only [List.mem_cons, List.not_mem_nil, or_false] at this
  unfold Byt
  rcases this with rfl | rfl | rfl <;> omega
theorem specOB_ok (a b : Int) : ∃ q, spec_OrderBytes.f a b = some q ∧ q.length ≤ 3 ∧ ∀ x ∈ q, Byt x := by
  obtain ⟨q, e, h1, h2⟩ := specOB_eq a b
  by_cases h : OV a b
  · rw [h1 h] at e; exact ⟨_, e, oBytes_ok h⟩
  · rw [h2 h] at e; exact ⟨_, e, by simp, by simp⟩
theorem orderEnd {b : List Int} (hb : Src b) (p x y : Int) (hp : 0 ≤ p) (hp' : p ≤ 900000000) (n : Int) (hn : n ≤ 1000) : Tot (fun k => spec_l20Order.j0 k n b p x y) (fun r => p ≤ r.2.2 ∧ r.2.2 ≤ p + 4 ∧ (n < 1 → r.1 = x ∧ r.2.1 = y)) := by
  refine Tot.up ?_
  simp only [spec_l20Order.j0]
  refine Tot.bind (odd_tot hb p n hp (by omega) (by omega)) ?_
  rintro ⟨v0, q0⟩ ⟨h0, h0', h0''⟩
  simp only at h0 h0' h0''
  refine Tot.ite (fun hv => ?_) (fun _ => Tot.ret ⟨h0, by simp only; omega, fun _ => ⟨rfl, rfl⟩⟩)
  refine Tot.bind (pick_tot hb q0 2 (by omega) (by omega)) ?_
  rintro ⟨v1, q1⟩ ⟨h1, _, g1⟩
  simp only at h1 g1
  have hn1 : ¬ n < 1 := fun z => by have := h0'' z; rw [this] at hv; cases hv
  refine Tot.ite (fun _ => ?_) (fun _ => ?_)
  · simp only [Option.bind_some]
    refine Tot.bind (pick_tot hb q1 2 (by omega) (by omega)) ?_
    rintro ⟨v2, q2⟩ ⟨h2, _, g2⟩
    simp only at h2 g2
    exact Tot.pos (by omega) (Tot.pos (by simp; omega) (Tot.ret ⟨by simp only; omega, by simp only; omega, fun z => absurd z hn1⟩))
  · simp only [Option.bind_some]
    refine Tot.bind (pick_tot hb q1 3 (by omega) (by omega)) ?_
    rintro ⟨v2, q2⟩ ⟨h2, _, g2⟩
    simp only at h2 g2
    exact Tot.pos (by omega) (Tot.pos (by simp; omega) (Tot.ret ⟨by simp only; omega, by simp only; omega, fun z => absurd z hn1⟩))
theorem order_tot {b : List Int} (hb : Src b) (p n : Int) (hp : 0 ≤ p) (hp' : p ≤ 900000000 - 100) (hn : n ≤ 1000) : Tot (fun k => spec_l20Order.f k b p n) (fun r => p ≤ r.2.2 ∧ r.2.2 ≤ p + 12 ∧ (n < 1 → OV r.1 r.2.1)) := by
  unfold spec_l20Order.f
  refine Tot.bind (pick_tot hb p 16 hp (by omega)) ?_
  rintro ⟨a, q0⟩ ⟨h0, _, g0⟩
  simp only at h0 g0
  have ga := g0 (by omega)
  simp only [specLen_eq, Option.bind_some]
  have hl := oLen_in (a := a) (by omega)
  refine Tot.ite (fun h2 => ?_) (fun h2 => Tot.ite (fun h3 => ?_) (fun h3 => ?_))
  · refine Tot.bind (pick_tot hb q0 256 (by omega) (by omega)) ?_
    rintro ⟨v1, q1⟩ ⟨h1, _, g1⟩
    simp only at h1 g1
    have := g1 (by omega)
    exact (orderEnd hb q1 a v1 (by omega) (by omega) n hn).mono fun r hr => ⟨by omega, by omega, fun z => by rw [(hr.2.2 z).1, (hr.2.2 z).2]; exact .inr (.inl ⟨h2, by omega⟩)⟩
  · refine Tot.bind (pick_tot hb q0 16 (by omega) (by omega)) ?_
    rintro ⟨v1, q1⟩ ⟨h1, _, g1⟩
    simp only at h1 g1
    refine Tot.bind (pick_tot hb q1 16 (by omega) (by omega)) ?_
    rintro ⟨v2, q2⟩ ⟨h2', _, g2⟩
    simp only at h2' g2
    refine Tot.bind (pick_tot hb q2 40 (by omega) (by omega)) ?_
    rintro ⟨v3, q3⟩ ⟨h3', _, g3⟩
    simp only at h3' g3
    refine Tot.bind (pick_tot hb q3 8 (by omega) (by omega)) ?_
    rintro ⟨v4, q4⟩ ⟨h4, _, g4⟩
    simp only at h4 g4
    refine Tot.bind (pick_tot hb q4 256 (by omega) (by omega)) ?_
    rintro ⟨v5, q5⟩ ⟨h5, _, g5⟩
    simp only at h5 g5
    have f1 := g1 (by omega)
    have f2 := g2 (by omega)
    have f3 := g3 (by omega)
    have f4 := g4 (by omega)
    have f5 := g5 (by omega)
    simp only [Option.bind_some, w64 (x := 240 + v2) (by omega) (by omega), w64 (x := 512 + v3) (by omega) (by omega), w64 (x := 768 + v4) (by omega) (by omega), w64 (x := v5 * 4) (by omega) (by omega)]
    refine Tot.bind (pick_tot hb q5 5 (by omega) (by omega)) ?_
    rintro ⟨v6, q6⟩ ⟨h6, _, g6⟩
    simp only at h6 g6 ⊢
    have f6 := g6 (by omega)
    have hl6 : v6 < (([v1, 240 + v2, 512 + v3, 768 + v4, v5 * 4] : List Int).length : Int) := by simp; omega
    have hm := rd_mem (xs := [v1, 240 + v2, 512 + v3, 768 + v4, v5 * 4]) f6.1 hl6
    simp only [List.mem_cons, List.not_mem_nil, or_false] at hm
    refine Tot.pos f6.1 (Tot.pos hl6 ?_)
    exact (orderEnd hb q6 a _ (by omega) (by omega) n hn).mono fun r hr => ⟨by omega, by omega, fun z => by rw [(hr.2.2 z).1, (hr.2.2 z).2]; exact .inr (.inr ⟨h3, by omega⟩)⟩
  · exact (orderEnd hb q0 a 0 (by omega) (by omega) n hn).mono fun r hr => ⟨by omega, by omega, fun z => by rw [(hr.2.2 z).1, (hr.2.2 z).2]; exact .inl ⟨by omega, rfl⟩⟩
theorem romFill {b : List Int} (x3 : List (List Int)) (x4 v p : Int) (hv : Byt v) (h3 : x3.length ≤ 10) (Q : List (List Int) × Int → Prop)
    (hA : ∀ x5, BankOk x5 → Tot (fun k => spec_l20Rom.l0 k (x3 ++ [x5]) (wrap64 (x4 - 1)) b p) Q) : ∀ (e : Nat) (x5 : List Int), 256 - x5.length = e → x5.length ≤ 256 → (∀ y ∈ x5, Byt y) → Tot (fun k => spec_l20Rom.l2 k x3 x4 x5 v b p) Q := by
  intro e
  induction e with
  | zero =>
    intro x5 he hl hy
    refine Tot.up ?_
    unfold spec_l20Rom.l2
    exact Tot.neg (by omega) (Tot.pos (by omega) (hA x5 ⟨by omega, hy⟩))
  | succ e ih =>
    intro x5 he hl hy
    refine Tot.up ?_
    unfold spec_l20Rom.l2
    refine Tot.pos (by omega) (Tot.pos (by omega) (ih _ (by rw [List.length_append, List.length_singleton]; omega) (by rw [List.length_append, List.length_singleton]; omega) fun y hm => ?_))
    rcases List.mem_append.1 hm with hm | hm
    · exact hy y hm
    · rw [List.mem_singleton.1 hm]; exact hv
theorem romOrders {b : List Int} (hb : Src b) (x3 : List (List Int)) (x4 : Int) (h3 : x3.length ≤ 10) (Q : List (List Int) × Int → Prop) (B : Int) (hB : B ≤ 1000000)
    (hA : ∀ x5 p, 0 ≤ p → p ≤ B → BankOk x5 → Tot (fun k => spec_l20Rom.l0 k (x3 ++ [x5]) (wrap64 (x4 - 1)) b p) Q) : ∀ (e : Nat) (x5 : List Int) (p : Int), 0 ≤ p → p + 12 * e + 2 ≤ B → x5.length + 3 * e ≤ 256 → (∀ y ∈ x5, Byt y) → Tot (fun k => spec_l20Rom.l1 k x3 x4 x5 (e : Int) b p) Q := by
  intro e
  induction e with
  | zero =>
    intro x5 p hp hp' hl hy
    refine Tot.up ?_
    unfold spec_l20Rom.l1
    refine Tot.neg (by omega) (Tot.bind (pick_tot hb p 256 hp (by omega)) ?_)
    rintro ⟨v1, q1⟩ ⟨h1, _, g1⟩
    simp only at h1 g1
    have f1 := g1 (by omega)
    refine Tot.bind (Tot.ret (Q := (· = [0, v1, 15])) rfl) ?_
    rintro _ rfl
    refine Tot.bind (pick_tot hb q1 3 (by omega) (by omega)) ?_
    rintro ⟨v2, q2⟩ ⟨h2, _, g2⟩
    simp only at h2 g2 ⊢
    have f2 := g2 (by omega)
    have hl2 : v2 < (([0, v1, 15] : List Int).length : Int) := by simp; omega
    have hm := rd_mem (xs := [0, v1, 15]) f2.1 hl2
    simp only [List.mem_cons, List.not_mem_nil, or_false] at hm
    refine Tot.pos f2.1 (Tot.pos hl2 (romFill x3 x4 _ q2 (by unfold Byt; omega) h3 Q (fun x5 h5 => hA x5 q2 (by omega) (by omega) h5) _ x5 rfl (by omega) hy))
  | succ e ih =>
    intro x5 p hp hp' hl hy
    refine Tot.up ?_
    unfold spec_l20Rom.l1
    refine Tot.pos (by omega) (Tot.bind (order_tot hb p 0 hp (by omega) (by omega)) ?_)
    rintro ⟨a, c, q⟩ ⟨h1, h2, _⟩
    simp only at h1 h2
    obtain ⟨o, eo, ho1, ho2⟩ := specOB_ok a c
    simp only [eo]
    refine Tot.bind (Tot.ret (Q := (· = o)) rfl) ?_
    rintro _ rfl
    rw [show wrap64 (((e + 1 : Nat) : Int) - 1) = (e : Int) by rw [w64] <;> omega]
    refine Tot.pos (by omega) (ih _ q (by omega) (by omega) (by rw [List.length_append]; omega) fun y hm => ?_)
    rcases List.mem_append.1 hm with hm | hm
    · exact hy y hm
    · exact ho2 y hm
theorem rom_loop {b : List Int} (hb : Src b) : ∀ (d : Nat) (x3 : List (List Int)) (p B : Int), 0 ≤ p → p + 200 * d ≤ B → B ≤ 900000 → x3.length + d ≤ 3 → 1 ≤ x3.length + d → (∀ x ∈ x3, BankOk x) → Tot (fun k => spec_l20Rom.l0 k x3 (d : Int) b p) (fun r => (ValidRom r.1 ∧ r.1.length ≤ 3) ∧ 0 ≤ r.2 ∧ r.2 ≤ B) := by
  intro d
  induction d with
  | zero =>
    intro x3 p B hp hp' hB hl hl1 hx
    refine Tot.up ?_
    unfold spec_l20Rom.l0
    exact Tot.neg (by omega) (Tot.ret ⟨⟨⟨by simp only; omega, hx⟩, by simp only; omega⟩, hp, by simp only; omega⟩)
  | succ d ih =>
    intro x3 p B hp hp' hB hl hl1 hx
    refine Tot.up ?_
    unfold spec_l20Rom.l0
    refine Tot.pos (by omega) (Tot.bind (pick_tot hb p 14 hp (by omega)) ?_)
    rintro ⟨v, q⟩ ⟨h1, _, g1⟩
    simp only at h1 g1
    obtain ⟨n, rfl⟩ := Int.eq_ofNat_of_zero_le (g1 (by omega)).1
    have hn := (g1 (by omega)).2
    refine romOrders hb x3 _ (by omega) _ (p + 190) (by omega) (fun x5 p' h0 h1 h5 => ?_) n [] q (by omega) (by omega) (by simp; omega) (by simp)
    rw [show wrap64 (((d + 1 : Nat) : Int) - 1) = (d : Int) by rw [w64] <;> omega]
    refine ih _ p' B h0 (by omega) hB (by rw [List.length_append, List.length_singleton]; omega) (by rw [List.length_append, List.length_singleton]; omega) fun x hm => ?_
    rcases List.mem_append.1 hm with hm | hm
    · exact hx x hm
    · rw [List.mem_singleton.1 hm]; exact h5
theorem rom_tot {b : List Int} (hb : Src b) (p : Int) (hp : 0 ≤ p) (hp' : p ≤ 90000) : Tot (fun k => spec_l20Rom.f k b p) (fun r => (ValidRom r.1 ∧ r.1.length ≤ 3) ∧ 0 ≤ r.2 ∧ r.2 ≤ p + 700) := by
  unfold spec_l20Rom.f
  refine Tot.bind (pick_tot hb p 3 hp (by omega)) ?_
  rintro ⟨v, q⟩ ⟨h1, _, g1⟩
  simp only at h1 g1 ⊢
  have f1 := g1 (by omega)
  obtain ⟨n, hn⟩ := Int.eq_ofNat_of_zero_le (show 0 ≤ 1 + v by omega)
  simp only [w64 (x := 1 + v) (by omega) (by omega)]
  simp only [hn]
  exact rom_loop hb n [] q (p + 700) (by omega) (by omega) (by omega) (by simp; omega) (by simp; omega) (by simp)
/-- What a drawn memory is. -/
def MemD (ram : List Int) (rom : List (List Int)) : Prop := ram.length ≤ 256 ∧ rom.length ≤ 4 ∧ ∀ x ∈ rom, x.length ≤ 256
theorem mem_loop {b : List Int} (hb : Src b) (n : Int) (hn : n ≤ 1000) (rom : List (List Int)) (hr : ValidRom rom) (bank : Int) : ∀ (d : Nat) (ram : List Int) (p : Int), 0 ≤ p → p + 10 * d ≤ 80000 → ram.length = 256 → Tot (fun k => spec_l20Memory.l0 k n (d : Int) b p ram rom bank) (fun r => MemD r.1 r.2.1 ∧ 0 ≤ r.2.2.2 ∧ r.2.2.2 ≤ 80010) := by
  have hR : rom.length ≤ 4 ∧ ∀ x ∈ rom, x.length ≤ 256 := ⟨hr.1.2, fun x h => by have := (hr.2 x h).1; omega⟩
  intro d
  induction d with
  | zero =>
    intro ram p hp hp' hl
    refine Tot.up ?_
    simp only [spec_l20Memory.l0]
    refine Tot.neg (by omega) (Tot.bind (pick_tot hb p _ hp (by omega)) ?_)
    rintro ⟨v1, q1⟩ ⟨h1, _, _⟩
    simp only at h1 ⊢
    refine Tot.bind (odd_tot hb q1 n (by omega) (by omega) (by omega)) ?_
    rintro ⟨v2, q2⟩ ⟨h2, h2', _⟩
    simp only at h2 h2' ⊢
    refine Tot.ite (fun _ => ?_) (fun _ => Tot.ret ⟨⟨by simp only; omega, hR⟩, by simp only; omega, by simp only; omega⟩)
    refine Tot.bind (pick_tot hb q2 4 (by omega) (by omega)) ?_
    rintro ⟨v3, q3⟩ ⟨h3, _, _⟩
    simp only at h3 ⊢
    refine Tot.ite (fun _ => ?_) (fun _ => Tot.ite (fun _ => ?_) (fun _ => Tot.ite (fun _ => ?_) (fun _ => ?_)))
    · refine Tot.bind (pick_tot hb q3 256 (by omega) (by omega)) ?_
      rintro ⟨v4, q4⟩ ⟨h4, _, g4⟩
      simp only at h4 g4 ⊢
      have f4 := g4 (by omega)
      refine Tot.bind (Tot.ret (Q := (· = [-1, 256])) rfl) ?_
      rintro _ rfl
      refine Tot.bind (pick_tot hb q4 2 (by omega) (by omega)) ?_
      rintro ⟨v5, q5⟩ ⟨h5, _, g5⟩
      simp only at h5 g5 ⊢
      have f5 := g5 (by omega)
      exact Tot.pos f5.1 (Tot.pos (by simp; omega) (Tot.pos f4.1 (Tot.pos (by omega) (Tot.ret ⟨⟨by simp only [List.length_set]; omega, hR⟩, by simp only; omega, by simp only; omega⟩))))
    · exact Tot.pos (by omega) (Tot.ret ⟨⟨by simp only [List.length_drop]; omega, hR⟩, by simp only; omega, by simp only; omega⟩)
    · exact Tot.ret ⟨⟨by simp only; omega, hR⟩, by simp only; omega, by simp only; omega⟩
    · exact Tot.ret ⟨⟨by simp only; omega, by simp, by simp⟩, by simp only; omega, by simp only; omega⟩
  | succ d ih =>
    intro ram p hp hp' hl
    refine Tot.up ?_
    simp only [spec_l20Memory.l0]
    refine Tot.pos (by omega) (Tot.bind (pick_tot hb p 16 hp (by omega)) ?_)
    rintro ⟨v1, q1⟩ ⟨h1, _, g1⟩
    simp only at h1 g1 ⊢
    have f1 := g1 (by omega)
    refine Tot.bind (pick_tot hb q1 16 (by omega) (by omega)) ?_
    rintro ⟨v2, q2⟩ ⟨h2, _, g2⟩
    simp only at h2 g2 ⊢
    have f2 := g2 (by omega)
    rw [w64 (x := 240 + v2) (by omega) (by omega), show wrap64 (((d + 1 : Nat) : Int) - 1) = (d : Int) from by rw [w64] <;> omega]
    refine Tot.bind (Tot.ret (Q := (· = [v1, 240 + v2])) rfl) ?_
    rintro _ rfl
    refine Tot.bind (pick_tot hb q2 2 (by omega) (by omega)) ?_
    rintro ⟨v3, q3⟩ ⟨h3, _, g3⟩
    simp only at h3 g3 ⊢
    have f3 := g3 (by omega)
    have hl3 : v3 < (([v1, 240 + v2] : List Int).length : Int) := by simp; omega
    have hm := rd_mem (xs := [v1, 240 + v2]) f3.1 hl3
    simp only [List.mem_cons, List.not_mem_nil, or_false] at hm
    refine Tot.pos f3.1 (Tot.pos hl3 (Tot.bind (pick_tot hb q3 256 (by omega) (by omega)) ?_))
    rintro ⟨v4, q4⟩ ⟨h4, _, _⟩
    simp only at h4 ⊢
    exact Tot.pos (by omega) (Tot.pos (by omega) (ih _ q4 (by omega) (by omega) (by rw [List.length_set]; exact hl)))
theorem mem_tot {b : List Int} (hb : Src b) (p n : Int) (hp : 0 ≤ p) (hp' : p ≤ 60000) (hn : n ≤ 1000) : Tot (fun k => spec_l20Memory.f k b p n) (fun r => MemD r.1 r.2.1 ∧ 0 ≤ r.2.2.2 ∧ r.2.2.2 ≤ 80010) := by
  unfold spec_l20Memory.f
  refine Tot.bind (rom_tot hb p hp (by omega)) ?_
  rintro ⟨rom, q⟩ ⟨⟨hr, hr3⟩, h0, h1⟩
  simp only at hr hr3 h0 h1 ⊢
  have hx : ∀ x ∈ rom, x.length ≤ 1048576 := fun x h => by have := (hr.2 x h).1; omega
  refine Tot.bind (specNew_tot rom (by omega) hx) fun q1 hq1 => ?_
  rw [hq1.1 hr]
  simp only
  refine Tot.bind (pick_tot hb q 6 h0 (by omega)) ?_
  rintro ⟨v, p1⟩ ⟨h2, _, g2⟩
  simp only at h2 g2 ⊢
  obtain ⟨m, rfl⟩ := Int.eq_ofNat_of_zero_le (g2 (by omega)).1
  have := (g2 (by omega)).2
  exact mem_loop hb n hn rom hr 0 m _ p1 (by omega) (by omega) (List.length_replicate ..)
theorem drawRC_tot (l : List Int) (hw : ∀ x ∈ l, (Lit.int .u8 x).wf = true) : Tot (fun k => spec_DrawReadCheated.f k l) (fun r => MemD r.1 r.2.1 ∧ r.2.2.2.1.length ≤ 80 ∧ -1 ≤ r.2.2.2.2 ∧ r.2.2.2.2 ≤ 1024) := by
  unfold spec_DrawReadCheated.f
  refine Tot.bind (open_tot l hw) ?_
  rintro ⟨b, p⟩ ⟨hb, hp⟩
  simp only at hb hp ⊢
  refine Tot.bind (mem_tot hb p 14 (by omega) (by omega) (by omega)) ?_
  rintro ⟨ram, rom, bank, q⟩ ⟨hm, h0, h1⟩
  simp only at hm h0 h1 ⊢
  refine Tot.bind (cheats_tot hb q 14 h0 (by omega) (by omega)) ?_
  rintro ⟨xs, q1⟩ ⟨hx, h2, h3⟩
  simp only at hx h2 h3 ⊢
  refine Tot.bind (pick_tot hb q1 6 h2 (by omega)) ?_
  rintro ⟨v4, q4⟩ ⟨h4, _, g4⟩
  simp only at h4 g4 ⊢
  have f4 := g4 (by omega)
  refine Tot.bind (place_tot hb q4 5 (by omega) (by omega) (by omega)) ?_
  rintro ⟨v5, q5⟩ ⟨h5, h5', h5''⟩
  simp only at h5 h5' h5'' ⊢
  refine Tot.bind (Tot.ret (Q := (· = [v4, v5])) rfl) ?_
  rintro _ rfl
  refine Tot.bind (pick_tot hb q5 4 (by omega) (by omega)) ?_
  rintro ⟨v6, q6⟩ ⟨h6, _, g6⟩
  simp only at h6 g6 ⊢
  have f6 := g6 (by omega)
  rw [tdiv_nn f6.1, w64 (x := v6 / 3) (by omega) (by omega)]
  have hl : v6 / 3 < (([v4, v5] : List Int).length : Int) := by simp; omega
  have hmm := rd_mem (xs := [v4, v5]) (i := v6 / 3) (by omega) hl
  simp only [List.mem_cons, List.not_mem_nil, or_false] at hmm
  exact Tot.pos (by omega) (Tot.pos hl (Tot.ret ⟨hm, hx, by simp only; omega, by simp only; omega⟩))
theorem find_perm (a x : Int) {l1 l2 : List S59} (h : l1.Perm l2) : l1.Pairwise (fun c d => c.f0 ≠ d.f0) → impl_ReadCheated.find a x l1 = impl_ReadCheated.find a x l2 := by
  induction h with
  | nil => intro _; rfl
  | cons c _ ih =>
    intro hp
    simp only [impl_ReadCheated.find]
    rw [ih (List.pairwise_cons.1 hp).2]
  | swap c d l =>
    intro hp
    have h := (List.pairwise_cons.1 hp).1 c (List.mem_cons_self ..)
    simp only [impl_ReadCheated.find]
    by_cases h1 : d.f0 = a
    · have h2 : ¬ c.f0 = a := fun z => h (by omega)
      simp only [h2, false_and, if_false]
    · simp only [h1, false_and, if_false]
  | trans h1 h2 ih1 ih2 =>
    intro hp
    rw [ih1 hp]
    exact ih2 ((h1.pairwise_iff (fun h z => h z.symm)).1 hp)
theorem order_loop (ram : List Int) (rom : List (List Int)) (bank : Int) (l : List S59) (a g : Int) (hm : ram.length ≤ 1048576) (hl : l.length ≤ 1048576) (hg : RC ram rom bank l a g) : ∀ (d : Nat), d ≤ l.length → (∀ (i j : Nat) (hi : i < l.length) (hj : j < l.length), i < j → d ≤ j → l[i].f0 ≠ l[j].f0) → Tot (fun k => laws_FnCheatsOrder.l0 k l a g (l.drop d).reverse ((d : Int) - 1) ram rom bank) (· = true) := by
  intro d
  induction d with
  | zero =>
    intro _ hp
    refine Tot.up ?_
    simp only [laws_FnCheatsOrder.l0, alive_eq, Option.bind_some]
    refine Tot.neg (by omega) ?_
    rw [List.drop_zero]
    refine Tot.bind (implRC_tot ram rom bank l.reverse a hm (by rw [List.length_reverse]; exact hl)) fun v hv => Tot.pos ?_ (Tot.ret rfl)
    have hgood : Good ram rom bank l.reverse a ↔ Good ram rom bank l a := by
      unfold Good
      rw [List.length_reverse]
      simp only [List.mem_reverse]
    by_cases z : Good ram rom bank l a
    · rw [hv.1 (hgood.2 z), hg.1 z]
      refine (find_perm a _ (List.reverse_perm l).symm ?_).symm
      rw [List.pairwise_iff_getElem]
      exact fun i j hi hj h => hp i j hi hj h (Nat.zero_le _)
    · rw [hv.2 (fun y => z (hgood.1 y)), hg.2 z]
  | succ d ih =>
    intro hd hp
    have hlt : d < l.length := by omega
    rw [show ((d + 1 : Nat) : Int) - 1 = (d : Int) by omega]
    refine Tot.up ?_
    simp only [laws_FnCheatsOrder.l0]
    refine Tot.pos (by omega) ?_
    have key : ∀ (e j : Nat), d - j = e → j ≤ d → (∀ (i : Nat) (hi : i < l.length), i < j → l[i].f0 ≠ l[d].f0) → Tot (fun k => laws_FnCheatsOrder.l1 k l a g (l.drop (d + 1)).reverse (d : Int) (j : Int) ram rom bank) (· = true) := by
      intro e
      induction e with
      | zero =>
        intro j he hj hq
        refine Tot.up ?_
        simp only [laws_FnCheatsOrder.l1, cheat_at hlt]
        refine Tot.neg (by omega) (Tot.pos (by omega) (Tot.pos (by omega) (Tot.pos (by rw [List.length_reverse, List.length_drop]; omega) ?_)))
        rw [w64 (x := (d : Int) - 1) (by omega) (by omega)]
        have := ih (by omega) (fun i j' hi hj' h1 h2 => by
          by_cases z : j' = d
          · subst z; exact hq i hi (by omega)
          · exact hp i j' hi hj' h1 (by omega))
        rw [List.drop_eq_getElem_cons hlt, List.reverse_cons] at this
        exact this
      | succ e ihe =>
        intro j he hj hq
        have hjl : j < l.length := by omega
        refine Tot.up ?_
        simp only [laws_FnCheatsOrder.l1, cheat_at hlt, cheat_at hjl, next_i hjl (by omega), alive_eq, Option.bind_some]
        refine Tot.pos (by omega) (Tot.pos (by omega) (Tot.pos (by omega) (Tot.pos (by omega) (Tot.pos (by omega) (Tot.ite (fun _ => Tot.ret rfl) (fun h => ?_))))))
        refine ihe (j + 1) (by omega) (by omega) fun i hi hij => ?_
        by_cases z : i = j
        · subst z; exact h
        · exact hq i hi (by omega)
    exact key d 0 rfl (Nat.zero_le _) (fun i hi h => absurd h (by omega))
theorem FnCheatsOrder (l0 : List Int) (_ : l0.length ≤ 9223372036854775807) (hw : ∀ y ∈ l0, (Lit.int .u8 y).wf = true) : ∃ k, laws_FnCheatsOrder.f k l0 = some true := by
  refine Tot.ex ?_
  unfold laws_FnCheatsOrder.f
  refine Tot.ite (fun _ => Tot.ret rfl) (fun _ => ?_)
  refine Tot.bind (drawRC_tot l0 hw) ?_
  rintro ⟨ram, rom, bank, l, a⟩ ⟨⟨hm, hr, hrr⟩, hl, a0, a1⟩
  simp only at hm hr hrr hl a0 a1 ⊢
  refine Tot.bind (implRC_tot ram rom bank l a (by omega) (by omega)) fun g hg => ?_
  refine Tot.bind (specRC_tot ram rom bank l a (by omega) (by omega) (fun x h => by have := hrr x h; omega) (by omega)) fun w hw' => ?_
  obtain rfl := RC_one hw' hg
  refine Tot.pos rfl ?_
  rw [w64 (x := (l.length : Int) - 1) (by omega) (by omega)]
  have := order_loop ram rom bank l a w (by omega) (by omega) hg l.length (Nat.le_refl _) (fun i j hi hj _ h => absurd hj (by omega))
  rw [List.drop_length, List.reverse_nil] at this
  exact this
end Go.Proofs.Ytekbnloceifdmaa.Pure
