/- ReadCartridge of BuildCartridge of valid banks returns them, and there are four bytes more than in the banks. No condition. -/
import Derived.Test.YtekbnloceifdmaaPFnBuildCartridgex9
import Derived.DataShut
namespace Go.Proofs.Ytekbnloceifdmaa.Pure
open Go.RowKit Go.Proofs.Ytekbnloceifdmaa.PFnBuildCartridge Go.Proofs.YtekbnloceifdmaaW.PrintWords Go.Proofs.YtekbnloceifdmaaW.PrintLast
set_option linter.unusedSimpArgs false
set_option linter.unusedVariables false
theorem i64_of {n : Int} (h : (Lit.int .i64 n).wf = true) : -9223372036854775808 ≤ n ∧ n ≤ 9223372036854775807 := (Lit.wf_int_iff .i64 n).1 h
theorem u8_of {n : Int} (h : (Lit.int .u8 n).wf = true) : 0 ≤ n ∧ n ≤ 255 := (Lit.wf_int_iff .u8 n).1 h
theorem w64 {x : Int} (h0 : -9223372036854775808 ≤ x) (h1 : x ≤ 9223372036854775807) : wrap64 x = x := by unfold wrap64; omega
theorem some_dec {p q : Prop} [Decidable p] [Decidable q] (h : p ↔ q) : some (decide p) = some (decide q) := by simp only [h]
theorem some_ff {p : Prop} [Decidable p] (h : ¬ p) : some false = some (decide p) := by rw [decide_eq_false h]
theorem some_tt {p : Prop} [Decidable p] (h : p) : some true = some (decide p) := by rw [decide_eq_true h]
theorem tmod_nn {a b : Int} (h : 0 ≤ a) : Int.tmod a b = a % b := Int.tmod_eq_emod_of_nonneg h
theorem tdiv_nn {a b : Int} (h : 0 ≤ a) : Int.tdiv a b = a / b := Int.tdiv_eq_ediv_of_nonneg h
/-- With enough rounds it answers, and Q holds of the answer. -/
def Tot {α : Type} (g : Nat → Option α) (Q : α → Prop) : Prop := ∃ r, Q r ∧ ∃ K, ∀ k, K ≤ k → g k = some r
section
variable {α β : Type} {g h : Nat → Option α} {f : Nat → α → Option β} {Q : α → Prop} {R : β → Prop} {c : Prop} [Decidable c]
theorem Tot.ret {r : α} (h : Q r) : Tot (fun _ => some r) Q := ⟨r, h, 0, fun _ _ => rfl⟩
theorem Tot.of {r : α} (e : ∀ k, 0 < k → g k = some r) (h : Q r) : Tot g Q := ⟨r, h, 1, fun k hk => e k hk⟩
theorem Tot.bind (hg : Tot g Q) (hf : ∀ a, Q a → Tot (fun k => f k a) R) : Tot (fun k => (g k).bind (f k)) R := by
  obtain ⟨a, ha, K, hK⟩ := hg
  obtain ⟨b, hb, L, hL⟩ := hf a ha
  refine ⟨b, hb, K + L, fun k hk => ?_⟩
  show (g k).bind (f k) = some b
  rw [hK k (by omega)]
  exact hL k (by omega)
theorem Tot.ite (hg : c → Tot g Q) (hh : ¬ c → Tot h Q) : Tot (fun k => if c then g k else h k) Q := by
  by_cases hc : c
  · simp only [if_pos hc]; exact hg hc
  · simp only [if_neg hc]; exact hh hc
theorem Tot.pos (hc : c) (hg : Tot g Q) : Tot (fun k => if c then g k else h k) Q := by simp only [if_pos hc]; exact hg
theorem Tot.neg (hc : ¬ c) (hh : Tot h Q) : Tot (fun k => if c then g k else h k) Q := by simp only [if_neg hc]; exact hh
theorem Tot.up (h : Tot (fun k => g (k + 1)) Q) : Tot g Q := by
  obtain ⟨r, hr, K, hK⟩ := h
  refine ⟨r, hr, K + 1, fun k hk => ?_⟩
  obtain ⟨m, rfl⟩ : ∃ m, k = m + 1 := ⟨k - 1, by omega⟩
  exact hK m (by omega)
theorem Tot.mono {Q' : α → Prop} (h : Tot g Q) (hq : ∀ a, Q a → Q' a) : Tot g Q' := by
  obtain ⟨r, hr, K⟩ := h
  exact ⟨r, hq r hr, K⟩
theorem Tot.ex {g : Nat → Option Bool} (h : Tot g (· = true)) : ∃ k, g k = some true := by
  obtain ⟨r, rfl, K, hK⟩ := h
  exact ⟨K, hK K (Nat.le_refl _)⟩
/-- Two runs of the same answer alike. -/
theorem Tot.same (h : Tot g Q) : ∃ r, Q r ∧ Tot g (· = r) := by
  obtain ⟨r, hr, K⟩ := h
  exact ⟨r, hr, r, rfl, K⟩
end
theorem rd_at {xs : List Int} {i : Nat} (h : i < xs.length) : rd xs (i : Int) = xs[i] := by
  unfold rd
  rw [List.getD_eq_getElem?_getD, Int.toNat_natCast, List.getElem?_eq_getElem h]; rfl
theorem inext {i n : Nat} (h : i < n) (hn : n ≤ 9223372036854775807) : wrap64 ((i : Int) + 1) = ((i + 1 : Nat) : Int) := by
  rw [w64] <;> omega
theorem iall_drop {α : Type} {P : α → Prop} {xs : List α} {i : Nat} (h : i < xs.length) : (∀ x ∈ xs.drop i, P x) ↔ P xs[i] ∧ ∀ x ∈ xs.drop (i + 1), P x := by
  rw [List.drop_eq_getElem_cons h, List.forall_mem_cons]
theorem itake_set {α : Type} {ys : List α} {i : Nat} (h : i < ys.length) (c : α) : (ys.set i c).take (i + 1) = ys.take i ++ [c] := by
  rw [List.take_succ_eq_append_getElem (by rw [List.length_set]; exact h), List.getElem_set_self, List.take_set, List.set_eq_of_length_le (by rw [List.length_take]; omega)]
theorem l1In_eq (a b c : Int) : spec_l1In.f a b c = some (decide (b ≤ a ∧ a ≤ c)) := by
  unfold spec_l1In.f
  split
  · exact some_dec (by omega)
  · exact some_ff (by omega)
theorem l1Byte_eq (a : Int) : spec_l1Byte.f a = some (decide (0 ≤ a ∧ a ≤ 255)) := by
  unfold spec_l1Byte.f
  rw [l1In_eq]; rfl
theorem within_eq (a b c : Int) : impl_within.f a b c = some (decide (b ≤ a ∧ a ≤ c)) := by
  unfold impl_within.f
  split
  · exact some_dec (by omega)
  · exact some_ff (by omega)
theorem isByte_eq (a : Int) : impl_isByte.f a = some (decide (0 ≤ a ∧ a ≤ 255)) := by
  unfold impl_isByte.f
  rw [within_eq]; rfl
def Byt (x : Int) : Prop := 0 ≤ x ∧ x ≤ 255
theorem l2Bytes_loop (xs : List Int) (n : Int) (hm : xs.length ≤ 9223372036854775807) : ∀ (d i : Nat), xs.length - i = d → i ≤ xs.length →
    Tot (fun k => spec_l2Bytes.l0 k xs n (i : Int)) (fun r => r = true ↔ (∀ x ∈ xs.drop i, Byt x) ∧ (xs.length : Int) = n) := by
  intro d
  induction d with
  | zero =>
    intro i hd hi
    refine Tot.up ?_
    simp only [spec_l2Bytes.l0]
    refine Tot.neg (by omega) (Tot.ret ?_)
    rw [List.drop_of_length_le (by omega)]
    simp
  | succ d ih =>
    intro i hd hi
    have hlt : i < xs.length := by omega
    refine Tot.up ?_
    simp only [spec_l2Bytes.l0, rd_at hlt, inext hlt hm, l1Byte_eq, Option.bind_some, decide_eq_true_eq]
    refine Tot.pos (by omega) (Tot.pos (by omega) (Tot.ite (fun h => ?_) (fun h => Tot.ret ?_)))
    · refine (ih (i + 1) (by omega) (by omega)).mono fun r hr => ?_
      rw [hr, iall_drop hlt]
      exact ⟨fun z => ⟨⟨h, z.1⟩, z.2⟩, fun z => ⟨z.1.2, z.2⟩⟩
    · rw [iall_drop hlt]
      exact ⟨fun z => (by cases z), fun z => absurd z.1.1 h⟩
theorem l2Bytes_tot (xs : List Int) (n : Int) (hm : xs.length ≤ 9223372036854775807) : Tot (fun k => spec_l2Bytes.f k xs n) (fun r => r = true ↔ (∀ x ∈ xs, Byt x) ∧ (xs.length : Int) = n) := by
  unfold spec_l2Bytes.f
  exact l2Bytes_loop xs n hm xs.length 0 rfl (Nat.zero_le _)
theorem allBytes_loop (xs : List Int) (hm : xs.length ≤ 9223372036854775807) : ∀ (d i : Nat), xs.length - i = d → i ≤ xs.length →
    Tot (fun k => impl_allBytes.l0 k xs (xs.length : Int) (i : Int)) (fun r => r = true ↔ ∀ x ∈ xs.drop i, Byt x) := by
  intro d
  induction d with
  | zero =>
    intro i hd hi
    refine Tot.up ?_
    simp only [impl_allBytes.l0]
    refine Tot.neg (by omega) (Tot.ret ?_)
    rw [List.drop_of_length_le (by omega)]
    simp
  | succ d ih =>
    intro i hd hi
    have hlt : i < xs.length := by omega
    refine Tot.up ?_
    simp only [impl_allBytes.l0, rd_at hlt, inext hlt hm, isByte_eq, Option.bind_some, decide_eq_true_eq]
    refine Tot.pos (by omega) (Tot.pos (by omega) (Tot.pos (by omega) (Tot.ite (fun h => ?_) (fun h => Tot.ret ?_))))
    · refine (ih (i + 1) (by omega) (by omega)).mono fun r hr => ?_
      rw [hr, iall_drop hlt]
      exact ⟨fun z => ⟨h, z⟩, fun z => z.2⟩
    · rw [iall_drop hlt]
      exact ⟨fun z => (by cases z), fun z => absurd z.1 h⟩
theorem allBytes_tot (xs : List Int) (hm : xs.length ≤ 9223372036854775807) : Tot (fun k => impl_allBytes.f k xs) (fun r => r = true ↔ ∀ x ∈ xs, Byt x) := by
  unfold impl_allBytes.f
  exact allBytes_loop xs hm xs.length 0 rfl (Nat.zero_le _)
/-! ### Banks -/
theorem rdR_at {xs : List (List Int)} {i : Nat} (h : i < xs.length) : rd_L1 xs (i : Int) = xs[i] := by
  unfold rd_L1
  rw [List.getD_eq_getElem?_getD, Int.toNat_natCast, List.getElem?_eq_getElem h]; rfl
def BankOk (x : List Int) : Prop := x.length = 256 ∧ ∀ b ∈ x, Byt b
def ValidRom (r : List (List Int)) : Prop := (1 ≤ r.length ∧ r.length ≤ 4) ∧ ∀ x ∈ r, BankOk x
theorem sum_bd : ∀ (l : List Int), (∀ x ∈ l, Byt x) → 0 ≤ l.sum ∧ l.sum ≤ 255 * l.length
  | [], _ => by simp
  | x :: l, h => by
    have h1 := h x (List.mem_cons_self ..)
    have h2 := sum_bd l (fun y hy => h y (List.mem_cons_of_mem _ hy))
    unfold Byt at h1
    rw [List.sum_cons, List.length_cons]
    omega
theorem sum_drop {l : List Int} {i : Nat} (h : i < l.length) : (l.drop i).sum = l[i] + (l.drop (i + 1)).sum := by
  rw [List.drop_eq_getElem_cons h, List.sum_cons]
theorem flat_drop {r : List (List Int)} {i : Nat} (h : i < r.length) : (r.drop i).flatten = r[i] ++ (r.drop (i + 1)).flatten := by
  rw [List.drop_eq_getElem_cons h, List.flatten_cons]
theorem flat_length : ∀ {r : List (List Int)}, (∀ x ∈ r, x.length = 256) → r.flatten.length = 256 * r.length
  | [], _ => rfl
  | x :: r, h => by
    rw [List.flatten_cons, List.length_append, h x (List.mem_cons_self ..), flat_length (fun y hy => h y (List.mem_cons_of_mem _ hy)), List.length_cons]
    omega
theorem flat_byt {r : List (List Int)} (h : ∀ x ∈ r, BankOk x) : ∀ b ∈ r.flatten, Byt b := by
  intro b hb
  obtain ⟨x, hx, hbx⟩ := List.mem_flatten.1 hb
  exact (h x hx).2 b hbx
/-- The bytes of a cartridge. -/
def build (r : List (List Int)) : List Int := [71, 67, (r.length : Int), r.flatten.sum % 256] ++ r.flatten
theorem build_length {r : List (List Int)} (h : ValidRom r) : (build r).length = 4 + 256 * r.length := by
  unfold build
  rw [List.length_append, flat_length (fun x hx => (h.2 x hx).1)]
  simp
theorem bankSum_inner (r : List (List Int)) (hr : r.length ≤ 4) (hv : ∀ x ∈ r, BankOk x) (i : Nat) (hi : i < r.length) (hA : ∀ s : Int, 0 ≤ s → s ≤ 255 * (256 * (i + 1)) → Tot (fun k => impl_bankSum.l0 k s r (r.length : Int) ((i + 1 : Nat) : Int)) (· = (s + (r.drop (i + 1)).flatten.sum) % 256)) :
    ∀ (d j : Nat) (s : Int), r[i].length - j = d → j ≤ r[i].length → 0 ≤ s → s ≤ 255 * (256 * i + j) → Tot (fun k => impl_bankSum.l1 k s r (r.length : Int) (i : Int) r[i] (r[i].length : Int) (j : Int)) (· = (s + ((r[i].drop j).sum + (r.drop (i + 1)).flatten.sum)) % 256) := by
  have hb := hv _ (List.getElem_mem hi)
  have hl := hb.1
  intro d
  induction d with
  | zero =>
    intro j s hd hj h0 h1
    refine Tot.up ?_
    simp only [impl_bankSum.l1, inext hi (by omega)]
    refine Tot.neg (by omega) ((hA s h0 (by omega)).mono fun q hq => ?_)
    rw [hq, show r[i].drop j = [] from List.drop_of_length_le (by omega), List.sum_nil, Int.zero_add]
  | succ d ih =>
    intro j s hd hj h0 h1
    have hlt : j < r[i].length := by omega
    have hbj := hb.2 _ (List.getElem_mem hlt)
    unfold Byt at hbj
    refine Tot.up ?_
    simp only [impl_bankSum.l1, rd_at hlt, inext hlt (by omega)]
    rw [w64 (x := s + r[i][j]) (by omega) (by omega)]
    refine Tot.pos (by omega) (Tot.pos (by omega) (Tot.pos (by omega) ?_))
    refine (ih (j + 1) _ (by omega) (by omega) (by omega) (by omega)).mono fun q hq => ?_
    rw [hq, sum_drop hlt]
    congr 1; omega
theorem bankSum_loop (r : List (List Int)) (hr : r.length ≤ 4) (hv : ∀ x ∈ r, BankOk x) : ∀ (d i : Nat) (s : Int), r.length - i = d → i ≤ r.length → 0 ≤ s → s ≤ 255 * (256 * i) → Tot (fun k => impl_bankSum.l0 k s r (r.length : Int) (i : Int)) (· = (s + (r.drop i).flatten.sum) % 256) := by
  intro d
  induction d with
  | zero =>
    intro i s hd hi h0 h1
    refine Tot.up ?_
    simp only [impl_bankSum.l0]
    refine Tot.neg (by omega) (Tot.ret ?_)
    rw [List.drop_of_length_le (by omega), tmod_nn h0]
    simp
  | succ d ih =>
    intro i s hd hi h0 h1
    have hlt : i < r.length := by omega
    refine Tot.up ?_
    simp only [impl_bankSum.l0, rdR_at hlt]
    refine Tot.pos (by omega) (Tot.pos (by omega) (Tot.pos (by omega) ?_))
    refine (bankSum_inner r hr hv i hlt (fun s' h0' h1' => ih (i + 1) s' (by omega) (by omega) h0' (by omega)) _ 0 s rfl (Nat.zero_le _) h0 (by omega)).mono fun q hq => ?_
    rw [hq, flat_drop hlt, List.sum_append, List.drop_zero]
theorem bankSum_tot (r : List (List Int)) (hr : r.length ≤ 4) (hv : ∀ x ∈ r, BankOk x) : Tot (fun k => impl_bankSum.f k r) (· = r.flatten.sum % 256) := by
  unfold impl_bankSum.f
  refine (bankSum_loop r hr hv r.length 0 0 rfl (Nat.zero_le _) (Int.le_refl _) (by omega)).mono fun q hq => ?_
  rw [hq]; simp
theorem banksValid_loop (r : List (List Int)) (hr : r.length ≤ 4) : ∀ (d i : Nat), r.length - i = d → i ≤ r.length → Tot (fun k => impl_banksValid.l0 k r (r.length : Int) (i : Int)) (fun q => q = true ↔ ∀ x ∈ r.drop i, BankOk x) := by
  intro d
  induction d with
  | zero =>
    intro i hd hi
    refine Tot.up ?_
    simp only [impl_banksValid.l0]
    refine Tot.neg (by omega) (Tot.ret ?_)
    rw [List.drop_of_length_le (by omega)]
    simp
  | succ d ih =>
    intro i hd hi
    have hlt : i < r.length := by omega
    refine Tot.up ?_
    simp only [impl_banksValid.l0, rdR_at hlt, inext hlt (by omega)]
    refine Tot.pos (by omega) (Tot.pos (by omega) (Tot.pos (by omega) (Tot.ite (fun h1 => ?_) (fun h1 => Tot.ret ?_))))
    · refine Tot.bind (allBytes_tot _ (by omega)) fun q hq => Tot.ite (fun h2 => ?_) (fun h2 => Tot.ret ?_)
      · refine (ih (i + 1) (by omega) (by omega)).mono fun q' hq' => ?_
        rw [hq', iall_drop hlt]
        exact ⟨fun z => ⟨⟨by omega, hq.1 h2⟩, z⟩, fun z => z.2⟩
      · rw [iall_drop hlt]
        exact ⟨fun z => (by cases z), fun z => absurd (hq.2 z.1.2) h2⟩
    · rw [iall_drop hlt]
      exact ⟨fun z => (by cases z), fun z => absurd (by rw [z.1.1]; rfl) h1⟩
theorem banksValid_tot (r : List (List Int)) : Tot (fun k => impl_banksValid.f k r) (fun q => q = true ↔ ValidRom r) := by
  unfold impl_banksValid.f
  simp only [within_eq, Option.bind_some, decide_eq_true_eq]
  refine Tot.ite (fun h => ?_) (fun h => Tot.ret ⟨fun z => (by cases z), fun z => absurd z.1 (by omega)⟩)
  refine (banksValid_loop r (by omega) r.length 0 rfl (Nat.zero_le _)).mono fun q hq => ?_
  rw [hq, List.drop_zero]
  exact ⟨fun z => ⟨by omega, z⟩, fun z => z.2⟩
theorem implBuild_loop (r : List (List Int)) (hr : r.length ≤ 4) (hv : ∀ x ∈ r, BankOk x) : ∀ (d i : Nat) (out : List Int), r.length - i = d → i ≤ r.length → out.length ≤ 4 + 256 * i → Tot (fun k => impl_BuildCartridge.l0 k out r (r.length : Int) (i : Int)) (· = out ++ (r.drop i).flatten) := by
  intro d
  induction d with
  | zero =>
    intro i out hd hi ho
    refine Tot.up ?_
    simp only [impl_BuildCartridge.l0]
    refine Tot.neg (by omega) (Tot.ret ?_)
    rw [List.drop_of_length_le (by omega)]
    simp
  | succ d ih =>
    intro i out hd hi ho
    have hlt : i < r.length := by omega
    have hb := (hv _ (List.getElem_mem hlt)).1
    refine Tot.up ?_
    simp only [impl_BuildCartridge.l0, rdR_at hlt, inext hlt (by omega)]
    refine Tot.pos (by omega) (Tot.pos (by omega) (Tot.pos (by omega) (Tot.pos (by omega) ?_)))
    refine (ih (i + 1) _ (by omega) (by omega) (by rw [List.length_append]; omega)).mono fun q hq => ?_
    rw [hq, flat_drop hlt, List.append_assoc]
/-- What BuildCartridge answers. -/
def BC (r : List (List Int)) (q : List Int) : Prop := (ValidRom r → q = build r) ∧ (¬ ValidRom r → q = [])
theorem implBuild_tot (r : List (List Int)) : Tot (fun k => impl_BuildCartridge.f k r) (BC r) := by
  unfold impl_BuildCartridge.f
  refine Tot.bind (banksValid_tot r) fun q hq => Tot.ite (fun h => ?_) (fun h => Tot.ret ⟨fun z => absurd (hq.2 z) h, fun _ => rfl⟩)
  have hv := hq.1 h
  refine Tot.bind (bankSum_tot r hv.1.2 hv.2) ?_
  rintro _ rfl
  refine (implBuild_loop r hv.1.2 hv.2 r.length 0 _ rfl (Nat.zero_le _) (by simp)).mono fun q hq => ⟨fun _ => ?_, fun z => absurd hv z⟩
  rw [hq]; rfl
theorem BC_one {r : List (List Int)} {q q' : List Int} (h : BC r q) (h' : BC r q') : q = q' := by
  by_cases hv : ValidRom r
  · rw [h.1 hv, h'.1 hv]
  · rw [h.2 hv, h'.2 hv]
def MV (ram : List Int) (rom : List (List Int)) (bank : Int) : Prop := ((∀ b ∈ ram, Byt b) ∧ ram.length = 256) ∧ ValidRom rom ∧ 0 ≤ bank ∧ bank ≤ (rom.length : Int) - 1
theorem specMV_loop (ram : List Int) (rom : List (List Int)) (bank : Int) (hm : ram.length ≤ 1048576) (hr : rom.length ≤ 1048576) (hrr : ∀ x ∈ rom, x.length ≤ 1048576) : ∀ (d i : Nat), rom.length - i = d → i ≤ rom.length → Tot (fun k => spec_MemoryValid.l0 k (i : Int) ram rom bank) (fun q => q = true ↔ (∀ x ∈ rom.drop i, BankOk x) ∧ ((∀ b ∈ ram, Byt b) ∧ ram.length = 256) ∧ (1 ≤ rom.length ∧ rom.length ≤ 4) ∧ 0 ≤ bank ∧ bank ≤ (rom.length : Int) - 1) := by
  intro d
  induction d with
  | zero =>
    intro i hd hi
    refine Tot.up ?_
    simp only [spec_MemoryValid.l0, l1In_eq, Option.bind_some, decide_eq_true_eq]
    refine Tot.neg (by omega) (Tot.bind (l2Bytes_tot ram 256 (by omega)) fun q hq => Tot.ite (fun h => Tot.ite (fun h2 => Tot.ret ?_) (fun h2 => Tot.ret ?_)) (fun h => Tot.ret ?_))
    · rw [w64 (by omega) (by omega), decide_eq_true_eq, List.drop_of_length_le (by omega)]
      have := hq.1 h
      exact ⟨fun z => ⟨by simp, ⟨this.1, by omega⟩, by omega, z⟩, fun z => z.2.2.2⟩
    · exact ⟨fun z => (by cases z), fun z => absurd z.2.2.1 (by omega)⟩
    · exact ⟨fun z => (by cases z), fun z => absurd (hq.2 ⟨z.2.1.1, by omega⟩) h⟩
  | succ d ih =>
    intro i hd hi
    have hlt : i < rom.length := by omega
    refine Tot.up ?_
    simp only [spec_MemoryValid.l0, rdR_at hlt, inext hlt (by omega)]
    refine Tot.pos (by omega) (Tot.pos (by omega) (Tot.bind (l2Bytes_tot _ 256 (by have := hrr _ (List.getElem_mem hlt); omega)) fun q hq => Tot.ite (fun h => ?_) (fun h => Tot.ret ?_)))
    · refine (ih (i + 1) (by omega) (by omega)).mono fun q' hq' => ?_
      have := hq.1 h
      rw [hq', iall_drop hlt]
      exact ⟨fun z => ⟨⟨⟨by omega, this.1⟩, z.1⟩, z.2⟩, fun z => ⟨z.1.2, z.2⟩⟩
    · rw [iall_drop hlt]
      exact ⟨fun z => (by cases z), fun z => absurd (hq.2 ⟨z.1.1.2, by rw [z.1.1.1]; rfl⟩) h⟩
theorem specMV_tot (ram : List Int) (rom : List (List Int)) (bank : Int) (hm : ram.length ≤ 1048576) (hr : rom.length ≤ 1048576) (hrr : ∀ x ∈ rom, x.length ≤ 1048576) : Tot (fun k => spec_MemoryValid.f k ram rom bank) (fun q => q = true ↔ MV ram rom bank) := by
  unfold spec_MemoryValid.f
  refine (specMV_loop ram rom bank hm hr hrr rom.length 0 rfl (Nat.zero_le _)).mono fun q hq => ?_
  rw [hq, List.drop_zero]
  exact ⟨fun z => ⟨z.2.1, ⟨z.2.2.1, z.1⟩, z.2.2.2⟩, fun z => ⟨z.2.1.2, z.1, z.2.1.1, z.2.2⟩⟩
theorem mv_new {rom : List (List Int)} : MV (List.replicate 256 0) rom 0 ↔ ValidRom rom := by
  unfold MV
  refine ⟨fun z => z.2.1, fun z => ⟨⟨fun b hb => ?_, List.length_replicate ..⟩, z, by omega, by have := z.1; omega⟩⟩
  rw [List.eq_of_mem_replicate hb]
  unfold Byt; omega
theorem mv_zero : ¬ MV [] [] 0 := fun z => by have := z.1.2; simp at this
/-- What NewMemory answers. -/
def NM (rom : List (List Int)) (q : List Int × List (List Int) × Int) : Prop := (ValidRom rom → q = (List.replicate 256 0, rom, 0)) ∧ (¬ ValidRom rom → q = ([], [], 0))
theorem specNew_loop (rom : List (List Int)) (hr : rom.length ≤ 1048576) (hrr : ∀ x ∈ rom, x.length ≤ 1048576) : ∀ (d i : Nat) (out : List (List Int)), rom.length - i = d → i ≤ rom.length → out ++ rom.drop i = rom → Tot (fun k => spec_NewMemory.l0 k rom (i : Int) (List.replicate 256 0) out 0) (NM rom) := by
  intro d
  induction d with
  | zero =>
    intro i out hd hi ho
    rw [List.drop_of_length_le (by omega), List.append_nil] at ho
    subst ho
    refine Tot.up ?_
    simp only [spec_NewMemory.l0]
    refine Tot.neg (by omega) (Tot.bind (specMV_tot _ out 0 (by rw [List.length_replicate]; omega) hr hrr) fun q hq => ?_)
    rw [mv_new] at hq
    exact Tot.ite (fun h => Tot.ret ⟨fun _ => rfl, fun z => absurd (hq.1 h) z⟩) (fun h => Tot.ret ⟨fun z => absurd (hq.2 z) h, fun _ => rfl⟩)
  | succ d ih =>
    intro i out hd hi ho
    have hlt : i < rom.length := by omega
    have hx := hrr _ (List.getElem_mem hlt)
    have hlen : out.length = i := by
      have := congrArg List.length ho
      rw [List.length_append, List.length_drop] at this
      omega
    refine Tot.up ?_
    simp only [spec_NewMemory.l0, rdR_at hlt, inext hlt (by omega), Option.bind_some, List.length_nil, Nat.zero_add, List.nil_append]
    refine Tot.pos (by omega) (Tot.pos (by omega) (Tot.pos (by omega) (Tot.pos (by omega) (ih (i + 1) _ (by omega) (by omega) ?_))))
    rw [List.append_assoc, List.singleton_append, ← List.drop_eq_getElem_cons hlt, ho]
theorem specNew_tot (rom : List (List Int)) (hr : rom.length ≤ 1048576) (hrr : ∀ x ∈ rom, x.length ≤ 1048576) : Tot (fun k => spec_NewMemory.f k rom) (NM rom) := by
  unfold spec_NewMemory.f
  exact Tot.pos (by omega) (specNew_loop rom hr hrr rom.length 0 [] rfl (Nat.zero_le _) rfl)
theorem emod_add (s x y : Int) : ((s + x) % 256 + y) % 256 = (s + (x + y)) % 256 := by omega
theorem specBuild_inner (r : List (List Int)) (hr : r.length ≤ 4) (hv : ∀ x ∈ r, BankOk x) (i : Nat) (hi : i < r.length) (data : List Int) (hd0 : data.length ≤ 1024) (Q : List Int → Prop) (s0 : Int) (hs0 : 0 ≤ s0 ∧ s0 < 256)
    (hA : Tot (fun k => spec_BuildCartridge.l0 k r ((s0 + r[i].sum) % 256) (data ++ r[i]) ((i + 1 : Nat) : Int)) Q) :
    ∀ (d j : Nat), r[i].length - j = d → j ≤ r[i].length → Tot (fun k => spec_BuildCartridge.l1 k r ((s0 + (r[i].take j).sum) % 256) data (i : Int) (j : Int)) Q := by
  have hb := hv _ (List.getElem_mem hi)
  have hl := hb.1
  intro d
  induction d with
  | zero =>
    intro j hd hj
    refine Tot.up ?_
    simp only [spec_BuildCartridge.l1, rdR_at hi, inext hi (by omega)]
    refine Tot.neg (by omega) (Tot.pos (by omega) (Tot.pos (by omega) (Tot.pos (by omega) ?_)))
    rw [List.take_of_length_le (by omega)]
    exact hA
  | succ d ih =>
    intro j hd hj
    have hlt : j < r[i].length := by omega
    have hbj := hb.2 _ (List.getElem_mem hlt)
    unfold Byt at hbj
    refine Tot.up ?_
    simp only [spec_BuildCartridge.l1, rdR_at hi, rd_at hlt, inext hlt (by omega)]
    have m0 := Int.emod_nonneg (s0 + (r[i].take j).sum) (show (256 : Int) ≠ 0 by decide)
    have m1 := Int.emod_lt_of_pos (s0 + (r[i].take j).sum) (show (0 : Int) < 256 by decide)
    rw [w64 (x := (s0 + (r[i].take j).sum) % 256 + r[i][j]) (by omega) (by omega), tmod_nn (by omega), emod_add]
    refine Tot.pos (by omega) (Tot.pos (by omega) (Tot.pos (by omega) (Tot.pos (by omega) (Tot.pos (by omega) ?_))))
    have := ih (j + 1) (by omega) (by omega)
    rw [List.take_succ_eq_append_getElem hlt, List.sum_append] at this
    simpa using this
theorem specBuild_loop (r : List (List Int)) (hr : r.length ≤ 4) (hv : ∀ x ∈ r, BankOk x) : ∀ (d i : Nat) (data : List Int) (s : Int), r.length - i = d → i ≤ r.length → data.length = 256 * i → 0 ≤ s ∧ s < 256 → Tot (fun k => spec_BuildCartridge.l0 k r s data (i : Int)) (· = [71, 67, (r.length : Int), (s + (r.drop i).flatten.sum) % 256] ++ (data ++ (r.drop i).flatten)) := by
  intro d
  induction d with
  | zero =>
    intro i data s hd hi hl hs
    refine Tot.up ?_
    simp only [spec_BuildCartridge.l0, Option.bind_some]
    refine Tot.neg (by omega) (Tot.pos (by simp; omega) (Tot.ret ?_))
    rw [List.drop_of_length_le (by omega), List.flatten_nil, List.sum_nil, Int.add_zero, Int.emod_eq_of_lt hs.1 hs.2, List.append_nil]
  | succ d ih =>
    intro i data s hd hi hl hs
    have hlt : i < r.length := by omega
    have hb := (hv _ (List.getElem_mem hlt)).1
    refine Tot.up ?_
    simp only [spec_BuildCartridge.l0]
    refine Tot.pos (by omega) ?_
    have m0 := Int.emod_nonneg (s + r[i].sum) (show (256 : Int) ≠ 0 by decide)
    have m1 := Int.emod_lt_of_pos (s + r[i].sum) (show (0 : Int) < 256 by decide)
    have h1 := ih (i + 1) (data ++ r[i]) ((s + r[i].sum) % 256) (by omega) (by omega) (by rw [List.length_append]; omega) ⟨m0, m1⟩
    have h2 := specBuild_inner r hr hv i hlt data (by omega) _ s hs h1 r[i].length 0 rfl (Nat.zero_le _)
    simp only [List.take_zero, List.sum_nil, Int.add_zero, Int.emod_eq_of_lt hs.1 hs.2] at h2
    refine h2.mono fun q hq => ?_
    rw [hq, emod_add, flat_drop hlt, List.sum_append, List.append_assoc]
theorem specBuild_tot (r : List (List Int)) (hr : r.length ≤ 1048576) (hrr : ∀ x ∈ r, x.length ≤ 1048576) : Tot (fun k => spec_BuildCartridge.f k r) (BC r) := by
  unfold spec_BuildCartridge.f
  refine Tot.bind (specNew_tot r hr hrr) fun q hq => ?_
  by_cases hv : ValidRom r
  · rw [hq.1 hv]
    refine Tot.bind (specMV_tot _ r 0 (by rw [List.length_replicate]; omega) hr hrr) fun q' hq' => Tot.pos (hq'.2 (mv_new.2 hv)) ?_
    refine (specBuild_loop r hv.1.2 hv.2 r.length 0 [] 0 rfl (Nat.zero_le _) rfl (by omega)).mono fun q hq => ⟨fun _ => ?_, fun z => absurd hv z⟩
    rw [hq]
    simp [build]
  · rw [hq.2 hv]
    refine Tot.bind (specMV_tot [] [] 0 (by simp) (by simp) (by simp)) fun q' hq' => Tot.neg (fun z => mv_zero (hq'.1 z)) (Tot.ret ⟨fun z => absurd z hv, fun _ => rfl⟩)
theorem implMV_tot (ram : List Int) (rom : List (List Int)) (bank : Int) (hm : ram.length ≤ 1048576) : Tot (fun k => impl_MemoryValid.f k ram rom bank) (fun q => q = true ↔ MV ram rom bank) := by
  unfold impl_MemoryValid.f
  refine Tot.ite (fun h0 => ?_) (fun h0 => Tot.ret ⟨fun z => (by cases z), fun z => absurd (by rw [z.1.2]; rfl) h0⟩)
  refine Tot.bind (allBytes_tot ram (by omega)) fun q hq => Tot.ite (fun h1 => ?_) (fun h1 => Tot.ret ⟨fun z => (by cases z), fun z => absurd (hq.2 z.1.1) h1⟩)
  refine Tot.bind (banksValid_tot rom) fun q2 hq2 => Tot.ite (fun h2 => ?_) (fun h2 => Tot.ret ⟨fun z => (by cases z), fun z => absurd (hq2.2 z.2.1) h2⟩)
  refine Tot.ite (fun h3 => Tot.ret ?_) (fun h3 => Tot.ret ⟨fun z => (by cases z), fun z => absurd z.2.2.1 h3⟩)
  rw [decide_eq_true_eq]
  exact ⟨fun z => ⟨⟨hq.1 h1, by omega⟩, hq2.1 h2, h3, by omega⟩, fun z => by have := z.2.2.2; omega⟩
theorem implNew_tot (rom : List (List Int)) (hr : rom.length ≤ 1048576) (hrr : ∀ x ∈ rom, x.length ≤ 1048576) : Tot (fun k => impl_NewMemory.f k rom) (NM rom) := by
  unfold impl_NewMemory.f
  refine Tot.pos (by omega) (Tot.bind (Tot.ret (Q := (· = List.replicate 256 0)) rfl) ?_)
  rintro _ rfl
  have e : impl_copyRows.f rom = some rom := by
    unfold impl_copyRows.f
    rw [if_pos ⟨by omega, by rw [List.all_eq_true]; intro x hx; have := hrr x hx; rw [decide_eq_true_eq]; omega⟩]
  simp only [e, Option.bind_some]
  refine Tot.bind (implMV_tot _ rom 0 (by rw [List.length_replicate]; omega)) fun q hq => ?_
  rw [mv_new] at hq
  exact Tot.ite (fun h => Tot.ret ⟨fun _ => rfl, fun z => absurd (hq.1 h) z⟩) (fun h => Tot.ret ⟨fun z => absurd (hq.2 z) h, fun _ => rfl⟩)
/-! ### Reading a cartridge -/
def chunk (l : List Int) (i : Nat) : List Int := (l.take (4 + 256 * (i + 1))).drop (4 + 256 * i)
def chunks (l : List Int) (n : Nat) : List (List Int) := (List.range n).map (chunk l)
theorem chunks_succ (l : List Int) (n : Nat) : chunks l (n + 1) = chunks l n ++ [chunk l n] := by
  unfold chunks
  rw [List.range_succ, List.map_append]; rfl
theorem chunks_length (l : List Int) (n : Nat) : (chunks l n).length = n := by unfold chunks; simp
theorem chunks_get (l : List Int) (n i : Nat) (h : i < (chunks l n).length) : (chunks l n)[i] = chunk l i := by simp [chunks]
theorem chunk_length {l : List Int} {i : Nat} (h : 4 + 256 * (i + 1) ≤ l.length) : (chunk l i).length = 256 := by
  unfold chunk
  rw [List.length_drop, List.length_take]; omega
theorem chunks_flat {l : List Int} : ∀ (n : Nat), 4 + 256 * n ≤ l.length → (chunks l n).flatten = (l.take (4 + 256 * n)).drop 4
  | 0, _ => by
    have e : (l.take 4).drop 4 = [] := List.drop_of_length_le (by rw [List.length_take]; omega)
    simp [chunks, e]
  | n + 1, h => by
    rw [chunks_succ, List.flatten_append, chunks_flat n (by omega)]
    unfold chunk
    simp only [List.flatten_cons, List.flatten_nil, List.append_nil]
    have e1 : l.take (4 + 256 * n) = (l.take (4 + 256 * (n + 1))).take (4 + 256 * n) := by rw [List.take_take]; congr 1; omega
    rw [e1]
    have e2 : ((l.take (4 + 256 * (n + 1))).take (4 + 256 * n)).drop 4 = ((l.take (4 + 256 * (n + 1))).drop 4).take (256 * n) := by rw [List.drop_take]; congr 1; omega
    have e3 : (l.take (4 + 256 * (n + 1))).drop (4 + 256 * n) = ((l.take (4 + 256 * (n + 1))).drop 4).drop (256 * n) := by rw [List.drop_drop]
    rw [e2, e3, List.take_append_drop]
theorem chunks_ok {l : List Int} {n : Nat} (hb : ∀ x ∈ l, Byt x) (h : 4 + 256 * n ≤ l.length) : ∀ x ∈ chunks l n, BankOk x := by
  intro x hx
  unfold chunks at hx
  obtain ⟨i, hi, rfl⟩ := List.mem_map.1 hx
  rw [List.mem_range] at hi
  refine ⟨chunk_length (by omega), fun b hbm => hb b ?_⟩
  unfold chunk at hbm
  exact List.mem_of_mem_take (List.mem_of_mem_drop hbm)
/-- A list is a cartridge. -/
def CV (l : List Int) : Prop := 4 ≤ l.length ∧ rd l 0 = 71 ∧ rd l 1 = 67 ∧ (1 ≤ rd l 2 ∧ rd l 2 ≤ 4) ∧ (l.length : Int) = 4 + 256 * rd l 2 ∧ (∀ x ∈ l, Byt x) ∧ (l.drop 4).sum % 256 = rd l 3
/-- What ReadCartridge answers. -/
def RC (l : List Int) (r : List (List Int) × Bool) : Prop := (CV l → r = (chunks l (rd l 2).toNat, true)) ∧ (¬ CV l → r = ([], false))
theorem RC_one {l : List Int} {r r' : List (List Int) × Bool} (h : RC l r) (h' : RC l r') : r = r' := by
  by_cases hv : CV l
  · rw [h.1 hv, h'.1 hv]
  · rw [h.2 hv, h'.2 hv]
theorem implRead_loop (l : List Int) (n : Nat) (hn : 1 ≤ n ∧ n ≤ 4) (hr2 : rd l 2 = n) (hl : l.length = 4 + 256 * n) (hb : ∀ x ∈ l, Byt x) (h0 : rd l 0 = 71) (h1 : rd l 1 = 67) : ∀ (d i : Nat), n - i = d → i ≤ n →
    Tot (fun k => impl_ReadCartridge.l0 k l (chunks l i) (n : Int) (i : Int)) (RC l) := by
  have hfl : (chunks l n).flatten = l.drop 4 := by rw [chunks_flat n (by omega), List.take_of_length_le (by omega)]
  intro d
  induction d with
  | zero =>
    intro i hd hi
    obtain rfl : i = n := by omega
    refine Tot.up ?_
    simp only [impl_ReadCartridge.l0]
    refine Tot.neg (by omega) (Tot.bind (bankSum_tot _ (by rw [chunks_length]; omega) (chunks_ok hb (by omega))) ?_)
    rintro _ rfl
    rw [hfl]
    have base : (l.drop 4).sum % 256 = rd l 3 → CV l := fun h => ⟨by omega, h0, h1, by omega, by omega, hb, h⟩
    refine Tot.pos (by omega) (Tot.ite (fun h => Tot.ret ⟨fun _ => by rw [hr2]; rfl, fun z => absurd (base h) z⟩) (fun h => Tot.ret ⟨fun z => absurd z.2.2.2.2.2.2 h, fun _ => rfl⟩))
  | succ d ih =>
    intro i hd hi
    refine Tot.up ?_
    simp only [impl_ReadCartridge.l0, inext (show i < n by omega) (by omega)]
    have e1 : wrap64 (4 + wrap64 (256 * (i : Int))) = ((4 + 256 * i : Nat) : Int) := by rw [w64 (x := 256 * (i : Int)) (by omega) (by omega), w64 (by omega) (by omega)]; omega
    have e2 : wrap64 (4 + wrap64 (256 * ((i + 1 : Nat) : Int))) = ((4 + 256 * (i + 1) : Nat) : Int) := by rw [w64 (x := 256 * ((i + 1 : Nat) : Int)) (by omega) (by omega), w64 (by omega) (by omega)]; omega
    simp only [e1, e2, Int.toNat_natCast]
    clear e1 e2
    refine Tot.pos (by omega) (Tot.pos (by omega) (Tot.pos (by omega) (Tot.pos (by omega) ?_)))
    unfold slices_Clone_int_int.f
    rw [if_pos (by rw [List.length_drop, List.length_take]; omega)]
    simp only [Option.bind_some]
    refine Tot.pos (by rw [chunks_length]; omega) ?_
    have := ih (i + 1) (by omega) (by omega)
    rw [chunks_succ] at this
    exact this
theorem implRead_tot (l : List Int) (hm : l.length ≤ 1048576) : Tot (fun k => impl_ReadCartridge.f k l) (RC l) := by
  have bad : ¬ CV l → Tot (fun k => impl_ReadCartridge.j0 k l true) (RC l) := by
    intro hz
    refine Tot.up ?_
    simp only [impl_ReadCartridge.j0]
    exact Tot.pos trivial (Tot.ret ⟨fun z => absurd z hz, fun _ => rfl⟩)
  unfold impl_ReadCartridge.f
  simp only [within_eq, Option.bind_some, decide_eq_true_eq]
  refine Tot.ite (fun h => bad (fun z => by have := z.1; omega)) (fun h => ?_)
  refine Tot.pos (by omega) (Tot.ite (fun h0 => ?_) (fun h0 => bad (fun z => h0 z.2.1)))
  refine Tot.pos (by omega) (Tot.ite (fun h1 => ?_) (fun h1 => bad (fun z => h1 z.2.2.1)))
  refine Tot.pos (by omega) (Tot.ite (fun h2 => ?_) (fun h2 => bad (fun z => h2 z.2.2.2.1)))
  have ew : wrap64 (4 + wrap64 (256 * rd l 2)) = 4 + 256 * rd l 2 := by rw [w64 (x := 256 * rd l 2) (by omega) (by omega), w64 (by omega) (by omega)]
  simp only [ew]
  clear ew
  refine Tot.ite (fun h3 => ?_) (fun h3 => bad (fun z => h3 z.2.2.2.2.1))
  refine Tot.bind (allBytes_tot l (by omega)) fun q hq => ?_
  cases q with
  | false => exact bad (fun z => by have := hq.2 z.2.2.2.2.2.1; cases this)
  | true =>
    refine Tot.up ?_
    simp only [impl_ReadCartridge.j0, Bool.not_true]
    refine Tot.neg (by simp) (Tot.pos (by omega) ?_)
    obtain ⟨n, hn⟩ := Int.eq_ofNat_of_zero_le (show 0 ≤ rd l 2 by omega)
    have := implRead_loop l n (by omega) hn (by omega) (hq.1 rfl) h0 h1 n 0 rfl (Nat.zero_le _)
    rw [hn]
    exact this
/-- The form of the banks that were read is the list. -/
theorem build_chunks {l : List Int} (h : CV l) : ValidRom (chunks l (rd l 2).toNat) ∧ build (chunks l (rd l 2).toNat) = l := by
  obtain ⟨h4, h0, h1, h2, hl, hb, hs⟩ := h
  obtain ⟨n, hn⟩ := Int.eq_ofNat_of_zero_le (show 0 ≤ rd l 2 by omega)
  have hfl : (chunks l n).flatten = l.drop 4 := by rw [chunks_flat n (by omega), List.take_of_length_le (by omega)]
  rw [hn, Int.toNat_natCast]
  refine ⟨⟨by rw [chunks_length]; omega, chunks_ok hb (by omega)⟩, ?_⟩
  unfold build
  rw [hfl, chunks_length, hs]
  have e0 : l[0] = 71 := by rw [← h0]; exact (rd_at (i := 0) (by omega)).symm
  have e1 : l[1] = 67 := by rw [← h1]; exact (rd_at (i := 1) (by omega)).symm
  have e2 : l[2] = (n : Int) := by rw [← hn]; exact (rd_at (i := 2) (by omega)).symm
  have e3 : l[3] = rd l 3 := (rd_at (i := 3) (by omega)).symm
  rw [← e3, ← e2, ← e1, ← e0]
  have h4' : l = l[0] :: l[1] :: l[2] :: l[3] :: l.drop 4 := by
    conv => lhs; rw [← List.drop_zero (l := l)]
    rw [List.drop_eq_getElem_cons (i := 0) (by omega), List.drop_eq_getElem_cons (i := 1) (by omega), List.drop_eq_getElem_cons (i := 2) (by omega), List.drop_eq_getElem_cons (i := 3) (by omega)]
  exact h4'.symm
theorem sum_set {l : List Int} : ∀ {i : Nat} (h : i < l.length) (v : Int), (l.set i v).sum = l.sum - l[i] + v := by
  induction l with
  | nil => intro i h; exact absurd h (Nat.not_lt_zero _)
  | cons x l ih =>
    intro i h v
    cases i with
    | zero => simp; omega
    | succ i =>
      rw [List.set_cons_succ, List.sum_cons, List.sum_cons, ih (by simpa using h), List.getElem_cons_succ]
      omega
theorem rd_set {l : List Int} {m i : Nat} (v : Int) (hi : i < l.length) : rd (l.set m v) (i : Int) = if m = i then v else rd l (i : Int) := by
  rw [rd_at (by rw [List.length_set]; exact hi), rd_at hi, List.getElem_set]
/-- A cartridge with one byte increased is none. -/
theorem bent {l : List Int} (h : CV l) {m : Nat} (hm : m < l.length) : ¬ CV (l.set m ((rd l (m : Int) + 1) % 256)) := by
  obtain ⟨h4, h0, h1, h2, hl, hb, hs⟩ := h
  intro z
  obtain ⟨-, z0, z1, -, zl, -, zs⟩ := z
  have r0 := rd_set (l := l) (m := m) (i := 0) ((rd l (m : Int) + 1) % 256) (by omega)
  have r1 := rd_set (l := l) (m := m) (i := 1) ((rd l (m : Int) + 1) % 256) (by omega)
  have r2 := rd_set (l := l) (m := m) (i := 2) ((rd l (m : Int) + 1) % 256) (by omega)
  have r3 := rd_set (l := l) (m := m) (i := 3) ((rd l (m : Int) + 1) % 256) (by omega)
  simp only [Int.natCast_zero] at r0
  have r1' : rd (l.set m ((rd l (m : Int) + 1) % 256)) 1 = if m = 1 then (rd l (m : Int) + 1) % 256 else rd l 1 := r1
  have r2' : rd (l.set m ((rd l (m : Int) + 1) % 256)) 2 = if m = 2 then (rd l (m : Int) + 1) % 256 else rd l 2 := r2
  have r3' : rd (l.set m ((rd l (m : Int) + 1) % 256)) 3 = if m = 3 then (rd l (m : Int) + 1) % 256 else rd l 3 := r3
  rw [List.length_set] at zl
  rcases Nat.lt_or_ge m 4 with hm4 | hm4
  · have hd : (l.set m ((rd l (m : Int) + 1) % 256)).drop 4 = l.drop 4 := by
      rw [List.drop_set_of_lt (by omega)]
    rw [hd, hs] at zs
    have : m = 0 ∨ m = 1 ∨ m = 2 ∨ m = 3 := by omega
    rcases this with rfl | rfl | rfl | rfl
    · rw [if_pos rfl] at r0
      rw [z0] at r0
      have : rd l ((0 : Nat) : Int) = 71 := h0
      omega
    · rw [if_pos rfl] at r1'
      rw [z1] at r1'
      have : rd l ((1 : Nat) : Int) = 67 := h1
      omega
    · rw [if_pos rfl] at r2'
      rw [r2'] at zl
      have : rd l ((2 : Nat) : Int) = rd l 2 := rfl
      omega
    · rw [if_pos rfl] at r3'
      rw [r3'] at zs
      have : rd l ((3 : Nat) : Int) = rd l 3 := rfl
      omega
  · rw [if_neg (by omega)] at r3'
    rw [r3', List.drop_set, if_neg (by omega), sum_set (by rw [List.length_drop]; omega), List.getElem_drop] at zs
    have e : l[4 + (m - 4)] = rd l (m : Int) := by
      rw [rd_at hm]; congr 1; omega
    rw [e] at zs
    omega
/-- Reading what was built gives the banks. -/
theorem take_flat {r : List (List Int)} (h : ∀ x ∈ r, x.length = 256) : ∀ (i : Nat) (hi : i < r.length), (r.flatten.drop (256 * i)).take 256 = r[i] := by
  induction r with
  | nil => intro i hi; exact absurd hi (Nat.not_lt_zero _)
  | cons x r ih =>
    have hx := h x (List.mem_cons_self ..)
    intro i hi
    cases i with
    | zero =>
      rw [Nat.mul_zero, List.drop_zero, List.flatten_cons, List.take_append_of_le_length (by omega), List.take_of_length_le (by omega)]
      rfl
    | succ i =>
      rw [List.flatten_cons, show 256 * (i + 1) = x.length + 256 * i by omega, List.drop_append, List.drop_of_length_le (by omega), List.nil_append, show x.length + 256 * i - x.length = 256 * i by omega, ih (fun y hy => h y (List.mem_cons_of_mem _ hy)) i (by simpa using hi), List.getElem_cons_succ]
theorem read_build {r : List (List Int)} (h : ValidRom r) : CV (build r) ∧ chunks (build r) (rd (build r) 2).toNat = r := by
  have hlen := build_length h
  have hfl := flat_length (fun x hx => (h.2 x hx).1)
  have hfb := flat_byt h.2
  have e2 : rd (build r) 2 = (r.length : Int) := rfl
  have hd : (build r).drop 4 = r.flatten := rfl
  have hbd := sum_bd _ hfb
  refine ⟨⟨by omega, rfl, rfl, by rw [e2]; have := h.1; omega, by rw [e2]; omega, ?_, by rw [hd]; rfl⟩, ?_⟩
  · intro x hx
    unfold build at hx
    rcases List.mem_append.1 hx with hx | hx
    · simp only [List.mem_cons, List.not_mem_nil, or_false] at hx
      have := h.1
      unfold Byt
      rcases hx with rfl | rfl | rfl | rfl <;> omega
    · exact hfb x hx
  · rw [e2, Int.toNat_natCast]
    apply List.ext_getElem
    · rw [chunks_length]
    · intro i h1 h2
      rw [chunks_get]
      unfold chunk
      have e1 : 4 + 256 * (i + 1) = (4 + 256 * i) + 256 := by omega
      rw [← take_flat (fun x hx => (h.2 x hx).1) i h2, ← hd, List.drop_drop, e1, List.drop_take, Nat.add_sub_cancel_left]
theorem alive_eq : laws_alive.f = some true := by decide +kernel
theorem rd_mem {xs : List Int} {i : Int} (h0 : 0 ≤ i) (h : i < (xs.length : Int)) : rd xs i ∈ xs := by
  unfold rd
  rw [List.getD_eq_getElem?_getD, List.getElem?_eq_getElem (show i.toNat < xs.length by omega)]
  exact List.getElem_mem _
theorem rd_byte {b : List Int} (hb : ∀ x ∈ b, (Lit.int .u8 x).wf = true) (i : Int) : 0 ≤ rd b i ∧ rd b i ≤ 255 := by
  unfold rd
  rw [List.getD_eq_getElem?_getD]
  rcases Nat.lt_or_ge i.toNat b.length with h | h
  · rw [List.getElem?_eq_getElem h]
    exact u8_of (hb _ (List.getElem_mem h))
  · rw [List.getElem?_eq_none h]
    simp
theorem xor_nn {a b : Int} (ha : 0 ≤ a) (ha' : a < 4611686018427387904) (hb : 0 ≤ b) (hb' : b < 4611686018427387904) : 0 ≤ Go.bits .xor .i64 a b := by
  obtain ⟨m, rfl⟩ := Int.eq_ofNat_of_zero_le ha
  obtain ⟨n, rfl⟩ := Int.eq_ofNat_of_zero_le hb
  have hm : m < 2 ^ 62 := by omega
  have hn : n < 2 ^ 62 := by omega
  have hx : m ^^^ n < 2 ^ 62 := Nat.xor_lt_two_pow hm hn
  have e : Go.bits .xor .i64 (m : Int) (n : Int) = ((m ^^^ n : Nat) : Int) := by
    show IntKind.wrap .i64 ((BitVec.ofInt 64 (m : Int) ^^^ BitVec.ofInt 64 (n : Int)).toNat : Int) = _
    rw [BitVec.ofInt_natCast, BitVec.ofInt_natCast, BitVec.toNat_xor, BitVec.toNat_ofNat, BitVec.toNat_ofNat, Nat.mod_eq_of_lt (show m < 2 ^ 64 by omega), Nat.mod_eq_of_lt (show n < 2 ^ 64 by omega), IntKind.wrap_i64]
    omega
  rw [e]
  exact Int.natCast_nonneg _
/-- The bytes that draws are made of. -/
def Src (b : List Int) : Prop := (∀ x ∈ b, (Lit.int .u8 x).wf = true) ∧ b.length ≤ 2000
theorem open_tot (l : List Int) (hw : ∀ x ∈ l, (Lit.int .u8 x).wf = true) : Tot (fun _ => spec_l20Open.f l) (fun r => Src r.1 ∧ r.2 = 0) := by
  unfold spec_l20Open.f
  refine Tot.ite (fun h => ?_) (fun h => ?_)
  · refine Tot.pos (by omega) (Tot.ret ⟨⟨fun x hx => hw x (List.mem_of_mem_take hx), ?_⟩, rfl⟩)
    rw [List.length_take]; omega
  · exact Tot.ret ⟨⟨hw, by simp only; omega⟩, rfl⟩
theorem pick_tot {b : List Int} (hb : Src b) (p n : Int) (hp : 0 ≤ p) (hp' : p ≤ 1000000000) :
    Tot (fun k => spec_l20Rd_pick.f k b p n) (fun r => r.2 = p + 1 ∧ (n < 1 → r.1 = 0) ∧ (1 ≤ n → 0 ≤ r.1 ∧ r.1 < n)) := by
  have hw : wrap64 (p + 1) = p + 1 := w64 (by omega) (by omega)
  have hw1 : wrap64 (p + 1 - 1) = p := by rw [w64] <;> omega
  unfold spec_l20Rd_pick.f
  simp only [hw]
  refine Tot.ite (fun h1 => ?_) (fun h1 => ?_)
  · refine Tot.up ?_
    simp only [spec_l20Rd_pick.j0]
    exact Tot.pos (by simp) (Tot.ret ⟨rfl, fun _ => rfl, fun h => by omega⟩)
  · refine Tot.up ?_
    simp only [spec_l20Rd_pick.j0, hw1]
    refine Tot.ite (fun h2 => Tot.ret ⟨rfl, fun _ => rfl, fun h => ⟨Int.le_refl _, by omega⟩⟩) (fun h2 => ?_)
    have hl : 0 < (b.length : Int) := by
      have : ¬ ((b.length : Int) = 0) := fun h => h2 (by simp [h])
      omega
    have hl2 : (b.length : Int) ≤ 2000 := by have := hb.2; omega
    refine Tot.ite (fun h3 => ?_) (fun h3 => ?_)
    · have hr := rd_byte hb.1 p
      refine Tot.pos hp (Tot.neg (by omega) (Tot.ret ⟨rfl, fun h => absurd h h1, fun h => ?_⟩))
      rw [w64 (x := rd b p) (by omega) (by omega), tmod_nn hr.1]
      exact ⟨Int.emod_nonneg _ (by omega), Int.emod_lt_of_pos _ (by omega)⟩
    · have e7 : wrap64 (p * 7) = p * 7 := w64 (by omega) (by omega)
      have e73 : wrap64 (p * 7 + 3) = p * 7 + 3 := w64 (by omega) (by omega)
      simp only [e7, e73, tmod_nn hp, tmod_nn (show 0 ≤ p * 7 + 3 by omega), tdiv_nn hp]
      have r1 := rd_byte hb.1 (p % (b.length : Int))
      have r2 := rd_byte hb.1 ((p * 7 + 3) % (b.length : Int))
      have m1 := Int.emod_nonneg p (show (b.length : Int) ≠ 0 by omega)
      have m2 := Int.emod_lt_of_pos p hl
      have m3 := Int.emod_nonneg (p * 7 + 3) (show (b.length : Int) ≠ 0 by omega)
      have m4 := Int.emod_lt_of_pos (p * 7 + 3) hl
      have d1 : 0 ≤ p / (b.length : Int) := Int.ediv_nonneg hp (by omega)
      have d2 : p / (b.length : Int) ≤ p := Int.ediv_le_self _ hp
      refine Tot.neg (by omega) (Tot.pos m1 (Tot.pos m2 (Tot.pos m3 (Tot.pos m4 (Tot.neg (by omega) (Tot.ret ⟨rfl, fun h => absurd h h1, fun _ => ?_⟩))))))
      generalize rd b (p % (b.length : Int)) = x1 at *
      generalize rd b ((p * 7 + 3) % (b.length : Int)) = x2 at *
      generalize p / (b.length : Int) = q at *
      rw [w64 (x := x1) (by omega) (by omega), w64 (x := x2) (by omega) (by omega), w64 (x := q) (by omega) (by omega), w64 (x := x1 * 131) (by omega) (by omega), w64 (x := x2 * 1117) (by omega) (by omega), w64 (x := p * 29) (by omega) (by omega), w64 (x := q * 53) (by omega) (by omega),
        w64 (x := x1 * 131 + x2 * 1117) (by omega) (by omega), w64 (x := x1 * 131 + x2 * 1117 + p * 29) (by omega) (by omega), w64 (x := x1 * 131 + x2 * 1117 + p * 29 + q * 53) (by omega) (by omega)]
      have hs : 0 ≤ x1 * 131 + x2 * 1117 + p * 29 + q * 53 := by omega
      have hs2 : x1 * 131 + x2 * 1117 + p * 29 + q * 53 < 4611686018427387904 := by omega
      generalize x1 * 131 + x2 * 1117 + p * 29 + q * 53 = s at *
      rw [tdiv_nn hs, w64 (x := s / 64) (by omega) (by omega)]
      have hx := xor_nn hs hs2 (show 0 ≤ s / 64 by omega) (by omega)
      rw [tmod_nn hx]
      exact ⟨Int.emod_nonneg _ (by omega), Int.emod_lt_of_pos _ (by omega)⟩
theorem odd_tot {b : List Int} (hb : Src b) (p n : Int) (hp : 0 ≤ p) (hp' : p ≤ 1000000000) (hn : n ≤ 1000000000) :
    Tot (fun k => spec_l20Rd_odd.f k b p n) (fun r => p ≤ r.2 ∧ r.2 ≤ p + 1 ∧ (n < 1 → r.1 = false)) := by
  unfold spec_l20Rd_odd.f
  refine Tot.ite (fun h => ?_) (fun h => Tot.ret ⟨Int.le_refl _, by omega, fun _ => rfl⟩)
  refine Tot.bind (pick_tot hb p n hp hp') ?_
  rintro ⟨v, q⟩ ⟨hq, _, _⟩
  simp only at hq
  exact Tot.ret ⟨by simp only; omega, by simp only; omega, fun h' => by omega⟩
/-! ### Drawn instructions and banks -/
def oLen (a : Int) : Int := if 0 ≤ a ∧ a ≤ 15 then rd [1, 2, 3, 3, 3, 3, 3, 3, 1, 1, 3, 3, 3, 3, 1, 1] a else 0
theorem op_cases {a : Int} (h : 0 ≤ a ∧ a ≤ 15) : a = 0 ∨ a = 1 ∨ a = 2 ∨ a = 3 ∨ a = 4 ∨ a = 5 ∨ a = 6 ∨ a = 7 ∨ a = 8 ∨ a = 9 ∨ a = 10 ∨ a = 11 ∨ a = 12 ∨ a = 13 ∨ a = 14 ∨ a = 15 := by omega
theorem oLen_in {a : Int} (h : 0 ≤ a ∧ a ≤ 15) : 1 ≤ oLen a ∧ oLen a ≤ 3 := by
  rcases op_cases h with rfl | rfl | rfl | rfl | rfl | rfl | rfl | rfl | rfl | rfl | rfl | rfl | rfl | rfl | rfl | rfl <;> decide
theorem specLen_eq (a : Int) : spec_OrderLength.f a = some (oLen a) := by
  unfold spec_OrderLength.f oLen
  rw [l1In_eq]
  by_cases h : 0 ≤ a ∧ a ≤ 15
  · simp only [Option.bind_some, decide_eq_true h, if_true, if_pos h.1]
    rw [if_pos (by show a < 16; omega), if_pos h]
  · simp only [Option.bind_some, decide_eq_false h, Bool.false_eq_true, if_false, if_neg h]
/-- A valid instruction. -/
def OV (a b : Int) : Prop := (oLen a = 1 ∧ b = 0) ∨ (oLen a = 2 ∧ 0 ≤ b ∧ b ≤ 255) ∨ (oLen a = 3 ∧ 0 ≤ b ∧ b ≤ 1023)
theorem specOV_eq (a b : Int) : ∃ v, spec_OrderValid.f a b = some v ∧ (v = true ↔ OV a b) := by
  unfold spec_OrderValid.f OV
  simp only [specLen_eq, l1Byte_eq, l1In_eq, Option.bind_some, decide_eq_true_eq]
  generalize oLen a = n
  by_cases h1 : n = 1
  · subst h1
    by_cases hb : b = 0
    · exact ⟨true, by rw [if_pos rfl, if_pos hb], by simp [hb]⟩
    · refine ⟨false, by rw [if_pos rfl, if_neg hb, if_neg (by omega), if_neg (by omega)], ⟨fun z => (by cases z), fun z => by omega⟩⟩
  · rw [if_neg h1]
    by_cases h2 : n = 2
    · subst h2
      rw [if_pos rfl]
      by_cases hb : 0 ≤ b ∧ b ≤ 255
      · exact ⟨true, by rw [if_pos hb], ⟨fun _ => .inr (.inl ⟨rfl, hb⟩), fun _ => rfl⟩⟩
      · exact ⟨false, by rw [if_neg hb, if_neg (by omega)], ⟨fun z => (by cases z), fun z => by omega⟩⟩
    · rw [if_neg h2]
      by_cases h3 : n = 3
      · subst h3
        rw [if_pos rfl]
        exact ⟨_, rfl, by rw [decide_eq_true_eq]; exact ⟨fun z => .inr (.inr ⟨rfl, z⟩), fun z => by omega⟩⟩
      · exact ⟨false, by rw [if_neg h3], ⟨fun z => (by cases z), fun z => by omega⟩⟩
theorem OV_in {a b : Int} (h : OV a b) : (0 ≤ a ∧ a ≤ 15) ∧ 0 ≤ b ∧ b ≤ 1023 := by
  have : 0 ≤ a ∧ a ≤ 15 := by
    by_cases z : 0 ≤ a ∧ a ≤ 15
    · exact z
    · unfold OV oLen at h
      simp only [if_neg z] at h
      omega
  unfold OV at h
  exact ⟨this, by omega⟩
def oBytes (a b : Int) : List Int := [a, b % 256, b / 256].take (oLen a).toNat
theorem specOB_eq (a b : Int) : ∃ q, spec_OrderBytes.f a b = some q ∧ (OV a b → q = oBytes a b) ∧ (¬ OV a b → q = []) := by
  obtain ⟨v, e, hv⟩ := specOV_eq a b
  unfold spec_OrderBytes.f
  simp only [e, Option.bind_some, specLen_eq]
  cases v with
  | false => exact ⟨[], by simp, fun z => (by have := hv.2 z; cases this), fun _ => rfl⟩
  | true =>
    have h := hv.1 rfl
    have hi := OV_in h
    have hl := oLen_in hi.1
    refine ⟨oBytes a b, ?_, fun _ => rfl, fun z => absurd h z⟩
    rw [if_pos rfl, if_pos (by omega), if_pos (by show oLen a ≤ 3; omega), tmod_nn hi.2.1, tdiv_nn hi.2.1, w64 (by omega) (by omega)]
    rfl
theorem oBytes_ok {a b : Int} (h : OV a b) : (oBytes a b).length ≤ 3 ∧ ∀ x ∈ oBytes a b, Byt x := by
  have hi := OV_in h
  unfold oBytes
  refine ⟨by rw [List.length_take]; simp; omega, fun x hx => ?_⟩
  have := List.mem_of_mem_take hx
  simp only [List.mem_cons, List.not_mem_nil, or_false] at this
  unfold Byt
  rcases this with rfl | rfl | rfl <;> omega
theorem specOB_ok (a b : Int) : ∃ q, spec_OrderBytes.f a b = some q ∧ q.length ≤ 3 ∧ ∀ x ∈ q, Byt x := by
  obtain ⟨q, e, h1, h2⟩ := specOB_eq a b
  by_cases h : OV a b
  · rw [h1 h] at e; exact ⟨_, e, oBytes_ok h⟩
  · rw [h2 h] at e; exact ⟨_, e, by simp, by simp⟩
theorem orderEnd {b : List Int} (hb : Src b) (p x y : Int) (hp : 0 ≤ p) (hp' : p ≤ 900000000) (n : Int) (hn : n ≤ 1000) : Tot (fun k => spec_l20Order.j0 k n b p x y) (fun r => p ≤ r.2.2 ∧ r.2.2 ≤ p + 4 ∧ (n < 1 → r.1 = x ∧ r.2.1 = y)) := by
  refine Tot.up ?_
  simp only [spec_l20Order.j0]
  refine Tot.bind (odd_tot hb p n hp (by omega) (by omega)) ?_
  rintro ⟨v0, q0⟩ ⟨h0, h0', h0''⟩
  simp only at h0 h0' h0''
  refine Tot.ite (fun hv => ?_) (fun _ => Tot.ret ⟨h0, by simp only; omega, fun _ => ⟨rfl, rfl⟩⟩)
  refine Tot.bind (pick_tot hb q0 2 (by omega) (by omega)) ?_
  rintro ⟨v1, q1⟩ ⟨h1, _, g1⟩
  simp only at h1 g1
  have hn1 : ¬ n < 1 := fun z => by have := h0'' z; rw [this] at hv; cases hv
  refine Tot.ite (fun _ => ?_) (fun _ => ?_)
  · simp only [Option.bind_some]
    refine Tot.bind (pick_tot hb q1 2 (by omega) (by omega)) ?_
    rintro ⟨v2, q2⟩ ⟨h2, _, g2⟩
    simp only at h2 g2
    exact Tot.pos (by omega) (Tot.pos (by simp; omega) (Tot.ret ⟨by simp only; omega, by simp only; omega, fun z => absurd z hn1⟩))
  · simp only [Option.bind_some]
    refine Tot.bind (pick_tot hb q1 3 (by omega) (by omega)) ?_
    rintro ⟨v2, q2⟩ ⟨h2, _, g2⟩
    simp only at h2 g2
    exact Tot.pos (by omega) (Tot.pos (by simp; omega) (Tot.ret ⟨by simp only; omega, by simp only; omega, fun z => absurd z hn1⟩))
theorem order_tot {b : List Int} (hb : Src b) (p n : Int) (hp : 0 ≤ p) (hp' : p ≤ 900000000 - 100) (hn : n ≤ 1000) : Tot (fun k => spec_l20Order.f k b p n) (fun r => p ≤ r.2.2 ∧ r.2.2 ≤ p + 12 ∧ (n < 1 → OV r.1 r.2.1)) := by
  unfold spec_l20Order.f
  refine Tot.bind (pick_tot hb p 16 hp (by omega)) ?_
  rintro ⟨a, q0⟩ ⟨h0, _, g0⟩
  simp only at h0 g0
  have ga := g0 (by omega)
  simp only [specLen_eq, Option.bind_some]
  have hl := oLen_in (a := a) (by omega)
  refine Tot.ite (fun h2 => ?_) (fun h2 => Tot.ite (fun h3 => ?_) (fun h3 => ?_))
  · refine Tot.bind (pick_tot hb q0 256 (by omega) (by omega)) ?_
    rintro ⟨v1, q1⟩ ⟨h1, _, g1⟩
    simp only at h1 g1
    have := g1 (by omega)
    exact (orderEnd hb q1 a v1 (by omega) (by omega) n hn).mono fun r hr => ⟨by omega, by omega, fun z => by rw [(hr.2.2 z).1, (hr.2.2 z).2]; exact .inr (.inl ⟨h2, by omega⟩)⟩
  · refine Tot.bind (pick_tot hb q0 16 (by omega) (by omega)) ?_
    rintro ⟨v1, q1⟩ ⟨h1, _, g1⟩
    simp only at h1 g1
    refine Tot.bind (pick_tot hb q1 16 (by omega) (by omega)) ?_
    rintro ⟨v2, q2⟩ ⟨h2', _, g2⟩
    simp only at h2' g2
    refine Tot.bind (pick_tot hb q2 40 (by omega) (by omega)) ?_
    rintro ⟨v3, q3⟩ ⟨h3', _, g3⟩
    simp only at h3' g3
    refine Tot.bind (pick_tot hb q3 8 (by omega) (by omega)) ?_
    rintro ⟨v4, q4⟩ ⟨h4, _, g4⟩
    simp only at h4 g4
    refine Tot.bind (pick_tot hb q4 256 (by omega) (by omega)) ?_
    rintro ⟨v5, q5⟩ ⟨h5, _, g5⟩
    simp only at h5 g5
    have f1 := g1 (by omega)
    have f2 := g2 (by omega)
    have f3 := g3 (by omega)
    have f4 := g4 (by omega)
    have f5 := g5 (by omega)
    simp only [Option.bind_some, w64 (x := 240 + v2) (by omega) (by omega), w64 (x := 512 + v3) (by omega) (by omega), w64 (x := 768 + v4) (by omega) (by omega), w64 (x := v5 * 4) (by omega) (by omega)]
    refine Tot.bind (pick_tot hb q5 5 (by omega) (by omega)) ?_
    rintro ⟨v6, q6⟩ ⟨h6, _, g6⟩
    simp only at h6 g6 ⊢
    have f6 := g6 (by omega)
    have hl6 : v6 < (([v1, 240 + v2, 512 + v3, 768 + v4, v5 * 4] : List Int).length : Int) := by simp; omega
    have hm := rd_mem (xs := [v1, 240 + v2, 512 + v3, 768 + v4, v5 * 4]) f6.1 hl6
    simp only [List.mem_cons, List.not_mem_nil, or_false] at hm
    refine Tot.pos f6.1 (Tot.pos hl6 ?_)
    exact (orderEnd hb q6 a _ (by omega) (by omega) n hn).mono fun r hr => ⟨by omega, by omega, fun z => by rw [(hr.2.2 z).1, (hr.2.2 z).2]; exact .inr (.inr ⟨h3, by omega⟩)⟩
  · exact (orderEnd hb q0 a 0 (by omega) (by omega) n hn).mono fun r hr => ⟨by omega, by omega, fun z => by rw [(hr.2.2 z).1, (hr.2.2 z).2]; exact .inl ⟨by omega, rfl⟩⟩
theorem romFill {b : List Int} (x3 : List (List Int)) (x4 v p : Int) (hv : Byt v) (h3 : x3.length ≤ 10) (Q : List (List Int) × Int → Prop)
    (hA : ∀ x5, BankOk x5 → Tot (fun k => spec_l20Rom.l0 k (x3 ++ [x5]) (wrap64 (x4 - 1)) b p) Q) : ∀ (e : Nat) (x5 : List Int), 256 - x5.length = e → x5.length ≤ 256 → (∀ y ∈ x5, Byt y) → Tot (fun k => spec_l20Rom.l2 k x3 x4 x5 v b p) Q := by
  intro e
  induction e with
  | zero =>
    intro x5 he hl hy
    refine Tot.up ?_
    unfold spec_l20Rom.l2
    exact Tot.neg (by omega) (Tot.pos (by omega) (hA x5 ⟨by omega, hy⟩))
  | succ e ih =>
    intro x5 he hl hy
    refine Tot.up ?_
    unfold spec_l20Rom.l2
    refine Tot.pos (by omega) (Tot.pos (by omega) (ih _ (by rw [List.length_append, List.length_singleton]; omega) (by rw [List.length_append, List.length_singleton]; omega) fun y hm => ?_))
    rcases List.mem_append.1 hm with hm | hm
    · exact hy y hm
    · rw [List.mem_singleton.1 hm]; exact hv
theorem romOrders {b : List Int} (hb : Src b) (x3 : List (List Int)) (x4 : Int) (h3 : x3.length ≤ 10) (Q : List (List Int) × Int → Prop) (B : Int) (hB : B ≤ 1000000)
    (hA : ∀ x5 p, 0 ≤ p → p ≤ B → BankOk x5 → Tot (fun k => spec_l20Rom.l0 k (x3 ++ [x5]) (wrap64 (x4 - 1)) b p) Q) : ∀ (e : Nat) (x5 : List Int) (p : Int), 0 ≤ p → p + 12 * e + 2 ≤ B → x5.length + 3 * e ≤ 256 → (∀ y ∈ x5, Byt y) → Tot (fun k => spec_l20Rom.l1 k x3 x4 x5 (e : Int) b p) Q := by
  intro e
  induction e with
  | zero =>
    intro x5 p hp hp' hl hy
    refine Tot.up ?_
    unfold spec_l20Rom.l1
    refine Tot.neg (by omega) (Tot.bind (pick_tot hb p 256 hp (by omega)) ?_)
    rintro ⟨v1, q1⟩ ⟨h1, _, g1⟩
    simp only at h1 g1
    have f1 := g1 (by omega)
    refine Tot.bind (Tot.ret (Q := (· = [0, v1, 15])) rfl) ?_
    rintro _ rfl
    refine Tot.bind (pick_tot hb q1 3 (by omega) (by omega)) ?_
    rintro ⟨v2, q2⟩ ⟨h2, _, g2⟩
    simp only at h2 g2 ⊢
    have f2 := g2 (by omega)
    have hl2 : v2 < (([0, v1, 15] : List Int).length : Int) := by simp; omega
    have hm := rd_mem (xs := [0, v1, 15]) f2.1 hl2
    simp only [List.mem_cons, List.not_mem_nil, or_false] at hm
    refine Tot.pos f2.1 (Tot.pos hl2 (romFill x3 x4 _ q2 (by unfold Byt; omega) h3 Q (fun x5 h5 => hA x5 q2 (by omega) (by omega) h5) _ x5 rfl (by omega) hy))
  | succ e ih =>
    intro x5 p hp hp' hl hy
    refine Tot.up ?_
    unfold spec_l20Rom.l1
    refine Tot.pos (by omega) (Tot.bind (order_tot hb p 0 hp (by omega) (by omega)) ?_)
    rintro ⟨a, c, q⟩ ⟨h1, h2, _⟩
    simp only at h1 h2
    obtain ⟨o, eo, ho1, ho2⟩ := specOB_ok a c
    simp only [eo]
    refine Tot.bind (Tot.ret (Q := (· = o)) rfl) ?_
    rintro _ rfl
    rw [show wrap64 (((e + 1 : Nat) : Int) - 1) = (e : Int) by rw [w64] <;> omega]
    refine Tot.pos (by omega) (ih _ q (by omega) (by omega) (by rw [List.length_append]; omega) fun y hm => ?_)
    rcases List.mem_append.1 hm with hm | hm
    · exact hy y hm
    · exact ho2 y hm
theorem rom_loop {b : List Int} (hb : Src b) : ∀ (d : Nat) (x3 : List (List Int)) (p B : Int), 0 ≤ p → p + 200 * d ≤ B → B ≤ 900000 → x3.length + d ≤ 3 → 1 ≤ x3.length + d → (∀ x ∈ x3, BankOk x) → Tot (fun k => spec_l20Rom.l0 k x3 (d : Int) b p) (fun r => (ValidRom r.1 ∧ r.1.length ≤ 3) ∧ 0 ≤ r.2 ∧ r.2 ≤ B) := by
  intro d
  induction d with
  | zero =>
    intro x3 p B hp hp' hB hl hl1 hx
    refine Tot.up ?_
    unfold spec_l20Rom.l0
    exact Tot.neg (by omega) (Tot.ret ⟨⟨⟨by simp only; omega, hx⟩, by simp only; omega⟩, hp, by simp only; omega⟩)
  | succ d ih =>
    intro x3 p B hp hp' hB hl hl1 hx
    refine Tot.up ?_
    unfold spec_l20Rom.l0
    refine Tot.pos (by omega) (Tot.bind (pick_tot hb p 14 hp (by omega)) ?_)
    rintro ⟨v, q⟩ ⟨h1, _, g1⟩
    simp only at h1 g1
    obtain ⟨n, rfl⟩ := Int.eq_ofNat_of_zero_le (g1 (by omega)).1
    have hn := (g1 (by omega)).2
    refine romOrders hb x3 _ (by omega) _ (p + 190) (by omega) (fun x5 p' h0 h1 h5 => ?_) n [] q (by omega) (by omega) (by simp; omega) (by simp)
    rw [show wrap64 (((d + 1 : Nat) : Int) - 1) = (d : Int) by rw [w64] <;> omega]
    refine ih _ p' B h0 (by omega) hB (by rw [List.length_append, List.length_singleton]; omega) (by rw [List.length_append, List.length_singleton]; omega) fun x hm => ?_
    rcases List.mem_append.1 hm with hm | hm
    · exact hx x hm
    · rw [List.mem_singleton.1 hm]; exact h5
theorem rom_tot {b : List Int} (hb : Src b) (p : Int) (hp : 0 ≤ p) (hp' : p ≤ 90000) : Tot (fun k => spec_l20Rom.f k b p) (fun r => (ValidRom r.1 ∧ r.1.length ≤ 3) ∧ 0 ≤ r.2 ∧ r.2 ≤ p + 700) := by
  unfold spec_l20Rom.f
  refine Tot.bind (pick_tot hb p 3 hp (by omega)) ?_
  rintro ⟨v, q⟩ ⟨h1, _, g1⟩
  simp only at h1 g1 ⊢
  have f1 := g1 (by omega)
  obtain ⟨n, hn⟩ := Int.eq_ofNat_of_zero_le (show 0 ≤ 1 + v by omega)
  simp only [w64 (x := 1 + v) (by omega) (by omega)]
  simp only [hn]
  exact rom_loop hb n [] q (p + 700) (by omega) (by omega) (by omega) (by simp; omega) (by simp; omega) (by simp)
theorem drawNew_tot (l : List Int) (hw : ∀ x ∈ l, (Lit.int .u8 x).wf = true) : Tot (fun k => spec_DrawNewMemory.f k l) (fun r => r.length ≤ 10 ∧ ∀ x ∈ r, x.length ≤ 256) := by
  unfold spec_DrawNewMemory.f
  refine Tot.bind (open_tot l hw) ?_
  rintro ⟨b, p⟩ ⟨hb, hp⟩
  simp only at hb hp
  refine Tot.bind (rom_tot hb p (by omega) (by omega)) ?_
  rintro ⟨rom, q⟩ ⟨⟨hr, hr3⟩, h0, h1⟩
  simp only at hr hr3 h0 h1 ⊢
  have hl : 1 ≤ rom.length := hr.1.1
  have hx : ∀ x ∈ rom, x.length = 256 := fun x h => (hr.2 x h).1
  have e0 : rd_L1 rom 0 = rom[0] := rdR_at (i := 0) (by omega)
  have hl0 := hx _ (List.getElem_mem (show 0 < rom.length by omega))
  refine Tot.bind (odd_tot hb q 5 h0 (by omega) (by omega)) ?_
  rintro ⟨v0, q0⟩ ⟨e1, e2, _⟩
  simp only at e1 e2 ⊢
  refine Tot.ite (fun _ => ?_) (fun _ => Tot.ret ⟨by omega, fun x h => by have := hx x h; omega⟩)
  refine Tot.bind (pick_tot hb q0 3 (by omega) (by omega)) ?_
  rintro ⟨v1, q1⟩ ⟨h1', _, g1⟩
  simp only at h1' g1 ⊢
  refine Tot.ite (fun _ => Tot.ret ⟨by simp, by simp⟩) (fun _ => Tot.ite (fun _ => ?_) (fun _ => ?_))
  · rw [e0]
    refine Tot.pos (by omega) (Tot.pos (by omega) (Tot.ret ⟨by rw [List.length_set]; omega, fun x h => ?_⟩))
    rcases List.mem_or_eq_of_mem_set h with h | h
    · have := hx x h; omega
    · rw [h, List.length_drop]; omega
  · rw [e0]
    refine Tot.pos (by omega) (Tot.bind (Tot.ret (Q := (· = [rom[0], rom[0], rom[0], rom[0]])) rfl) ?_)
    rintro _ rfl
    refine Tot.pos (by simp only [List.length_cons, List.length_nil]; omega) (Tot.ret ⟨by rw [List.length_append]; simp only [List.length_cons, List.length_nil]; omega, fun x h => ?_⟩)
    rcases List.mem_append.1 h with h | h
    · have := hx x h; omega
    · simp only [List.mem_cons, List.not_mem_nil, or_false] at h
      have : x = rom[0] := by rcases h with h | h | h | h <;> exact h
      rw [this]; omega
theorem sameInts_loop (xs ys : List Int) (hm : xs.length ≤ 9223372036854775807) (hl : xs.length = ys.length) : ∀ (d i : Nat), xs.length - i = d → i ≤ xs.length →
    Tot (fun k => laws_sameInts.l0 k xs ys (i : Int)) (fun r => r = true ↔ xs.drop i = ys.drop i) := by
  intro d
  induction d with
  | zero =>
    intro i hd hi
    refine Tot.up ?_
    simp only [laws_sameInts.l0]
    refine Tot.neg (by omega) (Tot.ret ?_)
    rw [List.drop_of_length_le (by omega), List.drop_of_length_le (by omega)]
    simp
  | succ d ih =>
    intro i hd hi
    have hlt : i < xs.length := by omega
    have hlt' : i < ys.length := by omega
    refine Tot.up ?_
    simp only [laws_sameInts.l0, rd_at hlt, rd_at hlt', inext hlt hm]
    refine Tot.pos (by omega) (Tot.pos (by omega) (Tot.pos (by omega) ?_))
    rw [List.drop_eq_getElem_cons hlt, List.drop_eq_getElem_cons hlt']
    refine Tot.ite (fun h => ?_) (fun h => Tot.ret ⟨fun z => (by cases z), fun z => absurd (List.cons.inj z).1 h⟩)
    refine (ih (i + 1) (by omega) (by omega)).mono fun r hr => ?_
    rw [hr, h]
    exact ⟨fun z => by rw [z], fun z => (List.cons.inj z).2⟩
theorem sameInts_tot (xs ys : List Int) (hm : xs.length ≤ 9223372036854775807) : Tot (fun k => laws_sameInts.f k xs ys) (fun r => r = true ↔ xs = ys) := by
  unfold laws_sameInts.f
  refine Tot.ite (fun h => ?_) (fun h => Tot.ret ⟨fun z => (by cases z), fun z => absurd (by rw [z]) h⟩)
  exact sameInts_loop xs ys hm (by omega) xs.length 0 rfl (Nat.zero_le _)
theorem sameRows_loop (xs ys : List (List Int)) (hm : xs.length ≤ 9223372036854775807) (hl : xs.length = ys.length) (hr : ∀ x ∈ xs, x.length ≤ 9223372036854775807) : ∀ (d i : Nat), xs.length - i = d → i ≤ xs.length →
    Tot (fun k => laws_sameRows.l0 k xs ys (i : Int)) (fun r => r = true ↔ xs.drop i = ys.drop i) := by
  intro d
  induction d with
  | zero =>
    intro i hd hi
    refine Tot.up ?_
    simp only [laws_sameRows.l0]
    refine Tot.neg (by omega) (Tot.ret ?_)
    rw [List.drop_of_length_le (by omega), List.drop_of_length_le (by omega)]
    simp
  | succ d ih =>
    intro i hd hi
    have hlt : i < xs.length := by omega
    have hlt' : i < ys.length := by omega
    refine Tot.up ?_
    simp only [laws_sameRows.l0, rdR_at hlt, rdR_at hlt', inext hlt hm]
    rw [List.drop_eq_getElem_cons hlt, List.drop_eq_getElem_cons hlt']
    refine Tot.pos (by omega) (Tot.pos (by omega) (Tot.pos (by omega) (Tot.bind (sameInts_tot _ _ (hr _ (List.getElem_mem hlt))) fun q hq => Tot.ite (fun h => ?_) (fun h => Tot.ret ⟨fun z => (by cases z), fun z => absurd (hq.2 (List.cons.inj z).1) h⟩))))
    refine (ih (i + 1) (by omega) (by omega)).mono fun r hr' => ?_
    rw [hr', hq.1 h]
    exact ⟨fun z => by rw [z], fun z => (List.cons.inj z).2⟩
theorem sameRows_tot (xs ys : List (List Int)) (hm : xs.length ≤ 9223372036854775807) (hr : ∀ x ∈ xs, x.length ≤ 9223372036854775807) : Tot (fun k => laws_sameRows.f k xs ys) (fun r => r = true ↔ xs = ys) := by
  unfold laws_sameRows.f
  refine Tot.ite (fun h => ?_) (fun h => Tot.ret ⟨fun z => (by cases z), fun z => absurd (by rw [z]) h⟩)
  exact sameRows_loop xs ys hm (by omega) hr xs.length 0 rfl (Nat.zero_le _)
theorem FnBuildCartridge (l0 : List Int) (_ : l0.length ≤ 9223372036854775807) (hw : ∀ y ∈ l0, (Lit.int .u8 y).wf = true) : ∃ k, laws_FnBuildCartridge.f k l0 = some true := by
  refine Tot.ex ?_
  unfold laws_FnBuildCartridge.f spec_DrawBuildCartridge.f
  refine Tot.ite (fun _ => Tot.ret rfl) (fun _ => ?_)
  refine Tot.bind (Q := fun r => r.length ≤ 10 ∧ ∀ x ∈ r, x.length ≤ 256) (Tot.bind (drawNew_tot l0 hw) fun r hr => Tot.ret hr) fun rom ⟨hr, hrr⟩ => ?_
  have hrr' : ∀ x ∈ rom, x.length ≤ 1048576 := fun x h => by have := hrr x h; omega
  refine Tot.bind (implBuild_tot rom) fun xs hx => ?_
  refine Tot.bind (specBuild_tot rom (by omega) hrr') fun ys hy => ?_
  obtain rfl := BC_one hx hy
  by_cases hv : ValidRom rom
  · have hb := read_build hv
    have hl := build_length hv
    have hv1 := hv.1
    rw [hx.1 hv]
    refine Tot.bind (sameInts_tot _ _ (by omega)) fun r1 h1 => Tot.pos (h1.2 rfl) (Tot.neg (by omega) ?_)
    refine Tot.bind (implRead_tot _ (by omega)) fun g hg => ?_
    rw [hg.1 hb.1, hb.2]
    refine Tot.pos rfl (Tot.bind (sameRows_tot rom rom (by omega) (fun x h => by have := hrr x h; omega)) fun r2 h2 => Tot.pos (h2.2 rfl) (Tot.ret ?_))
    rw [w64 (x := 256 * (rom.length : Int)) (by omega) (by omega), w64 (by omega) (by omega), hl]
    simp
  · rw [hx.2 hv]
    refine Tot.bind (sameInts_tot [] [] (by simp)) fun r1 h1 => Tot.pos (h1.2 rfl) (Tot.pos rfl ?_)
    refine Tot.bind (implNew_tot rom (by omega) hrr') fun g hg => ?_
    rw [hg.2 hv]
    simp only [alive_eq, Option.bind_some]
    exact Tot.bind (implMV_tot [] [] 0 (by simp)) fun q hq => Tot.neg (fun z => mv_zero (hq.1 z)) (Tot.ret rfl)
end Go.Proofs.Ytekbnloceifdmaa.Pure
