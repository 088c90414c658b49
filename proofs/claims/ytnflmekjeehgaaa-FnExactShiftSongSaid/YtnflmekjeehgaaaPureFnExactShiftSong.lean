/- The shifted song is the reference's, for every song of at most 2^20 notes (a longer one the law lets pass); the argument is unmodified, the result is memory of its own. -/
import Derived.Test.YtnflmekjeehgaaaPFnExactShiftSongx3
import Derived.DataShut
namespace Go.Proofs.Ytnflmekjeehgaaa.Pure
open Go.RowKit Go.Proofs.Ytnflmekjeehgaaa.PFnExactShiftSong Go.Proofs.YtnflmekjeehgaaaW.PrintWords Go.Proofs.YtnflmekjeehgaaaW.PrintLast
set_option linter.unusedSimpArgs false
set_option linter.unusedVariables false
theorem i64_of {n : Int} (h : (Lit.int .i64 n).wf = true) : -9223372036854775808 ≤ n ∧ n ≤ 9223372036854775807 := (Lit.wf_int_iff .i64 n).1 h
theorem u8_of {n : Int} (h : (Lit.int .u8 n).wf = true) : 0 ≤ n ∧ n ≤ 255 := (Lit.wf_int_iff .u8 n).1 h
theorem w64 {x : Int} (h0 : -9223372036854775808 ≤ x) (h1 : x ≤ 9223372036854775807) : wrap64 x = x := by unfold wrap64; omega
theorem some_dec {p q : Prop} [Decidable p] [Decidable q] (h : p ↔ q) : some (decide p) = some (decide q) := by simp only [h]
theorem some_ff {p : Prop} [Decidable p] (h : ¬ p) : some false = some (decide p) := by rw [decide_eq_false h]
theorem some_tt {p : Prop} [Decidable p] (h : p) : some true = some (decide p) := by rw [decide_eq_true h]
theorem tmod_nn {a b : Int} (h : 0 ≤ a) : Int.tmod a b = a % b := Int.tmod_eq_emod_of_nonneg h
theorem tdiv_nn {a b : Int} (h : 0 ≤ a) : Int.tdiv a b = a / b := Int.tdiv_eq_ediv_of_nonneg h
/-- With enough rounds it answers, and Q holds of the answer. -/
def Tot {α : Type} (g : Nat → Option α) (Q : α → Prop) : Prop := ∃ r, Q r ∧ ∃ K, ∀ k, K ≤ k → g k = some r
section
variable {α β : Type} {g h : Nat → Option α} {f : Nat → α → Option β} {Q : α → Prop} {R : β → Prop} {c : Prop} [Decidable c]
theorem Tot.ret {r : α} (h : Q r) : Tot (fun _ => some r) Q := ⟨r, h, 0, fun _ _ => rfl⟩
theorem Tot.of {r : α} (e : ∀ k, 0 < k → g k = some r) (h : Q r) : Tot g Q := ⟨r, h, 1, fun k hk => e k hk⟩
theorem Tot.bind (hg : Tot g Q) (hf : ∀ a, Q a → Tot (fun k => f k a) R) : Tot (fun k => (g k).bind (f k)) R := by
  obtain ⟨a, ha, K, hK⟩ := hg
  obtain ⟨b, hb, L, hL⟩ := hf a ha
  refine ⟨b, hb, K + L, fun k hk => ?_⟩
  show (g k).bind (f k) = some b
  rw [hK k (by omega)]
  exact hL k (by omega)
theorem Tot.ite (hg : c → Tot g Q) (hh : ¬ c → Tot h Q) : Tot (fun k => if c then g k else h k) Q := by
  by_cases hc : c
  · simp only [if_pos hc]; exact hg hc
  · simp only [if_neg hc]; exact hh hc
theorem Tot.pos (hc : c) (hg : Tot g Q) : Tot (fun k => if c then g k else h k) Q := by simp only [if_pos hc]; exact hg
theorem Tot.neg (hc : ¬ c) (hh : Tot h Q) : Tot (fun k => if c then g k else h k) Q := by simp only [if_neg hc]; exact hh
theorem Tot.up (h : Tot (fun k => g (k + 1)) Q) : Tot g Q := by
  obtain ⟨r, hr, K, hK⟩ := h
  refine ⟨r, hr, K + 1, fun k hk => ?_⟩
  obtain ⟨m, rfl⟩ : ∃ m, k = m + 1 := ⟨k - 1, by omega⟩
  exact hK m (by omega)
theorem Tot.mono {Q' : α → Prop} (h : Tot g Q) (hq : ∀ a, Q a → Q' a) : Tot g Q' := by
  obtain ⟨r, hr, K⟩ := h
  exact ⟨r, hq r hr, K⟩
theorem Tot.ex {g : Nat → Option Bool} (h : Tot g (· = true)) : ∃ k, g k = some true := by
  obtain ⟨r, rfl, K, hK⟩ := h
  exact ⟨K, hK K (Nat.le_refl _)⟩
/-- Two runs of the same answer alike. -/
theorem Tot.same (h : Tot g Q) : ∃ r, Q r ∧ Tot g (· = r) := by
  obtain ⟨r, hr, K⟩ := h
  exact ⟨r, hr, r, rfl, K⟩
end
theorem l1In_eq (a b c : Int) : spec_l1In.f a b c = some (decide (b ≤ a ∧ a ≤ c)) := by
  unfold spec_l1In.f
  split
  · exact some_dec (by omega)
  · exact some_ff (by omega)
theorem within_eq (a b c : Int) : impl_within.f a b c = some (decide (b ≤ a ∧ a ≤ c)) := by
  unfold impl_within.f
  split
  · exact some_dec (by omega)
  · exact some_ff (by omega)
/-- A valid note. -/
def NV (x : S43) : Prop := (-1 ≤ x.f0 ∧ x.f0 ≤ 35) ∧ 1 ≤ x.f1 ∧ x.f1 ≤ 20
theorem note_at {xs : List S43} {i : Nat} (h : i < xs.length) : rd_T43 xs (i : Int) = xs[i] := by
  unfold rd_T43
  rw [List.getD_eq_getElem?_getD, Int.toNat_natCast, List.getElem?_eq_getElem h]; rfl
theorem note_ext {x y : S43} (h0 : x.f0 = y.f0) (h1 : x.f1 = y.f1) : x = y := by
  cases x; cases y; simp only at h0 h1; rw [h0, h1]
theorem next_i {i n : Nat} (h : i < n) (hn : n ≤ 9223372036854775807) : wrap64 ((i : Int) + 1) = ((i + 1 : Nat) : Int) := by
  rw [w64] <;> omega
theorem all_drop {α : Type} {P : α → Prop} {xs : List α} {i : Nat} (h : i < xs.length) : (∀ x ∈ xs.drop i, P x) ↔ P xs[i] ∧ ∀ x ∈ xs.drop (i + 1), P x := by
  rw [List.drop_eq_getElem_cons h, List.forall_mem_cons]
theorem specSong_loop (xs : List S43) (hm : xs.length ≤ 9223372036854775807) : ∀ (d i : Nat), xs.length - i = d → i ≤ xs.length →
    Tot (fun k => spec_SongValid.l0 k xs (i : Int)) (fun r => r = true ↔ (∀ x ∈ xs.drop i, NV x) ∧ xs.length ≤ 40) := by
  intro d
  induction d with
  | zero =>
    intro i hd hi
    refine Tot.up ?_
    simp only [spec_SongValid.l0]
    refine Tot.neg (by omega) (Tot.ret ?_)
    rw [List.drop_of_length_le (by omega)]
    simp
    omega
  | succ d ih =>
    intro i hd hi
    have hlt : i < xs.length := by omega
    refine Tot.up ?_
    simp only [spec_SongValid.l0, note_at hlt, next_i hlt hm, l1In_eq, Option.bind_some, decide_eq_true_eq]
    refine Tot.pos (by omega) (Tot.pos (by omega) (Tot.ite (fun h1 => Tot.ite (fun h2 => ?_) (fun h2 => ?_)) (fun h1 => ?_)))
    · refine (ih (i + 1) (by omega) (by omega)).mono fun r hr => ?_
      rw [hr, all_drop hlt]
      exact ⟨fun z => ⟨⟨⟨h1, h2⟩, z.1⟩, z.2⟩, fun z => ⟨z.1.2, z.2⟩⟩
    · refine Tot.ret ?_
      rw [all_drop hlt]
      exact ⟨fun z => (by cases z), fun z => absurd z.1.1.2 h2⟩
    · refine Tot.ret ?_
      rw [all_drop hlt]
      exact ⟨fun z => (by cases z), fun z => absurd z.1.1.1 h1⟩
theorem specSong_tot (xs : List S43) (hm : xs.length ≤ 9223372036854775807) : Tot (fun k => spec_SongValid.f k xs) (fun r => r = true ↔ (∀ x ∈ xs, NV x) ∧ xs.length ≤ 40) := by
  unfold spec_SongValid.f
  exact specSong_loop xs hm xs.length 0 rfl (Nat.zero_le _)
theorem implSong_loop (xs : List S43) (hm : xs.length ≤ 9223372036854775807) : ∀ (d i : Nat), xs.length - i = d → i ≤ xs.length →
    Tot (fun k => impl_SongValid.l0 k xs (xs.length : Int) (i : Int)) (fun r => r = true ↔ ∀ x ∈ xs.drop i, NV x) := by
  intro d
  induction d with
  | zero =>
    intro i hd hi
    refine Tot.up ?_
    simp only [impl_SongValid.l0]
    refine Tot.neg (by omega) (Tot.ret ?_)
    rw [List.drop_of_length_le (by omega)]
    simp
  | succ d ih =>
    intro i hd hi
    have hlt : i < xs.length := by omega
    refine Tot.up ?_
    simp only [impl_SongValid.l0, note_at hlt, next_i hlt hm, within_eq, Option.bind_some, decide_eq_true_eq]
    refine Tot.pos (by omega) (Tot.pos (by omega) (Tot.pos (by omega) (Tot.ite (fun h1 => Tot.ite (fun h2 => ?_) (fun h2 => ?_)) (fun h1 => ?_))))
    · refine (ih (i + 1) (by omega) (by omega)).mono fun r hr => ?_
      rw [hr, all_drop hlt]
      exact ⟨fun z => ⟨⟨h1, h2⟩, z⟩, fun z => z.2⟩
    · refine Tot.ret ?_
      rw [all_drop hlt]
      exact ⟨fun z => (by cases z), fun z => absurd z.1.2 h2⟩
    · refine Tot.ret ?_
      rw [all_drop hlt]
      exact ⟨fun z => (by cases z), fun z => absurd z.1.1 h1⟩
theorem implSong_tot (xs : List S43) (hm : xs.length ≤ 9223372036854775807) : Tot (fun k => impl_SongValid.f k xs) (fun r => r = true ↔ (∀ x ∈ xs, NV x) ∧ xs.length ≤ 40) := by
  unfold impl_SongValid.f
  refine Tot.ite (fun h => Tot.ret ⟨fun z => (by cases z), fun z => by omega⟩) (fun h => ?_)
  exact (implSong_loop xs hm xs.length 0 rfl (Nat.zero_le _)).mono fun r hr => by rw [hr]; exact ⟨fun z => ⟨z, by omega⟩, fun z => z.1⟩
theorem lnote_at {xs : List S63} {i : Nat} (h : i < xs.length) : rd_T63 xs (i : Int) = xs[i] := by
  unfold rd_T63
  rw [List.getD_eq_getElem?_getD, Int.toNat_natCast, List.getElem?_eq_getElem h]; rfl
def conv (x : S63) : S43 := ⟨x.f0, x.f1⟩
theorem take_set {α : Type} {ys : List α} {i : Nat} (h : i < ys.length) (c : α) : (ys.set i c).take (i + 1) = ys.take i ++ [c] := by
  rw [List.take_succ_eq_append_getElem (by rw [List.length_set]; exact h), List.getElem_set_self, List.take_set, List.set_eq_of_length_le (by rw [List.length_take]; omega)]
theorem toNotes_loop (xs : List S63) (hm : xs.length ≤ 9223372036854775807) : ∀ (d i : Nat) (ys : List S43), xs.length - i = d → i ≤ xs.length → ys.length = xs.length →
    Tot (fun k => laws_toNoteS.l0 k xs ys (i : Int)) (· = ys.take i ++ (xs.drop i).map conv) := by
  intro d
  induction d with
  | zero =>
    intro i ys hd hi hy
    refine Tot.up ?_
    simp only [laws_toNoteS.l0]
    refine Tot.neg (by omega) (Tot.ret ?_)
    rw [List.drop_of_length_le (by omega), List.take_of_length_le (by omega)]
    simp
  | succ d ih =>
    intro i ys hd hi hy
    have hlt : i < xs.length := by omega
    refine Tot.up ?_
    simp only [laws_toNoteS.l0, lnote_at hlt, next_i hlt hm, laws_toNote.f, Option.bind_some, Int.toNat_natCast]
    refine Tot.pos (by omega) (Tot.pos (by omega) (Tot.pos (by omega) ?_))
    refine (ih (i + 1) _ (by omega) (by omega) (by rw [List.length_set]; exact hy)).mono fun r hr => ?_
    rw [hr, take_set (by omega), List.drop_eq_getElem_cons hlt, List.map_cons, List.append_assoc]
    rfl
theorem toNotes_tot (xs : List S63) (hm : xs.length ≤ 1048576) : Tot (fun k => laws_toNoteS.f k xs) (· = xs.map conv) := by
  unfold laws_toNoteS.f
  simp only [Int.toNat_natCast]
  refine Tot.pos (by omega) (Tot.pos (by omega) ?_)
  refine (toNotes_loop xs (by omega) xs.length 0 _ rfl (Nat.zero_le _) (by rw [List.length_replicate])).mono fun r hr => ?_
  rw [hr]; simp
theorem eqNotes_loop (xs ys : List S43) (hm : xs.length ≤ 9223372036854775807) (hl : xs.length = ys.length) : ∀ (d i : Nat), xs.length - i = d → i ≤ xs.length →
    Tot (fun k => laws_eqNoteS.l0 k xs ys (i : Int)) (fun r => r = true ↔ xs.drop i = ys.drop i) := by
  intro d
  induction d with
  | zero =>
    intro i hd hi
    refine Tot.up ?_
    simp only [laws_eqNoteS.l0]
    refine Tot.neg (by omega) (Tot.ret ?_)
    rw [List.drop_of_length_le (by omega), List.drop_of_length_le (by omega)]
    simp
  | succ d ih =>
    intro i hd hi
    have hlt : i < xs.length := by omega
    have hlt' : i < ys.length := by omega
    refine Tot.up ?_
    simp only [laws_eqNoteS.l0, note_at hlt, note_at hlt', next_i hlt hm, laws_eqNote.f]
    refine Tot.pos (by omega) (Tot.pos (by omega) (Tot.pos (by omega) ?_))
    rw [List.drop_eq_getElem_cons hlt, List.drop_eq_getElem_cons hlt']
    by_cases h0 : xs[i].f0 = ys[i].f0
    · by_cases h1 : xs[i].f1 = ys[i].f1
      · simp only [if_pos h0, if_pos h1, Option.bind_some, if_true]
        refine (ih (i + 1) (by omega) (by omega)).mono fun r hr => ?_
        rw [hr, note_ext h0 h1]
        exact ⟨fun z => by rw [z], fun z => (List.cons.inj z).2⟩
      · simp only [if_pos h0, if_neg h1, Option.bind_some, Bool.false_eq_true, if_false]
        refine Tot.ret ⟨fun z => (by cases z), fun z => absurd (by rw [(List.cons.inj z).1]) h1⟩
    · simp only [if_neg h0, Option.bind_some, Bool.false_eq_true, if_false]
      refine Tot.ret ⟨fun z => (by cases z), fun z => absurd (by rw [(List.cons.inj z).1]) h0⟩
theorem eqNotes_tot (xs ys : List S43) (hm : xs.length ≤ 9223372036854775807) : Tot (fun k => laws_eqNoteS.f k xs ys) (fun r => r = true ↔ xs = ys) := by
  unfold laws_eqNoteS.f
  refine Tot.ite (fun h => ?_) (fun h => Tot.ret ⟨fun z => (by cases z), fun z => absurd (by rw [z]) h⟩)
  exact eqNotes_loop xs ys hm (by omega) xs.length 0 rfl (Nat.zero_le _)
theorem szNotes_eq (xs : List S63) (hm : xs.length ≤ 9223372036854775807) : laws_szNoteS.f xs 1048576 = some (if xs.length ≤ 1048576 then 1048576 - (xs.length : Int) else -1) := by
  unfold laws_szNoteS.f
  rw [w64 (by omega) (by omega)]
  by_cases h : xs.length ≤ 1048576
  · rw [if_neg (by omega), if_pos h]
  · rw [if_pos (by omega), if_neg h]
/-! ### Shifting -/
theorem ok_iff {b : Int} {x : S43} (hx : NV x) (hb : -36 ≤ b ∧ b ≤ 36) : impl_ShiftSong.ok b x = true ↔ x.f0 < 0 ∨ (0 ≤ x.f0 + b ∧ x.f0 + b ≤ 35) := by
  unfold NV at hx
  unfold impl_ShiftSong.ok
  rw [w64 (x := x.f0 + b) (by omega) (by omega)]
  simp
theorem sh_eq {b : Int} {x : S43} (hx : NV x) (hb : -36 ≤ b ∧ b ≤ 36) : impl_ShiftSong.sh b x = if x.f0 < 0 then x else ⟨x.f0 + b, x.f1⟩ := by
  unfold NV at hx
  unfold impl_ShiftSong.sh
  rw [w64 (x := x.f0 + b) (by omega) (by omega)]
open Classical in
/-- What a shift answers. -/
noncomputable def SS (xs : List S43) (b : Int) : List S43 × Bool :=
  if ((∀ x ∈ xs, NV x) ∧ xs.length ≤ 40) ∧ (-35 ≤ b ∧ b ≤ 35) ∧ xs.all (impl_ShiftSong.ok b) = true then (xs.map (impl_ShiftSong.sh b), true) else ([], false)
theorem implShift_tot (xs : List S43) (hm : xs.length ≤ 1048576) (b : Int) : Tot (fun k => impl_ShiftSong.f k xs b) (· = SS xs b) := by
  unfold impl_ShiftSong.f
  refine Tot.bind (implSong_tot xs (by omega)) fun r hr => ?_
  refine Tot.ite (fun h => ?_) (fun h => Tot.ret ?_)
  · refine Tot.ite (fun hb => Tot.pos (by omega) (Tot.ret ?_)) (fun hb => Tot.ret ?_)
    · unfold SS
      by_cases ha : xs.all (impl_ShiftSong.ok b) = true
      · rw [if_pos ha, if_pos ⟨hr.1 h, hb, ha⟩]
      · rw [if_neg ha, if_neg (fun z => ha z.2.2)]
    · unfold SS
      rw [if_neg (fun z => hb z.2.1)]
  · unfold SS
    rw [if_neg (fun z => h (hr.2 z.1))]
theorem specShift_loop (xs : List S43) (hv : ∀ x ∈ xs, NV x) (hm : xs.length ≤ 40) (b : Int) (hb : -35 ≤ b ∧ b ≤ 35) : ∀ (d i : Nat) (ys : List S43), xs.length - i = d → i ≤ xs.length → ys.length = i →
    Tot (fun k => spec_ShiftSong.l0 k xs b ys (i : Int)) (· = if (xs.drop i).all (impl_ShiftSong.ok b) = true then (ys ++ (xs.drop i).map (impl_ShiftSong.sh b), true) else ([], false)) := by
  intro d
  induction d with
  | zero =>
    intro i ys hd hi hy
    refine Tot.up ?_
    simp only [spec_ShiftSong.l0]
    refine Tot.neg (by omega) (Tot.ret ?_)
    rw [List.drop_of_length_le (by omega)]
    simp
  | succ d ih =>
    intro i ys hd hi hy
    have hlt : i < xs.length := by omega
    have hx := hv _ (List.getElem_mem hlt)
    have ho := ok_iff hx (show -36 ≤ b ∧ b ≤ 36 by omega)
    have hs := sh_eq hx (show -36 ≤ b ∧ b ≤ 36 by omega)
    have hx' := hx
    unfold NV at hx'
    refine Tot.up ?_
    simp only [spec_ShiftSong.l0, note_at hlt, next_i hlt (by omega), l1In_eq, Option.bind_some, decide_eq_true_eq]
    simp only [w64 (x := xs[i].f0 + b) (by omega) (by omega)]
    refine Tot.pos (by omega) (Tot.pos (by omega) (Tot.ite (fun h1 => Tot.ite (fun h2 => Tot.pos (by omega) ?_) (fun h2 => Tot.ret ?_)) (fun h1 => Tot.pos (by omega) ?_)))
    · rw [if_neg (by omega)] at hs
      refine (ih (i + 1) _ (by omega) (by omega) (by rw [List.length_append, List.length_singleton]; omega)).mono fun r hr => ?_
      rw [hr, List.drop_eq_getElem_cons hlt, List.all_cons, List.map_cons, ho.2 (.inr h2), hs, Bool.true_and]
      simp
    · have hf : impl_ShiftSong.ok b xs[i] = false := by
        rw [← Bool.not_eq_true, ho]; omega
      rw [List.drop_eq_getElem_cons hlt, List.all_cons, hf, Bool.false_and]
      rfl
    · rw [if_pos (by omega)] at hs
      refine (ih (i + 1) _ (by omega) (by omega) (by rw [List.length_append, List.length_singleton]; omega)).mono fun r hr => ?_
      rw [hr, List.drop_eq_getElem_cons hlt, List.all_cons, List.map_cons, ho.2 (.inl (by omega)), hs, Bool.true_and]
      simp
theorem specShift_tot (xs : List S43) (hm : xs.length ≤ 1048576) (b : Int) : Tot (fun k => spec_ShiftSong.f k xs b) (· = SS xs b) := by
  have bad : ¬ (((∀ x ∈ xs, NV x) ∧ xs.length ≤ 40) ∧ (-35 ≤ b ∧ b ≤ 35)) → Tot (fun k => spec_ShiftSong.j0 k xs b [] true) (· = SS xs b) := by
    intro hz
    refine Tot.up ?_
    simp only [spec_ShiftSong.j0]
    refine Tot.pos trivial (Tot.ret ?_)
    unfold SS; rw [if_neg (fun z => hz ⟨z.1, z.2.1⟩)]
  unfold spec_ShiftSong.f
  simp only [Option.bind_some, l1In_eq]
  refine Tot.bind (specSong_tot xs (by omega)) fun r hr => ?_
  refine Tot.ite (fun h => ?_) (fun h => bad (fun z => h (hr.2 z.1)))
  by_cases hb : -35 ≤ b ∧ b ≤ 35
  · rw [decide_eq_true hb]
    refine Tot.up ?_
    simp only [spec_ShiftSong.j0, Bool.not_true]
    refine Tot.neg (by simp) ((specShift_loop xs (hr.1 h).1 (hr.1 h).2 b hb xs.length 0 [] rfl (Nat.zero_le _) rfl).mono fun r' hr' => ?_)
    rw [hr']
    unfold SS
    simp only [List.drop_zero, List.nil_append]
    by_cases ha : xs.all (impl_ShiftSong.ok b) = true
    · rw [if_pos ha, if_pos ⟨hr.1 h, hb, ha⟩]
    · rw [if_neg ha, if_neg (fun z => ha z.2.2)]
  · rw [decide_eq_false hb]
    exact bad (fun z => hb z.2)
/-! ### Marks -/
theorem markNotes_loop (n : Nat) (hn : n ≤ 1048576) : ∀ (d i : Nat) (ys : List S43), n - i = d → i ≤ n → ys.length = n → (∀ j (h : j < ys.length), j < i → ys[j] = ⟨1 + 2 * (j : Int), 2 + 2 * (j : Int)⟩) →
    Tot (fun k => laws_markNoteS.l0 k ys (1 + 2 * (i : Int)) (i : Int)) (fun r => r.1 = 1 + 2 * (n : Int) ∧ r.2.length = n ∧ ∀ j (h : j < r.2.length), r.2[j] = ⟨1 + 2 * (j : Int), 2 + 2 * (j : Int)⟩) := by
  intro d
  induction d with
  | zero =>
    intro i ys hd hi hy hj
    refine Tot.up ?_
    simp only [laws_markNoteS.l0]
    refine Tot.neg (by omega) (Tot.ret ⟨by simp only; omega, hy, fun j h => hj j h (by simp only at h; omega)⟩)
  | succ d ih =>
    intro i ys hd hi hy hj
    have hlt : i < ys.length := by omega
    have hlt' : i < (ys.set i (⟨1 + 2 * (i : Int), ys[i].f1⟩ : S43)).length := by rw [List.length_set]; exact hlt
    refine Tot.up ?_
    simp only [laws_markNoteS.l0, note_at hlt, next_i hlt (by omega), Option.bind_some, Int.toNat_natCast, note_at hlt', List.getElem_set_self, List.set_set]
    rw [w64 (x := 1 + 2 * (i : Int) + 1) (by omega) (by omega), w64 (x := 1 + 2 * (i : Int) + 1 + 1) (by omega) (by omega), show 1 + 2 * (i : Int) + 1 + 1 = 1 + 2 * ((i + 1 : Nat) : Int) by omega, show 1 + 2 * (i : Int) + 1 = 2 + 2 * (i : Int) by omega]
    refine Tot.pos (by omega) (Tot.pos (by omega) (ih (i + 1) _ (by omega) (by omega) (by rw [List.length_set]; exact hy) fun j h hji => ?_))
    rw [List.getElem_set]
    split
    · rename_i hij
      rw [hij]
    · exact hj j (by rw [List.length_set] at h; exact h) (by omega)
theorem markNotes_tot (ys : List S43) (hn : ys.length ≤ 1048576) : Tot (fun k => laws_markNoteS.f k ys 1) (fun r => r.1 = 1 + 2 * (ys.length : Int) ∧ r.2.length = ys.length ∧ ∀ j (h : j < r.2.length), r.2[j] = ⟨1 + 2 * (j : Int), 2 + 2 * (j : Int)⟩) := by
  unfold laws_markNoteS.f
  exact markNotes_loop ys.length hn ys.length 0 ys rfl (Nat.zero_le _) rfl (fun j h h0 => by omega)
theorem heldNotes_loop (ys : List S43) (hn : ys.length ≤ 1048576) (hy : ∀ j (h : j < ys.length), ys[j] = ⟨1 + 2 * (j : Int), 2 + 2 * (j : Int)⟩) : ∀ (d i : Nat), ys.length - i = d → i ≤ ys.length →
    Tot (fun k => laws_heldNoteS.l0 k ys (1 + 2 * (i : Int)) (i : Int)) (· = 1 + 2 * (ys.length : Int)) := by
  intro d
  induction d with
  | zero =>
    intro i hd hi
    refine Tot.up ?_
    simp only [laws_heldNoteS.l0]
    exact Tot.neg (by omega) (Tot.ret (by omega))
  | succ d ih =>
    intro i hd hi
    have hlt : i < ys.length := by omega
    refine Tot.up ?_
    simp only [laws_heldNoteS.l0, note_at hlt, next_i hlt (by omega), hy i hlt]
    rw [w64 (x := 1 + 2 * (i : Int) + 1) (by omega) (by omega), w64 (x := 1 + 2 * (i : Int) + 1 + 1) (by omega) (by omega), show 1 + 2 * (i : Int) + 1 + 1 = 1 + 2 * ((i + 1 : Nat) : Int) by omega]
    exact Tot.pos (by omega) (Tot.pos (by omega) (Tot.pos trivial (Tot.pos (by omega) (ih (i + 1) (by omega) (by omega)))))
theorem heldNotes_tot (ys : List S43) (hn : ys.length ≤ 1048576) (hy : ∀ j (h : j < ys.length), ys[j] = ⟨1 + 2 * (j : Int), 2 + 2 * (j : Int)⟩) : Tot (fun k => laws_heldNoteS.f k ys 1) (· = 1 + 2 * (ys.length : Int)) := by
  unfold laws_heldNoteS.f
  exact heldNotes_loop ys hn hy ys.length 0 rfl (Nat.zero_le _)
theorem FnExactShiftSong (l0 : List S63) (a1 : Int) (hm : l0.length ≤ 9223372036854775807) (_ : ∀ y ∈ l0, ((Lit.int .i64 y.f0).wf = true) ∧ ((Lit.int .i64 y.f1).wf = true)) (_ : (Lit.int .i64 a1).wf = true) : ∃ k, laws_FnExactShiftSong.f k l0 a1 = some true := by
  refine Tot.ex ?_
  unfold laws_FnExactShiftSong.f
  simp only [szNotes_eq l0 hm, Option.bind_some]
  refine Tot.ite (fun _ => Tot.ret rfl) (fun hn => ?_)
  have hl : l0.length ≤ 1048576 := by
    by_cases h : l0.length ≤ 1048576
    · exact h
    · rw [if_neg h] at hn; omega
  have hx : (l0.map conv).length ≤ 1048576 := by rw [List.length_map]; exact hl
  have hlen : (SS (l0.map conv) a1).1.length ≤ 1048576 := by
    unfold SS
    split
    · rw [List.length_map]; exact hx
    · exact Nat.zero_le _
  refine Tot.bind (toNotes_tot l0 hl) ?_
  rintro _ rfl
  refine Tot.bind (specShift_tot _ hx a1) ?_
  rintro _ rfl
  refine Tot.bind (toNotes_tot l0 hl) ?_
  rintro _ rfl
  refine Tot.bind (implShift_tot _ hx a1) ?_
  rintro _ rfl
  refine Tot.bind (eqNotes_tot _ _ (by omega)) fun r hr => Tot.pos (hr.2 rfl) ?_
  simp only [bne_self_eq_false]
  refine Tot.up ?_
  simp only [laws_FnExactShiftSong.j0]
  refine Tot.neg (by simp) (Tot.bind (toNotes_tot l0 hl) ?_)
  rintro _ rfl
  refine Tot.bind (eqNotes_tot _ _ (by omega)) fun r1 h1 => Tot.pos (h1.2 rfl) ?_
  refine Tot.bind (markNotes_tot _ hx) fun r2 h2 => Tot.neg (by omega) ?_
  refine Tot.bind (eqNotes_tot _ _ (by omega)) fun r3 h3 => Tot.pos (h3.2 rfl) ?_
  refine Tot.up ?_
  simp only [laws_FnExactShiftSong.j1, bne_self_eq_false]
  refine Tot.neg (by simp) (Tot.bind (markNotes_tot _ hlen) fun r4 h4 => ?_)
  obtain ⟨e1, e2, e3⟩ := h4
  refine Tot.bind (heldNotes_tot r4.2 (by omega) e3) ?_
  rintro _ rfl
  refine Tot.neg (by omega) (Tot.pos (by rw [e1, e2]) (Tot.bind (toNotes_tot l0 hl) ?_))
  rintro _ rfl
  refine Tot.bind (implShift_tot _ hx a1) ?_
  rintro _ rfl
  refine Tot.bind (eqNotes_tot _ _ (by omega)) fun r5 h5 => Tot.pos (h5.2 rfl) ?_
  simp only [bne_self_eq_false]
  refine Tot.up ?_
  simp only [laws_FnExactShiftSong.j2]
  refine Tot.neg (by simp) (Tot.bind (heldNotes_tot r4.2 (by omega) e3) ?_)
  rintro _ rfl
  exact Tot.neg (by omega) (Tot.pos (by rw [e1, e2]) (Tot.ret rfl))
end Go.Proofs.Ytnflmekjeehgaaa.Pure
