/- The note at a tick is the reference's, for every song of at most 2^20 notes (a longer one the law lets pass) and every tick. -/
import Derived.Test.YtnflmekjeehgaaaPFnExactNoteAtx3
import Derived.DataShut
namespace Go.Proofs.Ytnflmekjeehgaaa.Pure
open Go.RowKit Go.Proofs.Ytnflmekjeehgaaa.PFnExactNoteAt Go.Proofs.YtnflmekjeehgaaaW.PrintWords Go.Proofs.YtnflmekjeehgaaaW.PrintLast
set_option linter.unusedSimpArgs false
set_option linter.unusedVariables false
theorem i64_of {n : Int} (h : (Lit.int .i64 n).wf = true) : -9223372036854775808 ≤ n ∧ n ≤ 9223372036854775807 := (Lit.wf_int_iff .i64 n).1 h
theorem u8_of {n : Int} (h : (Lit.int .u8 n).wf = true) : 0 ≤ n ∧ n ≤ 255 := (Lit.wf_int_iff .u8 n).1 h
theorem w64 {x : Int} (h0 : -9223372036854775808 ≤ x) (h1 : x ≤ 9223372036854775807) : wrap64 x = x := by unfold wrap64; omega
theorem some_dec {p q : Prop} [Decidable p] [Decidable q] (h : p ↔ q) : some (decide p) = some (decide q) := by simp only [h]
theorem some_ff {p : Prop} [Decidable p] (h : ¬ p) : some false = some (decide p) := by rw [decide_eq_false h]
theorem some_tt {p : Prop} [Decidable p] (h : p) : some true = some (decide p) := by rw [decide_eq_true h]
theorem tmod_nn {a b : Int} (h : 0 ≤ a) : Int.tmod a b = a % b := Int.tmod_eq_emod_of_nonneg h
theorem tdiv_nn {a b : Int} (h : 0 ≤ a) : Int.tdiv a b = a / b := Int.tdiv_eq_ediv_of_nonneg h
/-- With enough rounds it answers, and Q holds of the answer. -/
def Tot {α : Type} (g : Nat → Option α) (Q : α → Prop) : Prop := ∃ r, Q r ∧ ∃ K, ∀ k, K ≤ k → g k = some r
section
variable {α β : Type} {g h : Nat → Option α} {f : Nat → α → Option β} {Q : α → Prop} {R : β → Prop} {c : Prop} [Decidable c]
theorem Tot.ret {r : α} (h : Q r) : Tot (fun _ => some r) Q := ⟨r, h, 0, fun _ _ => rfl⟩
theorem Tot.of {r : α} (e : ∀ k, 0 < k → g k = some r) (h : Q r) : Tot g Q := ⟨r, h, 1, fun k hk => e k hk⟩
theorem Tot.bind (hg : Tot g Q) (hf : ∀ a, Q a → Tot (fun k => f k a) R) : Tot (fun k => (g k).bind (f k)) R := by
  obtain ⟨a, ha, K, hK⟩ := hg
  obtain ⟨b, hb, L, hL⟩ := hf a ha
  refine ⟨b, hb, K + L, fun k hk => ?_⟩
  show (g k).bind (f k) = some b
  rw [hK k (by omega)]
  exact hL k (by omega)
theorem Tot.ite (hg : c → Tot g Q) (hh : ¬ c → Tot h Q) : Tot (fun k => if c then g k else h k) Q := by
  by_cases hc : c
  · simp only [if_pos hc]; exact hg hc
  · simp only [if_neg hc]; exact hh hc
theorem Tot.pos (hc : c) (hg : Tot g Q) : Tot (fun k => if c then g k else h k) Q := by simp only [if_pos hc]; exact hg
theorem Tot.neg (hc : ¬ c) (hh : Tot h Q) : Tot (fun k => if c then g k else h k) Q := by simp only [if_neg hc]; exact hh
theorem Tot.up (h : Tot (fun k => g (k + 1)) Q) : Tot g Q := by
  obtain ⟨r, hr, K, hK⟩ := h
  refine ⟨r, hr, K + 1, fun k hk => ?_⟩
  obtain ⟨m, rfl⟩ : ∃ m, k = m + 1 := ⟨k - 1, by omega⟩
  exact hK m (by omega)
theorem Tot.mono {Q' : α → Prop} (h : Tot g Q) (hq : ∀ a, Q a → Q' a) : Tot g Q' := by
  obtain ⟨r, hr, K⟩ := h
  exact ⟨r, hq r hr, K⟩
theorem Tot.ex {g : Nat → Option Bool} (h : Tot g (· = true)) : ∃ k, g k = some true := by
  obtain ⟨r, rfl, K, hK⟩ := h
  exact ⟨K, hK K (Nat.le_refl _)⟩
/-- Two runs of the same answer alike. -/
theorem Tot.same (h : Tot g Q) : ∃ r, Q r ∧ Tot g (· = r) := by
  obtain ⟨r, hr, K⟩ := h
  exact ⟨r, hr, r, rfl, K⟩
end
theorem l1In_eq (a b c : Int) : spec_l1In.f a b c = some (decide (b ≤ a ∧ a ≤ c)) := by
  unfold spec_l1In.f
  split
  · exact some_dec (by omega)
  · exact some_ff (by omega)
theorem within_eq (a b c : Int) : impl_within.f a b c = some (decide (b ≤ a ∧ a ≤ c)) := by
  unfold impl_within.f
  split
  · exact some_dec (by omega)
  · exact some_ff (by omega)
/-- A valid note. -/
def NV (x : S43) : Prop := (-1 ≤ x.f0 ∧ x.f0 ≤ 35) ∧ 1 ≤ x.f1 ∧ x.f1 ≤ 20
theorem note_at {xs : List S43} {i : Nat} (h : i < xs.length) : rd_T43 xs (i : Int) = xs[i] := by
  unfold rd_T43
  rw [List.getD_eq_getElem?_getD, Int.toNat_natCast, List.getElem?_eq_getElem h]; rfl
theorem note_ext {x y : S43} (h0 : x.f0 = y.f0) (h1 : x.f1 = y.f1) : x = y := by
  cases x; cases y; simp only at h0 h1; rw [h0, h1]
theorem next_i {i n : Nat} (h : i < n) (hn : n ≤ 9223372036854775807) : wrap64 ((i : Int) + 1) = ((i + 1 : Nat) : Int) := by
  rw [w64] <;> omega
theorem all_drop {α : Type} {P : α → Prop} {xs : List α} {i : Nat} (h : i < xs.length) : (∀ x ∈ xs.drop i, P x) ↔ P xs[i] ∧ ∀ x ∈ xs.drop (i + 1), P x := by
  rw [List.drop_eq_getElem_cons h, List.forall_mem_cons]
theorem specSong_loop (xs : List S43) (hm : xs.length ≤ 9223372036854775807) : ∀ (d i : Nat), xs.length - i = d → i ≤ xs.length →
    Tot (fun k => spec_SongValid.l0 k xs (i : Int)) (fun r => r = true ↔ (∀ x ∈ xs.drop i, NV x) ∧ xs.length ≤ 40) := by
  intro d
  induction d with
  | zero =>
    intro i hd hi
    refine Tot.up ?_
    simp only [spec_SongValid.l0]
    refine Tot.neg (by omega) (Tot.ret ?_)
    rw [List.drop_of_length_le (by omega)]
    simp
    omega
  | succ d ih =>
    intro i hd hi
    have hlt : i < xs.length := by omega
    refine Tot.up ?_
    simp only [spec_SongValid.l0, note_at hlt, next_i hlt hm, l1In_eq, Option.bind_some, decide_eq_true_eq]
    refine Tot.pos (by omega) (Tot.pos (by omega) (Tot.ite (fun h1 => Tot.ite (fun h2 => ?_) (fun h2 => ?_)) (fun h1 => ?_)))
    · refine (ih (i + 1) (by omega) (by omega)).mono fun r hr => ?_
      rw [hr, all_drop hlt]
      exact ⟨fun z => ⟨⟨⟨h1, h2⟩, z.1⟩, z.2⟩, fun z => ⟨z.1.2, z.2⟩⟩
    · refine Tot.ret ?_
      rw [all_drop hlt]
      exact ⟨fun z => (by cases z), fun z => absurd z.1.1.2 h2⟩
    · refine Tot.ret ?_
      rw [all_drop hlt]
      exact ⟨fun z => (by cases z), fun z => absurd z.1.1.1 h1⟩
theorem specSong_tot (xs : List S43) (hm : xs.length ≤ 9223372036854775807) : Tot (fun k => spec_SongValid.f k xs) (fun r => r = true ↔ (∀ x ∈ xs, NV x) ∧ xs.length ≤ 40) := by
  unfold spec_SongValid.f
  exact specSong_loop xs hm xs.length 0 rfl (Nat.zero_le _)
theorem implSong_loop (xs : List S43) (hm : xs.length ≤ 9223372036854775807) : ∀ (d i : Nat), xs.length - i = d → i ≤ xs.length →
    Tot (fun k => impl_SongValid.l0 k xs (xs.length : Int) (i : Int)) (fun r => r = true ↔ ∀ x ∈ xs.drop i, NV x) := by
  intro d
  induction d with
  | zero =>
    intro i hd hi
    refine Tot.up ?_
    simp only [impl_SongValid.l0]
    refine Tot.neg (by omega) (Tot.ret ?_)
    rw [List.drop_of_length_le (by omega)]
    simp
  | succ d ih =>
    intro i hd hi
    have hlt : i < xs.length := by omega
    refine Tot.up ?_
    simp only [impl_SongValid.l0, note_at hlt, next_i hlt hm, within_eq, Option.bind_some, decide_eq_true_eq]
    refine Tot.pos (by omega) (Tot.pos (by omega) (Tot.pos (by omega) (Tot.ite (fun h1 => Tot.ite (fun h2 => ?_) (fun h2 => ?_)) (fun h1 => ?_))))
    · refine (ih (i + 1) (by omega) (by omega)).mono fun r hr => ?_
      rw [hr, all_drop hlt]
      exact ⟨fun z => ⟨⟨h1, h2⟩, z⟩, fun z => z.2⟩
    · refine Tot.ret ?_
      rw [all_drop hlt]
      exact ⟨fun z => (by cases z), fun z => absurd z.1.2 h2⟩
    · refine Tot.ret ?_
      rw [all_drop hlt]
      exact ⟨fun z => (by cases z), fun z => absurd z.1.1 h1⟩
theorem implSong_tot (xs : List S43) (hm : xs.length ≤ 9223372036854775807) : Tot (fun k => impl_SongValid.f k xs) (fun r => r = true ↔ (∀ x ∈ xs, NV x) ∧ xs.length ≤ 40) := by
  unfold impl_SongValid.f
  refine Tot.ite (fun h => Tot.ret ⟨fun z => (by cases z), fun z => by omega⟩) (fun h => ?_)
  exact (implSong_loop xs hm xs.length 0 rfl (Nat.zero_le _)).mono fun r hr => by rw [hr]; exact ⟨fun z => ⟨z, by omega⟩, fun z => z.1⟩
theorem lnote_at {xs : List S63} {i : Nat} (h : i < xs.length) : rd_T63 xs (i : Int) = xs[i] := by
  unfold rd_T63
  rw [List.getD_eq_getElem?_getD, Int.toNat_natCast, List.getElem?_eq_getElem h]; rfl
def conv (x : S63) : S43 := ⟨x.f0, x.f1⟩
theorem take_set {α : Type} {ys : List α} {i : Nat} (h : i < ys.length) (c : α) : (ys.set i c).take (i + 1) = ys.take i ++ [c] := by
  rw [List.take_succ_eq_append_getElem (by rw [List.length_set]; exact h), List.getElem_set_self, List.take_set, List.set_eq_of_length_le (by rw [List.length_take]; omega)]
theorem toNotes_loop (xs : List S63) (hm : xs.length ≤ 9223372036854775807) : ∀ (d i : Nat) (ys : List S43), xs.length - i = d → i ≤ xs.length → ys.length = xs.length →
    Tot (fun k => laws_toNoteS.l0 k xs ys (i : Int)) (· = ys.take i ++ (xs.drop i).map conv) := by
  intro d
  induction d with
  | zero =>
    intro i ys hd hi hy
    refine Tot.up ?_
    simp only [laws_toNoteS.l0]
    refine Tot.neg (by omega) (Tot.ret ?_)
    rw [List.drop_of_length_le (by omega), List.take_of_length_le (by omega)]
    simp
  | succ d ih =>
    intro i ys hd hi hy
    have hlt : i < xs.length := by omega
    refine Tot.up ?_
    simp only [laws_toNoteS.l0, lnote_at hlt, next_i hlt hm, laws_toNote.f, Option.bind_some, Int.toNat_natCast]
    refine Tot.pos (by omega) (Tot.pos (by omega) (Tot.pos (by omega) ?_))
    refine (ih (i + 1) _ (by omega) (by omega) (by rw [List.length_set]; exact hy)).mono fun r hr => ?_
    rw [hr, take_set (by omega), List.drop_eq_getElem_cons hlt, List.map_cons, List.append_assoc]
    rfl
theorem toNotes_tot (xs : List S63) (hm : xs.length ≤ 1048576) : Tot (fun k => laws_toNoteS.f k xs) (· = xs.map conv) := by
  unfold laws_toNoteS.f
  simp only [Int.toNat_natCast]
  refine Tot.pos (by omega) (Tot.pos (by omega) ?_)
  refine (toNotes_loop xs (by omega) xs.length 0 _ rfl (Nat.zero_le _) (by rw [List.length_replicate])).mono fun r hr => ?_
  rw [hr]; simp
theorem eqNotes_loop (xs ys : List S43) (hm : xs.length ≤ 9223372036854775807) (hl : xs.length = ys.length) : ∀ (d i : Nat), xs.length - i = d → i ≤ xs.length →
    Tot (fun k => laws_eqNoteS.l0 k xs ys (i : Int)) (fun r => r = true ↔ xs.drop i = ys.drop i) := by
  intro d
  induction d with
  | zero =>
    intro i hd hi
    refine Tot.up ?_
    simp only [laws_eqNoteS.l0]
    refine Tot.neg (by omega) (Tot.ret ?_)
    rw [List.drop_of_length_le (by omega), List.drop_of_length_le (by omega)]
    simp
  | succ d ih =>
    intro i hd hi
    have hlt : i < xs.length := by omega
    have hlt' : i < ys.length := by omega
    refine Tot.up ?_
    simp only [laws_eqNoteS.l0, note_at hlt, note_at hlt', next_i hlt hm, laws_eqNote.f]
    refine Tot.pos (by omega) (Tot.pos (by omega) (Tot.pos (by omega) ?_))
    rw [List.drop_eq_getElem_cons hlt, List.drop_eq_getElem_cons hlt']
    by_cases h0 : xs[i].f0 = ys[i].f0
    · by_cases h1 : xs[i].f1 = ys[i].f1
      · simp only [if_pos h0, if_pos h1, Option.bind_some, if_true]
        refine (ih (i + 1) (by omega) (by omega)).mono fun r hr => ?_
        rw [hr, note_ext h0 h1]
        exact ⟨fun z => by rw [z], fun z => (List.cons.inj z).2⟩
      · simp only [if_pos h0, if_neg h1, Option.bind_some, Bool.false_eq_true, if_false]
        refine Tot.ret ⟨fun z => (by cases z), fun z => absurd (by rw [(List.cons.inj z).1]) h1⟩
    · simp only [if_neg h0, Option.bind_some, Bool.false_eq_true, if_false]
      refine Tot.ret ⟨fun z => (by cases z), fun z => absurd (by rw [(List.cons.inj z).1]) h0⟩
theorem eqNotes_tot (xs ys : List S43) (hm : xs.length ≤ 9223372036854775807) : Tot (fun k => laws_eqNoteS.f k xs ys) (fun r => r = true ↔ xs = ys) := by
  unfold laws_eqNoteS.f
  refine Tot.ite (fun h => ?_) (fun h => Tot.ret ⟨fun z => (by cases z), fun z => absurd (by rw [z]) h⟩)
  exact eqNotes_loop xs ys hm (by omega) xs.length 0 rfl (Nat.zero_le _)
theorem szNotes_eq (xs : List S63) (hm : xs.length ≤ 9223372036854775807) : laws_szNoteS.f xs 1048576 = some (if xs.length ≤ 1048576 then 1048576 - (xs.length : Int) else -1) := by
  unfold laws_szNoteS.f
  rw [w64 (by omega) (by omega)]
  by_cases h : xs.length ≤ 1048576
  · rw [if_neg (by omega), if_pos h]
  · rw [if_pos (by omega), if_neg h]
def ticks (xs : List S43) : Int := (xs.map (·.f1)).sum
theorem ticks_nil : ticks [] = 0 := rfl
theorem ticks_cons (x : S43) (xs : List S43) : ticks (x :: xs) = x.f1 + ticks xs := by simp [ticks]
theorem ticks_append (xs ys : List S43) : ticks (xs ++ ys) = ticks xs + ticks ys := by simp [ticks]
theorem ticks_bound (xs : List S43) (h : ∀ x ∈ xs, NV x) : (xs.length : Int) ≤ ticks xs ∧ ticks xs ≤ 20 * xs.length := by
  induction xs with
  | nil => simp [ticks]
  | cons x xs ih =>
    have h1 := h x (by simp)
    have h2 := ih (fun y hy => h y (by simp [hy]))
    rw [ticks_cons, List.length_cons]
    unfold NV at h1
    omega
theorem specTicks_loop (xs : List S43) (hm : xs.length ≤ 40) (hv : ∀ x ∈ xs, NV x) : ∀ (d i : Nat) (s : Int), xs.length - i = d → i ≤ xs.length → 0 ≤ s → s ≤ 20 * i →
    Tot (fun k => spec_SongTicks.l0 k xs s (i : Int)) (· = s + ticks (xs.drop i)) := by
  intro d
  induction d with
  | zero =>
    intro i s hd hi h0 h1
    refine Tot.up ?_
    simp only [spec_SongTicks.l0]
    refine Tot.neg (by omega) (Tot.ret ?_)
    rw [List.drop_of_length_le (by omega), ticks_nil]; omega
  | succ d ih =>
    intro i s hd hi h0 h1
    have hlt : i < xs.length := by omega
    have hn := hv _ (List.getElem_mem hlt)
    unfold NV at hn
    refine Tot.up ?_
    simp only [spec_SongTicks.l0, note_at hlt, next_i hlt (by omega)]
    rw [w64 (x := s + xs[i].f1) (by omega) (by omega)]
    refine Tot.pos (by omega) (Tot.pos (by omega) ?_)
    refine (ih (i + 1) _ (by omega) (by omega) (by omega) (by omega)).mono fun r hr => ?_
    rw [hr, List.drop_eq_getElem_cons hlt, ticks_cons]; omega
theorem specTicks_tot (xs : List S43) (hm : xs.length ≤ 9223372036854775807) : Tot (fun k => spec_SongTicks.f k xs) (fun r => ((∀ x ∈ xs, NV x) ∧ xs.length ≤ 40 → r = ticks xs) ∧ (¬ ((∀ x ∈ xs, NV x) ∧ xs.length ≤ 40) → r = -1)) := by
  unfold spec_SongTicks.f
  refine Tot.bind (specSong_tot xs hm) fun r hr => ?_
  refine Tot.ite (fun h => ?_) (fun h => Tot.ret ⟨fun z => absurd (hr.2 z) h, fun _ => rfl⟩)
  have hv := hr.1 h
  refine (specTicks_loop xs hv.2 hv.1 xs.length 0 0 rfl (Nat.zero_le _) (by omega) (by omega)).mono fun r hr => ⟨fun _ => ?_, fun z => absurd hv z⟩
  rw [hr]; simp
/-! ### The note at a tick -/
theorem pre_ticks (xs : List S43) : impl_NoteAt.pre xs xs.length = ticks xs := by unfold impl_NoteAt.pre ticks; rw [List.take_length]
theorem nv_all {xs : List S43} (h : ∀ x ∈ xs, NV x) : xs.all impl_NoteAt.nv = true := by
  rw [List.all_eq_true]
  intro x hx
  have := h x hx
  unfold NV at this
  unfold impl_NoteAt.nv
  rw [decide_eq_true_eq]; omega
open Classical in
/-- What NoteAt answers. -/
noncomputable def NA (xs : List S43) (a : Int) : Int × Int :=
  if ((∀ x ∈ xs, NV x) ∧ xs.length ≤ 40) ∧ 0 < xs.length ∧ 0 ≤ a ∧ a ≤ 100000 then impl_NoteAt.pos xs (a % ticks xs) else (-1, 0)
theorem implNote_tot (xs : List S43) (hm : xs.length ≤ 1048576) (a : Int) : Tot (fun k => impl_NoteAt.f k xs a) (· = NA xs a) := by
  unfold impl_NoteAt.f
  refine Tot.bind (implSong_tot xs (by omega)) fun r hr => ?_
  refine Tot.ite (fun h => ?_) (fun h => Tot.ret ?_)
  · have hv := hr.1 h
    refine Tot.pos ⟨nv_all hv.1, hv.2⟩ (Tot.ite (fun h0 => Tot.ret ?_) (fun h0 => Tot.ite (fun ha => Tot.ret ?_) (fun ha => Tot.ret ?_)))
    · unfold NA
      rw [if_neg (fun z => by omega)]
    · unfold NA
      rw [if_pos ⟨hv, by omega, ha⟩, pre_ticks]
    · unfold NA
      rw [if_neg (fun z => ha z.2.2)]
  · unfold NA
    rw [if_neg (fun z => h (hr.2 z.1))]
theorem pos_tells : ∀ (xs : List S43) (t : Int), 0 ≤ t → t < ticks xs → ∃ (i : Nat) (h : i < xs.length) (u : Int), impl_NoteAt.pos xs t = ((i : Int), u) ∧ 0 ≤ u ∧ u < xs[i].f1 ∧ ticks (xs.take i) + u = t
  | [], t, h0, h1 => by rw [ticks_nil] at h1; omega
  | n :: l, t, h0, h1 => by
    by_cases h : t < n.f1
    · exact ⟨0, by simp, t, by rw [impl_NoteAt.pos, if_pos h]; rfl, h0, h, by simp [ticks]⟩
    · rw [ticks_cons] at h1
      obtain ⟨i, hi, u, e, h2, h3, h4⟩ := pos_tells l (t - n.f1) (by omega) (by omega)
      refine ⟨i + 1, by simpa using hi, u, by rw [impl_NoteAt.pos, if_neg h, e]; rfl, h2, by simpa using h3, ?_⟩
      rw [List.take_succ_cons, ticks_cons]; omega
theorem specNote_loop (xs : List S43) (hm : xs.length ≤ 40) (hv : ∀ x ∈ xs, NV x) : ∀ (d i : Nat) (t : Int), xs.length - i = d → i ≤ xs.length → 0 ≤ t → t ≤ 100000 → t < ticks (xs.drop i) →
    Tot (fun k => spec_NoteAt.l0 k xs t (i : Int)) (· = ((impl_NoteAt.pos (xs.drop i) t).1 + i, (impl_NoteAt.pos (xs.drop i) t).2)) := by
  intro d
  induction d with
  | zero =>
    intro i t hd hi h0 h1 h2
    rw [List.drop_of_length_le (by omega), ticks_nil] at h2
    omega
  | succ d ih =>
    intro i t hd hi h0 h1 h2
    have hlt : i < xs.length := by omega
    have hn := hv _ (List.getElem_mem hlt)
    unfold NV at hn
    refine Tot.up ?_
    simp only [spec_NoteAt.l0, note_at hlt, next_i hlt (by omega)]
    refine Tot.pos (by omega) (Tot.pos (by omega) (Tot.ite (fun h => ?_) (fun h => Tot.ret ?_)))
    · rw [w64 (x := t - xs[i].f1) (by omega) (by omega)]
      refine (ih (i + 1) _ (by omega) (by omega) (by omega) (by omega) (by rw [List.drop_eq_getElem_cons hlt, ticks_cons] at h2; omega)).mono fun r hr => ?_
      rw [hr, List.drop_eq_getElem_cons hlt, impl_NoteAt.pos, if_neg (by omega)]
      refine Prod.ext ?_ rfl
      show _ + ((i + 1 : Nat) : Int) = _ + 1 + (i : Int)
      omega
    · rw [List.drop_eq_getElem_cons hlt, impl_NoteAt.pos, if_pos (by omega)]
      simp
theorem specNote_tot (xs : List S43) (hm : xs.length ≤ 1048576) (a : Int) : Tot (fun k => spec_NoteAt.f k xs a) (· = NA xs a) := by
  have bad : ∀ t, ¬ (((∀ x ∈ xs, NV x) ∧ xs.length ≤ 40) ∧ 0 < xs.length ∧ 0 ≤ a ∧ a ≤ 100000) → Tot (fun k => spec_NoteAt.j0 k xs a t true) (· = NA xs a) := by
    intro t hz
    refine Tot.up ?_
    simp only [spec_NoteAt.j0]
    refine Tot.pos trivial (Tot.ret ?_)
    unfold NA
    rw [if_neg hz]
  unfold spec_NoteAt.f
  simp only [l1In_eq, Option.bind_some]
  refine Tot.bind (specTicks_tot xs (by omega)) fun r hr => ?_
  by_cases hv : (∀ x ∈ xs, NV x) ∧ xs.length ≤ 40
  · have e := hr.1 hv
    have hb := ticks_bound xs hv.1
    refine Tot.ite (fun h => bad _ (fun z => by omega)) (fun h => ?_)
    have hp : 0 < xs.length := by omega
    by_cases ha : 0 ≤ a ∧ a ≤ 100000
    · rw [decide_eq_true ha]
      refine Tot.up ?_
      simp only [spec_NoteAt.j0, Bool.not_true]
      refine Tot.neg (by simp) (Tot.neg (by omega) ?_)
      rw [tmod_nn ha.1, e]
      have m0 := Int.emod_nonneg a (show ticks xs ≠ 0 by omega)
      have m1 := Int.emod_lt_of_pos a (show 0 < ticks xs by omega)
      refine (specNote_loop xs hv.2 hv.1 xs.length 0 _ rfl (Nat.zero_le _) m0 (by omega) (by rw [List.drop_zero]; exact m1)).mono fun r' hr' => ?_
      rw [hr']
      unfold NA
      rw [if_pos ⟨hv, hp, ha⟩]
      simp
    · rw [decide_eq_false ha]
      exact bad _ (fun z => ha z.2.2)
  · have e := hr.2 hv
    exact Tot.pos (by omega) (bad _ (fun z => hv z.1))
theorem FnExactNoteAt (l0 : List S63) (a1 : Int) (hm : l0.length ≤ 9223372036854775807) (_ : ∀ y ∈ l0, ((Lit.int .i64 y.f0).wf = true) ∧ ((Lit.int .i64 y.f1).wf = true)) (_ : (Lit.int .i64 a1).wf = true) : ∃ k, laws_FnExactNoteAt.f k l0 a1 = some true := by
  refine Tot.ex ?_
  unfold laws_FnExactNoteAt.f
  simp only [szNotes_eq l0 hm, Option.bind_some]
  refine Tot.ite (fun _ => Tot.ret rfl) (fun hn => ?_)
  have hl : l0.length ≤ 1048576 := by
    by_cases h : l0.length ≤ 1048576
    · exact h
    · rw [if_neg h] at hn; omega
  have hx : (l0.map conv).length ≤ 1048576 := by rw [List.length_map]; exact hl
  refine Tot.bind (toNotes_tot l0 hl) ?_
  rintro _ rfl
  refine Tot.bind (specNote_tot _ hx a1) ?_
  rintro _ rfl
  refine Tot.bind (toNotes_tot l0 hl) ?_
  rintro _ rfl
  refine Tot.bind (implNote_tot _ hx a1) ?_
  rintro _ rfl
  simp only [bne_self_eq_false]
  refine Tot.pos (by first | rfl | trivial) (Tot.up ?_)
  simp only [laws_FnExactNoteAt.j0]
  refine Tot.neg (by simp) (Tot.bind (toNotes_tot l0 hl) ?_)
  rintro _ rfl
  refine Tot.bind (eqNotes_tot _ _ (by omega)) fun r hr => Tot.pos (hr.2 rfl) (Tot.ret rfl)
end Go.Proofs.Ytnflmekjeehgaaa.Pure
