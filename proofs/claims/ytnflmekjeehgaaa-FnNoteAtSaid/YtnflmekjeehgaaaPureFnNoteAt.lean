/- The ticks since the note began are fewer than it lasts; with the ticks of the notes before it they are the tick modulo the song's. No condition. -/
import Derived.Test.YtnflmekjeehgaaaPFnNoteAtx5
import Derived.DataShut
namespace Go.Proofs.Ytnflmekjeehgaaa.Pure
open Go.RowKit Go.Proofs.Ytnflmekjeehgaaa.PFnNoteAt Go.Proofs.YtnflmekjeehgaaaW.PrintWords Go.Proofs.YtnflmekjeehgaaaW.PrintLast
set_option linter.unusedSimpArgs false
set_option linter.unusedVariables false
theorem i64_of {n : Int} (h : (Lit.int .i64 n).wf = true) : -9223372036854775808 ≤ n ∧ n ≤ 9223372036854775807 := (Lit.wf_int_iff .i64 n).1 h
theorem u8_of {n : Int} (h : (Lit.int .u8 n).wf = true) : 0 ≤ n ∧ n ≤ 255 := (Lit.wf_int_iff .u8 n).1 h
theorem w64 {x : Int} (h0 : -9223372036854775808 ≤ x) (h1 : x ≤ 9223372036854775807) : wrap64 x = x := by unfold wrap64; omega
theorem some_dec {p q : Prop} [Decidable p] [Decidable q] (h : p ↔ q) : some (decide p) = some (decide q) := by simp only [h]
theorem some_ff {p : Prop} [Decidable p] (h : ¬ p) : some false = some (decide p) := by rw [decide_eq_false h]
theorem some_tt {p : Prop} [Decidable p] (h : p) : some true = some (decide p) := by rw [decide_eq_true h]
theorem tmod_nn {a b : Int} (h : 0 ≤ a) : Int.tmod a b = a % b := Int.tmod_eq_emod_of_nonneg h
theorem tdiv_nn {a b : Int} (h : 0 ≤ a) : Int.tdiv a b = a / b := Int.tdiv_eq_ediv_of_nonneg h
/-- With enough rounds it answers, and Q holds of the answer. -/
def Tot {α : Type} (g : Nat → Option α) (Q : α → Prop) : Prop := ∃ r, Q r ∧ ∃ K, ∀ k, K ≤ k → g k = some r
section
variable {α β : Type} {g h : Nat → Option α} {f : Nat → α → Option β} {Q : α → Prop} {R : β → Prop} {c : Prop} [Decidable c]
theorem Tot.ret {r : α} (h : Q r) : Tot (fun _ => some r) Q := ⟨r, h, 0, fun _ _ => rfl⟩
theorem Tot.of {r : α} (e : ∀ k, 0 < k → g k = some r) (h : Q r) : Tot g Q := ⟨r, h, 1, fun k hk => e k hk⟩
theorem Tot.bind (hg : Tot g Q) (hf : ∀ a, Q a → Tot (fun k => f k a) R) : Tot (fun k => (g k).bind (f k)) R := by
  obtain ⟨a, ha, K, hK⟩ := hg
  obtain ⟨b, hb, L, hL⟩ := hf a ha
  refine ⟨b, hb, K + L, fun k hk => ?_⟩
  show (g k).bind (f k) = some b
  rw [hK k (by omega)]
  exact hL k (by omega)
theorem Tot.ite (hg : c → Tot g Q) (hh : ¬ c → Tot h Q) : Tot (fun k => if c then g k else h k) Q := by
  by_cases hc : c
  · simp only [if_pos hc]; exact hg hc
  · simp only [if_neg hc]; exact hh hc
theorem Tot.pos (hc : c) (hg : Tot g Q) : Tot (fun k => if c then g k else h k) Q := by simp only [if_pos hc]; exact hg
theorem Tot.neg (hc : ¬ c) (hh : Tot h Q) : Tot (fun k => if c then g k else h k) Q := by simp only [if_neg hc]; exact hh
theorem Tot.up (h : Tot (fun k => g (k + 1)) Q) : Tot g Q := by
  obtain ⟨r, hr, K, hK⟩ := h
  refine ⟨r, hr, K + 1, fun k hk => ?_⟩
  obtain ⟨m, rfl⟩ : ∃ m, k = m + 1 := ⟨k - 1, by omega⟩
  exact hK m (by omega)
theorem Tot.mono {Q' : α → Prop} (h : Tot g Q) (hq : ∀ a, Q a → Q' a) : Tot g Q' := by
  obtain ⟨r, hr, K⟩ := h
  exact ⟨r, hq r hr, K⟩
theorem Tot.ex {g : Nat → Option Bool} (h : Tot g (· = true)) : ∃ k, g k = some true := by
  obtain ⟨r, rfl, K, hK⟩ := h
  exact ⟨K, hK K (Nat.le_refl _)⟩
/-- Two runs of the same answer alike. -/
theorem Tot.same (h : Tot g Q) : ∃ r, Q r ∧ Tot g (· = r) := by
  obtain ⟨r, hr, K⟩ := h
  exact ⟨r, hr, r, rfl, K⟩
end
theorem l1In_eq (a b c : Int) : spec_l1In.f a b c = some (decide (b ≤ a ∧ a ≤ c)) := by
  unfold spec_l1In.f
  split
  · exact some_dec (by omega)
  · exact some_ff (by omega)
theorem within_eq (a b c : Int) : impl_within.f a b c = some (decide (b ≤ a ∧ a ≤ c)) := by
  unfold impl_within.f
  split
  · exact some_dec (by omega)
  · exact some_ff (by omega)
/-- A valid note. -/
def NV (x : S43) : Prop := (-1 ≤ x.f0 ∧ x.f0 ≤ 35) ∧ 1 ≤ x.f1 ∧ x.f1 ≤ 20
theorem note_at {xs : List S43} {i : Nat} (h : i < xs.length) : rd_T43 xs (i : Int) = xs[i] := by
  unfold rd_T43
  rw [List.getD_eq_getElem?_getD, Int.toNat_natCast, List.getElem?_eq_getElem h]; rfl
theorem note_ext {x y : S43} (h0 : x.f0 = y.f0) (h1 : x.f1 = y.f1) : x = y := by
  cases x; cases y; simp only at h0 h1; rw [h0, h1]
theorem next_i {i n : Nat} (h : i < n) (hn : n ≤ 9223372036854775807) : wrap64 ((i : Int) + 1) = ((i + 1 : Nat) : Int) := by
  rw [w64] <;> omega
theorem all_drop {α : Type} {P : α → Prop} {xs : List α} {i : Nat} (h : i < xs.length) : (∀ x ∈ xs.drop i, P x) ↔ P xs[i] ∧ ∀ x ∈ xs.drop (i + 1), P x := by
  rw [List.drop_eq_getElem_cons h, List.forall_mem_cons]
theorem specSong_loop (xs : List S43) (hm : xs.length ≤ 9223372036854775807) : ∀ (d i : Nat), xs.length - i = d → i ≤ xs.length →
    Tot (fun k => spec_SongValid.l0 k xs (i : Int)) (fun r => r = true ↔ (∀ x ∈ xs.drop i, NV x) ∧ xs.length ≤ 40) := by
  intro d
  induction d with
  | zero =>
    intro i hd hi
    refine Tot.up ?_
    simp only [spec_SongValid.l0]
    refine Tot.neg (by omega) (Tot.ret ?_)
    rw [List.drop_of_length_le (by omega)]
    simp
    omega
  | succ d ih =>
    intro i hd hi
    have hlt : i < xs.length := by omega
    refine Tot.up ?_
    simp only [spec_SongValid.l0, note_at hlt, next_i hlt hm, l1In_eq, Option.bind_some, decide_eq_true_eq]
    refine Tot.pos (by omega) (Tot.pos (by omega) (Tot.ite (fun h1 => Tot.ite (fun h2 => ?_) (fun h2 => ?_)) (fun h1 => ?_)))
    · refine (ih (i + 1) (by omega) (by omega)).mono fun r hr => ?_
      rw [hr, all_drop hlt]
      exact ⟨fun z => ⟨⟨⟨h1, h2⟩, z.1⟩, z.2⟩, fun z => ⟨z.1.2, z.2⟩⟩
    · refine Tot.ret ?_
      rw [all_drop hlt]
      exact ⟨fun z => (by cases z), fun z => absurd z.1.1.2 h2⟩
    · refine Tot.ret ?_
      rw [all_drop hlt]
      exact ⟨fun z => (by cases z), fun z => absurd z.1.1.1 h1⟩
theorem specSong_tot (xs : List S43) (hm : xs.length ≤ 9223372036854775807) : Tot (fun k => spec_SongValid.f k xs) (fun r => r = true ↔ (∀ x ∈ xs, NV x) ∧ xs.length ≤ 40) := by
  unfold spec_SongValid.f
  exact specSong_loop xs hm xs.length 0 rfl (Nat.zero_le _)
theorem implSong_loop (xs : List S43) (hm : xs.length ≤ 9223372036854775807) : ∀ (d i : Nat), xs.length - i = d → i ≤ xs.length →
    Tot (fun k => impl_SongValid.l0 k xs (xs.length : Int) (i : Int)) (fun r => r = true ↔ ∀ x ∈ xs.drop i, NV x) := by
  intro d
  induction d with
  | zero =>
    intro i hd hi
    refine Tot.up ?_
    simp only [impl_SongValid.l0]
    refine Tot.neg (by omega) (Tot.ret ?_)
    rw [List.drop_of_length_le (by omega)]
    simp
  | succ d ih =>
    intro i hd hi
    have hlt : i < xs.length := by omega
    refine Tot.up ?_
    simp only [impl_SongValid.l0, note_at hlt, next_i hlt hm, within_eq, Option.bind_some, decide_eq_true_eq]
    refine Tot.pos (by omega) (Tot.pos (by omega) (Tot.pos (by omega) (Tot.ite (fun h1 => Tot.ite (fun h2 => ?_) (fun h2 => ?_)) (fun h1 => ?_))))
    · refine (ih (i + 1) (by omega) (by omega)).mono fun r hr => ?_
      rw [hr, all_drop hlt]
      exact ⟨fun z => ⟨⟨h1, h2⟩, z⟩, fun z => z.2⟩
    · refine Tot.ret ?_
      rw [all_drop hlt]
      exact ⟨fun z => (by cases z), fun z => absurd z.1.2 h2⟩
    · refine Tot.ret ?_
      rw [all_drop hlt]
      exact ⟨fun z => (by cases z), fun z => absurd z.1.1 h1⟩
theorem implSong_tot (xs : List S43) (hm : xs.length ≤ 9223372036854775807) : Tot (fun k => impl_SongValid.f k xs) (fun r => r = true ↔ (∀ x ∈ xs, NV x) ∧ xs.length ≤ 40) := by
  unfold impl_SongValid.f
  refine Tot.ite (fun h => Tot.ret ⟨fun z => (by cases z), fun z => by omega⟩) (fun h => ?_)
  exact (implSong_loop xs hm xs.length 0 rfl (Nat.zero_le _)).mono fun r hr => by rw [hr]; exact ⟨fun z => ⟨z, by omega⟩, fun z => z.1⟩
def ticks (xs : List S43) : Int := (xs.map (·.f1)).sum
theorem ticks_nil : ticks [] = 0 := rfl
theorem ticks_cons (x : S43) (xs : List S43) : ticks (x :: xs) = x.f1 + ticks xs := by simp [ticks]
theorem ticks_append (xs ys : List S43) : ticks (xs ++ ys) = ticks xs + ticks ys := by simp [ticks]
theorem ticks_bound (xs : List S43) (h : ∀ x ∈ xs, NV x) : (xs.length : Int) ≤ ticks xs ∧ ticks xs ≤ 20 * xs.length := by
  induction xs with
  | nil => simp [ticks]
  | cons x xs ih =>
    have h1 := h x (by simp)
    have h2 := ih (fun y hy => h y (by simp [hy]))
    rw [ticks_cons, List.length_cons]
    unfold NV at h1
    omega
theorem specTicks_loop (xs : List S43) (hm : xs.length ≤ 40) (hv : ∀ x ∈ xs, NV x) : ∀ (d i : Nat) (s : Int), xs.length - i = d → i ≤ xs.length → 0 ≤ s → s ≤ 20 * i →
    Tot (fun k => spec_SongTicks.l0 k xs s (i : Int)) (· = s + ticks (xs.drop i)) := by
  intro d
  induction d with
  | zero =>
    intro i s hd hi h0 h1
    refine Tot.up ?_
    simp only [spec_SongTicks.l0]
    refine Tot.neg (by omega) (Tot.ret ?_)
    rw [List.drop_of_length_le (by omega), ticks_nil]; omega
  | succ d ih =>
    intro i s hd hi h0 h1
    have hlt : i < xs.length := by omega
    have hn := hv _ (List.getElem_mem hlt)
    unfold NV at hn
    refine Tot.up ?_
    simp only [spec_SongTicks.l0, note_at hlt, next_i hlt (by omega)]
    rw [w64 (x := s + xs[i].f1) (by omega) (by omega)]
    refine Tot.pos (by omega) (Tot.pos (by omega) ?_)
    refine (ih (i + 1) _ (by omega) (by omega) (by omega) (by omega)).mono fun r hr => ?_
    rw [hr, List.drop_eq_getElem_cons hlt, ticks_cons]; omega
theorem specTicks_tot (xs : List S43) (hm : xs.length ≤ 9223372036854775807) : Tot (fun k => spec_SongTicks.f k xs) (fun r => ((∀ x ∈ xs, NV x) ∧ xs.length ≤ 40 → r = ticks xs) ∧ (¬ ((∀ x ∈ xs, NV x) ∧ xs.length ≤ 40) → r = -1)) := by
  unfold spec_SongTicks.f
  refine Tot.bind (specSong_tot xs hm) fun r hr => ?_
  refine Tot.ite (fun h => ?_) (fun h => Tot.ret ⟨fun z => absurd (hr.2 z) h, fun _ => rfl⟩)
  have hv := hr.1 h
  refine (specTicks_loop xs hv.2 hv.1 xs.length 0 0 rfl (Nat.zero_le _) (by omega) (by omega)).mono fun r hr => ⟨fun _ => ?_, fun z => absurd hv z⟩
  rw [hr]; simp
theorem implTicks_loop (xs : List S43) (hm : xs.length ≤ 40) (hv : ∀ x ∈ xs, NV x) : ∀ (d i : Nat) (s : Int), xs.length - i = d → i ≤ xs.length → 0 ≤ s → s ≤ 20 * i →
    Tot (fun k => impl_SongTicks.l0 k s xs (xs.length : Int) (i : Int)) (· = s + ticks (xs.drop i)) := by
  intro d
  induction d with
  | zero =>
    intro i s hd hi h0 h1
    refine Tot.up ?_
    simp only [impl_SongTicks.l0]
    refine Tot.neg (by omega) (Tot.ret ?_)
    rw [List.drop_of_length_le (by omega), ticks_nil]; omega
  | succ d ih =>
    intro i s hd hi h0 h1
    have hlt : i < xs.length := by omega
    have hn := hv _ (List.getElem_mem hlt)
    unfold NV at hn
    refine Tot.up ?_
    simp only [impl_SongTicks.l0, note_at hlt, next_i hlt (by omega)]
    rw [w64 (x := s + xs[i].f1) (by omega) (by omega)]
    refine Tot.pos (by omega) (Tot.pos (by omega) (Tot.pos (by omega) ?_))
    refine (ih (i + 1) _ (by omega) (by omega) (by omega) (by omega)).mono fun r hr => ?_
    rw [hr, List.drop_eq_getElem_cons hlt, ticks_cons]; omega
theorem implTicks_tot (xs : List S43) (hm : xs.length ≤ 9223372036854775807) : Tot (fun k => impl_SongTicks.f k xs) (fun r => ((∀ x ∈ xs, NV x) ∧ xs.length ≤ 40 → r = ticks xs) ∧ (¬ ((∀ x ∈ xs, NV x) ∧ xs.length ≤ 40) → r = -1)) := by
  unfold impl_SongTicks.f
  refine Tot.bind (implSong_tot xs hm) fun r hr => ?_
  refine Tot.ite (fun h => ?_) (fun h => Tot.ret ⟨fun z => absurd (hr.2 z) h, fun _ => rfl⟩)
  have hv := hr.1 h
  refine (implTicks_loop xs hv.2 hv.1 xs.length 0 0 rfl (Nat.zero_le _) (by omega) (by omega)).mono fun r hr => ⟨fun _ => ?_, fun z => absurd hv z⟩
  rw [hr]; simp
theorem alive_eq : laws_alive.f = some true := by decide +kernel
/-! ### The note at a tick -/
theorem pre_ticks (xs : List S43) : impl_NoteAt.pre xs xs.length = ticks xs := by unfold impl_NoteAt.pre ticks; rw [List.take_length]
theorem nv_all {xs : List S43} (h : ∀ x ∈ xs, NV x) : xs.all impl_NoteAt.nv = true := by
  rw [List.all_eq_true]
  intro x hx
  have := h x hx
  unfold NV at this
  unfold impl_NoteAt.nv
  rw [decide_eq_true_eq]; omega
open Classical in
/-- What NoteAt answers. -/
noncomputable def NA (xs : List S43) (a : Int) : Int × Int :=
  if ((∀ x ∈ xs, NV x) ∧ xs.length ≤ 40) ∧ 0 < xs.length ∧ 0 ≤ a ∧ a ≤ 100000 then impl_NoteAt.pos xs (a % ticks xs) else (-1, 0)
theorem implNote_tot (xs : List S43) (hm : xs.length ≤ 1048576) (a : Int) : Tot (fun k => impl_NoteAt.f k xs a) (· = NA xs a) := by
  unfold impl_NoteAt.f
  refine Tot.bind (implSong_tot xs (by omega)) fun r hr => ?_
  refine Tot.ite (fun h => ?_) (fun h => Tot.ret ?_)
  · have hv := hr.1 h
    refine Tot.pos ⟨nv_all hv.1, hv.2⟩ (Tot.ite (fun h0 => Tot.ret ?_) (fun h0 => Tot.ite (fun ha => Tot.ret ?_) (fun ha => Tot.ret ?_)))
    · unfold NA
      rw [if_neg (fun z => by omega)]
    · unfold NA
      rw [if_pos ⟨hv, by omega, ha⟩, pre_ticks]
    · unfold NA
      rw [if_neg (fun z => ha z.2.2)]
  · unfold NA
    rw [if_neg (fun z => h (hr.2 z.1))]
theorem pos_tells : ∀ (xs : List S43) (t : Int), 0 ≤ t → t < ticks xs → ∃ (i : Nat) (h : i < xs.length) (u : Int), impl_NoteAt.pos xs t = ((i : Int), u) ∧ 0 ≤ u ∧ u < xs[i].f1 ∧ ticks (xs.take i) + u = t
  | [], t, h0, h1 => by rw [ticks_nil] at h1; omega
  | n :: l, t, h0, h1 => by
    by_cases h : t < n.f1
    · exact ⟨0, by simp, t, by rw [impl_NoteAt.pos, if_pos h]; rfl, h0, h, by simp [ticks]⟩
    · rw [ticks_cons] at h1
      obtain ⟨i, hi, u, e, h2, h3, h4⟩ := pos_tells l (t - n.f1) (by omega) (by omega)
      refine ⟨i + 1, by simpa using hi, u, by rw [impl_NoteAt.pos, if_neg h, e]; rfl, h2, by simpa using h3, ?_⟩
      rw [List.take_succ_cons, ticks_cons]; omega
theorem specNote_loop (xs : List S43) (hm : xs.length ≤ 40) (hv : ∀ x ∈ xs, NV x) : ∀ (d i : Nat) (t : Int), xs.length - i = d → i ≤ xs.length → 0 ≤ t → t ≤ 100000 → t < ticks (xs.drop i) →
    Tot (fun k => spec_NoteAt.l0 k xs t (i : Int)) (· = ((impl_NoteAt.pos (xs.drop i) t).1 + i, (impl_NoteAt.pos (xs.drop i) t).2)) := by
  intro d
  induction d with
  | zero =>
    intro i t hd hi h0 h1 h2
    rw [List.drop_of_length_le (by omega), ticks_nil] at h2
    omega
  | succ d ih =>
    intro i t hd hi h0 h1 h2
    have hlt : i < xs.length := by omega
    have hn := hv _ (List.getElem_mem hlt)
    unfold NV at hn
    refine Tot.up ?_
    simp only [spec_NoteAt.l0, note_at hlt, next_i hlt (by omega)]
    refine Tot.pos (by omega) (Tot.pos (by omega) (Tot.ite (fun h => ?_) (fun h => Tot.ret ?_)))
    · rw [w64 (x := t - xs[i].f1) (by omega) (by omega)]
      refine (ih (i + 1) _ (by omega) (by omega) (by omega) (by omega) (by rw [List.drop_eq_getElem_cons hlt, ticks_cons] at h2; omega)).mono fun r hr => ?_
      rw [hr, List.drop_eq_getElem_cons hlt, impl_NoteAt.pos, if_neg (by omega)]
      refine Prod.ext ?_ rfl
      show _ + ((i + 1 : Nat) : Int) = _ + 1 + (i : Int)
      omega
    · rw [List.drop_eq_getElem_cons hlt, impl_NoteAt.pos, if_pos (by omega)]
      simp
theorem specNote_tot (xs : List S43) (hm : xs.length ≤ 1048576) (a : Int) : Tot (fun k => spec_NoteAt.f k xs a) (· = NA xs a) := by
  have bad : ∀ t, ¬ (((∀ x ∈ xs, NV x) ∧ xs.length ≤ 40) ∧ 0 < xs.length ∧ 0 ≤ a ∧ a ≤ 100000) → Tot (fun k => spec_NoteAt.j0 k xs a t true) (· = NA xs a) := by
    intro t hz
    refine Tot.up ?_
    simp only [spec_NoteAt.j0]
    refine Tot.pos trivial (Tot.ret ?_)
    unfold NA
    rw [if_neg hz]
  unfold spec_NoteAt.f
  simp only [l1In_eq, Option.bind_some]
  refine Tot.bind (specTicks_tot xs (by omega)) fun r hr => ?_
  by_cases hv : (∀ x ∈ xs, NV x) ∧ xs.length ≤ 40
  · have e := hr.1 hv
    have hb := ticks_bound xs hv.1
    refine Tot.ite (fun h => bad _ (fun z => by omega)) (fun h => ?_)
    have hp : 0 < xs.length := by omega
    by_cases ha : 0 ≤ a ∧ a ≤ 100000
    · rw [decide_eq_true ha]
      refine Tot.up ?_
      simp only [spec_NoteAt.j0, Bool.not_true]
      refine Tot.neg (by simp) (Tot.neg (by omega) ?_)
      rw [tmod_nn ha.1, e]
      have m0 := Int.emod_nonneg a (show ticks xs ≠ 0 by omega)
      have m1 := Int.emod_lt_of_pos a (show 0 < ticks xs by omega)
      refine (specNote_loop xs hv.2 hv.1 xs.length 0 _ rfl (Nat.zero_le _) m0 (by omega) (by rw [List.drop_zero]; exact m1)).mono fun r' hr' => ?_
      rw [hr']
      unfold NA
      rw [if_pos ⟨hv, hp, ha⟩]
      simp
    · rw [decide_eq_false ha]
      exact bad _ (fun z => ha z.2.2)
  · have e := hr.2 hv
    exact Tot.pos (by omega) (bad _ (fun z => hv z.1))
theorem rd_byte {b : List Int} (hb : ∀ x ∈ b, (Lit.int .u8 x).wf = true) (i : Int) : 0 ≤ rd b i ∧ rd b i ≤ 255 := by
  unfold rd
  rw [List.getD_eq_getElem?_getD]
  rcases Nat.lt_or_ge i.toNat b.length with h | h
  · rw [List.getElem?_eq_getElem h]
    exact u8_of (hb _ (List.getElem_mem h))
  · rw [List.getElem?_eq_none h]
    simp
theorem xor_nn {a b : Int} (ha : 0 ≤ a) (ha' : a < 4611686018427387904) (hb : 0 ≤ b) (hb' : b < 4611686018427387904) : 0 ≤ Go.bits .xor .i64 a b := by
  obtain ⟨m, rfl⟩ := Int.eq_ofNat_of_zero_le ha
  obtain ⟨n, rfl⟩ := Int.eq_ofNat_of_zero_le hb
  have hm : m < 2 ^ 62 := by omega
  have hn : n < 2 ^ 62 := by omega
  have hx : m ^^^ n < 2 ^ 62 := Nat.xor_lt_two_pow hm hn
  have e : Go.bits .xor .i64 (m : Int) (n : Int) = ((m ^^^ n : Nat) : Int) := by
    show IntKind.wrap .i64 ((BitVec.ofInt 64 (m : Int) ^^^ BitVec.ofInt 64 (n : Int)).toNat : Int) = _
    rw [BitVec.ofInt_natCast, BitVec.ofInt_natCast, BitVec.toNat_xor, BitVec.toNat_ofNat, BitVec.toNat_ofNat, Nat.mod_eq_of_lt (show m < 2 ^ 64 by omega), Nat.mod_eq_of_lt (show n < 2 ^ 64 by omega), IntKind.wrap_i64]
    omega
  rw [e]
  exact Int.natCast_nonneg _
/-- The bytes that draws are made of. -/
def Src (b : List Int) : Prop := (∀ x ∈ b, (Lit.int .u8 x).wf = true) ∧ b.length ≤ 2000
theorem open_tot (l : List Int) (hw : ∀ x ∈ l, (Lit.int .u8 x).wf = true) : Tot (fun _ => spec_l20Open.f l) (fun r => Src r.1 ∧ r.2 = 0) := by
  unfold spec_l20Open.f
  refine Tot.ite (fun h => ?_) (fun h => ?_)
  · refine Tot.pos (by omega) (Tot.ret ⟨⟨fun x hx => hw x (List.mem_of_mem_take hx), ?_⟩, rfl⟩)
    rw [List.length_take]; omega
  · exact Tot.ret ⟨⟨hw, by simp only; omega⟩, rfl⟩
theorem pick_tot {b : List Int} (hb : Src b) (p n : Int) (hp : 0 ≤ p) (hp' : p ≤ 1000000000) :
    Tot (fun k => spec_l20Rd_pick.f k b p n) (fun r => r.2 = p + 1 ∧ (n < 1 → r.1 = 0) ∧ (1 ≤ n → 0 ≤ r.1 ∧ r.1 < n)) := by
  have hw : wrap64 (p + 1) = p + 1 := w64 (by omega) (by omega)
  have hw1 : wrap64 (p + 1 - 1) = p := by rw [w64] <;> omega
  unfold spec_l20Rd_pick.f
  simp only [hw]
  refine Tot.ite (fun h1 => ?_) (fun h1 => ?_)
  · refine Tot.up ?_
    simp only [spec_l20Rd_pick.j0]
    exact Tot.pos (by simp) (Tot.ret ⟨rfl, fun _ => rfl, fun h => by omega⟩)
  · refine Tot.up ?_
    simp only [spec_l20Rd_pick.j0, hw1]
    refine Tot.ite (fun h2 => Tot.ret ⟨rfl, fun _ => rfl, fun h => ⟨Int.le_refl _, by omega⟩⟩) (fun h2 => ?_)
    have hl : 0 < (b.length : Int) := by
      have : ¬ ((b.length : Int) = 0) := fun h => h2 (by simp [h])
      omega
    have hl2 : (b.length : Int) ≤ 2000 := by have := hb.2; omega
    refine Tot.ite (fun h3 => ?_) (fun h3 => ?_)
    · have hr := rd_byte hb.1 p
      refine Tot.pos hp (Tot.neg (by omega) (Tot.ret ⟨rfl, fun h => absurd h h1, fun h => ?_⟩))
      rw [w64 (x := rd b p) (by omega) (by omega), tmod_nn hr.1]
      exact ⟨Int.emod_nonneg _ (by omega), Int.emod_lt_of_pos _ (by omega)⟩
    · have e7 : wrap64 (p * 7) = p * 7 := w64 (by omega) (by omega)
      have e73 : wrap64 (p * 7 + 3) = p * 7 + 3 := w64 (by omega) (by omega)
      simp only [e7, e73, tmod_nn hp, tmod_nn (show 0 ≤ p * 7 + 3 by omega), tdiv_nn hp]
      have r1 := rd_byte hb.1 (p % (b.length : Int))
      have r2 := rd_byte hb.1 ((p * 7 + 3) % (b.length : Int))
      have m1 := Int.emod_nonneg p (show (b.length : Int) ≠ 0 by omega)
      have m2 := Int.emod_lt_of_pos p hl
      have m3 := Int.emod_nonneg (p * 7 + 3) (show (b.length : Int) ≠ 0 by omega)
      have m4 := Int.emod_lt_of_pos (p * 7 + 3) hl
      have d1 : 0 ≤ p / (b.length : Int) := Int.ediv_nonneg hp (by omega)
      have d2 : p / (b.length : Int) ≤ p := Int.ediv_le_self _ hp
      refine Tot.neg (by omega) (Tot.pos m1 (Tot.pos m2 (Tot.pos m3 (Tot.pos m4 (Tot.neg (by omega) (Tot.ret ⟨rfl, fun h => absurd h h1, fun _ => ?_⟩))))))
      generalize rd b (p % (b.length : Int)) = x1 at *
      generalize rd b ((p * 7 + 3) % (b.length : Int)) = x2 at *
      generalize p / (b.length : Int) = q at *
      rw [w64 (x := x1) (by omega) (by omega), w64 (x := x2) (by omega) (by omega), w64 (x := q) (by omega) (by omega), w64 (x := x1 * 131) (by omega) (by omega), w64 (x := x2 * 1117) (by omega) (by omega), w64 (x := p * 29) (by omega) (by omega), w64 (x := q * 53) (by omega) (by omega),
        w64 (x := x1 * 131 + x2 * 1117) (by omega) (by omega), w64 (x := x1 * 131 + x2 * 1117 + p * 29) (by omega) (by omega), w64 (x := x1 * 131 + x2 * 1117 + p * 29 + q * 53) (by omega) (by omega)]
      have hs : 0 ≤ x1 * 131 + x2 * 1117 + p * 29 + q * 53 := by omega
      have hs2 : x1 * 131 + x2 * 1117 + p * 29 + q * 53 < 4611686018427387904 := by omega
      generalize x1 * 131 + x2 * 1117 + p * 29 + q * 53 = s at *
      rw [tdiv_nn hs, w64 (x := s / 64) (by omega) (by omega)]
      have hx := xor_nn hs hs2 (show 0 ≤ s / 64 by omega) (by omega)
      rw [tmod_nn hx]
      exact ⟨Int.emod_nonneg _ (by omega), Int.emod_lt_of_pos _ (by omega)⟩
theorem odd_tot {b : List Int} (hb : Src b) (p n : Int) (hp : 0 ≤ p) (hp' : p ≤ 1000000000) (hn : n ≤ 1000000000) :
    Tot (fun k => spec_l20Rd_odd.f k b p n) (fun r => p ≤ r.2 ∧ r.2 ≤ p + 1 ∧ (n < 1 → r.1 = false)) := by
  unfold spec_l20Rd_odd.f
  refine Tot.ite (fun h => ?_) (fun h => Tot.ret ⟨Int.le_refl _, by omega, fun _ => rfl⟩)
  refine Tot.bind (pick_tot hb p n hp hp') ?_
  rintro ⟨v, q⟩ ⟨hq, _, _⟩
  simp only at hq
  exact Tot.ret ⟨by simp only; omega, by simp only; omega, fun h' => by omega⟩
theorem rd2 (x y i : Int) (h0 : 0 ≤ i) (h2 : i < 2) : rd [x, y] i = x ∨ rd [x, y] i = y := by
  have : i = 0 ∨ i = 1 := by omega
  rcases this with rfl | rfl
  · exact .inl rfl
  · exact .inr rfl
theorem songDouble {b : List Int} {p : Int} : ∀ (d : Nat) (xs : List S43), 41 - xs.length ≤ d → 0 < xs.length → xs.length ≤ 80 → Tot (fun k => spec_l20Song.l1 k xs b p) (fun r => r.1.length ≤ 80 ∧ r.2 = p) := by
  intro d
  induction d with
  | zero =>
    intro xs hd hp hl
    refine Tot.up ?_
    simp only [spec_l20Song.l1]
    exact Tot.neg (by omega) (Tot.ret ⟨hl, rfl⟩)
  | succ d ih =>
    intro xs hd hp hl
    refine Tot.up ?_
    simp only [spec_l20Song.l1]
    refine Tot.ite (fun h => ?_) (fun h => Tot.ret ⟨hl, rfl⟩)
    refine Tot.pos (by omega) ?_
    exact ih _ (by rw [List.length_append]; omega) (by rw [List.length_append]; omega) (by rw [List.length_append]; omega)
theorem songEnd {b : List Int} (hb : Src b) (xs : List S43) (x : Bool) (p : Int) (hp : 0 ≤ p) (hp' : p ≤ 1000000) (hx : x = true → 0 < xs.length) (hl : xs.length ≤ 8) : Tot (fun k => spec_l20Song.j1 k xs x b p) (fun r => r.1.length ≤ 80 ∧ 0 ≤ r.2 ∧ r.2 ≤ p + 10) := by
  refine Tot.up ?_
  simp only [spec_l20Song.j1]
  refine Tot.ite (fun h => ?_) (fun h => Tot.ret (by (try simp only); omega))
  have hpos := hx h
  refine Tot.bind (pick_tot hb p 3 hp (by omega)) ?_
  rintro ⟨v, q⟩ ⟨hq, _, hv⟩
  simp only at hq hv
  refine Tot.ite (fun _ => ?_) (fun _ => Tot.ite (fun _ => ?_) (fun _ => ?_))
  · simp only [Option.bind_some]
    refine Tot.bind (pick_tot hb _ 2 (by omega) (by omega)) ?_
    rintro ⟨v7, q7⟩ ⟨h7, _, g7⟩
    simp only at h7 g7
    exact Tot.pos (by omega) (Tot.pos (by simp; omega) (Tot.pos (by omega) (Tot.ret ⟨by rw [List.length_set]; omega, by simp only; omega, by simp only; omega⟩)))
  · simp only [Option.bind_some]
    refine Tot.bind (pick_tot hb _ 2 (by omega) (by omega)) ?_
    rintro ⟨v7, q7⟩ ⟨h7, _, g7⟩
    simp only at h7 g7
    exact Tot.pos (by omega) (Tot.pos (by simp; omega) (Tot.pos (by omega) (Tot.ret ⟨by rw [List.length_set]; omega, by simp only; omega, by simp only; omega⟩)))
  · exact (songDouble 41 xs (by omega) hpos (by omega)).mono fun r hr => ⟨hr.1, by rw [hr.2]; omega, by rw [hr.2]; omega⟩
theorem songLoop {b : List Int} (hb : Src b) (n : Int) (hn : n ≤ 1000) : ∀ (d : Nat) (xs : List S43) (p : Int), 0 ≤ p → p + 2 * d ≤ 100000 → xs.length + d ≤ 8 → Tot (fun k => spec_l20Song.l0 k n xs (d : Int) b p) (fun r => r.1.length ≤ 80 ∧ 0 ≤ r.2 ∧ r.2 ≤ p + 2 * d + 11) := by
  intro d
  induction d with
  | zero =>
    intro xs p hp hp' hl
    refine Tot.up ?_
    simp only [spec_l20Song.l0]
    refine Tot.neg (by omega) (Tot.ite (fun h => ?_) (fun h => ?_))
    · refine Tot.bind (odd_tot hb p n hp (by omega) (by omega)) ?_
      rintro ⟨v, q⟩ ⟨h1, h2, _⟩
      simp only at h1 h2
      exact (songEnd hb xs v q (by omega) (by omega) (fun _ => by omega) (by omega)).mono fun r hr => ⟨hr.1, hr.2.1, by have := hr.2.2; omega⟩
    · exact (songEnd hb xs false p hp (by omega) (fun z => (by cases z)) (by omega)).mono fun r hr => ⟨hr.1, hr.2.1, by have := hr.2.2; omega⟩
  | succ d ih =>
    intro xs p hp hp' hl
    refine Tot.up ?_
    simp only [spec_l20Song.l0]
    refine Tot.pos (by omega) ?_
    refine Tot.bind (pick_tot hb p 37 hp (by omega)) ?_
    rintro ⟨v1, q1⟩ ⟨h1, _, g1⟩
    simp only at h1 g1
    refine Tot.bind (pick_tot hb q1 8 (by omega) (by omega)) ?_
    rintro ⟨v2, q2⟩ ⟨h2, _, g2⟩
    simp only at h2 g2
    refine Tot.pos (by omega) ?_
    simp only [show wrap64 (((d + 1 : Nat) : Int) - 1) = (d : Int) by rw [w64] <;> omega]
    exact (ih _ q2 (by omega) (by omega) (by rw [List.length_append, List.length_singleton]; omega)).mono fun r hr => ⟨hr.1, hr.2.1, by have := hr.2.2; omega⟩
theorem song_tot {b : List Int} (hb : Src b) (p n : Int) (hp : 0 ≤ p) (hp' : p ≤ 90000) (hn : n ≤ 1000) : Tot (fun k => spec_l20Song.f k b p n) (fun r => r.1.length ≤ 80 ∧ 0 ≤ r.2 ∧ r.2 ≤ p + 30) := by
  unfold spec_l20Song.f
  refine Tot.bind (pick_tot hb p 9 hp (by omega)) ?_
  rintro ⟨v, q⟩ ⟨h1, _, g1⟩
  simp only at h1 g1 ⊢
  obtain ⟨m, rfl⟩ := Int.eq_ofNat_of_zero_le (g1 (by omega)).1
  exact (songLoop hb n hn m [] q (by omega) (by omega) (by simp; omega)).mono fun r hr => ⟨hr.1, hr.2.1, by have := hr.2.2; omega⟩
theorem rd_of6 (i : Int) (h0 : 0 ≤ i) (h6 : i < 6) : 0 ≤ rd [0, 0, 0, 1, 2, 3] i ∧ rd [0, 0, 0, 1, 2, 3] i < 4 := by
  have : i = 0 ∨ i = 1 ∨ i = 2 ∨ i = 3 ∨ i = 4 ∨ i = 5 := by omega
  rcases this with rfl | rfl | rfl | rfl | rfl | rfl <;> decide
theorem rd_of4 (a b c d i : Int) (h0 : 0 ≤ i) (h4 : i < 4) : rd [a, b, c, d] i = a ∨ rd [a, b, c, d] i = b ∨ rd [a, b, c, d] i = c ∨ rd [a, b, c, d] i = d := by
  have : i = 0 ∨ i = 1 ∨ i = 2 ∨ i = 3 := by omega
  rcases this with rfl | rfl | rfl | rfl
  · exact .inl rfl
  · exact .inr (.inl rfl)
  · exact .inr (.inr (.inl rfl))
  · exact .inr (.inr (.inr rfl))
theorem drawNote_tot (l : List Int) (hw : ∀ x ∈ l, (Lit.int .u8 x).wf = true) : Tot (fun k => spec_DrawNoteAt.f k l) (fun r => r.1.length ≤ 80 ∧ -1 ≤ r.2 ∧ r.2 ≤ 100001) := by
  unfold spec_DrawNoteAt.f
  refine Tot.bind (open_tot l hw) ?_
  rintro ⟨b, p⟩ ⟨hb, hp⟩
  simp only at hb hp
  refine Tot.bind (song_tot hb p 12 (by omega) (by omega) (by omega)) ?_
  rintro ⟨xs, q⟩ ⟨h, h1, h2⟩
  simp only at h h1 h2
  refine Tot.bind (pick_tot hb q 80 h1 (by omega)) ?_
  rintro ⟨v, q1⟩ ⟨e1, _, g1⟩
  simp only at e1 g1
  refine Tot.bind (pick_tot hb q1 256 (by omega) (by omega)) ?_
  rintro ⟨v2, q2⟩ ⟨e2, _, g2⟩
  simp only at e2 g2
  have f2 := g2 (by omega)
  simp only [Option.bind_some, w64 (x := v2 * 390) (by omega) (by omega)]
  refine Tot.bind (pick_tot hb q2 6 (by omega) (by omega)) ?_
  rintro ⟨v3, q3⟩ ⟨e3, _, g3⟩
  simp only at e3 g3
  have e := rd_of6 v3 (by omega) (by omega)
  refine Tot.pos (by omega) (Tot.pos (by simp; omega) (Tot.pos e.1 (Tot.pos (by simp; omega) (Tot.ret ⟨h, ?_⟩))))
  have := rd_of4 v (v2 * 390) (-1) 100001 _ e.1 e.2
  simp only
  omega
theorem FnNoteAt (l0 : List Int) (_ : l0.length ≤ 9223372036854775807) (hw : ∀ y ∈ l0, (Lit.int .u8 y).wf = true) : ∃ k, laws_FnNoteAt.f k l0 = some true := by
  refine Tot.ex ?_
  unfold laws_FnNoteAt.f
  refine Tot.ite (fun _ => Tot.ret rfl) (fun _ => ?_)
  refine Tot.bind (drawNote_tot l0 hw) ?_
  rintro ⟨xs, a⟩ ⟨hx, ha0, ha1⟩
  simp only at hx ha0 ha1 ⊢
  refine Tot.bind (implNote_tot xs (by omega) a) ?_
  rintro _ rfl
  refine Tot.bind (specNote_tot xs (by omega) a) ?_
  rintro _ rfl
  simp only [bne_self_eq_false]
  refine Tot.pos (by first | rfl | trivial) (Tot.up ?_)
  simp only [laws_FnNoteAt.j0, alive_eq, Option.bind_some]
  refine Tot.neg (by simp) ?_
  by_cases hc : ((∀ x ∈ xs, NV x) ∧ xs.length ≤ 40) ∧ 0 < xs.length ∧ 0 ≤ a ∧ a ≤ 100000
  · obtain ⟨hv, hp, ha⟩ := hc
    have hb := ticks_bound xs hv.1
    have m0 := Int.emod_nonneg a (show ticks xs ≠ 0 by omega)
    have m1 := Int.emod_lt_of_pos a (show 0 < ticks xs by omega)
    obtain ⟨i, hi, u, e, h2, h3, h4⟩ := pos_tells xs (a % ticks xs) m0 m1
    have en : NA xs a = ((i : Int), u) := by unfold NA; rw [if_pos ⟨hv, hp, ha⟩, e]
    rw [en]
    simp only
    refine Tot.neg (by omega) (Tot.bind (implTicks_tot xs (by omega)) fun r hr => ?_)
    rw [hr.1 hv]
    have hn := hv.1 _ (List.getElem_mem hi)
    unfold NV at hn
    rw [w64 (x := a + ticks xs) (by omega) (by omega)]
    refine Tot.bind (implNote_tot xs (by omega) (a + ticks xs)) ?_
    rintro _ rfl
    simp only [note_at hi, Int.toNat_natCast]
    have hvt : (∀ x ∈ xs.take i, NV x) ∧ (xs.take i).length ≤ 40 := ⟨fun x h => hv.1 x (List.mem_of_mem_take h), by rw [List.length_take]; omega⟩
    have hbt := ticks_bound _ hvt.1
    refine Tot.pos h2 (Tot.pos (by omega) (Tot.pos (by omega) (Tot.pos h3 (Tot.pos (by omega) (Tot.bind (implTicks_tot (xs.take i) (by rw [List.length_take]; omega)) fun r' hr' => ?_)))))
    rw [hr'.1 hvt, tmod_nn ha.1]
    have hlt : (xs.take i).length ≤ xs.length := by rw [List.length_take]; omega
    rw [w64 (x := ticks (xs.take i) + u) (by omega) (by omega)]
    refine Tot.neg (by omega) (Tot.pos h4 (Tot.ite (fun _ => Tot.ret rfl) (fun hg => ?_)))
    have en2 : NA xs (a + ticks xs) = ((i : Int), u) := by unfold NA; rw [if_pos ⟨hv, hp, by omega, by omega⟩, Int.add_emod_right, e]
    rw [en2]
    exact Tot.pos rfl (Tot.ret (by simp))
  · have en : NA xs a = (-1, 0) := by unfold NA; rw [if_neg hc]
    rw [en]
    exact Tot.pos (by simp) (Tot.pos rfl (Tot.pos rfl (Tot.ret rfl)))
end Go.Proofs.Ytnflmekjeehgaaa.Pure
