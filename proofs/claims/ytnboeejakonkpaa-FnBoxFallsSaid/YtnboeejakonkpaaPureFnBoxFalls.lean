/- After falling by the greatest move twice, a rectangle in a table of at most 16 rows stands. No condition. -/
import Derived.Test.YtnboeejakonkpaaPFnBoxFallsx10
import Derived.DataShut
namespace Go.Proofs.Ytnboeejakonkpaa.Pure
open Go.RowKit Go.Proofs.Ytnboeejakonkpaa.PFnBoxFalls Go.Proofs.YtnboeejakonkpaaW.PrintWords Go.Proofs.YtnboeejakonkpaaW.PrintLast
set_option linter.unusedSimpArgs false
set_option linter.unusedVariables false
theorem i64_of {n : Int} (h : (Lit.int .i64 n).wf = true) : -9223372036854775808 ≤ n ∧ n ≤ 9223372036854775807 := (Lit.wf_int_iff .i64 n).1 h
theorem u8_of {n : Int} (h : (Lit.int .u8 n).wf = true) : 0 ≤ n ∧ n ≤ 255 := (Lit.wf_int_iff .u8 n).1 h
theorem w64 {x : Int} (h0 : -9223372036854775808 ≤ x) (h1 : x ≤ 9223372036854775807) : wrap64 x = x := by unfold wrap64; omega
theorem some_dec {p q : Prop} [Decidable p] [Decidable q] (h : p ↔ q) : some (decide p) = some (decide q) := by simp only [h]
theorem some_ff {p : Prop} [Decidable p] (h : ¬ p) : some false = some (decide p) := by rw [decide_eq_false h]
theorem some_tt {p : Prop} [Decidable p] (h : p) : some true = some (decide p) := by rw [decide_eq_true h]
theorem tmod_nn {a b : Int} (h : 0 ≤ a) : Int.tmod a b = a % b := Int.tmod_eq_emod_of_nonneg h
theorem tdiv_nn {a b : Int} (h : 0 ≤ a) : Int.tdiv a b = a / b := Int.tdiv_eq_ediv_of_nonneg h
/-- With enough rounds it answers, and Q holds of the answer. -/
def Tot {α : Type} (g : Nat → Option α) (Q : α → Prop) : Prop := ∃ r, Q r ∧ ∃ K, ∀ k, K ≤ k → g k = some r
section
variable {α β : Type} {g h : Nat → Option α} {f : Nat → α → Option β} {Q : α → Prop} {R : β → Prop} {c : Prop} [Decidable c]
theorem Tot.ret {r : α} (h : Q r) : Tot (fun _ => some r) Q := ⟨r, h, 0, fun _ _ => rfl⟩
theorem Tot.of {r : α} (e : ∀ k, 0 < k → g k = some r) (h : Q r) : Tot g Q := ⟨r, h, 1, fun k hk => e k hk⟩
theorem Tot.bind (hg : Tot g Q) (hf : ∀ a, Q a → Tot (fun k => f k a) R) : Tot (fun k => (g k).bind (f k)) R := by
  obtain ⟨a, ha, K, hK⟩ := hg
  obtain ⟨b, hb, L, hL⟩ := hf a ha
  refine ⟨b, hb, K + L, fun k hk => ?_⟩
  show (g k).bind (f k) = some b
  rw [hK k (by omega)]
  exact hL k (by omega)
theorem Tot.ite (hg : c → Tot g Q) (hh : ¬ c → Tot h Q) : Tot (fun k => if c then g k else h k) Q := by
  by_cases hc : c
  · simp only [if_pos hc]; exact hg hc
  · simp only [if_neg hc]; exact hh hc
theorem Tot.pos (hc : c) (hg : Tot g Q) : Tot (fun k => if c then g k else h k) Q := by simp only [if_pos hc]; exact hg
theorem Tot.neg (hc : ¬ c) (hh : Tot h Q) : Tot (fun k => if c then g k else h k) Q := by simp only [if_neg hc]; exact hh
theorem Tot.up (h : Tot (fun k => g (k + 1)) Q) : Tot g Q := by
  obtain ⟨r, hr, K, hK⟩ := h
  refine ⟨r, hr, K + 1, fun k hk => ?_⟩
  obtain ⟨m, rfl⟩ : ∃ m, k = m + 1 := ⟨k - 1, by omega⟩
  exact hK m (by omega)
theorem Tot.mono {Q' : α → Prop} (h : Tot g Q) (hq : ∀ a, Q a → Q' a) : Tot g Q' := by
  obtain ⟨r, hr, K⟩ := h
  exact ⟨r, hq r hr, K⟩
theorem Tot.ex {g : Nat → Option Bool} (h : Tot g (· = true)) : ∃ k, g k = some true := by
  obtain ⟨r, rfl, K, hK⟩ := h
  exact ⟨K, hK K (Nat.le_refl _)⟩
/-- Two runs of the same answer alike. -/
theorem Tot.same (h : Tot g Q) : ∃ r, Q r ∧ Tot g (· = r) := by
  obtain ⟨r, hr, K⟩ := h
  exact ⟨r, hr, r, rfl, K⟩
end
theorem rd_at {xs : List Int} {i : Nat} (h : i < xs.length) : rd xs (i : Int) = xs[i] := by
  unfold rd
  rw [List.getD_eq_getElem?_getD, Int.toNat_natCast, List.getElem?_eq_getElem h]; rfl
theorem inext {i n : Nat} (h : i < n) (hn : n ≤ 9223372036854775807) : wrap64 ((i : Int) + 1) = ((i + 1 : Nat) : Int) := by
  rw [w64] <;> omega
theorem iall_drop {α : Type} {P : α → Prop} {xs : List α} {i : Nat} (h : i < xs.length) : (∀ x ∈ xs.drop i, P x) ↔ P xs[i] ∧ ∀ x ∈ xs.drop (i + 1), P x := by
  rw [List.drop_eq_getElem_cons h, List.forall_mem_cons]
theorem itake_set {α : Type} {ys : List α} {i : Nat} (h : i < ys.length) (c : α) : (ys.set i c).take (i + 1) = ys.take i ++ [c] := by
  rw [List.take_succ_eq_append_getElem (by rw [List.length_set]; exact h), List.getElem_set_self, List.take_set, List.set_eq_of_length_le (by rw [List.length_take]; omega)]
theorem l1In_eq (a b c : Int) : spec_l1In.f a b c = some (decide (b ≤ a ∧ a ≤ c)) := by
  unfold spec_l1In.f
  split
  · exact some_dec (by omega)
  · exact some_ff (by omega)
theorem within_eq (a b c : Int) : impl_within.f a b c = some (decide (b ≤ a ∧ a ≤ c)) := by
  unfold impl_within.f
  split
  · exact some_dec (by omega)
  · exact some_ff (by omega)
def BV (a b c d : Int) : Prop := (-1000 ≤ a ∧ a ≤ 1000) ∧ (-1000 ≤ b ∧ b ≤ 1000) ∧ (1 ≤ c ∧ c ≤ 40) ∧ (1 ≤ d ∧ d ≤ 40)
instance (a b c d : Int) : Decidable (BV a b c d) := by unfold BV; infer_instance
theorem specBoxValid_eq (a b c d : Int) : spec_BoxValid.f a b c d = some (decide (BV a b c d)) := by
  unfold spec_BoxValid.f
  simp only [l1In_eq, Option.bind_some, decide_eq_true_eq]
  repeat' split
  all_goals first | exact some_dec (by unfold BV; omega) | exact some_ff (by unfold BV; omega)
theorem implBoxValid_eq (a b c d : Int) : impl_BoxValid.f a b c d = some (decide (BV a b c d)) := by
  unfold impl_BoxValid.f
  simp only [within_eq, Option.bind_some, decide_eq_true_eq]
  repeat' split
  all_goals first | exact some_dec (by unfold BV; omega) | exact some_ff (by unfold BV; omega)
theorem rdB_at {xs : List Bool} {i : Nat} (h : i < xs.length) : rdOf false xs (i : Int) = xs[i] := by
  unfold rdOf
  rw [List.getD_eq_getElem?_getD, Int.toNat_natCast, List.getElem?_eq_getElem h]; rfl
theorem rdL_at {xs : List (List Bool)} {i : Nat} (h : i < xs.length) : rd_L1 xs (i : Int) = xs[i] := by
  unfold rd_L1
  rw [List.getD_eq_getElem?_getD, Int.toNat_natCast, List.getElem?_eq_getElem h]; rfl
/-- A table as it must be. -/
def WV (t : List (List Bool)) : Prop := t.length ≤ 16 ∧ ∀ r ∈ t, r.length ≤ 16 ∧ r.length = (t.headD []).length
theorem rdL_head {t : List (List Bool)} (h : 0 < t.length) : rd_L1 t 0 = t.headD [] := by
  cases t with
  | nil => simp at h
  | cons r t => rfl
theorem specWalls_loop (t : List (List Bool)) (hm : t.length ≤ 1048576) : ∀ (d i : Nat), t.length - i = d → i ≤ t.length →
    Tot (fun k => spec_l20Walls.l0 k t (i : Int)) (fun r => r = true ↔ (∀ x ∈ t.drop i, x.length ≤ 16 ∧ x.length = (t.headD []).length) ∧ t.length ≤ 16) := by
  intro d
  induction d with
  | zero =>
    intro i hd hi
    refine Tot.up ?_
    simp only [spec_l20Walls.l0]
    refine Tot.neg (by omega) (Tot.ret ?_)
    rw [List.drop_of_length_le (by omega)]
    simp
    omega
  | succ d ih =>
    intro i hd hi
    have hlt : i < t.length := by omega
    refine Tot.up ?_
    simp only [spec_l20Walls.l0, rdL_at hlt, rdL_head (show 0 < t.length by omega), inext hlt (by omega)]
    refine Tot.pos (by omega) (Tot.pos (by omega) (Tot.pos (by omega) (Tot.ite (fun h1 => Tot.ite (fun h2 => Tot.ret ?_) (fun h2 => ?_)) (fun h1 => Tot.ret ?_))))
    · rw [iall_drop hlt]
      exact ⟨fun z => (by cases z), fun z => by have := z.1.1.1; omega⟩
    · refine (ih (i + 1) (by omega) (by omega)).mono fun r hr => ?_
      rw [hr, iall_drop hlt]
      exact ⟨fun z => ⟨⟨⟨by omega, by omega⟩, z.1⟩, z.2⟩, fun z => ⟨z.1.2, z.2⟩⟩
    · rw [iall_drop hlt]
      exact ⟨fun z => (by cases z), fun z => by have := z.1.1.2; omega⟩
theorem specWalls_tot (t : List (List Bool)) (hm : t.length ≤ 1048576) : Tot (fun k => spec_l20Walls.f k t) (fun r => r = true ↔ WV t) := by
  unfold spec_l20Walls.f
  exact (specWalls_loop t hm t.length 0 rfl (Nat.zero_le _)).mono fun r hr => by rw [hr]; exact ⟨fun z => ⟨z.2, z.1⟩, fun z => ⟨z.2, z.1⟩⟩
theorem implWalls_loop (t : List (List Bool)) (hm : t.length ≤ 1048576) : ∀ (d i : Nat), t.length - i = d → i ≤ t.length →
    Tot (fun k => impl_wallsValid.l0 k t t (t.length : Int) (i : Int)) (fun r => r = true ↔ (∀ x ∈ t.drop i, x.length ≤ 16 ∧ x.length = (t.headD []).length)) := by
  intro d
  induction d with
  | zero =>
    intro i hd hi
    refine Tot.up ?_
    simp only [impl_wallsValid.l0]
    refine Tot.neg (by omega) (Tot.ret ?_)
    rw [List.drop_of_length_le (by omega)]
    simp
  | succ d ih =>
    intro i hd hi
    have hlt : i < t.length := by omega
    refine Tot.up ?_
    simp only [impl_wallsValid.l0, rdL_at hlt, rdL_head (show 0 < t.length by omega), inext hlt (by omega)]
    refine Tot.pos (by omega) (Tot.pos (by omega) (Tot.pos (by omega) (Tot.ite (fun h1 => Tot.ret ?_) (fun h1 => Tot.pos (by omega) (Tot.ite (fun h2 => ?_) (fun h2 => Tot.ret ?_))))))
    · rw [iall_drop hlt]
      exact ⟨fun z => (by cases z), fun z => by have := z.1.1; omega⟩
    · refine (ih (i + 1) (by omega) (by omega)).mono fun r hr => ?_
      rw [hr, iall_drop hlt]
      exact ⟨fun z => ⟨⟨by omega, by omega⟩, z⟩, fun z => z.2⟩
    · rw [iall_drop hlt]
      exact ⟨fun z => (by cases z), fun z => by have := z.1.2; omega⟩
theorem implWalls_tot (t : List (List Bool)) (hm : t.length ≤ 1048576) : Tot (fun k => impl_wallsValid.f k t) (fun r => r = true ↔ WV t) := by
  unfold impl_wallsValid.f
  refine Tot.ite (fun h => Tot.ret ⟨fun z => (by cases z), fun z => by have := z.1; omega⟩) (fun h => ?_)
  exact (implWalls_loop t hm t.length 0 rfl (Nat.zero_le _)).mono fun r hr => by rw [hr]; exact ⟨fun z => ⟨by omega, z⟩, fun z => z.2⟩
/-- A pixel of the table is solid; all others are. -/
def Solid (t : List (List Bool)) (x y : Int) : Prop := x < 0 ∨ y < 0 ∨ (t.length : Int) ≤ y / 8 ∨ ((t.getD (y / 8).toNat []).length : Int) ≤ x / 8 ∨ (t.getD (y / 8).toNat []).getD (x / 8).toNat false = true
/-- A rectangle contains a solid pixel. -/
def Bl (t : List (List Bool)) (x y w h : Int) : Prop := ∃ u v, (x ≤ u ∧ u < x + w) ∧ (y ≤ v ∧ v < y + h) ∧ Solid t u v
theorem specSolid_eq (t : List (List Bool)) (x y : Int) (hx : -10000 ≤ x ∧ x ≤ 10000) (hy : -10000 ≤ y ∧ y ≤ 10000) : ∃ b, spec_l20Solid.f t x y = some b ∧ (b = true ↔ Solid t x y) := by
  unfold spec_l20Solid.f Solid
  by_cases h1 : x < 0
  · exact ⟨true, by rw [if_pos h1], by simp [h1]⟩
  by_cases h2 : y < 0
  · exact ⟨true, by rw [if_neg h1, if_pos h2], by simp [h2]⟩
  rw [if_neg h1, if_neg h2, tdiv_nn (show 0 ≤ y by omega), tdiv_nn (show 0 ≤ x by omega), w64 (x := y / 8) (by omega) (by omega), w64 (x := x / 8) (by omega) (by omega)]
  by_cases h3 : y / 8 ≥ (t.length : Int)
  · exact ⟨true, by rw [if_pos h3], by simp only [true_iff]; exact .inr (.inr (.inl h3))⟩
  rw [if_neg h3, if_pos (by omega), if_pos (by omega)]
  unfold rd_L1 rdOf
  by_cases h4 : x / 8 ≥ ((t.getD (y / 8).toNat []).length : Int)
  · exact ⟨true, by rw [if_pos h4], by simp only [true_iff]; exact .inr (.inr (.inr (.inl h4)))⟩
  rw [if_neg h4, if_pos (by omega), if_pos (by omega)]
  refine ⟨_, rfl, fun z => .inr (.inr (.inr (.inr z))), fun z => ?_⟩
  rcases z with z | z | z | z | z
  · exact absurd z h1
  · exact absurd z h2
  · exact absurd z (by omega)
  · exact absurd z (by omega)
  · exact z
theorem sbl_inner (t : List (List Bool)) (x y w h v : Int) (hx : -2000 ≤ x ∧ x ≤ 2000) (hv : -2000 ≤ v ∧ v ≤ 2100) (hw : 0 ≤ w ∧ w ≤ 50) (P : Prop)
    (hA : Tot (fun k => spec_l20Blocked.l0 k t (v + 1) x y w h) (fun r => r = true ↔ P)) : ∀ (e : Nat) (u : Int), (x + w - u).toNat = e → x ≤ u → u ≤ x + w ∨ u = x →
    Tot (fun k => spec_l20Blocked.l1 k t v u x y w h) (fun r => r = true ↔ (∃ u', u ≤ u' ∧ u' < x + w ∧ Solid t u' v) ∨ P) := by
  intro e
  induction e with
  | zero =>
    intro u he hu hu2
    refine Tot.up ?_
    simp only [spec_l20Blocked.l1, w64 (x := x + w) (by omega) (by omega), w64 (x := v + 1) (by omega) (by omega)]
    refine Tot.neg (by omega) (hA.mono fun r hr => ?_)
    rw [hr]
    exact ⟨.inr, fun z => z.resolve_left (fun ⟨u', z1, z2, _⟩ => by omega)⟩
  | succ e ih =>
    intro u he hu hu2
    refine Tot.up ?_
    obtain ⟨b, hb, hs⟩ := specSolid_eq t u v (by omega) (by omega)
    simp only [spec_l20Blocked.l1, w64 (x := x + w) (by omega) (by omega), w64 (x := u + 1) (by omega) (by omega), hb, Option.bind_some]
    refine Tot.pos (by omega) (Tot.ite (fun hb1 => Tot.ret ?_) (fun hb1 => ?_))
    · simp only [true_iff]
      exact .inl ⟨u, Int.le_refl _, by omega, hs.1 hb1⟩
    · refine (ih (u + 1) (by omega) (by omega) (by omega)).mono fun r hr => ?_
      rw [hr]
      constructor
      · rintro (⟨u', z1, z2, z3⟩ | z)
        · exact .inl ⟨u', by omega, z2, z3⟩
        · exact .inr z
      · rintro (⟨u', z1, z2, z3⟩ | z)
        · refine .inl ⟨u', ?_, z2, z3⟩
          by_cases e : u' = u
          · subst e; exact absurd (hs.2 z3) hb1
          · omega
        · exact .inr z
theorem sbl_outer (t : List (List Bool)) (x y w h : Int) (hx : -2000 ≤ x ∧ x ≤ 2000) (hy : -2000 ≤ y ∧ y ≤ 2000) (hw : 0 ≤ w ∧ w ≤ 50) (hh : 0 ≤ h ∧ h ≤ 50) : ∀ (d : Nat) (v : Int), (y + h - v).toNat = d → y ≤ v → v ≤ y + h ∨ v = y →
    Tot (fun k => spec_l20Blocked.l0 k t v x y w h) (fun r => r = true ↔ ∃ u v', (x ≤ u ∧ u < x + w) ∧ (v ≤ v' ∧ v' < y + h) ∧ Solid t u v') := by
  intro d
  induction d with
  | zero =>
    intro v hd hv hv2
    refine Tot.up ?_
    simp only [spec_l20Blocked.l0, w64 (x := y + h) (by omega) (by omega)]
    refine Tot.neg (by omega) (Tot.ret ⟨fun z => (by cases z), fun ⟨u, v', _, z2, _⟩ => by omega⟩)
  | succ d ih =>
    intro v hd hv hv2
    refine Tot.up ?_
    simp only [spec_l20Blocked.l0, w64 (x := y + h) (by omega) (by omega)]
    refine Tot.pos (by omega) ?_
    refine (sbl_inner t x y w h v hx (by omega) hw _ (ih (v + 1) (by omega) (by omega) (by omega)) _ x rfl (Int.le_refl _) (.inr rfl)).mono fun r hr => ?_
    rw [hr]
    constructor
    · rintro (⟨u', z1, z2, z3⟩ | ⟨u, v', z1, z2, z3⟩)
      · exact ⟨u', v, ⟨z1, z2⟩, by omega, z3⟩
      · exact ⟨u, v', z1, by omega, z3⟩
    · rintro ⟨u, v', z1, z2, z3⟩
      by_cases e : v' = v
      · subst e; exact .inl ⟨u, z1.1, z1.2, z3⟩
      · exact .inr ⟨u, v', z1, by omega, z3⟩
theorem specBl_tot (t : List (List Bool)) (x y w h : Int) (hx : -2000 ≤ x ∧ x ≤ 2000) (hy : -2000 ≤ y ∧ y ≤ 2000) (hw : 0 ≤ w ∧ w ≤ 50) (hh : 0 ≤ h ∧ h ≤ 50) : Tot (fun k => spec_l20Blocked.f k t x y w h) (fun r => r = true ↔ Bl t x y w h) := by
  unfold spec_l20Blocked.f
  exact sbl_outer t x y w h hx hy hw hh _ y rfl (Int.le_refl _) (.inr rfl)
theorem specBoxBlocked_tot (t : List (List Bool)) (hm : t.length ≤ 1048576) (x y w h : Int) : Tot (fun k => spec_BoxBlocked.f k t x y w h) (fun r => r = true ↔ ¬ (BV x y w h ∧ WV t) ∨ Bl t x y w h) := by
  unfold spec_BoxBlocked.f
  refine Tot.bind (specWalls_tot t hm) fun r hr => ?_
  refine Tot.ite (fun h1 => ?_) (fun h1 => Tot.ret ?_)
  · simp only [specBoxValid_eq, Option.bind_some, decide_eq_true_eq]
    refine Tot.ite (fun h2 => ?_) (fun h2 => Tot.ret ?_)
    · have h2' := h2
      unfold BV at h2'
      refine Tot.bind (specBl_tot t x y w h (by omega) (by omega) (by omega) (by omega)) fun r' hr' => Tot.ret ?_
      rw [hr']
      exact ⟨.inr, fun z => z.resolve_left (fun z => z ⟨h2, hr.1 h1⟩)⟩
    · simp only [true_iff]
      exact .inl (fun z => h2 z.1)
  · simp only [true_iff]
    exact .inl (fun z => h1 (hr.2 z.2))
theorem mem_cut {α : Type} {l : List α} {a b : Nat} {x : α} : x ∈ (l.take b).drop a ↔ ∃ i, a ≤ i ∧ i < b ∧ l[i]? = some x := by
  constructor
  · intro h
    obtain ⟨j, hj⟩ := List.getElem?_of_mem h
    rw [List.getElem?_drop, List.getElem?_take] at hj
    split at hj
    · exact ⟨a + j, by omega, by omega, hj⟩
    · cases hj
  · rintro ⟨i, h1, h2, h3⟩
    refine List.mem_of_getElem? (i := i - a) ?_
    rw [List.getElem?_drop, List.getElem?_take, if_pos (by omega), show a + (i - a) = i by omega, h3]
theorem ibl_inner (rows : List (List Bool)) (n i : Nat) (s : List Bool) (x y w h : Int) (hs : s.length ≤ 1048576) (P : Prop) (hi : i ≤ 1048576)
    (hA : Tot (fun k => impl_blocked.l0 k rows (n : Int) ((i + 1 : Nat) : Int) x y w h) (fun r => r = true ↔ P)) : ∀ (e j : Nat), s.length - j = e → j ≤ s.length →
    Tot (fun k => impl_blocked.l1 k rows (n : Int) (i : Int) s (s.length : Int) (j : Int) x y w h) (fun r => r = true ↔ true ∈ s.drop j ∨ P) := by
  intro e
  induction e with
  | zero =>
    intro j he hj
    refine Tot.up ?_
    simp only [impl_blocked.l1, show wrap64 ((i : Int) + 1) = ((i + 1 : Nat) : Int) from by rw [w64] <;> omega]
    refine Tot.neg (by omega) (hA.mono fun r hr => ?_)
    rw [hr, List.drop_of_length_le (by omega)]
    simp
  | succ e ih =>
    intro j he hj
    have hlt : j < s.length := by omega
    refine Tot.up ?_
    simp only [impl_blocked.l1, rdB_at hlt, inext hlt (by omega)]
    refine Tot.pos (by omega) (Tot.pos (by omega) (Tot.pos (by omega) (Tot.ite (fun hb => Tot.ret ?_) (fun hb => ?_))))
    · rw [List.drop_eq_getElem_cons hlt, hb]; simp
    · refine (ih (j + 1) (by omega) (by omega)).mono fun r hr => ?_
      rw [hr, List.drop_eq_getElem_cons hlt, List.mem_cons]
      exact ⟨fun z => z.elim (fun z => .inl (.inr z)) .inr, fun z => z.elim (fun z => z.elim (fun z => absurd z.symm hb) .inl) .inr⟩
theorem ibl_outer (rows : List (List Bool)) (c d : Nat) (x y w h : Int) (hn : rows.length ≤ 1048576) (hx : 0 ≤ x) (hx2 : x ≤ 2000) (hw : 1 ≤ w ∧ w ≤ 50) (hc : x / 8 = c) (hd : (x + w - 1) / 8 + 1 = d) (hr : ∀ r ∈ rows, d ≤ r.length ∧ r.length ≤ 16) : ∀ (e i : Nat), rows.length - i = e → i ≤ rows.length →
    Tot (fun k => impl_blocked.l0 k rows (rows.length : Int) (i : Int) x y w h) (fun r => r = true ↔ ∃ row ∈ rows.drop i, true ∈ (row.take d).drop c) := by
  intro e
  induction e with
  | zero =>
    intro i he hi
    refine Tot.up ?_
    simp only [impl_blocked.l0]
    refine Tot.neg (by omega) (Tot.ret ?_)
    rw [List.drop_of_length_le (by omega)]
    simp
  | succ e ih =>
    intro i he hi
    have hlt : i < rows.length := by omega
    have hrow := hr _ (List.getElem_mem hlt)
    refine Tot.up ?_
    simp only [impl_blocked.l0, rdL_at hlt, w64 (x := x + w) (by omega) (by omega), w64 (x := x + w - 1) (by omega) (by omega), tdiv_nn (show 0 ≤ x + w - 1 by omega), tdiv_nn hx, w64 (x := x / 8) (by omega) (by omega), w64 (x := (x + w - 1) / 8) (by omega) (by omega), w64 (x := (x + w - 1) / 8 + 1) (by omega) (by omega), hc, hd, Int.toNat_natCast, w64 (x := (c : Int)) (by omega) (by omega), w64 (x := (d : Int)) (by omega) (by omega)]
    refine Tot.pos (by omega) (Tot.pos (by omega) (Tot.pos (by omega) (Tot.pos (by omega) (Tot.pos (by omega) (Tot.pos (by omega) ?_)))))
    refine (ibl_inner rows rows.length i _ x y w h (by rw [List.length_drop, List.length_take]; omega) _ (by omega) (ih (i + 1) (by omega) (by omega)) _ 0 rfl (Nat.zero_le _)).mono fun r hr' => ?_
    rw [hr', List.drop_eq_getElem_cons hlt, List.drop_zero]
    simp only [List.mem_cons, exists_eq_or_imp]
theorem bl_true {t : List (List Bool)} {x y w h : Int} (hv : WV t) (hb : BV x y w h) (hz : t.length = 0 ∨ x < 0 ∨ y < 0 ∨ x + w > 8 * ((t.headD []).length : Int) ∨ y + h > 8 * (t.length : Int)) : Bl t x y w h := by
  unfold BV at hb
  by_cases hx : x < 0
  · exact ⟨x, y, by omega, by omega, .inl hx⟩
  by_cases hy : y < 0
  · exact ⟨x, y, by omega, by omega, .inr (.inl hy)⟩
  by_cases hyh : y + h > 8 * (t.length : Int)
  · exact ⟨x, y + h - 1, by omega, by omega, .inr (.inr (.inl (by omega)))⟩
  by_cases h0 : t.length = 0
  · exact ⟨x, y, by omega, by omega, .inr (.inr (.inl (by omega)))⟩
  have hxw : x + w > 8 * ((t.headD []).length : Int) := by omega
  have hi : (y / 8).toNat < t.length := by omega
  have hrow := hv.2 _ (List.getElem_mem hi)
  refine ⟨x + w - 1, y, by omega, by omega, .inr (.inr (.inr (.inl ?_)))⟩
  rw [List.getD_eq_getElem?_getD, List.getElem?_eq_getElem hi, Option.getD_some, hrow.2]
  omega
theorem bl_inside {t : List (List Bool)} {x y w h : Int} {a b c d : Nat} (hv : WV t) (hb : BV x y w h) (hx : 0 ≤ x) (hy : 0 ≤ y) (hxw : x + w ≤ 8 * ((t.headD []).length : Int)) (hyh : y + h ≤ 8 * (t.length : Int))
    (ha : y / 8 = a) (hbb : (y + h - 1) / 8 + 1 = b) (hc : x / 8 = c) (hd : (x + w - 1) / 8 + 1 = d) : (∃ row ∈ (t.take b).drop a, true ∈ (row.take d).drop c) ↔ Bl t x y w h := by
  unfold BV at hb
  constructor
  · rintro ⟨row, hrow, hs⟩
    obtain ⟨i, i1, i2, hi⟩ := mem_cut.1 hrow
    obtain ⟨j, j1, j2, hj⟩ := mem_cut.1 hs
    have e1 : (if x < 8 * (j : Int) then 8 * (j : Int) else x) / 8 = j := by split <;> omega
    have e2 : (if y < 8 * (i : Int) then 8 * (i : Int) else y) / 8 = i := by split <;> omega
    refine ⟨if x < 8 * (j : Int) then 8 * (j : Int) else x, if y < 8 * (i : Int) then 8 * (i : Int) else y, by split <;> omega, by split <;> omega, .inr (.inr (.inr (.inr ?_)))⟩
    rw [e1, e2, Int.toNat_natCast, Int.toNat_natCast, List.getD_eq_getElem?_getD (l := t), hi, Option.getD_some, List.getD_eq_getElem?_getD, hj, Option.getD_some]
  · rintro ⟨u, v, hu, hv', hs⟩
    have hi : (v / 8).toNat < t.length := by omega
    have hrow := hv.2 _ (List.getElem_mem hi)
    have hg : t.getD (v / 8).toNat [] = t[(v / 8).toNat] := by rw [List.getD_eq_getElem?_getD, List.getElem?_eq_getElem hi, Option.getD_some]
    unfold Solid at hs
    rw [hg] at hs
    have hj : (u / 8).toNat < t[(v / 8).toNat].length := by omega
    rcases hs with z | z | z | z | z
    · omega
    · omega
    · omega
    · omega
    · refine ⟨t[(v / 8).toNat], mem_cut.2 ⟨(v / 8).toNat, by omega, by omega, List.getElem?_eq_getElem hi⟩, mem_cut.2 ⟨(u / 8).toNat, by omega, by omega, ?_⟩⟩
      rw [List.getD_eq_getElem?_getD, List.getElem?_eq_getElem hj, Option.getD_some] at z
      rw [List.getElem?_eq_getElem hj, z]
theorem implBl_tot (t : List (List Bool)) (x y w h : Int) (hv : WV t) (hb : BV x y w h) : Tot (fun k => impl_blocked.f k t x y w h) (fun r => r = true ↔ Bl t x y w h) := by
  have hb' := hb
  unfold BV at hb'
  have hl := hv.1
  have bad : (t.length = 0 ∨ x < 0 ∨ y < 0 ∨ x + w > 8 * ((t.headD []).length : Int) ∨ y + h > 8 * (t.length : Int)) → Tot (fun k => impl_blocked.j0 k t true x y w h) (fun r => r = true ↔ Bl t x y w h) := by
    intro hz
    refine Tot.up ?_
    simp only [impl_blocked.j0]
    refine Tot.pos (by simp) (Tot.ret ?_)
    simp only [true_iff]
    exact bl_true hv hb hz
  unfold impl_blocked.f
  refine Tot.ite (fun h1 => bad (.inl (by omega))) (fun h1 => Tot.ite (fun h2 => bad (.inr (.inl h2))) (fun h2 => Tot.ite (fun h3 => bad (.inr (.inr (.inl h3)))) (fun h3 => Tot.pos (by omega) ?_)))
  have hh : (t.headD []).length ≤ 16 := by
    cases t with
    | nil => simp
    | cons r t => exact (hv.2 r (by simp)).1
  simp only [rdL_head (show 0 < t.length by omega), w64 (x := x + w) (by omega) (by omega), w64 (x := 8 * ((t.headD []).length : Int)) (by omega) (by omega), w64 (x := y + h) (by omega) (by omega), w64 (x := 8 * (t.length : Int)) (by omega) (by omega)]
  refine Tot.ite (fun h4 => bad (.inr (.inr (.inr (.inl h4))))) (fun h4 => ?_)
  by_cases h5 : y + h > 8 * (t.length : Int)
  · simp only [h5, decide_true]
    exact bad (.inr (.inr (.inr (.inr h5))))
  · simp only [h5, decide_false]
    obtain ⟨a, ha⟩ := Int.eq_ofNat_of_zero_le (show 0 ≤ y / 8 by omega)
    obtain ⟨b, hbb⟩ := Int.eq_ofNat_of_zero_le (show 0 ≤ (y + h - 1) / 8 + 1 by omega)
    obtain ⟨c, hc⟩ := Int.eq_ofNat_of_zero_le (show 0 ≤ x / 8 by omega)
    obtain ⟨d, hd⟩ := Int.eq_ofNat_of_zero_le (show 0 ≤ (x + w - 1) / 8 + 1 by omega)
    refine Tot.up ?_
    simp only [impl_blocked.j0, w64 (x := y + h) (by omega) (by omega), w64 (x := y + h - 1) (by omega) (by omega), tdiv_nn (show 0 ≤ y + h - 1 by omega), tdiv_nn (show 0 ≤ y by omega), w64 (x := y / 8) (by omega) (by omega), w64 (x := (y + h - 1) / 8) (by omega) (by omega), w64 (x := (y + h - 1) / 8 + 1) (by omega) (by omega), ha, hbb, Int.toNat_natCast, Option.bind_some, w64 (x := (a : Int)) (by omega) (by omega), w64 (x := (b : Int)) (by omega) (by omega)]
    refine Tot.neg (by simp) (Tot.pos (by omega) (Tot.pos (by omega) (Tot.pos (by omega) ?_)))
    refine (ibl_outer _ c d x y w h (by rw [List.length_drop, List.length_take]; omega) (by omega) (by omega) (by omega) hc hd (fun r hr => ?_) _ 0 rfl (Nat.zero_le _)).mono fun r hr => ?_
    · have hm : r ∈ t := List.mem_of_mem_take (List.mem_of_mem_drop hr)
      have := hv.2 r hm
      omega
    · rw [hr, List.drop_zero]
      exact bl_inside hv hb (by omega) (by omega) (by omega) (by omega) ha hbb hc hd
theorem implBoxBlocked_tot (t : List (List Bool)) (hm : t.length ≤ 1048576) (x y w h : Int) : Tot (fun k => impl_BoxBlocked.f k t x y w h) (fun r => r = true ↔ ¬ (BV x y w h ∧ WV t) ∨ Bl t x y w h) := by
  unfold impl_BoxBlocked.f
  simp only [implBoxValid_eq, Option.bind_some, decide_eq_true_eq]
  refine Tot.ite (fun h2 => ?_) (fun h2 => Tot.ret ?_)
  · refine Tot.bind (implWalls_tot t hm) fun r hr => ?_
    refine Tot.ite (fun h1 => ?_) (fun h1 => Tot.ret ?_)
    · refine Tot.bind (implBl_tot t x y w h (hr.1 h1) h2) fun r' hr' => Tot.ret ?_
      rw [hr']
      exact ⟨.inr, fun z => z.resolve_left (fun z => z ⟨h2, hr.1 h1⟩)⟩
    · simp only [true_iff]
      exact .inl (fun z => h1 (hr.2 z.2))
  · simp only [true_iff]
    exact .inl (fun z => h2 z.1)
/-! ### Sliding -/
theorem not_bl {t : List (List Bool)} {x y w h : Int} (hn : ¬ Bl t x y w h) (hw : 1 ≤ w) (hh : 1 ≤ h) : 0 ≤ x ∧ 0 ≤ y ∧ ∀ u v, (x ≤ u ∧ u < x + w) → (y ≤ v ∧ v < y + h) → ¬ Solid t u v := by
  refine ⟨?_, ?_, fun u v hu hv z => hn ⟨u, v, hu, hv, z⟩⟩
  · by_cases z : 0 ≤ x
    · exact z
    · exact absurd ⟨x, y, by omega, by omega, .inl (by omega)⟩ hn
  · by_cases z : 0 ≤ y
    · exact z
    · exact absurd ⟨x, y, by omega, by omega, .inr (.inl (by omega))⟩ hn
/-- What is not blocked lies in the table. -/
theorem inside {t : List (List Bool)} {x y w h : Int} (hv : WV t) (hn : ¬ Bl t x y w h) (hw : 1 ≤ w) (hh : 1 ≤ h) : 0 ≤ x ∧ 0 ≤ y ∧ x + w ≤ 128 ∧ y + h ≤ 8 * (t.length : Int) ∧ y + h ≤ 128 := by
  obtain ⟨hx, hy, hs⟩ := not_bl hn hw hh
  have h1 := hs (x + w - 1) (y + h - 1) (by omega) (by omega)
  have c1 : (y + h - 1) / 8 < (t.length : Int) := by
    by_cases z : (t.length : Int) ≤ (y + h - 1) / 8
    · exact absurd (.inr (.inr (.inl z))) h1
    · omega
  have hi : ((y + h - 1) / 8).toNat < t.length := by omega
  have hrow := hv.2 _ (List.getElem_mem hi)
  have hg : t.getD ((y + h - 1) / 8).toNat [] = t[((y + h - 1) / 8).toNat] := by rw [List.getD_eq_getElem?_getD, List.getElem?_eq_getElem hi, Option.getD_some]
  have c2 : (x + w - 1) / 8 < (t[((y + h - 1) / 8).toNat].length : Int) := by
    by_cases z : (t[((y + h - 1) / 8).toNat].length : Int) ≤ (x + w - 1) / 8
    · exact absurd (.inr (.inr (.inr (.inl (by rw [hg]; exact z))))) h1
    · omega
  have := hv.1
  exact ⟨hx, hy, by omega, by omega, by omega⟩
open Classical in
/-- A rectangle after at most n pixels in one direction, as far as it is free. -/
noncomputable def slide (t : List (List Bool)) (w h sx sy : Int) : Nat → Int × Int → Int × Int
  | 0, p => p
  | n + 1, p => if Bl t (p.1 + sx) (p.2 + sy) w h then p else slide t w h sx sy n (p.1 + sx, p.2 + sy)
theorem slide_tells (t : List (List Bool)) (w h sx sy : Int) : ∀ (n : Nat) (p : Int × Int), ∃ m : Nat, m ≤ n ∧ slide t w h sx sy n p = (p.1 + m * sx, p.2 + m * sy) ∧ (∀ j : Nat, 1 ≤ j → j ≤ m → ¬ Bl t (p.1 + j * sx) (p.2 + j * sy) w h) ∧ (m = n ∨ Bl t (p.1 + (m + 1 : Nat) * sx) (p.2 + (m + 1 : Nat) * sy) w h) := by
  intro n
  induction n with
  | zero => intro p; exact ⟨0, Nat.le_refl _, by simp [slide], fun j h1 h2 => by omega, .inl rfl⟩
  | succ n ih =>
    intro p
    by_cases hb : Bl t (p.1 + sx) (p.2 + sy) w h
    · refine ⟨0, by omega, by simp only [slide, if_pos hb]; simp, fun j h1 h2 => by omega, .inr ?_⟩
      simpa using hb
    · obtain ⟨m, h1, h2, h3, h4⟩ := ih (p.1 + sx, p.2 + sy)
      have e : ∀ (j : Nat) (a s : Int), a + s + j * s = a + ((j + 1 : Nat) : Int) * s := by
        intro j a s
        rw [Int.natCast_add, Int.add_mul]; omega
      simp only [e] at h2 h3 h4
      refine ⟨m + 1, by omega, by simp only [slide, if_neg hb]; exact h2, fun j hj1 hj2 => ?_, ?_⟩
      · obtain ⟨i, rfl⟩ : ∃ i, j = i + 1 := ⟨j - 1, by omega⟩
        rcases Nat.eq_zero_or_pos i with h0 | h0
        · subst h0; simpa using hb
        · exact h3 i h0 (by omega)
      · rcases h4 with h4 | h4
        · exact .inl (by omega)
        · exact .inr h4
theorem slide_free {t : List (List Bool)} {w h sx sy : Int} {n : Nat} {p : Int × Int} (hp : ¬ Bl t p.1 p.2 w h) : ¬ Bl t (slide t w h sx sy n p).1 (slide t w h sx sy n p).2 w h := by
  obtain ⟨m, _, h2, h3, _⟩ := slide_tells t w h sx sy n p
  rw [h2]
  rcases Nat.eq_zero_or_pos m with h0 | h0
  · subst h0; simpa using hp
  · exact h3 m h0 (Nat.le_refl _)
theorem slide_add (t : List (List Bool)) (w h sx sy : Int) (b : Nat) : ∀ (a : Nat) (p : Int × Int), slide t w h sx sy b (slide t w h sx sy a p) = slide t w h sx sy (a + b) p := by
  intro a
  induction a with
  | zero => intro p; simp [slide]
  | succ a ih =>
    intro p
    rw [show a + 1 + b = (a + b) + 1 by omega]
    by_cases hb : Bl t (p.1 + sx) (p.2 + sy) w h
    · simp only [slide, if_pos hb]
      cases b with
      | zero => rfl
      | succ b => simp only [slide, if_pos hb]
    · simp only [slide, if_neg hb]
      exact ih _
/-- A direction. -/
def sgn (d : Int) : Int := if d > 0 then 1 else if d < 0 then -1 else 0
theorem sgn_cases (d : Int) : (0 < d ∧ sgn d = 1) ∨ (d < 0 ∧ sgn d = -1) ∨ (d = 0 ∧ sgn d = 0) := by
  unfold sgn
  split
  · exact .inl ⟨by omega, rfl⟩
  · split
    · exact .inr (.inl ⟨by omega, rfl⟩)
    · exact .inr (.inr ⟨by omega, rfl⟩)
/-- Where a rectangle that is valid, free and moved by little comes to. -/
noncomputable def moved (t : List (List Bool)) (x y w h dx dy : Int) : Int × Int :=
  slide t w h 0 (sgn dy) dy.natAbs (slide t w h (sgn dx) 0 dx.natAbs (x, y))
open Classical in
/-- What a move answers. -/
noncomputable def moveOf (t : List (List Bool)) (x y w h dx dy : Int) : Int × Int × Int × Int :=
  if (BV x y w h ∧ WV t) ∧ ¬ Bl t x y w h ∧ (-64 ≤ dx ∧ dx ≤ 64) ∧ (-64 ≤ dy ∧ dy ≤ 64) then ((moved t x y w h dx dy).1, (moved t x y w h dx dy).2, w, h) else (0, 0, 0, 0)
theorem mx_abs {d : Int} (h : -64 ≤ d ∧ d ≤ 64) : mx d (wrap64 (-d)) = (d.natAbs : Int) := by
  rw [w64 (by omega) (by omega)]
  unfold mx
  split <;> omega
theorem specSlide_loop (t : List (List Bool)) (hv : WV t) (w h sx sy : Int) (hw : 1 ≤ w ∧ w ≤ 40) (hh : 1 ≤ h ∧ h ≤ 40) (hsx : -1 ≤ sx ∧ sx ≤ 1) (hsy : -1 ≤ sy ∧ sy ≤ 1) (n : Nat) (hn : n ≤ 1000) : ∀ (d i : Nat) (x y : Int), n - i = d → i ≤ n → ¬ Bl t x y w h →
    Tot (fun k => spec_l20Slide.l0 k t sx sy (n : Int) (i : Int) x y w h) (· = ((slide t w h sx sy d (x, y)).1, (slide t w h sx sy d (x, y)).2, w, h)) := by
  intro d
  induction d with
  | zero =>
    intro i x y hd hi hb
    refine Tot.up ?_
    simp only [spec_l20Slide.l0]
    exact Tot.neg (by omega) (Tot.ret rfl)
  | succ d ih =>
    intro i x y hd hi hb
    have hin := inside hv hb hw.1 hh.1
    refine Tot.up ?_
    simp only [spec_l20Slide.l0, w64 (x := x + sx) (by omega) (by omega), w64 (x := y + sy) (by omega) (by omega), inext (show i < n by omega) (by omega)]
    refine Tot.pos (by omega) (Tot.bind (specBl_tot t (x + sx) (y + sy) w h (by omega) (by omega) (by omega) (by omega)) fun r hr => ?_)
    refine Tot.ite (fun h1 => Tot.ret ?_) (fun h1 => ?_)
    · simp only [slide, if_pos (hr.1 h1)]
    · have hnb : ¬ Bl t (x + sx) (y + sy) w h := fun z => h1 (hr.2 z)
      refine (ih (i + 1) (x + sx) (y + sy) (by omega) (by omega) hnb).mono fun r hr => ?_
      rw [hr]
      simp only [slide, if_neg hnb]
theorem specSlide_tot (t : List (List Bool)) (hv : WV t) (x y w h sx sy : Int) (n : Nat) (hb : ¬ Bl t x y w h) (hw : 1 ≤ w ∧ w ≤ 40) (hh : 1 ≤ h ∧ h ≤ 40) (hsx : -1 ≤ sx ∧ sx ≤ 1) (hsy : -1 ≤ sy ∧ sy ≤ 1) (hn : n ≤ 1000) :
    Tot (fun k => spec_l20Slide.f k t x y w h sx sy (n : Int)) (· = ((slide t w h sx sy n (x, y)).1, (slide t w h sx sy n (x, y)).2, w, h)) := by
  unfold spec_l20Slide.f
  exact specSlide_loop t hv w h sx sy hw hh hsx hsy n hn n 0 x y rfl (Nat.zero_le _) hb
theorem specSign_eq (d : Int) : spec_l20Sign.f d = some (sgn d) := by
  unfold spec_l20Sign.f sgn
  split
  · rfl
  · split <;> rfl
theorem specMove_tot (t : List (List Bool)) (hm : t.length ≤ 1048576) (x y w h dx dy : Int) : Tot (fun k => spec_MoveBox.f k t x y w h dx dy) (· = moveOf t x y w h dx dy) := by
  have bad : ¬ ((BV x y w h ∧ WV t) ∧ ¬ Bl t x y w h ∧ (-64 ≤ dx ∧ dx ≤ 64) ∧ (-64 ≤ dy ∧ dy ≤ 64)) → Tot (fun k => spec_MoveBox.j0 k t dx dy true x y w h) (· = moveOf t x y w h dx dy) := by
    intro hz
    refine Tot.up ?_
    simp only [spec_MoveBox.j0]
    refine Tot.pos (by simp) (Tot.ret ?_)
    unfold moveOf
    rw [if_neg hz]
  unfold spec_MoveBox.f
  refine Tot.bind (specBoxBlocked_tot t hm x y w h) fun r hr => ?_
  refine Tot.ite (fun h1 => bad (fun z => ?_)) (fun h1 => ?_)
  · rcases hr.1 h1 with q | q
    · exact q z.1
    · exact z.2.1 q
  have hr' : ¬ (¬ (BV x y w h ∧ WV t) ∨ Bl t x y w h) := fun z => h1 (hr.2 z)
  have hbv : BV x y w h ∧ WV t := Classical.not_not.1 (fun z => hr' (.inl z))
  have hnb : ¬ Bl t x y w h := fun z => hr' (.inr z)
  simp only [l1In_eq, Option.bind_some, decide_eq_true_eq]
  refine Tot.ite (fun h2 => ?_) (fun h2 => bad (fun z => h2 z.2.2.1))
  by_cases h3 : -64 ≤ dy ∧ dy ≤ 64
  · simp only [h3, and_self, decide_true, Bool.not_true]
    refine Tot.up ?_
    have hb' := hbv.1
    unfold BV at hb'
    have s1 := sgn_cases dx
    have s2 := sgn_cases dy
    simp only [spec_MoveBox.j0, specSign_eq, Option.bind_some, mx_abs h2, mx_abs h3]
    refine Tot.neg (by simp) (Tot.bind (specSlide_tot t hbv.2 x y w h (sgn dx) 0 dx.natAbs hnb (by omega) (by omega) (by omega) (by omega) (by omega)) ?_)
    rintro r rfl
    refine Tot.bind (specSlide_tot t hbv.2 _ _ w h 0 (sgn dy) dy.natAbs (slide_free hnb) (by omega) (by omega) (by omega) (by omega) (by omega)) ?_
    rintro r rfl
    refine Tot.ret ?_
    unfold moveOf
    rw [if_pos ⟨hbv, hnb, h2, h3⟩]
    rfl
  · have e : decide (-64 ≤ dy ∧ dy ≤ 64) = false := decide_eq_false h3
    simp only [e, Bool.not_false]
    exact bad (fun z => h3 z.2.2.2)
theorem implSlide_loop (t : List (List Bool)) (hv : WV t) (w h dx dy sx sy : Int) (n : Nat) (hw : 1 ≤ w ∧ w ≤ 40) (hh : 1 ≤ h ∧ h ≤ 40) (hsx : -1 ≤ sx ∧ sx ≤ 1) (hsy : -1 ≤ sy ∧ sy ≤ 1) (hn : n ≤ 1000) (ex : 0 < n → wrap64 (Int.tdiv dx n) = sx) (ey : 0 < n → wrap64 (Int.tdiv dy n) = sy) : ∀ (d i : Nat) (x y : Int), n - i = d → i ≤ n → ¬ Bl t x y w h →
    Tot (fun k => impl_slide.l0 k t dx dy (n : Int) (n : Int) (i : Int) x y w h) (· = ((slide t w h sx sy d (x, y)).1, (slide t w h sx sy d (x, y)).2, w, h)) := by
  intro d
  induction d with
  | zero =>
    intro i x y hd hi hb
    refine Tot.up ?_
    simp only [impl_slide.l0]
    exact Tot.neg (by omega) (Tot.ret rfl)
  | succ d ih =>
    intro i x y hd hi hb
    have hin := inside hv hb hw.1 hh.1
    refine Tot.up ?_
    simp only [impl_slide.l0, ex (by omega), ey (by omega), inext (show i < n by omega) (by omega)]
    simp only [w64 (x := x + sx) (by omega) (by omega), w64 (x := y + sy) (by omega) (by omega)]
    refine Tot.pos (by omega) (Tot.neg (by omega) (Tot.bind (implBl_tot t (x + sx) (y + sy) w h hv (by unfold BV; omega)) fun r hr => ?_))
    refine Tot.ite (fun h1 => Tot.ret ?_) (fun h1 => ?_)
    · simp only [slide, if_pos (hr.1 h1)]
    · have hnb : ¬ Bl t (x + sx) (y + sy) w h := fun z => h1 (hr.2 z)
      refine (ih (i + 1) (x + sx) (y + sy) (by omega) (by omega) hnb).mono fun r hr => ?_
      rw [hr]
      simp only [slide, if_neg hnb]
theorem tdiv_self_abs {d : Int} (h : d ≠ 0) (hd : -64 ≤ d ∧ d ≤ 64) : wrap64 (Int.tdiv d (d.natAbs : Int)) = sgn d := by
  rcases sgn_cases d with ⟨h1, h2⟩ | ⟨h1, h2⟩ | ⟨h1, h2⟩
  · rw [h2, show ((d.natAbs : Nat) : Int) = d by omega, Int.tdiv_self h, w64 (by omega) (by omega)]
  · rw [h2, show ((d.natAbs : Nat) : Int) = -d by omega, Int.tdiv_neg, Int.tdiv_self h, w64 (by omega) (by omega)]
  · exact absurd h1 h
theorem implAcross_tot (t : List (List Bool)) (hv : WV t) (x y w h dx : Int) (hb : ¬ Bl t x y w h) (hw : 1 ≤ w ∧ w ≤ 40) (hh : 1 ≤ h ∧ h ≤ 40) (hd : -64 ≤ dx ∧ dx ≤ 64) :
    Tot (fun k => impl_slide.f k t x y w h dx 0) (· = ((slide t w h (sgn dx) 0 dx.natAbs (x, y)).1, (slide t w h (sgn dx) 0 dx.natAbs (x, y)).2, w, h)) := by
  unfold impl_slide.f
  have e : mx (mx (mx dx (wrap64 (-dx))) 0) (wrap64 (-0)) = (dx.natAbs : Int) := by
    rw [mx_abs hd, w64 (x := -0) (by omega) (by omega)]
    unfold mx
    split <;> (try split) <;> omega
  have s := sgn_cases dx
  simp only [e]
  exact implSlide_loop t hv w h dx 0 (sgn dx) 0 dx.natAbs hw hh (by omega) (by omega) (by omega) (fun z => tdiv_self_abs (by omega) hd) (fun _ => by rw [Int.zero_tdiv, w64 (by omega) (by omega)]) _ 0 x y rfl (Nat.zero_le _) hb
theorem implDown_tot (t : List (List Bool)) (hv : WV t) (x y w h dy : Int) (hb : ¬ Bl t x y w h) (hw : 1 ≤ w ∧ w ≤ 40) (hh : 1 ≤ h ∧ h ≤ 40) (hd : -64 ≤ dy ∧ dy ≤ 64) :
    Tot (fun k => impl_slide.f k t x y w h 0 dy) (· = ((slide t w h 0 (sgn dy) dy.natAbs (x, y)).1, (slide t w h 0 (sgn dy) dy.natAbs (x, y)).2, w, h)) := by
  unfold impl_slide.f
  have e : mx (mx (mx 0 (wrap64 (-0))) dy) (wrap64 (-dy)) = (dy.natAbs : Int) := by
    rw [w64 (x := -0) (by omega) (by omega), w64 (x := -dy) (by omega) (by omega)]
    unfold mx
    split <;> (try split) <;> (try split) <;> omega
  have s := sgn_cases dy
  simp only [e]
  exact implSlide_loop t hv w h 0 dy 0 (sgn dy) dy.natAbs hw hh (by omega) (by omega) (by omega) (fun _ => by rw [Int.zero_tdiv, w64 (by omega) (by omega)]) (fun z => tdiv_self_abs (by omega) hd) _ 0 x y rfl (Nat.zero_le _) hb
theorem implMove_tot (t : List (List Bool)) (hm : t.length ≤ 1048576) (x y w h dx dy : Int) : Tot (fun k => impl_MoveBox.f k t x y w h dx dy) (· = moveOf t x y w h dx dy) := by
  have bad : ¬ ((BV x y w h ∧ WV t) ∧ ¬ Bl t x y w h ∧ (-64 ≤ dx ∧ dx ≤ 64) ∧ (-64 ≤ dy ∧ dy ≤ 64)) → Tot (fun k => impl_MoveBox.j0 k t dx dy true x y w h) (· = moveOf t x y w h dx dy) := by
    intro hz
    refine Tot.up ?_
    simp only [impl_MoveBox.j0]
    refine Tot.pos (by simp) (Tot.ret ?_)
    unfold moveOf
    rw [if_neg hz]
  unfold impl_MoveBox.f
  simp only [implBoxValid_eq, within_eq, Option.bind_some, decide_eq_true_eq]
  refine Tot.ite (fun h0 => Tot.ite (fun h2 => Tot.ite (fun h3 => ?_) (fun h3 => bad (fun z => h3 z.2.2.2))) (fun h2 => bad (fun z => h2 z.2.2.1))) (fun h0 => bad (fun z => h0 z.1.1))
  refine Tot.bind (implBoxBlocked_tot t hm x y w h) fun r hr => ?_
  cases r with
  | true =>
    refine bad (fun z => ?_)
    rcases hr.1 rfl with q | q
    · exact q z.1
    · exact z.2.1 q
  | false =>
    have hr' : ¬ (¬ (BV x y w h ∧ WV t) ∨ Bl t x y w h) := fun z => by have := hr.2 z; cases this
    have hbv : BV x y w h ∧ WV t := Classical.not_not.1 (fun z => hr' (.inl z))
    have hnb : ¬ Bl t x y w h := fun z => hr' (.inr z)
    have hb' := hbv.1
    unfold BV at hb'
    refine Tot.up ?_
    simp only [impl_MoveBox.j0]
    refine Tot.neg (by simp) (Tot.bind (implAcross_tot t hbv.2 x y w h dx hnb (by omega) (by omega) h2) ?_)
    rintro r rfl
    refine Tot.bind (implDown_tot t hbv.2 _ _ w h dy (slide_free hnb) (by omega) (by omega) h3) ?_
    rintro r rfl
    refine Tot.ret ?_
    unfold moveOf
    rw [if_pos ⟨hbv, hnb, h2, h3⟩]
    rfl
theorem alive_eq : laws_alive.f = some true := by decide +kernel
theorem rd_byte {b : List Int} (hb : ∀ x ∈ b, (Lit.int .u8 x).wf = true) (i : Int) : 0 ≤ rd b i ∧ rd b i ≤ 255 := by
  unfold rd
  rw [List.getD_eq_getElem?_getD]
  rcases Nat.lt_or_ge i.toNat b.length with h | h
  · rw [List.getElem?_eq_getElem h]
    exact u8_of (hb _ (List.getElem_mem h))
  · rw [List.getElem?_eq_none h]
    simp
theorem xor_nn {a b : Int} (ha : 0 ≤ a) (ha' : a < 4611686018427387904) (hb : 0 ≤ b) (hb' : b < 4611686018427387904) : 0 ≤ Go.bits .xor .i64 a b := by
  obtain ⟨m, rfl⟩ := Int.eq_ofNat_of_zero_le ha
  obtain ⟨n, rfl⟩ := Int.eq_ofNat_of_zero_le hb
  have hm : m < 2 ^ 62 := by omega
  have hn : n < 2 ^ 62 := by omega
  have hx : m ^^^ n < 2 ^ 62 := Nat.xor_lt_two_pow hm hn
  have e : Go.bits .xor .i64 (m : Int) (n : Int) = ((m ^^^ n : Nat) : Int) := by
    show IntKind.wrap .i64 ((BitVec.ofInt 64 (m : Int) ^^^ BitVec.ofInt 64 (n : Int)).toNat : Int) = _
    rw [BitVec.ofInt_natCast, BitVec.ofInt_natCast, BitVec.toNat_xor, BitVec.toNat_ofNat, BitVec.toNat_ofNat, Nat.mod_eq_of_lt (show m < 2 ^ 64 by omega), Nat.mod_eq_of_lt (show n < 2 ^ 64 by omega), IntKind.wrap_i64]
    omega
  rw [e]
  exact Int.natCast_nonneg _
/-- The bytes that draws are made of. -/
def Src (b : List Int) : Prop := (∀ x ∈ b, (Lit.int .u8 x).wf = true) ∧ b.length ≤ 2000
theorem open_tot (l : List Int) (hw : ∀ x ∈ l, (Lit.int .u8 x).wf = true) : Tot (fun _ => spec_l20Open.f l) (fun r => Src r.1 ∧ r.2 = 0) := by
  unfold spec_l20Open.f
  refine Tot.ite (fun h => ?_) (fun h => ?_)
  · refine Tot.pos (by omega) (Tot.ret ⟨⟨fun x hx => hw x (List.mem_of_mem_take hx), ?_⟩, rfl⟩)
    rw [List.length_take]; omega
  · exact Tot.ret ⟨⟨hw, by simp only; omega⟩, rfl⟩
theorem pick_tot {b : List Int} (hb : Src b) (p n : Int) (hp : 0 ≤ p) (hp' : p ≤ 1000000000) :
    Tot (fun k => spec_l20Rd_pick.f k b p n) (fun r => r.2 = p + 1 ∧ (n < 1 → r.1 = 0) ∧ (1 ≤ n → 0 ≤ r.1 ∧ r.1 < n)) := by
  have hw : wrap64 (p + 1) = p + 1 := w64 (by omega) (by omega)
  have hw1 : wrap64 (p + 1 - 1) = p := by rw [w64] <;> omega
  unfold spec_l20Rd_pick.f
  simp only [hw]
  refine Tot.ite (fun h1 => ?_) (fun h1 => ?_)
  · refine Tot.up ?_
    simp only [spec_l20Rd_pick.j0]
    exact Tot.pos (by simp) (Tot.ret ⟨rfl, fun _ => rfl, fun h => by omega⟩)
  · refine Tot.up ?_
    simp only [spec_l20Rd_pick.j0, hw1]
    refine Tot.ite (fun h2 => Tot.ret ⟨rfl, fun _ => rfl, fun h => ⟨Int.le_refl _, by omega⟩⟩) (fun h2 => ?_)
    have hl : 0 < (b.length : Int) := by
      have : ¬ ((b.length : Int) = 0) := fun h => h2 (by simp [h])
      omega
    have hl2 : (b.length : Int) ≤ 2000 := by have := hb.2; omega
    refine Tot.ite (fun h3 => ?_) (fun h3 => ?_)
    · have hr := rd_byte hb.1 p
      refine Tot.pos hp (Tot.neg (by omega) (Tot.ret ⟨rfl, fun h => absurd h h1, fun h => ?_⟩))
      rw [w64 (x := rd b p) (by omega) (by omega), tmod_nn hr.1]
      exact ⟨Int.emod_nonneg _ (by omega), Int.emod_lt_of_pos _ (by omega)⟩
    · have e7 : wrap64 (p * 7) = p * 7 := w64 (by omega) (by omega)
      have e73 : wrap64 (p * 7 + 3) = p * 7 + 3 := w64 (by omega) (by omega)
      simp only [e7, e73, tmod_nn hp, tmod_nn (show 0 ≤ p * 7 + 3 by omega), tdiv_nn hp]
      have r1 := rd_byte hb.1 (p % (b.length : Int))
      have r2 := rd_byte hb.1 ((p * 7 + 3) % (b.length : Int))
      have m1 := Int.emod_nonneg p (show (b.length : Int) ≠ 0 by omega)
      have m2 := Int.emod_lt_of_pos p hl
      have m3 := Int.emod_nonneg (p * 7 + 3) (show (b.length : Int) ≠ 0 by omega)
      have m4 := Int.emod_lt_of_pos (p * 7 + 3) hl
      have d1 : 0 ≤ p / (b.length : Int) := Int.ediv_nonneg hp (by omega)
      have d2 : p / (b.length : Int) ≤ p := Int.ediv_le_self _ hp
      refine Tot.neg (by omega) (Tot.pos m1 (Tot.pos m2 (Tot.pos m3 (Tot.pos m4 (Tot.neg (by omega) (Tot.ret ⟨rfl, fun h => absurd h h1, fun _ => ?_⟩))))))
      generalize rd b (p % (b.length : Int)) = x1 at *
      generalize rd b ((p * 7 + 3) % (b.length : Int)) = x2 at *
      generalize p / (b.length : Int) = q at *
      rw [w64 (x := x1) (by omega) (by omega), w64 (x := x2) (by omega) (by omega), w64 (x := q) (by omega) (by omega), w64 (x := x1 * 131) (by omega) (by omega), w64 (x := x2 * 1117) (by omega) (by omega), w64 (x := p * 29) (by omega) (by omega), w64 (x := q * 53) (by omega) (by omega),
        w64 (x := x1 * 131 + x2 * 1117) (by omega) (by omega), w64 (x := x1 * 131 + x2 * 1117 + p * 29) (by omega) (by omega), w64 (x := x1 * 131 + x2 * 1117 + p * 29 + q * 53) (by omega) (by omega)]
      have hs : 0 ≤ x1 * 131 + x2 * 1117 + p * 29 + q * 53 := by omega
      have hs2 : x1 * 131 + x2 * 1117 + p * 29 + q * 53 < 4611686018427387904 := by omega
      generalize x1 * 131 + x2 * 1117 + p * 29 + q * 53 = s at *
      rw [tdiv_nn hs, w64 (x := s / 64) (by omega) (by omega)]
      have hx := xor_nn hs hs2 (show 0 ≤ s / 64 by omega) (by omega)
      rw [tmod_nn hx]
      exact ⟨Int.emod_nonneg _ (by omega), Int.emod_lt_of_pos _ (by omega)⟩
theorem odd_tot {b : List Int} (hb : Src b) (p n : Int) (hp : 0 ≤ p) (hp' : p ≤ 1000000000) (hn : n ≤ 1000000000) :
    Tot (fun k => spec_l20Rd_odd.f k b p n) (fun r => p ≤ r.2 ∧ r.2 ≤ p + 1 ∧ (n < 1 → r.1 = false)) := by
  unfold spec_l20Rd_odd.f
  refine Tot.ite (fun h => ?_) (fun h => Tot.ret ⟨Int.le_refl _, by omega, fun _ => rfl⟩)
  refine Tot.bind (pick_tot hb p n hp hp') ?_
  rintro ⟨v, q⟩ ⟨hq, _, _⟩
  simp only at hq
  exact Tot.ret ⟨by simp only; omega, by simp only; omega, fun h' => by omega⟩
/-- A drawn rectangle: its numbers are small. -/
def DrawnBox (x y w h : Int) : Prop := (x = -1001 ∨ x = 1001 ∨ 0 ≤ x ∧ x ≤ 39) ∧ (0 ≤ y ∧ y ≤ 39) ∧ (0 ≤ w ∧ w ≤ 41) ∧ 0 ≤ h ∧ h ≤ 12
theorem rd2 (x y i : Int) (h0 : 0 ≤ i) (h2 : i < 2) : rd [x, y] i = x ∨ rd [x, y] i = y := by
  have : i = 0 ∨ i = 1 := by omega
  rcases this with rfl | rfl
  · exact .inl rfl
  · exact .inr rfl
theorem box_tot {b : List Int} (hb : Src b) (p n : Int) (hp : 0 ≤ p) (hp' : p ≤ 900000000) (hn : n ≤ 1000) :
    Tot (fun k => spec_l20Box.f k b p n) (fun r => DrawnBox r.1 r.2.1 r.2.2.1 r.2.2.2.1 ∧ p ≤ r.2.2.2.2 ∧ r.2.2.2.2 ≤ p + 10) := by
  unfold spec_l20Box.f DrawnBox
  refine Tot.bind (pick_tot hb p 40 hp (by omega)) ?_
  rintro ⟨v1, q1⟩ ⟨h1, _, g1⟩
  refine Tot.bind (pick_tot hb _ 40 (by simp only at h1 ⊢; omega) (by simp only at h1 ⊢; omega)) ?_
  rintro ⟨v2, q2⟩ ⟨h2, _, g2⟩
  refine Tot.bind (pick_tot hb _ 12 (by simp only at h1 h2 ⊢; omega) (by simp only at h1 h2 ⊢; omega)) ?_
  rintro ⟨v3, q3⟩ ⟨h3, _, g3⟩
  refine Tot.bind (pick_tot hb _ 12 (by simp only at h1 h2 h3 ⊢; omega) (by simp only at h1 h2 h3 ⊢; omega)) ?_
  rintro ⟨v4, q4⟩ ⟨h4, _, g4⟩
  simp only at h1 h2 h3 h4 g1 g2 g3 g4
  refine Tot.bind (odd_tot hb _ n (by simp only; omega) (by simp only; omega) (by omega)) ?_
  rintro ⟨v5, q5⟩ ⟨h5, h5', _⟩
  simp only at h5 h5'
  have w3 : wrap64 (1 + v3) = 1 + v3 := w64 (by omega) (by omega)
  have w4 : wrap64 (1 + v4) = 1 + v4 := w64 (by omega) (by omega)
  simp only [w3, w4]
  refine Tot.ite (fun _ => ?_) (fun _ => Tot.ret (by (try simp only); omega))
  refine Tot.bind (pick_tot hb _ 3 (by omega) (by omega)) ?_
  rintro ⟨v6, q6⟩ ⟨h6, _, g6⟩
  simp only at h6 g6
  refine Tot.ite (fun _ => ?_) (fun _ => ?_)
  · simp only [Option.bind_some]
    refine Tot.bind (pick_tot hb _ 2 (by omega) (by omega)) ?_
    rintro ⟨v7, q7⟩ ⟨h7, _, g7⟩
    simp only at h7 g7
    refine Tot.pos (by omega) (Tot.pos (by simp; omega) (Tot.ret ⟨?_, by (try simp only); omega⟩))
    rcases rd2 (-1001) 1001 v7 (by omega) (by omega) with e | e
    · exact ⟨.inl e, by (try simp only); omega, by (try simp only); omega, by (try simp only); omega⟩
    · exact ⟨.inr (.inl e), by (try simp only); omega, by (try simp only); omega, by (try simp only); omega⟩
  · refine Tot.ite (fun _ => ?_) (fun _ => Tot.ret (by (try simp only); omega))
    simp only [Option.bind_some]
    refine Tot.bind (pick_tot hb _ 2 (by omega) (by omega)) ?_
    rintro ⟨v7, q7⟩ ⟨h7, _, g7⟩
    simp only at h7 g7
    refine Tot.pos (by omega) (Tot.pos (by simp; omega) (Tot.ret ⟨?_, by (try simp only); omega⟩))
    have e := rd2 0 41 v7 (by omega) (by omega)
    exact ⟨by (try simp only); omega, by (try simp only); omega, by (try simp only); omega, by (try simp only); omega⟩
/-- A drawn table. -/
def Drawn (t : List (List Bool)) : Prop := 0 < t.length ∧ t.length ≤ 7 ∧ ∀ r ∈ t, r.length ≤ 7
theorem tableEnd_ok {t : List (List Bool)} (h : 0 < t.length) (hl : t.length ≤ 6) (hr : ∀ r ∈ t, r.length ≤ 6) : Drawn (t.set 0 (rd_L1 t 0 ++ [true]) ++ [[]]) := by
  refine ⟨by simp, by simp only [List.length_append, List.length_set, List.length_singleton]; omega, fun r hr' => ?_⟩
  rcases List.mem_append.1 hr' with z | z
  · rcases List.mem_or_eq_of_mem_set z with z | z
    · have := hr r z; omega
    · rw [z, List.length_append, List.length_singleton]
      have : rd_L1 t 0 ∈ t := by
        have e := rdL_at (xs := t) (i := 0) h
        have e' : rd_L1 t 0 = t[0] := e
        rw [e']; exact List.getElem_mem h
      have := hr _ this
      omega
  · rw [List.mem_singleton.1 z]; simp
theorem tableInner {b : List Int} (hb : Src b) (n w : Int) (hw : w ≤ 6) (d : Nat) (hdd : d ≤ 100) (Q : List (List Bool) × Int → Prop) (t : List (List Bool)) (ht : t.length ≤ 6) (B : Int)
    (hA : ∀ (row : List Bool) (p : Int), row.length ≤ 6 → 0 ≤ p → p ≤ B → Tot (fun k => spec_l20Table.l0 k n w (t ++ [row]) (d : Int) b p) Q) :
    ∀ (e : Nat) (row : List Bool) (i p : Int), w - i ≤ e → (i : Int) = row.length → (row.length : Int) ≤ w ∨ row.length = 0 → 0 ≤ p → p + e ≤ B → B ≤ 100000 → Tot (fun k => spec_l20Table.l1 k n w t ((d + 1 : Nat) : Int) row i b p) Q := by
  intro e
  induction e with
  | zero =>
    intro row i p he hi hr hp hp' hB
    refine Tot.up ?_
    simp only [spec_l20Table.l1, show wrap64 (((d + 1 : Nat) : Int) - 1) = (d : Int) from by rw [w64] <;> omega]
    exact Tot.neg (by omega) (Tot.pos (by omega) (hA row p (by omega) hp (by omega)))
  | succ e ih =>
    intro row i p he hi hr hp hp' hB
    refine Tot.up ?_
    simp only [spec_l20Table.l1, show wrap64 (((d + 1 : Nat) : Int) - 1) = (d : Int) from by rw [w64] <;> omega]
    refine Tot.ite (fun h => ?_) (fun h => Tot.pos (by omega) (hA row p (by omega) hp (by omega)))
    refine Tot.bind (pick_tot hb p 4 hp (by omega)) ?_
    rintro ⟨v, q⟩ ⟨h1, _, _⟩
    simp only at h1
    simp only [w64 (x := i + 1) (by omega) (by omega)]
    exact Tot.pos (by omega) (ih _ (i + 1) q (by omega) (by rw [List.length_append, List.length_singleton]; omega) (by rw [List.length_append, List.length_singleton]; omega) (by omega) (by omega) hB)
theorem tableOuter {b : List Int} (hb : Src b) (n w : Int) (hn : n ≤ 1000) (hw : w ≤ 6) : ∀ (d : Nat) (t : List (List Bool)) (p : Int), 0 ≤ p → p + 10 * d ≤ 90000 → t.length + d ≤ 6 → 0 < t.length + d → (∀ r ∈ t, r.length ≤ 6) →
    Tot (fun k => spec_l20Table.l0 k n w t (d : Int) b p) (fun r => Drawn r.1 ∧ 0 ≤ r.2 ∧ r.2 ≤ 90100) := by
  intro d
  induction d with
  | zero =>
    intro t p hp hp' hl h0 hr
    refine Tot.up ?_
    simp only [spec_l20Table.l0]
    refine Tot.neg (by omega) ?_
    refine Tot.bind (odd_tot hb p n hp (by omega) (by omega)) ?_
    rintro ⟨v, q⟩ ⟨h1, h2, _⟩
    simp only at h1 h2
    have hrow : (rd_L1 t 0).length ≤ 6 := by
      have e' : rd_L1 t 0 = t[0]'(by omega) := rdL_at (xs := t) (i := 0) (by omega)
      rw [e']; exact hr _ (List.getElem_mem _)
    refine Tot.ite (fun _ => ?_) (fun _ => Tot.ret ⟨⟨by simp only; omega, by simp only; omega, fun r hr' => by have := hr r hr'; omega⟩, by simp only; omega, by simp only; omega⟩)
    simp only [Option.bind_some]
    refine Tot.pos (by omega) (Tot.pos (by omega) (Tot.pos (by rw [List.length_set]; omega) (Tot.ret ⟨?_, by simp only; omega, by simp only; omega⟩)))
    exact tableEnd_ok (by omega) (by omega) hr
  | succ d ih =>
    intro t p hp hp' hl h0 hr
    refine Tot.up ?_
    simp only [spec_l20Table.l0]
    refine Tot.pos (by omega) ?_
    refine tableInner hb n w hw d (by omega) _ t (by omega) (p + 10) (fun row q hrow hq hq' => ?_) 6 [] 0 p (by omega) rfl (.inr rfl) hp (by omega) (by omega)
    refine ih (t ++ [row]) q hq (by omega) (by rw [List.length_append, List.length_singleton]; omega) (by rw [List.length_append, List.length_singleton]; omega) (fun r hr' => ?_)
    rcases List.mem_append.1 hr' with z | z
    · exact hr r z
    · rw [List.mem_singleton.1 z]; exact hrow
theorem table_tot {b : List Int} (hb : Src b) (p n : Int) (hp : 0 ≤ p) (hp' : p ≤ 80000) (hn : n ≤ 1000) : Tot (fun k => spec_l20Table.f k b p n) (fun r => Drawn r.1 ∧ 0 ≤ r.2 ∧ r.2 ≤ 90100) := by
  unfold spec_l20Table.f
  refine Tot.bind (pick_tot hb p 6 hp (by omega)) ?_
  rintro ⟨v, q⟩ ⟨h1, _, g1⟩
  simp only at h1 g1
  refine Tot.bind (pick_tot hb q 6 (by omega) (by omega)) ?_
  rintro ⟨v2, q2⟩ ⟨h2, _, g2⟩
  simp only at h2 g2 ⊢
  have f1 := g1 (by omega)
  have f2 := g2 (by omega)
  simp only [w64 (x := 1 + v) (by omega) (by omega), w64 (x := 1 + v2) (by omega) (by omega)]
  obtain ⟨e, he⟩ := Int.eq_ofNat_of_zero_le (show 0 ≤ 1 + v2 by omega)
  rw [he]
  exact tableOuter hb n (1 + v) hn (by omega) e [] q2 (by omega) (by omega) (by simp; omega) (by simp; omega) (fun r hr => by simp at hr)
/-- A drawn rectangle's numbers. -/
def Near (x : Int) : Prop := -1001 ≤ x ∧ x ≤ 1001
theorem free_tot {b : List Int} (hb : Src b) (p : Int) (hp : 0 ≤ p) (hp' : p ≤ 80000) : Tot (fun k => spec_l20Free.f k b p) (fun r => Drawn r.1 ∧ (Near r.2.1 ∧ Near r.2.2.1 ∧ Near r.2.2.2.1 ∧ Near r.2.2.2.2.1) ∧ 0 ≤ r.2.2.2.2.2 ∧ r.2.2.2.2.2 ≤ 90200) := by
  unfold spec_l20Free.f
  refine Tot.bind (table_tot hb p 20 hp hp' (by omega)) ?_
  rintro ⟨t, q0⟩ ⟨ht, h0, h0'⟩
  simp only at ht h0 h0'
  refine Tot.bind (box_tot hb q0 20 (by omega) (by omega) (by omega)) ?_
  rintro ⟨x, y, w, h, q1⟩ ⟨hs, h1, h1'⟩
  simp only at hs h1 h1'
  unfold DrawnBox at hs
  refine Tot.pos (by have := ht.1; simp only; omega) ?_
  refine Tot.bind (pick_tot hb q1 _ (by omega) (by omega)) ?_
  rintro ⟨v2, q2⟩ ⟨h2, g2', g2⟩
  simp only at h2 g2 g2'
  refine Tot.bind (pick_tot hb q2 _ (by omega) (by omega)) ?_
  rintro ⟨v3, q3⟩ ⟨h3, _, g3⟩
  simp only at h3 g3
  have f3 := g3 (by have := ht.1; omega)
  refine Tot.bind (pick_tot hb q3 4 (by omega) (by omega)) ?_
  rintro ⟨v4, q4⟩ ⟨h4, _, _⟩
  simp only at h4 ⊢
  have hl7 := ht.2.1
  have hr0 : (rd_L1 t 0).length ≤ 7 := by
    have e' : rd_L1 t 0 = t[0]'ht.1 := rdL_at (xs := t) (i := 0) ht.1
    rw [e']; exact ht.2.2 _ (List.getElem_mem _)
  have f2 : 0 ≤ v2 ∧ v2 ≤ 7 := by
    by_cases z : ((rd_L1 t 0).length : Int) < 1
    · have := g2' z; omega
    · have := g2 (by omega); omega
  have tail : ∀ t', Drawn t' → Tot (fun k => spec_l20Free.j0 k t' v2 v3 b q4) (fun r => Drawn r.1 ∧ (Near r.2.1 ∧ Near r.2.2.1 ∧ Near r.2.2.2.1 ∧ Near r.2.2.2.2.1) ∧ 0 ≤ r.2.2.2.2.2 ∧ r.2.2.2.2.2 ≤ 90200) := by
    intro t' ht'
    refine Tot.up ?_
    simp only [spec_l20Free.j0]
    refine Tot.bind (pick_tot hb q4 3 (by omega) (by omega)) ?_
    rintro ⟨v5, q5⟩ ⟨h5, _, g5⟩
    simp only at h5 g5
    refine Tot.bind (pick_tot hb q5 3 (by omega) (by omega)) ?_
    rintro ⟨v6, q6⟩ ⟨h6, _, g6⟩
    simp only at h6 g6
    refine Tot.bind (pick_tot hb q6 6 (by omega) (by omega)) ?_
    rintro ⟨v7, q7⟩ ⟨h7, _, g7⟩
    simp only at h7 g7
    refine Tot.bind (pick_tot hb q7 6 (by omega) (by omega)) ?_
    rintro ⟨v8, q8⟩ ⟨h8, _, g8⟩
    simp only at h8 g8
    have f5 := g5 (by omega)
    have f6 := g6 (by omega)
    have f7 := g7 (by omega)
    have f8 := g8 (by omega)
    simp only [w64 (x := 8 * v2) (by omega) (by omega), w64 (x := 8 * v3) (by omega) (by omega), w64 (x := 8 * v2 + v5) (by omega) (by omega), w64 (x := 8 * v3 + v6) (by omega) (by omega), w64 (x := 1 + v7) (by omega) (by omega), w64 (x := 1 + v8) (by omega) (by omega)]
    refine Tot.ret ⟨ht', ?_, by simp only; omega, by simp only; omega⟩
    unfold Near
    simp only
    omega
  have ev3 : v3.toNat < t.length := by omega
  have erow : rd_L1 t v3 = t[v3.toNat] := by
    have := rdL_at (xs := t) ev3
    rwa [show ((v3.toNat : Nat) : Int) = v3 by omega] at this
  refine Tot.ite (fun _ => Tot.pos (by omega) (Tot.pos (by omega) (Tot.ite (fun hlt => Tot.pos (by omega) (tail _ ?_)) (fun _ => tail t ht)))) (fun _ => Tot.ret ⟨ht, by unfold Near; simp only; omega, by simp only; omega, by simp only; omega⟩)
  refine ⟨by rw [List.length_set]; exact ht.1, by rw [List.length_set]; omega, fun r hr => ?_⟩
  rcases List.mem_or_eq_of_mem_set hr with z | z
  · exact ht.2.2 r z
  · rw [z, List.length_set, erow]
    exact ht.2.2 _ (List.getElem_mem _)
theorem free_of {t : List (List Bool)} {x y w h : Int} {r : Bool} (hr : r = true ↔ ¬ (BV x y w h ∧ WV t) ∨ Bl t x y w h) (h1 : ¬ r = true) : (BV x y w h ∧ WV t) ∧ ¬ Bl t x y w h := by
  have hr' : ¬ (¬ (BV x y w h ∧ WV t) ∨ Bl t x y w h) := fun z => h1 (hr.2 z)
  exact ⟨Classical.not_not.1 (fun z => hr' (.inl z)), fun z => hr' (.inr z)⟩
/-- Valid, free, and blocked one pixel farther down. -/
def Stands (t : List (List Bool)) (x y w h : Int) : Prop := (BV x y w h ∧ WV t) ∧ ¬ Bl t x y w h ∧ Bl t x (y + 1) w h
theorem implStands_tot (t : List (List Bool)) (hm : t.length ≤ 1048576) (x y w h : Int) : Tot (fun k => impl_StandsOn.f k t x y w h) (fun r => r = true ↔ Stands t x y w h) := by
  unfold impl_StandsOn.f
  refine Tot.bind (implBoxBlocked_tot t hm x y w h) fun r hr => ?_
  refine Tot.ite (fun h1 => Tot.ret ⟨fun z => (by cases z), fun z => ?_⟩) (fun h1 => ?_)
  · rcases hr.1 h1 with q | q
    · exact absurd z.1 q
    · exact absurd q z.2.1
  · obtain ⟨hbv, hnb⟩ := free_of hr h1
    have hb' := hbv.1
    unfold BV at hb'
    have hin := inside hbv.2 hnb (by omega) (by omega)
    rw [w64 (x := y + 1) (by omega) (by omega)]
    refine Tot.bind (implBoxBlocked_tot t hm x (y + 1) w h) fun r' hr' => Tot.ret ?_
    rw [hr']
    exact ⟨fun z => ⟨hbv, hnb, z.resolve_left (fun q => q ⟨by unfold BV; omega, hbv.2⟩)⟩, fun z => .inr z.2.2⟩
theorem drawStands_tot (l : List Int) (hw : ∀ x ∈ l, (Lit.int .u8 x).wf = true) : Tot (fun k => spec_DrawStandsOn.f k l) (fun r => Drawn r.1) := by
  unfold spec_DrawStandsOn.f
  refine Tot.bind (open_tot l hw) ?_
  rintro ⟨b, p⟩ ⟨hb, hp⟩
  simp only at hb hp
  refine Tot.bind (free_tot hb p (by omega) (by omega)) ?_
  rintro ⟨t, x, y, w, h, q⟩ ⟨ht, _, h0, h1⟩
  simp only at h0 h1 ht
  refine Tot.bind (pick_tot hb q 2 h0 (by omega)) ?_
  rintro ⟨v, q'⟩ _
  refine Tot.ite (fun _ => ?_) (fun _ => Tot.ret ht)
  refine Tot.bind (specMove_tot t (by have := ht.2.1; omega) x y w h 0 40) ?_
  rintro r _
  exact Tot.ret ht
theorem FnBoxFalls (l0 : List Int) (_ : l0.length ≤ 9223372036854775807) (hw : ∀ y ∈ l0, (Lit.int .u8 y).wf = true) : ∃ k, laws_FnBoxFalls.f k l0 = some true := by
  refine Tot.ex ?_
  unfold laws_FnBoxFalls.f
  refine Tot.ite (fun _ => Tot.ret rfl) (fun _ => ?_)
  refine Tot.bind (drawStands_tot l0 hw) ?_
  rintro ⟨t, x, y, w, h⟩ ht
  have hm : t.length ≤ 1048576 := by have := ht.2.1; simp only at this; omega
  refine Tot.bind (implBoxBlocked_tot t hm x y w h) fun r hr => ?_
  simp only [alive_eq, Option.bind_some]
  refine Tot.ite (fun h1 => ?_) (fun h1 => ?_)
  · refine Tot.bind (implMove_tot t hm x y w h 0 5) ?_
    rintro r' rfl
    have em : moveOf t x y w h 0 5 = (0, 0, 0, 0) := by
      unfold moveOf
      refine if_neg (fun z => ?_)
      rcases hr.1 h1 with q | q
      · exact q z.1
      · exact z.2.1 q
    rw [em]
    exact Tot.pos (by simp) (Tot.ret rfl)
  obtain ⟨hbv, hnb⟩ := free_of hr h1
  have hb' := hbv.1
  unfold BV at hb'
  have e1 : moveOf t x y w h 0 64 = ((slide t w h 0 1 64 (x, y)).1, (slide t w h 0 1 64 (x, y)).2, w, h) := by
    unfold moveOf moved
    rw [if_pos ⟨hbv, hnb, by omega, by omega⟩]
    rfl
  have hnb1 := slide_free (sx := 0) (sy := 1) (n := 64) (p := (x, y)) hnb
  obtain ⟨m1, hm1, q1, q2, q3⟩ := slide_tells t w h 0 1 64 (x, y)
  have hin := inside hbv.2 hnb (by omega) (by omega)
  have hx1 : (slide t w h 0 1 64 (x, y)).1 = x := by rw [q1]; simp
  have hy1 : (slide t w h 0 1 64 (x, y)).2 = y + m1 := by rw [q1]; simp
  have hbv1 : BV (slide t w h 0 1 64 (x, y)).1 (slide t w h 0 1 64 (x, y)).2 w h := by rw [hx1, hy1]; unfold BV; omega
  have e2 : moveOf t (slide t w h 0 1 64 (x, y)).1 (slide t w h 0 1 64 (x, y)).2 w h 0 64 = ((slide t w h 0 1 128 (x, y)).1, (slide t w h 0 1 128 (x, y)).2, w, h) := by
    unfold moveOf moved
    rw [if_pos ⟨⟨hbv1, hbv.2⟩, hnb1, by omega, by omega⟩]
    show ((slide t w h 0 1 64 (slide t w h 0 1 64 (x, y))).1, (slide t w h 0 1 64 (slide t w h 0 1 64 (x, y))).2, w, h) = _
    rw [slide_add]
  obtain ⟨m, hm2, p1, p2, p3⟩ := slide_tells t w h 0 1 128 (x, y)
  have hnb2 := slide_free (sx := 0) (sy := 1) (n := 128) (p := (x, y)) hnb
  have hx2 : (slide t w h 0 1 128 (x, y)).1 = x := by rw [p1]; simp
  have hy2 : (slide t w h 0 1 128 (x, y)).2 = y + m := by rw [p1]; simp
  rw [hx2, hy2] at e2 hnb2
  have hin2 := inside hbv.2 hnb2 (by omega) (by omega)
  have hst : Stands t x (y + m) w h := by
    refine ⟨⟨by unfold BV; omega, hbv.2⟩, hnb2, ?_⟩
    rcases p3 with p3 | p3
    · omega
    · have : y + ((m + 1 : Nat) : Int) * 1 = y + m + 1 := by omega
      simp only [Int.mul_zero, Int.add_zero] at p3
      rwa [this] at p3
  refine Tot.bind (implMove_tot t hm x y w h 0 64) ?_
  rintro r1 rfl
  rw [e1]
  refine Tot.bind (implMove_tot t hm _ _ w h 0 64) ?_
  rintro r2 rfl
  rw [e2]
  refine Tot.bind (implStands_tot t hm x (y + m) w h) fun r3 e3 => ?_
  refine Tot.pos (e3.2 hst) (Tot.pos rfl ?_)
  refine Tot.bind (specMove_tot t hm x y w h 0 64) ?_
  rintro r4 rfl
  rw [e1]
  refine Tot.bind (specMove_tot t hm _ _ w h 0 64) ?_
  rintro r5 rfl
  rw [e2]
  exact Tot.ret (by simp)
end Go.Proofs.Ytnboeejakonkpaa.Pure
