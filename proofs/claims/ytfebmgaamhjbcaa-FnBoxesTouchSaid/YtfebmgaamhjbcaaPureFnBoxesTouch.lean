/- Touching is symmetric, a valid rectangle touches itself, neighbours do not touch, and moving both changes nothing. No condition. -/
import Derived.Test.YtfebmgaamhjbcaaPFnBoxesTouchx3
import Derived.DataShut
namespace Go.Proofs.Ytfebmgaamhjbcaa.Pure
open Go.RowKit Go.Proofs.Ytfebmgaamhjbcaa.PFnBoxesTouch Go.Proofs.YtfebmgaamhjbcaaW.PrintWords Go.Proofs.YtfebmgaamhjbcaaW.PrintLast
theorem i64_of {n : Int} (h : (Lit.int .i64 n).wf = true) : -9223372036854775808 ≤ n ∧ n ≤ 9223372036854775807 := (Lit.wf_int_iff .i64 n).1 h
theorem u8_of {n : Int} (h : (Lit.int .u8 n).wf = true) : 0 ≤ n ∧ n ≤ 255 := (Lit.wf_int_iff .u8 n).1 h
theorem w64 {x : Int} (h0 : -9223372036854775808 ≤ x) (h1 : x ≤ 9223372036854775807) : wrap64 x = x := by unfold wrap64; omega
theorem some_dec {p q : Prop} [Decidable p] [Decidable q] (h : p ↔ q) : some (decide p) = some (decide q) := by simp only [h]
theorem some_ff {p : Prop} [Decidable p] (h : ¬ p) : some false = some (decide p) := by rw [decide_eq_false h]
theorem some_tt {p : Prop} [Decidable p] (h : p) : some true = some (decide p) := by rw [decide_eq_true h]
theorem tmod_nn {a b : Int} (h : 0 ≤ a) : Int.tmod a b = a % b := Int.tmod_eq_emod_of_nonneg h
theorem tdiv_nn {a b : Int} (h : 0 ≤ a) : Int.tdiv a b = a / b := Int.tdiv_eq_ediv_of_nonneg h
/-- With enough rounds it answers, and Q holds of the answer. -/
def Tot {α : Type} (g : Nat → Option α) (Q : α → Prop) : Prop := ∃ r, Q r ∧ ∃ K, ∀ k, K ≤ k → g k = some r
section
variable {α β : Type} {g h : Nat → Option α} {f : Nat → α → Option β} {Q : α → Prop} {R : β → Prop} {c : Prop} [Decidable c]
theorem Tot.ret {r : α} (h : Q r) : Tot (fun _ => some r) Q := ⟨r, h, 0, fun _ _ => rfl⟩
theorem Tot.of {r : α} (e : ∀ k, 0 < k → g k = some r) (h : Q r) : Tot g Q := ⟨r, h, 1, fun k hk => e k hk⟩
theorem Tot.bind (hg : Tot g Q) (hf : ∀ a, Q a → Tot (fun k => f k a) R) : Tot (fun k => (g k).bind (f k)) R := by
  obtain ⟨a, ha, K, hK⟩ := hg
  obtain ⟨b, hb, L, hL⟩ := hf a ha
  refine ⟨b, hb, K + L, fun k hk => ?_⟩
  show (g k).bind (f k) = some b
  rw [hK k (by omega)]
  exact hL k (by omega)
theorem Tot.ite (hg : c → Tot g Q) (hh : ¬ c → Tot h Q) : Tot (fun k => if c then g k else h k) Q := by
  by_cases hc : c
  · simp only [if_pos hc]; exact hg hc
  · simp only [if_neg hc]; exact hh hc
theorem Tot.pos (hc : c) (hg : Tot g Q) : Tot (fun k => if c then g k else h k) Q := by simp only [if_pos hc]; exact hg
theorem Tot.neg (hc : ¬ c) (hh : Tot h Q) : Tot (fun k => if c then g k else h k) Q := by simp only [if_neg hc]; exact hh
theorem Tot.up (h : Tot (fun k => g (k + 1)) Q) : Tot g Q := by
  obtain ⟨r, hr, K, hK⟩ := h
  refine ⟨r, hr, K + 1, fun k hk => ?_⟩
  obtain ⟨m, rfl⟩ : ∃ m, k = m + 1 := ⟨k - 1, by omega⟩
  exact hK m (by omega)
theorem Tot.mono {Q' : α → Prop} (h : Tot g Q) (hq : ∀ a, Q a → Q' a) : Tot g Q' := by
  obtain ⟨r, hr, K⟩ := h
  exact ⟨r, hq r hr, K⟩
theorem Tot.ex {g : Nat → Option Bool} (h : Tot g (· = true)) : ∃ k, g k = some true := by
  obtain ⟨r, rfl, K, hK⟩ := h
  exact ⟨K, hK K (Nat.le_refl _)⟩
/-- Two runs of the same answer alike. -/
theorem Tot.same (h : Tot g Q) : ∃ r, Q r ∧ Tot g (· = r) := by
  obtain ⟨r, hr, K⟩ := h
  exact ⟨r, hr, r, rfl, K⟩
end
theorem l1In_eq (a b c : Int) : spec_l1In.f a b c = some (decide (b ≤ a ∧ a ≤ c)) := by
  unfold spec_l1In.f
  split
  · exact some_dec (by omega)
  · exact some_ff (by omega)
theorem within_eq (a b c : Int) : impl_within.f a b c = some (decide (b ≤ a ∧ a ≤ c)) := by
  unfold impl_within.f
  split
  · exact some_dec (by omega)
  · exact some_ff (by omega)
theorem alive_eq : laws_alive.f = some true := by decide +kernel
theorem rd_byte {b : List Int} (hb : ∀ x ∈ b, (Lit.int .u8 x).wf = true) (i : Int) : 0 ≤ rd b i ∧ rd b i ≤ 255 := by
  unfold rd
  rw [List.getD_eq_getElem?_getD]
  rcases Nat.lt_or_ge i.toNat b.length with h | h
  · rw [List.getElem?_eq_getElem h]
    exact u8_of (hb _ (List.getElem_mem h))
  · rw [List.getElem?_eq_none h]
    simp
theorem xor_nn {a b : Int} (ha : 0 ≤ a) (ha' : a < 4611686018427387904) (hb : 0 ≤ b) (hb' : b < 4611686018427387904) : 0 ≤ Go.bits .xor .i64 a b := by
  obtain ⟨m, rfl⟩ := Int.eq_ofNat_of_zero_le ha
  obtain ⟨n, rfl⟩ := Int.eq_ofNat_of_zero_le hb
  have hm : m < 2 ^ 62 := by omega
  have hn : n < 2 ^ 62 := by omega
  have hx : m ^^^ n < 2 ^ 62 := Nat.xor_lt_two_pow hm hn
  have e : Go.bits .xor .i64 (m : Int) (n : Int) = ((m ^^^ n : Nat) : Int) := by
    show IntKind.wrap .i64 ((BitVec.ofInt 64 (m : Int) ^^^ BitVec.ofInt 64 (n : Int)).toNat : Int) = _
    rw [BitVec.ofInt_natCast, BitVec.ofInt_natCast, BitVec.toNat_xor, BitVec.toNat_ofNat, BitVec.toNat_ofNat, Nat.mod_eq_of_lt (show m < 2 ^ 64 by omega), Nat.mod_eq_of_lt (show n < 2 ^ 64 by omega), IntKind.wrap_i64]
    omega
  rw [e]
  exact Int.natCast_nonneg _
/-- The bytes that draws are made of. -/
def Src (b : List Int) : Prop := (∀ x ∈ b, (Lit.int .u8 x).wf = true) ∧ b.length ≤ 2000
theorem open_tot (l : List Int) (hw : ∀ x ∈ l, (Lit.int .u8 x).wf = true) : Tot (fun _ => spec_l20Open.f l) (fun r => Src r.1 ∧ r.2 = 0) := by
  unfold spec_l20Open.f
  refine Tot.ite (fun h => ?_) (fun h => ?_)
  · refine Tot.pos (by omega) (Tot.ret ⟨⟨fun x hx => hw x (List.mem_of_mem_take hx), ?_⟩, rfl⟩)
    rw [List.length_take]; omega
  · exact Tot.ret ⟨⟨hw, by simp only; omega⟩, rfl⟩
theorem pick_tot {b : List Int} (hb : Src b) (p n : Int) (hp : 0 ≤ p) (hp' : p ≤ 1000000000) :
    Tot (fun k => spec_l20Rd_pick.f k b p n) (fun r => r.2 = p + 1 ∧ (n < 1 → r.1 = 0) ∧ (1 ≤ n → 0 ≤ r.1 ∧ r.1 < n)) := by
  have hw : wrap64 (p + 1) = p + 1 := w64 (by omega) (by omega)
  have hw1 : wrap64 (p + 1 - 1) = p := by rw [w64] <;> omega
  unfold spec_l20Rd_pick.f
  simp only [hw]
  refine Tot.ite (fun h1 => ?_) (fun h1 => ?_)
  · refine Tot.up ?_
    simp only [spec_l20Rd_pick.j0]
    exact Tot.pos (by simp) (Tot.ret ⟨rfl, fun _ => rfl, fun h => by omega⟩)
  · refine Tot.up ?_
    simp only [spec_l20Rd_pick.j0, hw1]
    refine Tot.ite (fun h2 => Tot.ret ⟨rfl, fun _ => rfl, fun h => ⟨Int.le_refl _, by omega⟩⟩) (fun h2 => ?_)
    have hl : 0 < (b.length : Int) := by
      have : ¬ ((b.length : Int) = 0) := fun h => h2 (by simp [h])
      omega
    have hl2 : (b.length : Int) ≤ 2000 := by have := hb.2; omega
    refine Tot.ite (fun h3 => ?_) (fun h3 => ?_)
    · have hr := rd_byte hb.1 p
      refine Tot.pos hp (Tot.neg (by omega) (Tot.ret ⟨rfl, fun h => absurd h h1, fun h => ?_⟩))
      rw [w64 (x := rd b p) (by omega) (by omega), tmod_nn hr.1]
      exact ⟨Int.emod_nonneg _ (by omega), Int.emod_lt_of_pos _ (by omega)⟩
    · have e7 : wrap64 (p * 7) = p * 7 := w64 (by omega) (by omega)
      have e73 : wrap64 (p * 7 + 3) = p * 7 + 3 := w64 (by omega) (by omega)
      simp only [e7, e73, tmod_nn hp, tmod_nn (show 0 ≤ p * 7 + 3 by omega), tdiv_nn hp]
      have r1 := rd_byte hb.1 (p % (b.length : Int))
      have r2 := rd_byte hb.1 ((p * 7 + 3) % (b.length : Int))
      have m1 := Int.emod_nonneg p (show (b.length : Int) ≠ 0 by omega)
      have m2 := Int.emod_lt_of_pos p hl
      have m3 := Int.emod_nonneg (p * 7 + 3) (show (b.length : Int) ≠ 0 by omega)
      have m4 := Int.emod_lt_of_pos (p * 7 + 3) hl
      have d1 : 0 ≤ p / (b.length : Int) := Int.ediv_nonneg hp (by omega)
      have d2 : p / (b.length : Int) ≤ p := Int.ediv_le_self _ hp
      refine Tot.neg (by omega) (Tot.pos m1 (Tot.pos m2 (Tot.pos m3 (Tot.pos m4 (Tot.neg (by omega) (Tot.ret ⟨rfl, fun h => absurd h h1, fun _ => ?_⟩))))))
      generalize rd b (p % (b.length : Int)) = x1 at *
      generalize rd b ((p * 7 + 3) % (b.length : Int)) = x2 at *
      generalize p / (b.length : Int) = q at *
      rw [w64 (x := x1) (by omega) (by omega), w64 (x := x2) (by omega) (by omega), w64 (x := q) (by omega) (by omega), w64 (x := x1 * 131) (by omega) (by omega), w64 (x := x2 * 1117) (by omega) (by omega), w64 (x := p * 29) (by omega) (by omega), w64 (x := q * 53) (by omega) (by omega),
        w64 (x := x1 * 131 + x2 * 1117) (by omega) (by omega), w64 (x := x1 * 131 + x2 * 1117 + p * 29) (by omega) (by omega), w64 (x := x1 * 131 + x2 * 1117 + p * 29 + q * 53) (by omega) (by omega)]
      have hs : 0 ≤ x1 * 131 + x2 * 1117 + p * 29 + q * 53 := by omega
      have hs2 : x1 * 131 + x2 * 1117 + p * 29 + q * 53 < 4611686018427387904 := by omega
      generalize x1 * 131 + x2 * 1117 + p * 29 + q * 53 = s at *
      rw [tdiv_nn hs, w64 (x := s / 64) (by omega) (by omega)]
      have hx := xor_nn hs hs2 (show 0 ≤ s / 64 by omega) (by omega)
      rw [tmod_nn hx]
      exact ⟨Int.emod_nonneg _ (by omega), Int.emod_lt_of_pos _ (by omega)⟩
theorem odd_tot {b : List Int} (hb : Src b) (p n : Int) (hp : 0 ≤ p) (hp' : p ≤ 1000000000) (hn : n ≤ 1000000000) :
    Tot (fun k => spec_l20Rd_odd.f k b p n) (fun r => p ≤ r.2 ∧ r.2 ≤ p + 1 ∧ (n < 1 → r.1 = false)) := by
  unfold spec_l20Rd_odd.f
  refine Tot.ite (fun h => ?_) (fun h => Tot.ret ⟨Int.le_refl _, by omega, fun _ => rfl⟩)
  refine Tot.bind (pick_tot hb p n hp hp') ?_
  rintro ⟨v, q⟩ ⟨hq, _, _⟩
  simp only at hq
  exact Tot.ret ⟨by simp only; omega, by simp only; omega, fun h' => by omega⟩
def BV (a b c d : Int) : Prop := (-1000 ≤ a ∧ a ≤ 1000) ∧ (-1000 ≤ b ∧ b ≤ 1000) ∧ (1 ≤ c ∧ c ≤ 40) ∧ (1 ≤ d ∧ d ≤ 40)
instance (a b c d : Int) : Decidable (BV a b c d) := by unfold BV; infer_instance
theorem specBoxValid_eq (a b c d : Int) : spec_BoxValid.f a b c d = some (decide (BV a b c d)) := by
  unfold spec_BoxValid.f
  simp only [l1In_eq, Option.bind_some, decide_eq_true_eq]
  repeat' split
  all_goals first | exact some_dec (by unfold BV; omega) | exact some_ff (by unfold BV; omega)
theorem implBoxValid_eq (a b c d : Int) : impl_BoxValid.f a b c d = some (decide (BV a b c d)) := by
  unfold impl_BoxValid.f
  simp only [within_eq, Option.bind_some, decide_eq_true_eq]
  repeat' split
  all_goals first | exact some_dec (by unfold BV; omega) | exact some_ff (by unfold BV; omega)
def BT (a b c d a' b' c' d' : Int) : Prop := BV a b c d ∧ BV a' b' c' d' ∧ a < a' + c' ∧ a' < a + c ∧ b < b' + d' ∧ b' < b + d
instance (a b c d a' b' c' d' : Int) : Decidable (BT a b c d a' b' c' d') := by unfold BT; infer_instance
theorem bv_w {a b c d : Int} (h : BV a b c d) : wrap64 (a + c) = a + c ∧ wrap64 (b + d) = b + d := by
  unfold BV at h
  exact ⟨w64 (by omega) (by omega), w64 (by omega) (by omega)⟩
theorem specTouch_eq (a b c d a' b' c' d' : Int) : spec_BoxesTouch.f a b c d a' b' c' d' = some (decide (BT a b c d a' b' c' d')) := by
  unfold spec_BoxesTouch.f
  simp only [specBoxValid_eq, Option.bind_some, decide_eq_true_eq]
  split
  · rename_i h
    split
    · rename_i h'
      rw [(bv_w h).1, (bv_w h).2, (bv_w h').1, (bv_w h').2]
      repeat' split
      all_goals first | exact some_dec (by unfold BT; simp only [h, h', true_and]; omega) | exact some_ff (by unfold BT; omega)
    · rename_i h'
      exact some_ff (by unfold BT; exact fun z => h' z.2.1)
  · rename_i h
    exact some_ff (by unfold BT; exact fun z => h z.1)
theorem implTouch_eq (a b c d a' b' c' d' : Int) : impl_BoxesTouch.f a b c d a' b' c' d' = some (decide (BT a b c d a' b' c' d')) := by
  unfold impl_BoxesTouch.f
  simp only [implBoxValid_eq, Option.bind_some, decide_eq_true_eq]
  split
  · rename_i h
    split
    · rename_i h'
      rw [(bv_w h).1, (bv_w h).2, (bv_w h').1, (bv_w h').2]
      repeat' split
      all_goals first | exact some_dec (by unfold BT; simp only [h, h', true_and]; omega) | exact some_ff (by unfold BT; omega)
    · rename_i h'
      exact some_ff (by unfold BT; exact fun z => h' z.2.1)
  · rename_i h
    exact some_ff (by unfold BT; exact fun z => h z.1)
/-- A drawn rectangle: its numbers are small. -/
def DrawnBox (x y w h : Int) : Prop := (x = -1001 ∨ x = 1001 ∨ 0 ≤ x ∧ x ≤ 39) ∧ (0 ≤ y ∧ y ≤ 39) ∧ (0 ≤ w ∧ w ≤ 41) ∧ 0 ≤ h ∧ h ≤ 12
theorem rd2 (x y i : Int) (h0 : 0 ≤ i) (h2 : i < 2) : rd [x, y] i = x ∨ rd [x, y] i = y := by
  have : i = 0 ∨ i = 1 := by omega
  rcases this with rfl | rfl
  · exact .inl rfl
  · exact .inr rfl
theorem box_tot {b : List Int} (hb : Src b) (p n : Int) (hp : 0 ≤ p) (hp' : p ≤ 900000000) (hn : n ≤ 1000) :
    Tot (fun k => spec_l20Box.f k b p n) (fun r => DrawnBox r.1 r.2.1 r.2.2.1 r.2.2.2.1 ∧ p ≤ r.2.2.2.2 ∧ r.2.2.2.2 ≤ p + 10) := by
  unfold spec_l20Box.f DrawnBox
  refine Tot.bind (pick_tot hb p 40 hp (by omega)) ?_
  rintro ⟨v1, q1⟩ ⟨h1, _, g1⟩
  refine Tot.bind (pick_tot hb _ 40 (by simp only at h1 ⊢; omega) (by simp only at h1 ⊢; omega)) ?_
  rintro ⟨v2, q2⟩ ⟨h2, _, g2⟩
  refine Tot.bind (pick_tot hb _ 12 (by simp only at h1 h2 ⊢; omega) (by simp only at h1 h2 ⊢; omega)) ?_
  rintro ⟨v3, q3⟩ ⟨h3, _, g3⟩
  refine Tot.bind (pick_tot hb _ 12 (by simp only at h1 h2 h3 ⊢; omega) (by simp only at h1 h2 h3 ⊢; omega)) ?_
  rintro ⟨v4, q4⟩ ⟨h4, _, g4⟩
  simp only at h1 h2 h3 h4 g1 g2 g3 g4
  refine Tot.bind (odd_tot hb _ n (by simp only; omega) (by simp only; omega) (by omega)) ?_
  rintro ⟨v5, q5⟩ ⟨h5, h5', _⟩
  simp only at h5 h5'
  have w3 : wrap64 (1 + v3) = 1 + v3 := w64 (by omega) (by omega)
  have w4 : wrap64 (1 + v4) = 1 + v4 := w64 (by omega) (by omega)
  simp only [w3, w4]
  refine Tot.ite (fun _ => ?_) (fun _ => Tot.ret (by (try simp only); omega))
  refine Tot.bind (pick_tot hb _ 3 (by omega) (by omega)) ?_
  rintro ⟨v6, q6⟩ ⟨h6, _, g6⟩
  simp only at h6 g6
  refine Tot.ite (fun _ => ?_) (fun _ => ?_)
  · simp only [Option.bind_some]
    refine Tot.bind (pick_tot hb _ 2 (by omega) (by omega)) ?_
    rintro ⟨v7, q7⟩ ⟨h7, _, g7⟩
    simp only at h7 g7
    refine Tot.pos (by omega) (Tot.pos (by simp; omega) (Tot.ret ⟨?_, by (try simp only); omega⟩))
    rcases rd2 (-1001) 1001 v7 (by omega) (by omega) with e | e
    · exact ⟨.inl e, by (try simp only); omega, by (try simp only); omega, by (try simp only); omega⟩
    · exact ⟨.inr (.inl e), by (try simp only); omega, by (try simp only); omega, by (try simp only); omega⟩
  · refine Tot.ite (fun _ => ?_) (fun _ => Tot.ret (by (try simp only); omega))
    simp only [Option.bind_some]
    refine Tot.bind (pick_tot hb _ 2 (by omega) (by omega)) ?_
    rintro ⟨v7, q7⟩ ⟨h7, _, g7⟩
    simp only at h7 g7
    refine Tot.pos (by omega) (Tot.pos (by simp; omega) (Tot.ret ⟨?_, by (try simp only); omega⟩))
    have e := rd2 0 41 v7 (by omega) (by omega)
    exact ⟨by (try simp only); omega, by (try simp only); omega, by (try simp only); omega, by (try simp only); omega⟩
theorem FnBoxesTouch (l0 : List Int) (_ : l0.length ≤ 9223372036854775807) (hw : ∀ y ∈ l0, (Lit.int .u8 y).wf = true) : ∃ k, laws_FnBoxesTouch.f k l0 = some true := by
  refine Tot.ex ?_
  unfold laws_FnBoxesTouch.f spec_DrawBoxesTouch.f
  refine Tot.ite (fun _ => Tot.ret rfl) (fun _ => ?_)
  refine Tot.bind (Q := fun r => DrawnBox r.1 r.2.1 r.2.2.1 r.2.2.2.1 ∧ ((r.2.2.2.2.1 = -1001 ∨ r.2.2.2.2.1 = 1001 ∨ 0 ≤ r.2.2.2.2.1 ∧ r.2.2.2.2.1 ≤ 39) ∨ r.1 + r.2.2.1 - 1 ≤ r.2.2.2.2.1 ∧ r.2.2.2.2.1 ≤ r.1 + r.2.2.1) ∧ (0 ≤ r.2.2.2.2.2.1 ∧ r.2.2.2.2.2.1 ≤ 39) ∧ (0 ≤ r.2.2.2.2.2.2.1 ∧ r.2.2.2.2.2.2.1 ≤ 41) ∧ 0 ≤ r.2.2.2.2.2.2.2 ∧ r.2.2.2.2.2.2.2 ≤ 12) ?_ ?_
  · refine Tot.bind (open_tot l0 hw) ?_
    rintro ⟨b, p⟩ ⟨hb, hp⟩
    simp only at hb hp
    refine Tot.bind (box_tot hb p 14 (by omega) (by omega) (by omega)) ?_
    rintro ⟨x, y, w, h, q⟩ ⟨hs, h1, h2⟩
    simp only at h1 h2 hs
    refine Tot.bind (box_tot hb q 14 (by omega) (by omega) (by omega)) ?_
    rintro ⟨x', y', w', h', q'⟩ ⟨hs', h1', h2'⟩
    simp only at h1' h2' hs'
    refine Tot.bind (odd_tot hb q' 4 (by omega) (by omega) (by omega)) ?_
    rintro ⟨v5, q5⟩ ⟨h5, h5', _⟩
    simp only at h5 h5'
    have hs0 := hs
    unfold DrawnBox at hs hs'
    refine Tot.ite (fun _ => ?_) (fun _ => Tot.ret ⟨hs0, .inl hs'.1, hs'.2⟩)
    refine Tot.bind (pick_tot hb q5 2 (by omega) (by omega)) ?_
    rintro ⟨v6, q6⟩ ⟨h6, _, g6⟩
    simp only at h6 g6
    refine Tot.ret ⟨hs0, .inr ?_, hs'.2⟩
    simp only
    rw [w64 (x := x + w) (by omega) (by omega), w64 (by omega) (by omega)]
    omega
  · rintro ⟨a, b, c, d, a', b', c', d'⟩ ⟨h1, h2, h3⟩
    unfold DrawnBox at h1
    simp only at h1 h2 h3 ⊢
    simp only [implTouch_eq, specTouch_eq, Option.bind_some, bne_self_eq_false, Bool.false_eq_true, if_false]
    have hsym : decide (BT a' b' c' d' a b c d) = decide (BT a b c d a' b' c' d') := by
      rw [decide_eq_decide]; unfold BT; constructor <;> (rintro ⟨z1, z2, z3, z4, z5, z6⟩; exact ⟨z2, z1, by omega, by omega, by omega, by omega⟩)
    simp only [hsym, bne_self_eq_false]
    refine Tot.up ?_
    simp only [laws_FnBoxesTouch.j0, specBoxValid_eq, Option.bind_some, Bool.false_eq_true, if_false]
    have bad : ∀ x31 : Bool, x31 = true → ¬ BT a b c d a' b' c' d' → Tot (fun k => laws_FnBoxesTouch.j1 k (decide (BT a b c d a' b' c' d')) x31 a b c d a' b' c' d') (· = true) := by
      intro x hx hn
      refine Tot.up ?_
      simp only [laws_FnBoxesTouch.j1, hx, alive_eq, Option.bind_some, decide_eq_true_eq, if_true, if_neg hn]
      exact Tot.ret rfl
    refine Tot.ite (fun hv => ?_) (fun hv => bad _ rfl (fun z => hv (by simpa using z.1)))
    have hv : BV a b c d := by simpa using hv
    by_cases hv' : BV a' b' c' d'
    · simp only [hv', decide_true, Bool.not_true]
      refine Tot.up ?_
      unfold BV at hv hv'
      simp only [laws_FnBoxesTouch.j1, implTouch_eq, Option.bind_some, Bool.false_eq_true, if_false, decide_eq_true_eq]
      rw [w64 (x := a + c) (by omega) (by omega), w64 (x := a - 5) (by omega) (by omega), w64 (x := b + 3) (by omega) (by omega), w64 (x := a' - 5) (by omega) (by omega), w64 (x := b' + 3) (by omega) (by omega)]
      rw [if_pos (by unfold BT BV; omega), if_neg (by unfold BT BV; omega)]
      refine Tot.ret ?_
      rw [beq_iff_eq, decide_eq_decide]
      unfold BT BV
      omega
    · simp only [hv', decide_false, Bool.not_false]
      exact bad _ rfl (fun z => hv' z.2.1)
end Go.Proofs.Ytfebmgaamhjbcaa.Pure
