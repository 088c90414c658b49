/- An accepted packed form is the packed form of the bytes that it unpacks to. No condition. -/
import Derived.Test.YtnflmekjeehgaaaPFnUnpackRunsx6
import Derived.DataShut
namespace Go.Proofs.Ytnflmekjeehgaaa.Pure
open Go.RowKit Go.Proofs.Ytnflmekjeehgaaa.PFnUnpackRuns Go.Proofs.YtnflmekjeehgaaaW.PrintWords Go.Proofs.YtnflmekjeehgaaaW.PrintLast
set_option linter.unusedSimpArgs false
set_option linter.unusedVariables false
theorem i64_of {n : Int} (h : (Lit.int .i64 n).wf = true) : -9223372036854775808 ≤ n ∧ n ≤ 9223372036854775807 := (Lit.wf_int_iff .i64 n).1 h
theorem u8_of {n : Int} (h : (Lit.int .u8 n).wf = true) : 0 ≤ n ∧ n ≤ 255 := (Lit.wf_int_iff .u8 n).1 h
theorem w64 {x : Int} (h0 : -9223372036854775808 ≤ x) (h1 : x ≤ 9223372036854775807) : wrap64 x = x := by unfold wrap64; omega
theorem some_dec {p q : Prop} [Decidable p] [Decidable q] (h : p ↔ q) : some (decide p) = some (decide q) := by simp only [h]
theorem some_ff {p : Prop} [Decidable p] (h : ¬ p) : some false = some (decide p) := by rw [decide_eq_false h]
theorem some_tt {p : Prop} [Decidable p] (h : p) : some true = some (decide p) := by rw [decide_eq_true h]
theorem tmod_nn {a b : Int} (h : 0 ≤ a) : Int.tmod a b = a % b := Int.tmod_eq_emod_of_nonneg h
theorem tdiv_nn {a b : Int} (h : 0 ≤ a) : Int.tdiv a b = a / b := Int.tdiv_eq_ediv_of_nonneg h
/-- With enough rounds it answers, and Q holds of the answer. -/
def Tot {α : Type} (g : Nat → Option α) (Q : α → Prop) : Prop := ∃ r, Q r ∧ ∃ K, ∀ k, K ≤ k → g k = some r
section
variable {α β : Type} {g h : Nat → Option α} {f : Nat → α → Option β} {Q : α → Prop} {R : β → Prop} {c : Prop} [Decidable c]
theorem Tot.ret {r : α} (h : Q r) : Tot (fun _ => some r) Q := ⟨r, h, 0, fun _ _ => rfl⟩
theorem Tot.of {r : α} (e : ∀ k, 0 < k → g k = some r) (h : Q r) : Tot g Q := ⟨r, h, 1, fun k hk => e k hk⟩
theorem Tot.bind (hg : Tot g Q) (hf : ∀ a, Q a → Tot (fun k => f k a) R) : Tot (fun k => (g k).bind (f k)) R := by
  obtain ⟨a, ha, K, hK⟩ := hg
  obtain ⟨b, hb, L, hL⟩ := hf a ha
  refine ⟨b, hb, K + L, fun k hk => ?_⟩
  show (g k).bind (f k) = some b
  rw [hK k (by omega)]
  exact hL k (by omega)
theorem Tot.ite (hg : c → Tot g Q) (hh : ¬ c → Tot h Q) : Tot (fun k => if c then g k else h k) Q := by
  by_cases hc : c
  · simp only [if_pos hc]; exact hg hc
  · simp only [if_neg hc]; exact hh hc
theorem Tot.pos (hc : c) (hg : Tot g Q) : Tot (fun k => if c then g k else h k) Q := by simp only [if_pos hc]; exact hg
theorem Tot.neg (hc : ¬ c) (hh : Tot h Q) : Tot (fun k => if c then g k else h k) Q := by simp only [if_neg hc]; exact hh
theorem Tot.up (h : Tot (fun k => g (k + 1)) Q) : Tot g Q := by
  obtain ⟨r, hr, K, hK⟩ := h
  refine ⟨r, hr, K + 1, fun k hk => ?_⟩
  obtain ⟨m, rfl⟩ : ∃ m, k = m + 1 := ⟨k - 1, by omega⟩
  exact hK m (by omega)
theorem Tot.mono {Q' : α → Prop} (h : Tot g Q) (hq : ∀ a, Q a → Q' a) : Tot g Q' := by
  obtain ⟨r, hr, K⟩ := h
  exact ⟨r, hq r hr, K⟩
theorem Tot.ex {g : Nat → Option Bool} (h : Tot g (· = true)) : ∃ k, g k = some true := by
  obtain ⟨r, rfl, K, hK⟩ := h
  exact ⟨K, hK K (Nat.le_refl _)⟩
/-- Two runs of the same answer alike. -/
theorem Tot.same (h : Tot g Q) : ∃ r, Q r ∧ Tot g (· = r) := by
  obtain ⟨r, hr, K⟩ := h
  exact ⟨r, hr, r, rfl, K⟩
end
theorem rd_at {xs : List Int} {i : Nat} (h : i < xs.length) : rd xs (i : Int) = xs[i] := by
  unfold rd
  rw [List.getD_eq_getElem?_getD, Int.toNat_natCast, List.getElem?_eq_getElem h]; rfl
theorem inext {i n : Nat} (h : i < n) (hn : n ≤ 9223372036854775807) : wrap64 ((i : Int) + 1) = ((i + 1 : Nat) : Int) := by
  rw [w64] <;> omega
theorem iall_drop {α : Type} {P : α → Prop} {xs : List α} {i : Nat} (h : i < xs.length) : (∀ x ∈ xs.drop i, P x) ↔ P xs[i] ∧ ∀ x ∈ xs.drop (i + 1), P x := by
  rw [List.drop_eq_getElem_cons h, List.forall_mem_cons]
theorem itake_set {α : Type} {ys : List α} {i : Nat} (h : i < ys.length) (c : α) : (ys.set i c).take (i + 1) = ys.take i ++ [c] := by
  rw [List.take_succ_eq_append_getElem (by rw [List.length_set]; exact h), List.getElem_set_self, List.take_set, List.set_eq_of_length_le (by rw [List.length_take]; omega)]
theorem l1In_eq (a b c : Int) : spec_l1In.f a b c = some (decide (b ≤ a ∧ a ≤ c)) := by
  unfold spec_l1In.f
  split
  · exact some_dec (by omega)
  · exact some_ff (by omega)
theorem l1Byte_eq (a : Int) : spec_l1Byte.f a = some (decide (0 ≤ a ∧ a ≤ 255)) := by
  unfold spec_l1Byte.f
  rw [l1In_eq]; rfl
theorem within_eq (a b c : Int) : impl_within.f a b c = some (decide (b ≤ a ∧ a ≤ c)) := by
  unfold impl_within.f
  split
  · exact some_dec (by omega)
  · exact some_ff (by omega)
theorem isByte_eq (a : Int) : impl_isByte.f a = some (decide (0 ≤ a ∧ a ≤ 255)) := by
  unfold impl_isByte.f
  rw [within_eq]; rfl
def Byt (x : Int) : Prop := 0 ≤ x ∧ x ≤ 255
theorem l2Bytes_loop (xs : List Int) (n : Int) (hm : xs.length ≤ 9223372036854775807) : ∀ (d i : Nat), xs.length - i = d → i ≤ xs.length →
    Tot (fun k => spec_l2Bytes.l0 k xs n (i : Int)) (fun r => r = true ↔ (∀ x ∈ xs.drop i, Byt x) ∧ (xs.length : Int) = n) := by
  intro d
  induction d with
  | zero =>
    intro i hd hi
    refine Tot.up ?_
    simp only [spec_l2Bytes.l0]
    refine Tot.neg (by omega) (Tot.ret ?_)
    rw [List.drop_of_length_le (by omega)]
    simp
  | succ d ih =>
    intro i hd hi
    have hlt : i < xs.length := by omega
    refine Tot.up ?_
    simp only [spec_l2Bytes.l0, rd_at hlt, inext hlt hm, l1Byte_eq, Option.bind_some, decide_eq_true_eq]
    refine Tot.pos (by omega) (Tot.pos (by omega) (Tot.ite (fun h => ?_) (fun h => Tot.ret ?_)))
    · refine (ih (i + 1) (by omega) (by omega)).mono fun r hr => ?_
      rw [hr, iall_drop hlt]
      exact ⟨fun z => ⟨⟨h, z.1⟩, z.2⟩, fun z => ⟨z.1.2, z.2⟩⟩
    · rw [iall_drop hlt]
      exact ⟨fun z => (by cases z), fun z => absurd z.1.1 h⟩
theorem l2Bytes_tot (xs : List Int) (n : Int) (hm : xs.length ≤ 9223372036854775807) : Tot (fun k => spec_l2Bytes.f k xs n) (fun r => r = true ↔ (∀ x ∈ xs, Byt x) ∧ (xs.length : Int) = n) := by
  unfold spec_l2Bytes.f
  exact l2Bytes_loop xs n hm xs.length 0 rfl (Nat.zero_le _)
theorem allBytes_loop (xs : List Int) (hm : xs.length ≤ 9223372036854775807) : ∀ (d i : Nat), xs.length - i = d → i ≤ xs.length →
    Tot (fun k => impl_allBytes.l0 k xs (xs.length : Int) (i : Int)) (fun r => r = true ↔ ∀ x ∈ xs.drop i, Byt x) := by
  intro d
  induction d with
  | zero =>
    intro i hd hi
    refine Tot.up ?_
    simp only [impl_allBytes.l0]
    refine Tot.neg (by omega) (Tot.ret ?_)
    rw [List.drop_of_length_le (by omega)]
    simp
  | succ d ih =>
    intro i hd hi
    have hlt : i < xs.length := by omega
    refine Tot.up ?_
    simp only [impl_allBytes.l0, rd_at hlt, inext hlt hm, isByte_eq, Option.bind_some, decide_eq_true_eq]
    refine Tot.pos (by omega) (Tot.pos (by omega) (Tot.pos (by omega) (Tot.ite (fun h => ?_) (fun h => Tot.ret ?_))))
    · refine (ih (i + 1) (by omega) (by omega)).mono fun r hr => ?_
      rw [hr, iall_drop hlt]
      exact ⟨fun z => ⟨h, z⟩, fun z => z.2⟩
    · rw [iall_drop hlt]
      exact ⟨fun z => (by cases z), fun z => absurd z.1 h⟩
theorem allBytes_tot (xs : List Int) (hm : xs.length ≤ 9223372036854775807) : Tot (fun k => impl_allBytes.f k xs) (fun r => r = true ↔ ∀ x ∈ xs, Byt x) := by
  unfold impl_allBytes.f
  exact allBytes_loop xs hm xs.length 0 rfl (Nat.zero_le _)
/-! ### The packed form, as a function on lists -/
def go (v : Int) (n : Nat) : List Int → List Int
  | [] => [(n : Int), v]
  | x :: xs => if x = v ∧ n < 255 then go v (n + 1) xs else (n : Int) :: v :: go x 1 xs
def pack : List Int → List Int
  | [] => []
  | x :: xs => go x 1 xs
def expand : List Int → List Int
  | [] => []
  | [_] => []
  | n :: v :: rest => List.replicate n.toNat v ++ expand rest
theorem pack_end {v : Int} {n : Nat} {xs : List Int} (h : ∀ x ys, xs = x :: ys → ¬ (x = v ∧ n < 255)) : go v n xs = (n : Int) :: v :: pack xs := by
  cases xs with
  | nil => rfl
  | cons x ys => simp only [go, pack, if_neg (h x ys rfl)]
theorem expand_go (xs : List Int) : ∀ (v : Int) (n : Nat), expand (go v n xs) = List.replicate n v ++ xs := by
  induction xs with
  | nil => intro v n; simp [go, expand]
  | cons x xs ih =>
    intro v n
    simp only [go]
    split
    · rename_i h
      rw [ih, h.1, List.replicate_succ', List.append_assoc]; rfl
    · simp [expand, ih]
theorem expand_pack (xs : List Int) : expand (pack xs) = xs := by
  cases xs with
  | nil => rfl
  | cons x xs => simp [pack, expand_go]
theorem go_length (xs : List Int) : ∀ (v : Int) (n : Nat), (go v n xs).length ≤ 2 * (xs.length + 1) ∧ (go v n xs).length % 2 = 0 ∧ 2 ≤ (go v n xs).length := by
  induction xs with
  | nil => intro v n; simp [go]
  | cons x xs ih =>
    intro v n
    simp only [go]
    split
    · have := ih v (n + 1); simp only [List.length_cons]; omega
    · have := ih x 1; simp only [List.length_cons]; omega
theorem pack_length (xs : List Int) : (pack xs).length ≤ 2 * xs.length ∧ (pack xs).length % 2 = 0 := by
  cases xs with
  | nil => simp [pack]
  | cons x xs => have := go_length xs x 1; simp only [pack, List.length_cons]; omega
theorem go_flat (m : Nat) : ∀ (v : Int) (n : Nat), 1 ≤ n → n ≤ 255 → (go v n (List.replicate m v)).length = 2 * ((n + m + 254) / 255) := by
  induction m with
  | zero => intro v n h1 h2; simp [go]; omega
  | succ m ih =>
    intro v n h1 h2
    rw [List.replicate_succ]
    simp only [go, true_and]
    split
    · rw [ih v (n + 1) (by omega) (by omega)]; omega
    · simp only [List.length_cons]
      rw [ih v 1 (by omega) (by omega)]; omega
theorem pack_flat (m : Nat) (v : Int) : (pack (List.replicate m v)).length = 2 * ((m + 254) / 255) := by
  cases m with
  | zero => simp [pack]
  | succ m =>
    rw [List.replicate_succ]
    simp only [pack]
    rw [go_flat m v 1 (by omega) (by omega)]; omega
/-- The last value of v, xs. -/
theorem go_append (b : Int) (bs : List Int) (xs : List Int) : ∀ (v : Int) (n : Nat), (v :: xs).getLast (by simp) ≠ b → go v n (xs ++ b :: bs) = go v n xs ++ go b 1 bs := by
  induction xs with
  | nil =>
    intro v n h
    have h' : v ≠ b := by simpa using h
    simp only [List.nil_append, go, if_neg (show ¬ (b = v ∧ n < 255) from fun z => h' z.1.symm)]
    rfl
  | cons x xs ih =>
    intro v n h
    have h' : (x :: xs).getLast (by simp) ≠ b := by rwa [List.getLast_cons (by simp)] at h
    simp only [List.cons_append, go]
    split
    · rename_i z
      refine ih v (n + 1) ?_
      rw [← z.1]; exact h'
    · rw [ih x 1 h']; rfl
theorem pack_append {xs ys : List Int} (hx : xs ≠ []) (hy : ys ≠ []) (h : xs.getLast hx ≠ ys.head hy) : pack (xs ++ ys) = pack xs ++ pack ys := by
  cases xs with
  | nil => exact absurd rfl hx
  | cons x xs =>
    cases ys with
    | nil => exact absurd rfl hy
    | cons y ys => exact go_append y ys xs x 1 h
/-! ### Which forms are packed forms -/
def adj (n v : Int) : List Int → Prop
  | [] => True
  | [_] => True
  | _ :: w :: _ => v = w → n = 255
def canon : List Int → Prop
  | [] => True
  | [_] => False
  | n :: v :: rest => 1 ≤ n ∧ n ≤ 255 ∧ adj n v rest ∧ canon rest
theorem go_rep (b : Nat) : ∀ (v : Int) (a : Nat) (ys : List Int), a + b ≤ 255 → go v a (List.replicate b v ++ ys) = go v (a + b) ys := by
  induction b with
  | zero => intro v a ys _; simp
  | succ b ih =>
    intro v a ys h
    rw [List.replicate_succ, List.cons_append]
    simp only [go, true_and]
    rw [if_pos (by omega), ih v (a + 1) ys (by omega), show a + 1 + b = a + (b + 1) by omega]
theorem canon_go (xs : List Int) : ∀ (v : Int) (n : Nat), 1 ≤ n → n ≤ 255 → canon (go v n xs) ∧ ∃ (m : Int) (rest : List Int), go v n xs = m :: v :: rest := by
  induction xs with
  | nil => intro v n h1 h2; exact ⟨⟨by omega, by omega, trivial, trivial⟩, _, _, rfl⟩
  | cons x xs ih =>
    intro v n h1 h2
    simp only [go]
    split
    · rename_i z
      exact ih v (n + 1) (by omega) (by omega)
    · rename_i z
      obtain ⟨hc, m, rest, he⟩ := ih x 1 (by omega) (by omega)
      refine ⟨⟨by omega, by omega, ?_, hc⟩, _, _, rfl⟩
      rw [he]
      intro e
      have : ¬ n < 255 := fun h => z ⟨e.symm, h⟩
      omega
theorem canon_pack (xs : List Int) : canon (pack xs) := by
  cases xs with
  | nil => trivial
  | cons x xs => exact (canon_go xs x 1 (by omega) (by omega)).1
theorem pack_expand : ∀ (m : Nat) (l : List Int), l.length ≤ m → canon l → pack (expand l) = l
  | _, [], _, _ => rfl
  | _, [_], _, h => absurd h (by simp [canon])
  | 0, _ :: _ :: _, hm, _ => by simp at hm
  | m + 1, n :: v :: rest, hm, h => by
    obtain ⟨h1, h2, h3, h4⟩ := h
    have ih := pack_expand m rest (by simp only [List.length_cons] at hm; omega) h4
    obtain ⟨k, rfl⟩ := Int.eq_ofNat_of_zero_le (show 0 ≤ n by omega)
    obtain ⟨j, rfl⟩ : ∃ j, k = j + 1 := ⟨k - 1, by omega⟩
    simp only [expand, Int.toNat_natCast]
    rw [List.replicate_succ, List.cons_append]
    show go v 1 _ = _
    rw [go_rep j v 1 _ (by omega), pack_end, ih, show 1 + j = j + 1 by omega]
    intro x ys hx
    match rest, h3, h4, hx with
    | [], _, _, hx => simp [expand] at hx
    | [_], _, h4, _ => exact absurd h4 (by simp [canon])
    | a :: w :: rest', h3, h4, hx =>
      have ha : 1 ≤ a := h4.1
      obtain ⟨q, rfl⟩ := Int.eq_ofNat_of_zero_le (show 0 ≤ a by omega)
      obtain ⟨q', rfl⟩ : ∃ q', q = q' + 1 := ⟨q - 1, by omega⟩
      simp only [expand, Int.toNat_natCast, List.replicate_succ, List.cons_append, List.cons.injEq] at hx
      intro z
      have : ((j + 1 : Nat) : Int) = 255 := h3 (by rw [hx.1, z.1])
      omega
theorem pack_expand_iff (l : List Int) : pack (expand l) = l ↔ canon l :=
  ⟨fun h => h ▸ canon_pack _, fun h => pack_expand l.length l (Nat.le_refl _) h⟩
/-- What a list is packed to: nothing, where it is too long or no list of bytes. -/
def packed (xs : List Int) : List Int → Prop := fun r => ((∀ x ∈ xs, Byt x) ∧ xs.length ≤ 256 → r = pack xs) ∧ (¬ ((∀ x ∈ xs, Byt x) ∧ xs.length ≤ 256) → r = [])
set_option maxHeartbeats 400000 in
theorem ipkInner (xs : List Int) (hm : xs.length ≤ 256) (d : Nat) (hA : ∀ (i : Nat) (out : List Int), xs.length - i ≤ d → i ≤ xs.length → out.length ≤ 2 * i → Tot (fun k => impl_PackRuns.l0 k xs out (i : Int)) (· = out ++ pack (xs.drop i))) :
    ∀ (e i n : Nat) (out : List Int), xs.length - i ≤ d + 1 → (h : i < xs.length) → out.length ≤ 2 * i → 1 ≤ n → i + n ≤ xs.length → 255 - n ≤ e → n ≤ 255 → Tot (fun k => impl_PackRuns.l1 k xs out (i : Int) (n : Int)) (· = out ++ go xs[i] n (xs.drop (i + n))) := by
  intro e
  induction e with
  | zero =>
    intro i n out hd h ho h1 h2 h3 h4
    have stop : (∀ x ys, xs.drop (i + n) = x :: ys → ¬ (x = xs[i] ∧ n < 255)) → Tot (fun k => if out.length + 2 < 17592186044416 then impl_PackRuns.l0 k xs (out ++ [(n : Int), xs[i]]) ((i + n : Nat) : Int) else none) (· = out ++ go xs[i] n (xs.drop (i + n))) := by
      intro hs
      refine Tot.pos (by omega) ((hA (i + n) _ (by omega) h2 (by simp only [List.length_append, List.length_cons, List.length_nil]; omega)).mono fun r hr => ?_)
      rw [hr, pack_end hs]; simp
    refine Tot.up ?_
    simp only [impl_PackRuns.l1, show wrap64 ((i : Int) + (n : Int)) = ((i + n : Nat) : Int) from by rw [w64] <;> omega, rd_at h, Option.bind_some, List.length_cons, List.length_nil, Nat.zero_add, Nat.reduceAdd]
    refine Tot.neg (by omega) (Tot.pos (by omega) (Tot.pos (by omega) (stop (fun x ys _ z => by omega))))
  | succ e ih =>
    intro i n out hd h ho h1 h2 h3 h4
    have stop : (∀ x ys, xs.drop (i + n) = x :: ys → ¬ (x = xs[i] ∧ n < 255)) → Tot (fun k => if out.length + 2 < 17592186044416 then impl_PackRuns.l0 k xs (out ++ [(n : Int), xs[i]]) ((i + n : Nat) : Int) else none) (· = out ++ go xs[i] n (xs.drop (i + n))) := by
      intro hs
      refine Tot.pos (by omega) ((hA (i + n) _ (by omega) h2 (by simp only [List.length_append, List.length_cons, List.length_nil]; omega)).mono fun r hr => ?_)
      rw [hr, pack_end hs]; simp
    refine Tot.up ?_
    simp only [impl_PackRuns.l1, show wrap64 ((i : Int) + (n : Int)) = ((i + n : Nat) : Int) from by rw [w64] <;> omega, rd_at h, Option.bind_some, List.length_cons, List.length_nil, Nat.zero_add, Nat.reduceAdd]
    have hp : ¬ (((i + n : Nat) : Int) < (xs.length : Int)) → ∀ x ys, xs.drop (i + n) = x :: ys → ¬ (x = xs[i] ∧ n < 255) := fun hn x ys hx => by
      rw [List.drop_of_length_le (by omega)] at hx; cases hx
    refine Tot.ite (fun hn => Tot.ite (fun hlt => ?_) (fun hlt => Tot.pos (by omega) (Tot.pos (by omega) (stop (hp hlt))))) (fun hn => Tot.pos (by omega) (Tot.pos (by omega) (stop (fun x ys _ z => by omega))))
    have hlt' : i + n < xs.length := by omega
    simp only [rd_at hlt']
    refine Tot.pos (by omega) (Tot.pos (by omega) (Tot.pos (by omega) (Tot.ite (fun he => ?_) (fun he => stop (fun x ys hx z => ?_)))))
    · have hn' : n < 255 := by omega
      simp only [show wrap64 ((n : Int) + 1) = ((n + 1 : Nat) : Int) from by rw [w64] <;> omega]
      refine (ih i (n + 1) out hd h ho (by omega) (by omega) (by omega) (by omega)).mono fun r hr => ?_
      rw [hr, List.drop_eq_getElem_cons hlt', he]
      simp only [go, if_pos (show True ∧ n < 255 from ⟨trivial, hn'⟩), Nat.add_assoc]
    · rw [List.drop_eq_getElem_cons hlt'] at hx
      exact he ((List.cons.inj hx).1.trans z.1)
set_option maxHeartbeats 400000 in
theorem ipkOuter (xs : List Int) (hm : xs.length ≤ 256) : ∀ (d : Nat),
    (∀ (i : Nat) (out : List Int), xs.length - i ≤ d → i ≤ xs.length → out.length ≤ 2 * i → Tot (fun k => impl_PackRuns.l0 k xs out (i : Int)) (· = out ++ pack (xs.drop i))) ∧
    (∀ (e i n : Nat) (out : List Int), xs.length - i ≤ d + 1 → (h : i < xs.length) → out.length ≤ 2 * i → 1 ≤ n → i + n ≤ xs.length → 255 - n ≤ e → n ≤ 255 → Tot (fun k => impl_PackRuns.l1 k xs out (i : Int) (n : Int)) (· = out ++ go xs[i] n (xs.drop (i + n)))) := by
  intro d
  induction d with
  | zero =>
    have hA : ∀ (i : Nat) (out : List Int), xs.length - i ≤ 0 → i ≤ xs.length → out.length ≤ 2 * i → Tot (fun k => impl_PackRuns.l0 k xs out (i : Int)) (· = out ++ pack (xs.drop i)) := by
      intro i out hd hi ho
      refine Tot.up ?_
      simp only [impl_PackRuns.l0]
      refine Tot.neg (by omega) (Tot.ret ?_)
      rw [List.drop_of_length_le (by omega)]; simp [pack]
    exact ⟨hA, ipkInner xs hm 0 hA⟩
  | succ d ih =>
    have hA : ∀ (i : Nat) (out : List Int), xs.length - i ≤ d + 1 → i ≤ xs.length → out.length ≤ 2 * i → Tot (fun k => impl_PackRuns.l0 k xs out (i : Int)) (· = out ++ pack (xs.drop i)) := by
      intro i out hd hi ho
      refine Tot.up ?_
      simp only [impl_PackRuns.l0]
      refine Tot.ite (fun hlt => ?_) (fun hlt => Tot.ret ?_)
      · have hlt : i < xs.length := by omega
        refine (ih.2 254 i 1 out (by omega) hlt ho (by omega) (by omega) (by omega) (by omega)).mono fun r hr => ?_
        rw [hr, List.drop_eq_getElem_cons hlt]; rfl
      · rw [List.drop_of_length_le (by omega)]; simp [pack]
    exact ⟨hA, ipkInner xs hm (d + 1) hA⟩
theorem implPack_tot (xs : List Int) (hm : xs.length ≤ 9223372036854775807) : Tot (fun k => impl_PackRuns.f k xs) (packed xs) := by
  unfold impl_PackRuns.f packed
  refine Tot.ite (fun h => ?_) (fun h => ?_)
  · refine Tot.up ?_
    simp only [impl_PackRuns.j0]
    exact Tot.pos (by simp) (Tot.ret ⟨fun z => by omega, fun _ => rfl⟩)
  · refine Tot.bind (allBytes_tot xs hm) fun r hr => ?_
    refine Tot.up ?_
    simp only [impl_PackRuns.j0]
    cases r with
    | false =>
      refine Tot.pos (by simp) (Tot.ret ⟨fun z => ?_, fun _ => rfl⟩)
      have := hr.2 z.1
      cases this
    | true =>
      refine Tot.neg (by simp) (((ipkOuter xs (by omega) xs.length).1 0 [] (by omega) (by omega) (by simp)).mono fun r' hr' => ⟨fun _ => ?_, fun z => absurd ⟨hr.1 rfl, by omega⟩ z⟩)
      rw [hr']; simp
theorem packed_one {xs r r' : List Int} (h : packed xs r) (h' : packed xs r') : r = r' := by
  by_cases z : (∀ x ∈ xs, Byt x) ∧ xs.length ≤ 256
  · rw [h.1 z, h'.1 z]
  · rw [h.2 z, h'.2 z]
theorem packed_length {xs r : List Int} (h : packed xs r) : r.length ≤ 512 := by
  by_cases z : (∀ x ∈ xs, Byt x) ∧ xs.length ≤ 256
  · rw [h.1 z]; have := pack_length xs; omega
  · rw [h.2 z]; simp
set_option maxHeartbeats 400000 in
theorem spkInner (xs : List Int) (hm : xs.length ≤ 256) (d : Nat) (hA : ∀ (i : Nat) (out : List Int), xs.length - i ≤ d → i ≤ xs.length → out.length ≤ 2 * i → Tot (fun k => spec_PackRuns.l0 k xs out (i : Int)) (· = out ++ pack (xs.drop i))) :
    ∀ (e i n : Nat) (out : List Int), xs.length - i ≤ d + 1 → (h : i < xs.length) → out.length ≤ 2 * i → 1 ≤ n → i + n ≤ xs.length → 255 - n ≤ e → n ≤ 255 → Tot (fun k => spec_PackRuns.l1 k xs out (i : Int) (n : Int)) (· = out ++ go xs[i] n (xs.drop (i + n))) := by
  intro e
  induction e with
  | zero =>
    intro i n out hd h ho h1 h2 h3 h4
    have stop : (∀ x ys, xs.drop (i + n) = x :: ys → ¬ (x = xs[i] ∧ n < 255)) → Tot (fun k => if out.length + 2 < 17592186044416 then spec_PackRuns.l0 k xs (out ++ [(n : Int), xs[i]]) ((i + n : Nat) : Int) else none) (· = out ++ go xs[i] n (xs.drop (i + n))) := by
      intro hs
      refine Tot.pos (by omega) ((hA (i + n) _ (by omega) h2 (by simp only [List.length_append, List.length_cons, List.length_nil]; omega)).mono fun r hr => ?_)
      rw [hr, pack_end hs]; simp
    refine Tot.up ?_
    simp only [spec_PackRuns.l1, show wrap64 ((i : Int) + (n : Int)) = ((i + n : Nat) : Int) from by rw [w64] <;> omega, rd_at h, Option.bind_some, List.length_cons, List.length_nil, Nat.zero_add, Nat.reduceAdd]
    have hp : ¬ (((i + n : Nat) : Int) < (xs.length : Int)) → ∀ x ys, xs.drop (i + n) = x :: ys → ¬ (x = xs[i] ∧ n < 255) := fun hn x ys hx => by
      rw [List.drop_of_length_le (by omega)] at hx; cases hx
    refine Tot.ite (fun hlt => ?_) (fun hlt => Tot.pos (by omega) (Tot.pos (by omega) (stop (hp hlt))))
    have hlt' : i + n < xs.length := by omega
    simp only [rd_at hlt']
    refine Tot.pos (by omega) (Tot.pos (by omega) (Tot.pos (by omega) (Tot.ite (fun he => Tot.neg (by omega) (stop (fun x ys _ z => by omega))) (fun he => stop (fun x ys hx z => ?_)))))
    rw [List.drop_eq_getElem_cons hlt'] at hx
    exact he ((List.cons.inj hx).1.trans z.1)
  | succ e ih =>
    intro i n out hd h ho h1 h2 h3 h4
    have stop : (∀ x ys, xs.drop (i + n) = x :: ys → ¬ (x = xs[i] ∧ n < 255)) → Tot (fun k => if out.length + 2 < 17592186044416 then spec_PackRuns.l0 k xs (out ++ [(n : Int), xs[i]]) ((i + n : Nat) : Int) else none) (· = out ++ go xs[i] n (xs.drop (i + n))) := by
      intro hs
      refine Tot.pos (by omega) ((hA (i + n) _ (by omega) h2 (by simp only [List.length_append, List.length_cons, List.length_nil]; omega)).mono fun r hr => ?_)
      rw [hr, pack_end hs]; simp
    refine Tot.up ?_
    simp only [spec_PackRuns.l1, show wrap64 ((i : Int) + (n : Int)) = ((i + n : Nat) : Int) from by rw [w64] <;> omega, rd_at h, Option.bind_some, List.length_cons, List.length_nil, Nat.zero_add, Nat.reduceAdd]
    have hp : ¬ (((i + n : Nat) : Int) < (xs.length : Int)) → ∀ x ys, xs.drop (i + n) = x :: ys → ¬ (x = xs[i] ∧ n < 255) := fun hn x ys hx => by
      rw [List.drop_of_length_le (by omega)] at hx; cases hx
    refine Tot.ite (fun hlt => ?_) (fun hlt => Tot.pos (by omega) (Tot.pos (by omega) (stop (hp hlt))))
    have hlt' : i + n < xs.length := by omega
    simp only [rd_at hlt']
    refine Tot.pos (by omega) (Tot.pos (by omega) (Tot.pos (by omega) (Tot.ite (fun he => Tot.ite (fun hn => ?_) (fun hn => stop (fun x ys _ z => by omega))) (fun he => stop (fun x ys hx z => ?_)))))
    · have hn' : n < 255 := by omega
      simp only [show wrap64 ((n : Int) + 1) = ((n + 1 : Nat) : Int) from by rw [w64] <;> omega]
      refine (ih i (n + 1) out hd h ho (by omega) (by omega) (by omega) (by omega)).mono fun r hr => ?_
      rw [hr, List.drop_eq_getElem_cons hlt', he]
      simp only [go, if_pos (show True ∧ n < 255 from ⟨trivial, hn'⟩), Nat.add_assoc]
    · rw [List.drop_eq_getElem_cons hlt'] at hx
      exact he ((List.cons.inj hx).1.trans z.1)
set_option maxHeartbeats 400000 in
theorem spkOuter (xs : List Int) (hm : xs.length ≤ 256) : ∀ (d : Nat),
    (∀ (i : Nat) (out : List Int), xs.length - i ≤ d → i ≤ xs.length → out.length ≤ 2 * i → Tot (fun k => spec_PackRuns.l0 k xs out (i : Int)) (· = out ++ pack (xs.drop i))) ∧
    (∀ (e i n : Nat) (out : List Int), xs.length - i ≤ d + 1 → (h : i < xs.length) → out.length ≤ 2 * i → 1 ≤ n → i + n ≤ xs.length → 255 - n ≤ e → n ≤ 255 → Tot (fun k => spec_PackRuns.l1 k xs out (i : Int) (n : Int)) (· = out ++ go xs[i] n (xs.drop (i + n)))) := by
  intro d
  induction d with
  | zero =>
    have hA : ∀ (i : Nat) (out : List Int), xs.length - i ≤ 0 → i ≤ xs.length → out.length ≤ 2 * i → Tot (fun k => spec_PackRuns.l0 k xs out (i : Int)) (· = out ++ pack (xs.drop i)) := by
      intro i out hd hi ho
      refine Tot.up ?_
      simp only [spec_PackRuns.l0]
      refine Tot.neg (by omega) (Tot.ret ?_)
      rw [List.drop_of_length_le (by omega)]; simp [pack]
    exact ⟨hA, spkInner xs hm 0 hA⟩
  | succ d ih =>
    have hA : ∀ (i : Nat) (out : List Int), xs.length - i ≤ d + 1 → i ≤ xs.length → out.length ≤ 2 * i → Tot (fun k => spec_PackRuns.l0 k xs out (i : Int)) (· = out ++ pack (xs.drop i)) := by
      intro i out hd hi ho
      refine Tot.up ?_
      simp only [spec_PackRuns.l0]
      refine Tot.ite (fun hlt => ?_) (fun hlt => Tot.ret ?_)
      · have hlt : i < xs.length := by omega
        refine (ih.2 254 i 1 out (by omega) hlt ho (by omega) (by omega) (by omega) (by omega)).mono fun r hr => ?_
        rw [hr, List.drop_eq_getElem_cons hlt]; rfl
      · rw [List.drop_of_length_le (by omega)]; simp [pack]
    exact ⟨hA, spkInner xs hm (d + 1) hA⟩
theorem specPack_tot (xs : List Int) (hm : xs.length ≤ 9223372036854775807) : Tot (fun k => spec_PackRuns.f k xs) (packed xs) := by
  unfold spec_PackRuns.f packed
  simp only [Option.bind_some]
  refine Tot.ite (fun h => ?_) (fun h => ?_)
  · refine Tot.up ?_
    simp only [spec_PackRuns.j0]
    exact Tot.pos (by simp) (Tot.ret ⟨fun z => by omega, fun _ => rfl⟩)
  · refine Tot.bind (l2Bytes_tot xs _ hm) fun r hr => ?_
    refine Tot.up ?_
    simp only [spec_PackRuns.j0]
    cases r with
    | false =>
      refine Tot.pos (by simp) (Tot.ret ⟨fun z => ?_, fun _ => rfl⟩)
      have := hr.2 ⟨z.1, rfl⟩
      cases this
    | true =>
      refine Tot.neg (by simp) (((spkOuter xs (by omega) xs.length).1 0 [] (by omega) (by omega) (by simp)).mono fun r' hr' => ⟨fun _ => ?_, fun z => absurd ⟨(hr.1 rfl).1, by omega⟩ z⟩)
      rw [hr']; simp
/-! ### Unpacking, as a predicate on lists -/
def fits (m : Nat) : List Int → Prop
  | [] => True
  | [_] => False
  | n :: _ :: rest => 1 ≤ n ∧ n ≤ 256 - (m : Int) ∧ fits (m + n.toNat) rest
def ch : List Int → Prop
  | [] => True
  | [_] => True
  | n :: v :: rest => adj n v rest ∧ ch rest
theorem fits_length : ∀ (c : Nat) (l : List Int) (m : Nat), l.length ≤ c → m ≤ 256 → fits m l → m + (expand l).length ≤ 256
  | _, [], m, _, hm, _ => by simpa [expand] using hm
  | _, [_], _, _, _, h => absurd h (by simp [fits])
  | 0, _ :: _ :: _, _, hc, _, _ => by simp at hc
  | c + 1, n :: _ :: rest, m, hc, hm, h => by
    obtain ⟨h1, h2, h3⟩ := h
    have := fits_length c rest (m + n.toNat) (by simp only [List.length_cons] at hc; omega) (by omega) h3
    simp only [expand, List.length_append, List.length_replicate]
    omega
theorem good_iff : ∀ (c : Nat) (l : List Int) (m : Nat), l.length ≤ c → fits m l → ((∀ x ∈ l, Byt x) ∧ ch l ↔ (∀ x ∈ expand l, Byt x) ∧ canon l)
  | _, [], _, _, _ => by simp [expand, ch, canon]
  | _, [_], _, _, h => absurd h (by simp [fits])
  | 0, _ :: _ :: _, _, hc, _ => by simp at hc
  | c + 1, n :: v :: rest, m, hc, h => by
    obtain ⟨h1, h2, h3⟩ := h
    have ih := good_iff c rest (m + n.toNat) (by simp only [List.length_cons] at hc; omega) h3
    obtain ⟨k, rfl⟩ := Int.eq_ofNat_of_zero_le (show 0 ≤ n by omega)
    obtain ⟨j, rfl⟩ : ∃ j, k = j + 1 := ⟨k - 1, by omega⟩
    simp only [expand, Int.toNat_natCast, ch, canon, List.forall_mem_cons, List.mem_append, List.replicate_succ, List.cons_append]
    constructor
    · rintro ⟨⟨hn, hv, hr⟩, ha, hc'⟩
      obtain ⟨e1, e2⟩ := ih.1 ⟨hr, hc'⟩
      refine ⟨⟨hv, fun x hx => ?_⟩, by omega, by unfold Byt at hn; omega, ha, e2⟩
      rcases hx with hx | hx
      · rw [(List.mem_replicate.1 hx).2]; exact hv
      · exact e1 x hx
    · rintro ⟨⟨hv, hr⟩, hn1, hn2, ha, hc'⟩
      obtain ⟨e1, e2⟩ := ih.2 ⟨fun x hx => hr x (.inr hx), hc'⟩
      exact ⟨⟨by unfold Byt; omega, hv, e1⟩, ha, e2⟩
theorem packed_expand {l : List Int} (h : fits 0 l) : packed (expand l) l ↔ (∀ x ∈ l, Byt x) ∧ ch l := by
  rw [good_iff l.length l 0 (Nat.le_refl _) h]
  have hl := fits_length l.length l 0 (Nat.le_refl _) (by omega) h
  unfold packed
  constructor
  · rintro ⟨h1, h2⟩
    by_cases z : (∀ x ∈ expand l, Byt x) ∧ (expand l).length ≤ 256
    · exact ⟨z.1, (pack_expand_iff l).1 (h1 z).symm⟩
    · have e := h2 z
      subst e
      exact ⟨by simp [expand], trivial⟩
  · rintro ⟨h1, h2⟩
    exact ⟨fun _ => ((pack_expand_iff l).2 h2).symm, fun z => absurd ⟨h1, by omega⟩ z⟩
theorem drop_two {xs : List Int} {i : Nat} (h : i + 1 < xs.length) : xs.drop i = xs[i] :: xs[i + 1] :: xs.drop (i + 2) := by
  rw [List.drop_eq_getElem_cons (show i < xs.length by omega), List.drop_eq_getElem_cons h]
/-- What unpacking answers where G tells whether it goes on, ys what comes out. -/
def unp (G : Prop) (ys : List Int) (r : List Int × Bool) : Prop := (G → r = (ys, true)) ∧ (¬ G → r = ([], false))
theorem unp_one {G G' : Prop} {ys : List Int} {r r' : List Int × Bool} (hg : G ↔ G') (h : unp G ys r) (h' : unp G' ys r') : r = r' := by
  by_cases z : G
  · rw [h.1 z, h'.1 (hg.1 z)]
  · rw [h.2 z, h'.2 (fun w => z (hg.2 w))]
theorem fits_even : ∀ (c : Nat) (l : List Int) (m : Nat), l.length ≤ c → fits m l → l.length % 2 = 0
  | _, [], _, _, _ => rfl
  | _, [_], _, _, h => absurd h (by simp [fits])
  | 0, _ :: _ :: _, _, hc, _ => by simp at hc
  | c + 1, n :: _ :: rest, m, hc, h => by
    have := fits_even c rest (m + n.toNat) (by simp only [List.length_cons] at hc; omega) h.2.2
    simp only [List.length_cons]; omega
theorem equal_loop (xs ys : List Int) (hm : xs.length ≤ 9223372036854775807) (hl : xs.length = ys.length) : ∀ (d i : Nat), xs.length - i = d → i ≤ xs.length →
    Tot (fun k => slices_Equal_int_int.l0 k xs ys (xs.length : Int) (i : Int)) (fun r => r = true ↔ xs.drop i = ys.drop i) := by
  intro d
  induction d with
  | zero =>
    intro i hd hi
    refine Tot.up ?_
    simp only [slices_Equal_int_int.l0]
    refine Tot.neg (by omega) (Tot.ret ?_)
    rw [List.drop_of_length_le (by omega), List.drop_of_length_le (by omega)]
    simp
  | succ d ih =>
    intro i hd hi
    have hlt : i < xs.length := by omega
    have hlt' : i < ys.length := by omega
    refine Tot.up ?_
    simp only [slices_Equal_int_int.l0, rd_at hlt, rd_at hlt', inext hlt hm]
    refine Tot.pos (by omega) (Tot.pos (by omega) (Tot.pos (by omega) (Tot.pos (by omega) ?_)))
    rw [List.drop_eq_getElem_cons hlt, List.drop_eq_getElem_cons hlt']
    refine Tot.ite (fun h => ?_) (fun h => Tot.ret ⟨fun z => (by cases z), fun z => absurd (List.cons.inj z).1 h⟩)
    refine (ih (i + 1) (by omega) (by omega)).mono fun r hr => ?_
    rw [hr, h]
    exact ⟨fun z => by rw [z], fun z => (List.cons.inj z).2⟩
theorem equal_tot (xs ys : List Int) (hm : xs.length ≤ 9223372036854775807) : Tot (fun k => slices_Equal_int_int.f k xs ys) (fun r => r = true ↔ xs = ys) := by
  unfold slices_Equal_int_int.f
  refine Tot.ite (fun h => ?_) (fun h => Tot.ret ⟨fun z => (by cases z), fun z => absurd (by rw [z]) h⟩)
  exact equal_loop xs ys hm (by omega) xs.length 0 rfl (Nat.zero_le _)
theorem iun_inner (xs : List Int) (i : Nat) (hi : i + 1 < xs.length) (hl : xs.length ≤ 1048576) (Q : List Int × Bool → Prop) : ∀ (e : Nat) (out : List Int) (n j : Int), n - j = e → 0 ≤ j → n ≤ 256 → out.length + e ≤ 256 →
    Tot (fun k => impl_UnpackRuns.l0 k xs (out ++ List.replicate e xs[i + 1]) ((i + 2 : Nat) : Int)) Q → Tot (fun k => impl_UnpackRuns.l1 k xs out (i : Int) n j) Q := by
  intro e
  induction e with
  | zero =>
    intro out n j h0 h1 h2 h3 h
    refine Tot.up ?_
    simp only [impl_UnpackRuns.l1, show wrap64 ((i : Int) + 2) = ((i + 2 : Nat) : Int) from by rw [w64] <;> omega]
    rw [List.replicate_zero, List.append_nil] at h
    exact Tot.neg (by omega) h
  | succ e ih =>
    intro out n j h0 h1 h2 h3 h
    refine Tot.up ?_
    simp only [impl_UnpackRuns.l1, show wrap64 ((i : Int) + 1) = ((i + 1 : Nat) : Int) from by rw [w64] <;> omega, show wrap64 (j + 1) = j + 1 from by rw [w64] <;> omega, rd_at hi]
    refine Tot.pos (by omega) (Tot.pos (by omega) (Tot.pos (by omega) (Tot.pos (by omega) ?_)))
    refine ih _ n (j + 1) (by omega) (by omega) h2 (by rw [List.length_append, List.length_singleton]; omega) ?_
    rw [List.append_assoc]
    rw [List.replicate_succ] at h
    exact h
theorem iun_outer (xs : List Int) (hl : xs.length ≤ 1048576) : ∀ (d i : Nat) (out : List Int), xs.length = i + 2 * d → out.length ≤ 256 →
    Tot (fun k => impl_UnpackRuns.l0 k xs out (i : Int)) (unp (fits out.length (xs.drop i) ∧ packed (out ++ expand (xs.drop i)) xs) (out ++ expand (xs.drop i))) := by
  intro d
  induction d with
  | zero =>
    intro i out hd ho
    refine Tot.up ?_
    simp only [impl_UnpackRuns.l0]
    rw [List.drop_of_length_le (by omega)]
    simp only [expand, List.append_nil, fits, true_and]
    refine Tot.neg (by omega) ?_
    refine Tot.bind (implPack_tot out (by omega)) fun t ht => ?_
    have htl := packed_length ht
    refine Tot.bind (equal_tot t xs (by omega)) fun r hr => ?_
    refine Tot.ite (fun z => Tot.ret ⟨fun _ => rfl, fun w => ?_⟩) (fun z => Tot.ret ⟨fun w => ?_, fun _ => rfl⟩)
    · rw [← hr.1 z] at w
      exact absurd ht w
    · exact absurd (hr.2 (packed_one ht w)) z
  | succ d ih =>
    intro i out hd ho
    have hi : i + 1 < xs.length := by omega
    have hlt : i < xs.length := by omega
    refine Tot.up ?_
    simp only [impl_UnpackRuns.l0, rd_at hlt, within_eq, Option.bind_some, show wrap64 (256 - (out.length : Int)) = 256 - (out.length : Int) from by rw [w64] <;> omega, decide_eq_true_eq]
    refine Tot.pos (by omega) (Tot.pos (by omega) ?_)
    rw [drop_two hi]
    refine Tot.ite (fun hv => ?_) (fun hv => Tot.ret ⟨fun z => absurd ⟨z.1.1, z.1.2.1⟩ hv, fun _ => rfl⟩)
    obtain ⟨n, hn⟩ := Int.eq_ofNat_of_zero_le (show 0 ≤ xs[i] by omega)
    refine iun_inner xs i hi hl _ n out xs[i] 0 (by omega) (by omega) (by omega) (by omega) ?_
    refine (ih (i + 2) (out ++ List.replicate n xs[i + 1]) (by omega) (by rw [List.length_append, List.length_replicate]; omega)).mono fun r hr => ?_
    have e : (out ++ List.replicate n xs[i + 1]).length = out.length + xs[i].toNat := by rw [List.length_append, List.length_replicate]; omega
    rw [e, List.append_assoc] at hr
    have e2 : expand (xs[i] :: xs[i + 1] :: xs.drop (i + 2)) = List.replicate n xs[i + 1] ++ expand (xs.drop (i + 2)) := by
      simp only [expand]; rw [show xs[i].toNat = n by omega]
    rw [e2]
    refine ⟨fun z => hr.1 ⟨z.1.2.2, z.2⟩, fun z => hr.2 (fun w => z ⟨⟨hv.1, hv.2, w.1⟩, w.2⟩)⟩
theorem implUnpack_tot (xs : List Int) (hl : xs.length ≤ 1048576) : Tot (fun k => impl_UnpackRuns.f k xs) (unp (fits 0 xs ∧ (∀ x ∈ xs, Byt x) ∧ ch xs) (expand xs)) := by
  unfold impl_UnpackRuns.f
  refine Tot.ite (fun h => ?_) (fun h => Tot.ret ⟨fun z => absurd z.1 ?_, fun _ => rfl⟩)
  · refine (iun_outer xs hl (xs.length / 2) 0 [] (by omega) (by simp)).mono fun r hr => ?_
    simp only [List.length_nil, List.drop_zero, List.nil_append] at hr
    refine ⟨fun z => hr.1 ⟨z.1, (packed_expand z.1).2 z.2⟩, fun z => hr.2 (fun w => z ⟨w.1, (packed_expand w.1).1 w.2⟩)⟩
  · intro z
    exact h (by have := fits_even xs.length xs 0 (Nat.le_refl _) z; omega)
theorem sun_inner (xs : List Int) (i : Nat) (hi : i + 1 < xs.length) (hl : xs.length ≤ 1048576) (h256 : xs[i] ≤ 256) (Q : List Int × Bool → Prop) : ∀ (e : Nat) (out : List Int) (j : Int), xs[i] - j = e → 0 ≤ j → out.length + e ≤ 256 →
    Tot (fun k => spec_UnpackRuns.l0 k xs (out ++ List.replicate e xs[i + 1]) ((i + 2 : Nat) : Int)) Q → Tot (fun k => spec_UnpackRuns.l1 k xs out (i : Int) j) Q := by
  intro e
  induction e with
  | zero =>
    intro out j h0 h1 h3 h
    refine Tot.up ?_
    simp only [spec_UnpackRuns.l1, show wrap64 ((i : Int) + 2) = ((i + 2 : Nat) : Int) from by rw [w64] <;> omega, rd_at (show i < xs.length by omega)]
    rw [List.replicate_zero, List.append_nil] at h
    exact Tot.pos (by omega) (Tot.pos (by omega) (Tot.neg (by omega) h))
  | succ e ih =>
    intro out j h0 h1 h3 h
    refine Tot.up ?_
    simp only [spec_UnpackRuns.l1, show wrap64 ((i : Int) + 1) = ((i + 1 : Nat) : Int) from by rw [w64] <;> omega, show wrap64 (j + 1) = j + 1 from by rw [w64] <;> omega, rd_at hi, rd_at (show i < xs.length by omega)]
    refine Tot.pos (by omega) (Tot.pos (by omega) (Tot.pos (by omega) (Tot.pos (by omega) (Tot.pos (by omega) (Tot.pos (by omega) ?_)))))
    refine ih _ (j + 1) (by omega) (by omega) (by rw [List.length_append, List.length_singleton]; omega) ?_
    rw [List.append_assoc]
    rw [List.replicate_succ] at h
    exact h
/-- What stands before the i-th number allows what follows. -/
def before (xs : List Int) (i : Nat) : Prop := i = 0 ∨ adj (rd xs ((i - 2 : Nat) : Int)) (rd xs ((i - 1 : Nat) : Int)) (xs.drop i)
theorem sun_outer (xs : List Int) (hl : xs.length ≤ 1048576) : ∀ (d i : Nat) (out : List Int), xs.length = i + 2 * d → i % 2 = 0 → out.length ≤ 256 →
    Tot (fun k => spec_UnpackRuns.l0 k xs out (i : Int)) (unp (fits out.length (xs.drop i) ∧ before xs i ∧ ch (xs.drop i)) (out ++ expand (xs.drop i))) := by
  intro d
  induction d with
  | zero =>
    intro i out hd h2 ho
    refine Tot.up ?_
    simp only [spec_UnpackRuns.l0]
    have hb : before xs i := by
      refine .inr ?_
      rw [List.drop_of_length_le (by omega)]
      trivial
    rw [List.drop_of_length_le (by omega)]
    simp only [expand, List.append_nil, fits, ch, and_true, true_and]
    exact Tot.neg (by omega) (Tot.ret ⟨fun _ => rfl, fun z => absurd hb z⟩)
  | succ d ih =>
    intro i out hd h2 ho
    have hi : i + 1 < xs.length := by omega
    have hlt : i < xs.length := by omega
    have bad : ∀ (G : Prop) (ys : List Int), ¬ G → Tot (fun k => spec_UnpackRuns.j2 k xs out (i : Int) true) (unp G ys) := by
      intro G ys hG
      refine Tot.up ?_
      simp only [spec_UnpackRuns.j2]
      exact Tot.pos (by simp) (Tot.ret ⟨fun z => absurd z hG, fun _ => rfl⟩)
    have good : 1 ≤ xs[i] → xs[i] ≤ 256 - (out.length : Int) → before xs i → Tot (fun k => spec_UnpackRuns.j2 k xs out (i : Int) false) (unp (fits out.length (xs.drop i) ∧ before xs i ∧ ch (xs.drop i)) (out ++ expand (xs.drop i))) := by
      intro hv1 hv2 hbf
      refine Tot.up ?_
      simp only [spec_UnpackRuns.j2]
      obtain ⟨n, hn⟩ := Int.eq_ofNat_of_zero_le (show 0 ≤ xs[i] by omega)
      refine Tot.neg (by simp) (sun_inner xs i hi hl (by omega) _ n out 0 (by omega) (by omega) (by omega) ?_)
      refine (ih (i + 2) (out ++ List.replicate n xs[i + 1]) (by omega) (by omega) (by rw [List.length_append, List.length_replicate]; omega)).mono fun r hr => ?_
      have e : (out ++ List.replicate n xs[i + 1]).length = out.length + xs[i].toNat := by rw [List.length_append, List.length_replicate]; omega
      rw [e, List.append_assoc] at hr
      have e2 : expand (xs[i] :: xs[i + 1] :: xs.drop (i + 2)) = List.replicate n xs[i + 1] ++ expand (xs.drop (i + 2)) := by
        simp only [expand]; rw [show xs[i].toNat = n by omega]
      have hb2 : before xs (i + 2) ↔ adj xs[i] xs[i + 1] (xs.drop (i + 2)) := by
        unfold before
        rw [show i + 2 - 2 = i by omega, show i + 2 - 1 = i + 1 by omega, rd_at hlt, rd_at hi]
        exact ⟨fun z => z.resolve_left (by omega), fun z => .inr z⟩
      rw [drop_two hi, e2]
      refine ⟨fun z => hr.1 ⟨z.1.2.2, hb2.2 z.2.2.1, z.2.2.2⟩, fun z => hr.2 (fun w => z ⟨⟨hv1, hv2, w.1⟩, hbf, hb2.1 w.2.1, w.2.2⟩)⟩
    refine Tot.up ?_
    simp only [spec_UnpackRuns.l0, rd_at hlt, rd_at hi, show wrap64 (256 - (out.length : Int)) = 256 - (out.length : Int) from by rw [w64] <;> omega, show wrap64 ((i : Int) + 1) = ((i + 1 : Nat) : Int) from by rw [w64] <;> omega]
    refine Tot.pos (by omega) (Tot.pos (by omega) (Tot.ite (fun h => bad _ _ ?_) (fun h1 => Tot.ite (fun h => bad _ _ ?_) (fun h2' => Tot.ite (fun hp => ?_) (fun hp => good (by omega) (by omega) (.inl (by omega)))))))
    · rw [drop_two hi]; exact fun z => by have := z.1.1; omega
    · rw [drop_two hi]; exact fun z => by have := z.1.2.1; omega
    · have hb : before xs i ↔ (rd xs ((i - 1 : Nat) : Int) = xs[i + 1] → rd xs ((i - 2 : Nat) : Int) = 255) := by
        unfold before
        rw [drop_two hi]
        exact ⟨fun z => z.resolve_left (by omega), fun z => .inr z⟩
      simp only [show wrap64 ((i : Int) - 1) = ((i - 1 : Nat) : Int) from by rw [w64] <;> omega, show wrap64 ((i : Int) - 2) = ((i - 2 : Nat) : Int) from by rw [w64] <;> omega]
      refine Tot.pos (by omega) (Tot.pos (by omega) (Tot.pos (by omega) (Tot.pos (by omega) (Tot.ite (fun he => ?_) (fun he => good (by omega) (by omega) (hb.2 (fun z => absurd z he)))))))
      refine Tot.pos (by omega) (Tot.pos (by omega) ?_)
      by_cases h255 : rd xs ((i - 2 : Nat) : Int) = 255
      · rw [h255]
        exact good (by omega) (by omega) (hb.2 (fun _ => h255))
      · have e : (rd xs ((i - 2 : Nat) : Int) != 255) = true := by simpa using h255
        rw [e]
        exact bad _ _ (fun z => h255 (hb.1 z.2.1 he))
theorem specUnpack_tot (xs : List Int) (hl : xs.length ≤ 1048576) : Tot (fun k => spec_UnpackRuns.f k xs) (unp (fits 0 xs ∧ (∀ x ∈ xs, Byt x) ∧ ch xs) (expand xs)) := by
  unfold spec_UnpackRuns.f
  simp only [Option.bind_some]
  refine Tot.ite (fun h => ?_) (fun h => ?_)
  · refine Tot.bind (l2Bytes_tot xs _ (by omega)) fun r hr => ?_
    cases r with
    | false =>
      refine Tot.up ?_
      simp only [spec_UnpackRuns.j0]
      refine Tot.pos (by simp) (Tot.ret ⟨fun z => ?_, fun _ => rfl⟩)
      have := hr.2 ⟨z.2.1, rfl⟩
      cases this
    | true =>
      refine Tot.up ?_
      simp only [spec_UnpackRuns.j0]
      refine Tot.neg (by simp) ((sun_outer xs hl (xs.length / 2) 0 [] (by omega) rfl (by simp)).mono fun r' hr' => ?_)
      simp only [List.length_nil, List.drop_zero, List.nil_append] at hr'
      exact ⟨fun z => hr'.1 ⟨z.1, .inl rfl, z.2.2⟩, fun z => hr'.2 (fun w => z ⟨w.1, (hr.1 rfl).1, w.2.2⟩)⟩
  · refine Tot.up ?_
    simp only [spec_UnpackRuns.j0]
    refine Tot.pos (by simp) (Tot.ret ⟨fun z => ?_, fun _ => rfl⟩)
    exact absurd (by have := fits_even xs.length xs 0 (Nat.le_refl _) z.1; omega) h
theorem sameInts_loop (xs ys : List Int) (hm : xs.length ≤ 9223372036854775807) (hl : xs.length = ys.length) : ∀ (d i : Nat), xs.length - i = d → i ≤ xs.length →
    Tot (fun k => laws_sameInts.l0 k xs ys (i : Int)) (fun r => r = true ↔ xs.drop i = ys.drop i) := by
  intro d
  induction d with
  | zero =>
    intro i hd hi
    refine Tot.up ?_
    simp only [laws_sameInts.l0]
    refine Tot.neg (by omega) (Tot.ret ?_)
    rw [List.drop_of_length_le (by omega), List.drop_of_length_le (by omega)]
    simp
  | succ d ih =>
    intro i hd hi
    have hlt : i < xs.length := by omega
    have hlt' : i < ys.length := by omega
    refine Tot.up ?_
    simp only [laws_sameInts.l0, rd_at hlt, rd_at hlt', inext hlt hm]
    refine Tot.pos (by omega) (Tot.pos (by omega) (Tot.pos (by omega) ?_))
    rw [List.drop_eq_getElem_cons hlt, List.drop_eq_getElem_cons hlt']
    refine Tot.ite (fun h => ?_) (fun h => Tot.ret ⟨fun z => (by cases z), fun z => absurd (List.cons.inj z).1 h⟩)
    refine (ih (i + 1) (by omega) (by omega)).mono fun r hr => ?_
    rw [hr, h]
    exact ⟨fun z => by rw [z], fun z => (List.cons.inj z).2⟩
theorem sameInts_tot (xs ys : List Int) (hm : xs.length ≤ 9223372036854775807) : Tot (fun k => laws_sameInts.f k xs ys) (fun r => r = true ↔ xs = ys) := by
  unfold laws_sameInts.f
  refine Tot.ite (fun h => ?_) (fun h => Tot.ret ⟨fun z => (by cases z), fun z => absurd (by rw [z]) h⟩)
  exact sameInts_loop xs ys hm (by omega) xs.length 0 rfl (Nat.zero_le _)
theorem alive_eq : laws_alive.f = some true := by decide +kernel
theorem rd_byte {b : List Int} (hb : ∀ x ∈ b, (Lit.int .u8 x).wf = true) (i : Int) : 0 ≤ rd b i ∧ rd b i ≤ 255 := by
  unfold rd
  rw [List.getD_eq_getElem?_getD]
  rcases Nat.lt_or_ge i.toNat b.length with h | h
  · rw [List.getElem?_eq_getElem h]
    exact u8_of (hb _ (List.getElem_mem h))
  · rw [List.getElem?_eq_none h]
    simp
theorem xor_nn {a b : Int} (ha : 0 ≤ a) (ha' : a < 4611686018427387904) (hb : 0 ≤ b) (hb' : b < 4611686018427387904) : 0 ≤ Go.bits .xor .i64 a b := by
  obtain ⟨m, rfl⟩ := Int.eq_ofNat_of_zero_le ha
  obtain ⟨n, rfl⟩ := Int.eq_ofNat_of_zero_le hb
  have hm : m < 2 ^ 62 := by omega
  have hn : n < 2 ^ 62 := by omega
  have hx : m ^^^ n < 2 ^ 62 := Nat.xor_lt_two_pow hm hn
  have e : Go.bits .xor .i64 (m : Int) (n : Int) = ((m ^^^ n : Nat) : Int) := by
    show IntKind.wrap .i64 ((BitVec.ofInt 64 (m : Int) ^^^ BitVec.ofInt 64 (n : Int)).toNat : Int) = _
    rw [BitVec.ofInt_natCast, BitVec.ofInt_natCast, BitVec.toNat_xor, BitVec.toNat_ofNat, BitVec.toNat_ofNat, Nat.mod_eq_of_lt (show m < 2 ^ 64 by omega), Nat.mod_eq_of_lt (show n < 2 ^ 64 by omega), IntKind.wrap_i64]
    omega
  rw [e]
  exact Int.natCast_nonneg _
/-- The bytes that draws are made of. -/
def Src (b : List Int) : Prop := (∀ x ∈ b, (Lit.int .u8 x).wf = true) ∧ b.length ≤ 2000
theorem open_tot (l : List Int) (hw : ∀ x ∈ l, (Lit.int .u8 x).wf = true) : Tot (fun _ => spec_l20Open.f l) (fun r => Src r.1 ∧ r.2 = 0) := by
  unfold spec_l20Open.f
  refine Tot.ite (fun h => ?_) (fun h => ?_)
  · refine Tot.pos (by omega) (Tot.ret ⟨⟨fun x hx => hw x (List.mem_of_mem_take hx), ?_⟩, rfl⟩)
    rw [List.length_take]; omega
  · exact Tot.ret ⟨⟨hw, by simp only; omega⟩, rfl⟩
theorem pick_tot {b : List Int} (hb : Src b) (p n : Int) (hp : 0 ≤ p) (hp' : p ≤ 1000000000) :
    Tot (fun k => spec_l20Rd_pick.f k b p n) (fun r => r.2 = p + 1 ∧ (n < 1 → r.1 = 0) ∧ (1 ≤ n → 0 ≤ r.1 ∧ r.1 < n)) := by
  have hw : wrap64 (p + 1) = p + 1 := w64 (by omega) (by omega)
  have hw1 : wrap64 (p + 1 - 1) = p := by rw [w64] <;> omega
  unfold spec_l20Rd_pick.f
  simp only [hw]
  refine Tot.ite (fun h1 => ?_) (fun h1 => ?_)
  · refine Tot.up ?_
    simp only [spec_l20Rd_pick.j0]
    exact Tot.pos (by simp) (Tot.ret ⟨rfl, fun _ => rfl, fun h => by omega⟩)
  · refine Tot.up ?_
    simp only [spec_l20Rd_pick.j0, hw1]
    refine Tot.ite (fun h2 => Tot.ret ⟨rfl, fun _ => rfl, fun h => ⟨Int.le_refl _, by omega⟩⟩) (fun h2 => ?_)
    have hl : 0 < (b.length : Int) := by
      have : ¬ ((b.length : Int) = 0) := fun h => h2 (by simp [h])
      omega
    have hl2 : (b.length : Int) ≤ 2000 := by have := hb.2; omega
    refine Tot.ite (fun h3 => ?_) (fun h3 => ?_)
    · have hr := rd_byte hb.1 p
      refine Tot.pos hp (Tot.neg (by omega) (Tot.ret ⟨rfl, fun h => absurd h h1, fun h => ?_⟩))
      rw [w64 (x := rd b p) (by omega) (by omega), tmod_nn hr.1]
      exact ⟨Int.emod_nonneg _ (by omega), Int.emod_lt_of_pos _ (by omega)⟩
    · have e7 : wrap64 (p * 7) = p * 7 := w64 (by omega) (by omega)
      have e73 : wrap64 (p * 7 + 3) = p * 7 + 3 := w64 (by omega) (by omega)
      simp only [e7, e73, tmod_nn hp, tmod_nn (show 0 ≤ p * 7 + 3 by omega), tdiv_nn hp]
      have r1 := rd_byte hb.1 (p % (b.length : Int))
      have r2 := rd_byte hb.1 ((p * 7 + 3) % (b.length : Int))
      have m1 := Int.emod_nonneg p (show (b.length : Int) ≠ 0 by omega)
      have m2 := Int.emod_lt_of_pos p hl
      have m3 := Int.emod_nonneg (p * 7 + 3) (show (b.length : Int) ≠ 0 by omega)
      have m4 := Int.emod_lt_of_pos (p * 7 + 3) hl
      have d1 : 0 ≤ p / (b.length : Int) := Int.ediv_nonneg hp (by omega)
      have d2 : p / (b.length : Int) ≤ p := Int.ediv_le_self _ hp
      refine Tot.neg (by omega) (Tot.pos m1 (Tot.pos m2 (Tot.pos m3 (Tot.pos m4 (Tot.neg (by omega) (Tot.ret ⟨rfl, fun h => absurd h h1, fun _ => ?_⟩))))))
      generalize rd b (p % (b.length : Int)) = x1 at *
      generalize rd b ((p * 7 + 3) % (b.length : Int)) = x2 at *
      generalize p / (b.length : Int) = q at *
      rw [w64 (x := x1) (by omega) (by omega), w64 (x := x2) (by omega) (by omega), w64 (x := q) (by omega) (by omega), w64 (x := x1 * 131) (by omega) (by omega), w64 (x := x2 * 1117) (by omega) (by omega), w64 (x := p * 29) (by omega) (by omega), w64 (x := q * 53) (by omega) (by omega),
        w64 (x := x1 * 131 + x2 * 1117) (by omega) (by omega), w64 (x := x1 * 131 + x2 * 1117 + p * 29) (by omega) (by omega), w64 (x := x1 * 131 + x2 * 1117 + p * 29 + q * 53) (by omega) (by omega)]
      have hs : 0 ≤ x1 * 131 + x2 * 1117 + p * 29 + q * 53 := by omega
      have hs2 : x1 * 131 + x2 * 1117 + p * 29 + q * 53 < 4611686018427387904 := by omega
      generalize x1 * 131 + x2 * 1117 + p * 29 + q * 53 = s at *
      rw [tdiv_nn hs, w64 (x := s / 64) (by omega) (by omega)]
      have hx := xor_nn hs hs2 (show 0 ≤ s / 64 by omega) (by omega)
      rw [tmod_nn hx]
      exact ⟨Int.emod_nonneg _ (by omega), Int.emod_lt_of_pos _ (by omega)⟩
theorem odd_tot {b : List Int} (hb : Src b) (p n : Int) (hp : 0 ≤ p) (hp' : p ≤ 1000000000) (hn : n ≤ 1000000000) :
    Tot (fun k => spec_l20Rd_odd.f k b p n) (fun r => p ≤ r.2 ∧ r.2 ≤ p + 1 ∧ (n < 1 → r.1 = false)) := by
  unfold spec_l20Rd_odd.f
  refine Tot.ite (fun h => ?_) (fun h => Tot.ret ⟨Int.le_refl _, by omega, fun _ => rfl⟩)
  refine Tot.bind (pick_tot hb p n hp hp') ?_
  rintro ⟨v, q⟩ ⟨hq, _, _⟩
  simp only at hq
  exact Tot.ret ⟨by simp only; omega, by simp only; omega, fun h' => by omega⟩
theorem rd_mem {xs : List Int} {i : Int} (h0 : 0 ≤ i) (h : i < (xs.length : Int)) : rd xs i ∈ xs := by
  unfold rd
  rw [List.getD_eq_getElem?_getD, List.getElem?_eq_getElem (show i.toNat < xs.length by omega)]
  exact List.getElem_mem _
theorem byte_tot {b : List Int} (hb : Src b) (p n : Int) (hp : 0 ≤ p) (hp' : p ≤ 900000000) (hn : n ≤ 1000) :
    Tot (fun k => spec_l20Byte.f k b p n) (fun r => (-1 ≤ r.1 ∧ r.1 ≤ 256) ∧ p ≤ r.2 ∧ r.2 ≤ p + 10) := by
  unfold spec_l20Byte.f
  refine Tot.bind (odd_tot hb p n hp (by omega) (by omega)) ?_
  rintro ⟨v0, q0⟩ ⟨h0, h0', _⟩
  simp only at h0 h0'
  refine Tot.ite (fun _ => ?_) (fun _ => ?_)
  · simp only [Option.bind_some]
    refine Tot.bind (pick_tot hb q0 2 (by omega) (by omega)) ?_
    rintro ⟨v, q⟩ ⟨h1, _, g1⟩
    simp only at h1 g1
    have hl : v < (([(-1), 256] : List Int).length : Int) := by simp; omega
    have hm := rd_mem (xs := [(-1), 256]) (g1 (by omega)).1 hl
    simp only [List.mem_cons, List.not_mem_nil, or_false] at hm
    exact Tot.pos (g1 (by omega)).1 (Tot.pos hl (Tot.ret ⟨by simp only; omega, by simp only; omega, by simp only; omega⟩))
  · refine Tot.bind (pick_tot hb q0 256 (by omega) (by omega)) ?_
    rintro ⟨v1, q1⟩ ⟨h1, _, g1⟩
    simp only at h1 g1
    refine Tot.bind (pick_tot hb q1 256 (by omega) (by omega)) ?_
    rintro ⟨v2, q2⟩ ⟨h2, _, g2⟩
    simp only at h2 g2
    refine Tot.bind (pick_tot hb q2 256 (by omega) (by omega)) ?_
    rintro ⟨v3, q3⟩ ⟨h3, _, g3⟩
    simp only at h3 g3
    simp only [Option.bind_some]
    refine Tot.bind (pick_tot hb q3 8 (by omega) (by omega)) ?_
    rintro ⟨v, q⟩ ⟨h4, _, g4⟩
    simp only at h4 g4
    have hl : v < (([0, 1, 127, 128, 255, v1, v2, v3] : List Int).length : Int) := by simp; omega
    have hm := rd_mem (xs := [0, 1, 127, 128, 255, v1, v2, v3]) (g4 (by omega)).1 hl
    simp only [List.mem_cons, List.not_mem_nil, or_false] at hm
    have f1 := g1 (by omega)
    have f2 := g2 (by omega)
    have f3 := g3 (by omega)
    exact Tot.pos (g4 (by omega)).1 (Tot.pos hl (Tot.ret ⟨by simp only; omega, by simp only; omega, by simp only; omega⟩))
theorem runsEnd {b : List Int} (hb : Src b) (n : Int) (hn : n ≤ 1000) (xs : List Int) (p : Int) (hp : 0 ≤ p) (hp' : p ≤ 1000000) (hl : xs.length ≤ 260) : Tot (fun k => spec_l20Runs.j2 k n xs b p) (fun r => r.1.length ≤ 300 ∧ 0 ≤ r.2 ∧ r.2 ≤ p + 20) := by
  refine Tot.up ?_
  simp only [spec_l20Runs.j2]
  refine Tot.bind (odd_tot hb p n hp (by omega) (by omega)) ?_
  rintro ⟨v0, q0⟩ ⟨h0, h0', _⟩
  simp only at h0 h0'
  refine Tot.ite (fun _ => ?_) (fun _ => Tot.ret ⟨by simp only; omega, by simp only; omega, by simp only; omega⟩)
  refine Tot.bind (byte_tot hb q0 1 (by omega) (by omega) (by omega)) ?_
  rintro ⟨v, q⟩ ⟨_, h1, h2⟩
  simp only at h1 h2
  exact Tot.pos (by omega) (Tot.ret ⟨by simp only [List.length_append, List.length_singleton]; omega, by simp only; omega, by simp only; omega⟩)
theorem runsInner {b : List Int} (n : Int) (d : Nat) (hA : ∀ (xs : List Int) (p : Int), 0 ≤ p → p + 10 * d ≤ 100000 → xs.length + 5 * d ≤ 25 → Tot (fun k => spec_l20Runs.l0 k n xs (d : Int) b p) (fun r => r.1.length ≤ 300 ∧ 0 ≤ r.2 ∧ r.2 ≤ 100100)) :
    ∀ (e : Nat) (xs : List Int) (v p : Int), 0 ≤ p → p + 10 * d ≤ 100000 → xs.length + e + 5 * d ≤ 25 → Tot (fun k => spec_l20Runs.l1 k n xs ((d + 1 : Nat) : Int) v ((e : Int) - 1) b p) (fun r => r.1.length ≤ 300 ∧ 0 ≤ r.2 ∧ r.2 ≤ 100100) := by
  intro e
  induction e with
  | zero =>
    intro xs v p hp hp' hl
    refine Tot.up ?_
    simp only [spec_l20Runs.l1, show wrap64 (((d + 1 : Nat) : Int) - 1) = (d : Int) from by rw [w64] <;> omega]
    exact Tot.neg (by omega) (hA xs p hp hp' (by omega))
  | succ e ih =>
    intro xs v p hp hp' hl
    refine Tot.up ?_
    simp only [spec_l20Runs.l1, show wrap64 (((e + 1 : Nat) : Int) - 1 - 1) = (e : Int) - 1 from by rw [w64] <;> omega]
    exact Tot.pos (by omega) (Tot.pos (by omega) (ih _ v p hp hp' (by rw [List.length_append, List.length_singleton]; omega)))
theorem runsOuter {b : List Int} (hb : Src b) (n : Int) (hn : n ≤ 1000) : ∀ (d : Nat) (xs : List Int) (p : Int), 0 ≤ p → p + 10 * d ≤ 100000 → xs.length + 5 * d ≤ 25 → Tot (fun k => spec_l20Runs.l0 k n xs (d : Int) b p) (fun r => r.1.length ≤ 300 ∧ 0 ≤ r.2 ∧ r.2 ≤ 100100) := by
  intro d
  induction d with
  | zero =>
    intro xs p hp hp' hl
    refine Tot.up ?_
    simp only [spec_l20Runs.l0]
    refine Tot.neg (by omega) ?_
    refine Tot.bind (odd_tot hb p 12 hp (by omega) (by omega)) ?_
    rintro ⟨v0, q0⟩ ⟨h0, h0', _⟩
    simp only at h0 h0'
    refine Tot.ite (fun _ => ?_) (fun _ => (runsEnd hb n hn xs q0 (by omega) (by omega) (by omega)).mono fun r hr => ⟨hr.1, hr.2.1, by have := hr.2.2; omega⟩)
    refine Tot.bind (pick_tot hb q0 9 (by omega) (by omega)) ?_
    rintro ⟨v, q⟩ ⟨h1, _, g1⟩
    simp only at h1 g1
    have f1 := g1 (by omega)
    simp only [w64 (x := 250 + v) (by omega) (by omega)]
    exact Tot.pos (by omega) (Tot.pos (by omega) ((runsEnd hb n hn _ q (by omega) (by omega) (by rw [List.length_replicate]; omega)).mono fun r hr => ⟨hr.1, hr.2.1, by have := hr.2.2; omega⟩))
  | succ d ih =>
    intro xs p hp hp' hl
    refine Tot.up ?_
    simp only [spec_l20Runs.l0]
    refine Tot.pos (by omega) ?_
    refine Tot.bind (pick_tot hb p 3 hp (by omega)) ?_
    rintro ⟨v1, q1⟩ ⟨h1, _, g1⟩
    simp only at h1 g1
    refine Tot.bind (pick_tot hb q1 5 (by omega) (by omega)) ?_
    rintro ⟨v2, q2⟩ ⟨h2, _, g2⟩
    simp only at h2 g2
    have f2 := g2 (by omega)
    obtain ⟨e, he⟩ := Int.eq_ofNat_of_zero_le f2.1
    have := runsInner (b := b) n d ih (e + 1) xs v1 q2 (by omega) (by omega) (by omega)
    rw [show (((e + 1 : Nat) : Int) - 1) = v2 by omega] at this
    exact this
theorem runs_tot {b : List Int} (hb : Src b) (p n : Int) (hp : 0 ≤ p) (hp' : p ≤ 90000) (hn : n ≤ 1000) : Tot (fun k => spec_l20Runs.f k b p n) (fun r => r.1.length ≤ 300 ∧ 0 ≤ r.2 ∧ r.2 ≤ 100100) := by
  unfold spec_l20Runs.f
  refine Tot.bind (pick_tot hb p 6 hp (by omega)) ?_
  rintro ⟨v, q⟩ ⟨h1, _, g1⟩
  simp only at h1 g1 ⊢
  have f1 := g1 (by omega)
  obtain ⟨e, rfl⟩ := Int.eq_ofNat_of_zero_le f1.1
  exact runsOuter hb n hn e [] q (by omega) (by omega) (by simp; omega)
theorem drawUnpack_tot (l : List Int) (hw : ∀ x ∈ l, (Lit.int .u8 x).wf = true) : Tot (fun k => spec_DrawUnpackRuns.f k l) (fun r => r.length ≤ 600) := by
  unfold spec_DrawUnpackRuns.f
  refine Tot.bind (open_tot l hw) ?_
  rintro ⟨b, p⟩ ⟨hb, hp⟩
  simp only at hb hp
  refine Tot.bind (runs_tot hb p 0 (by omega) (by omega) (by omega)) ?_
  rintro ⟨rs, q⟩ ⟨hr, hq0, hq1⟩
  simp only at hr hq0 hq1
  refine Tot.bind (specPack_tot rs (by omega)) fun xs hx => ?_
  have hl := packed_length hx
  refine Tot.ite (fun h => ?_) (fun h => Tot.pos (by omega) (Tot.ret (by omega)))
  refine Tot.bind (pick_tot hb q 2 hq0 (by omega)) ?_
  rintro ⟨v1, q1⟩ ⟨e1, _, g1⟩
  simp only at e1 g1
  refine Tot.ite (fun h1 => ?_) (fun h1 => Tot.ret (by omega))
  refine Tot.bind (pick_tot hb q1 (xs.length : Int) (by omega) (by omega)) ?_
  rintro ⟨v2, q2⟩ ⟨e2, _, g2⟩
  simp only at e2 g2
  refine Tot.bind (pick_tot hb q2 3 (by omega) (by omega)) ?_
  rintro ⟨v3, q3⟩ ⟨e3, _, g3⟩
  simp only at e3 g3
  refine Tot.ite (fun h2 => ?_) (fun h2 => Tot.ite (fun h3 => Tot.ret ?_) (fun h3 => Tot.ret ?_))
  · refine Tot.bind (pick_tot hb q3 5 (by omega) (by omega)) ?_
    rintro ⟨v4, q4⟩ ⟨e4, _, g4⟩
    simp only at e4 g4
    exact Tot.pos ⟨g4 (by omega), g2 (by omega)⟩ (Tot.ret (by rw [List.length_set]; omega))
  · rw [List.length_append]; simp; omega
  · rw [List.length_drop]; omega
theorem FnUnpackRuns (l0 : List Int) (_ : l0.length ≤ 9223372036854775807) (hw : ∀ y ∈ l0, (Lit.int .u8 y).wf = true) : ∃ k, laws_FnUnpackRuns.f k l0 = some true := by
  refine Tot.ex ?_
  unfold laws_FnUnpackRuns.f
  refine Tot.ite (fun _ => Tot.ret rfl) (fun _ => ?_)
  refine Tot.bind (drawUnpack_tot l0 hw) fun xs hx => ?_
  refine Tot.bind (implUnpack_tot _ (by omega)) fun g hg => ?_
  refine Tot.bind (specUnpack_tot _ (by omega)) fun w hw' => ?_
  obtain rfl := unp_one Iff.rfl hw' hg
  have hlen : w.1.length ≤ 256 := by
    by_cases z : fits 0 xs ∧ (∀ x ∈ xs, Byt x) ∧ ch xs
    · rw [hw'.1 z]
      have := fits_length xs.length xs 0 (Nat.le_refl _) (by omega) z.1
      simp only; omega
    · rw [hw'.2 z]; simp
  refine Tot.bind (sameInts_tot _ _ (by omega)) fun r1 h1 => ?_
  refine Tot.pos (h1.2 rfl) ?_
  simp only [bne_self_eq_false]
  refine Tot.up ?_
  simp only [laws_FnUnpackRuns.j0, alive_eq, Option.bind_some]
  refine Tot.neg (by simp) ?_
  by_cases z : fits 0 xs ∧ (∀ x ∈ xs, Byt x) ∧ ch xs
  · have e := hw'.1 z
    rw [e]
    have hl2 : (expand xs).length ≤ 256 := by have := hlen; rw [e] at this; exact this
    refine Tot.pos rfl (Tot.bind (implPack_tot (expand xs) (by omega)) fun r2 h2 => ?_)
    have hp := (packed_expand z.1).2 z.2
    obtain rfl := packed_one h2 hp
    exact Tot.bind (sameInts_tot _ _ (by omega)) fun r3 h3 => Tot.ret (h3.2 rfl)
  · rw [hw'.2 z]
    exact Tot.neg (by simp) (Tot.pos rfl (Tot.pos (by first | rfl | trivial) (Tot.ret rfl)))
end Go.Proofs.Ytnflmekjeehgaaa.Pure
