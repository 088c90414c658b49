/- What an argument holds, read as a value of a kind of the print's own (Kd): whole numbers, bools, strings, slices, structs, in whatever nesting. -/
import Derived.Test.YtekbnloceifdmaaWWords
import Derived.Deep.Slices
import Derived.Deep.Fields
import Derived.ChangeSame
import Derived.ChangeArms
import Derived.ChangeShapes
import Derived.WideShapes
import Derived.SliceStrings
namespace Go.Proofs.Ytekbnloceifdmaa.Open
open Go.ChangeShapes Go.WideShapes Go.RowKit Go.Deep Go.Proofs.YtekbnloceifdmaaW.PrintWords
section
variable {H : Type}

/-- Whatever reads as data of type t is a value of kind d, and p holds of it. -/
def Opens (enc : TypeId × Value → H) (P : Program) {α : Type} (d : Kd α) (t : TypeId) (p : α → Prop) : Prop :=
  P.cellsOf t = d.sz ∧ ∀ (w : World) (fuel : Nat) (cs : List Value) (x : DataW H × List MemPlace),
    DataW.trod enc P w 0 (fun _ => true) true fuel t cs = some x → ∃ a : α, d.K w a cs ∧ p a

/-- The fields from the i-th on, whose cells begin at off. -/
def OpensF (enc : TypeId × Value → H) (P : Program) (fs : Array Field) {α : Type} (i off : Nat) (d : Kd α) (p : α → Prop) : Prop :=
  ∀ (w : World) (n : Nat) (cs : List Value), cs.length = off + d.sz →
    (∀ (j : Nat) (f : Field), i ≤ j → fs[j]? = some f → ∃ y, DataW.trod enc P w 0 (fun _ => true) true n f.type ((cs.drop f.offset).take (P.cellsOf f.type)) = some y) →
    ∃ a : α, d.K w a (cs.drop off) ∧ p a

variable {enc : TypeId × Value → H} {P : Program} {α β : Type}

theorem opens_int {k : IntKind} {t : TypeId} (ht : P.underlying t = some (.int k)) (hc : P.cellsOf t = 1) : Opens enc P (Kd.int k) t (fun n => (Lit.int k n).wf = true) := by
  refine ⟨hc, fun w fuel cs x h => ?_⟩
  obtain ⟨n, rfl, _, hw⟩ := DataW.trod_int ht h
  exact ⟨n, rfl, hw⟩

theorem opens_bool {t : TypeId} (ht : P.underlying t = some .bool) (hc : P.cellsOf t = 1) : Opens enc P Kd.bool t (fun _ => True) := by
  refine ⟨hc, fun w fuel cs x h => ?_⟩
  obtain ⟨b, rfl, _⟩ := DataW.trod_bool ht h
  exact ⟨b, rfl, trivial⟩

theorem opens_string {t : TypeId} (ht : P.underlying t = some .string) (hc : P.cellsOf t = 1) : Opens enc P Kd.string t (fun s => s.size ≤ maxLen) := by
  refine ⟨hc, fun w fuel cs x h => ?_⟩
  obtain ⟨s, rfl, _, hw⟩ := DataW.trod_string ht h
  exact ⟨s, rfl, hw⟩

theorem opens_slice {t e : TypeId} {d : Kd α} {p : α → Prop} (ht : P.underlying t = some (.slice e)) (hc : P.cellsOf t = 1) (h : Opens enc P d e p) : Opens enc P (Kd.slice e d) t (fun xs => xs.length ≤ 9223372036854775807 ∧ ∀ x ∈ xs, p x) := by
  refine ⟨hc, fun w fuel cs x hx => ?_⟩
  rcases open_slice ht hx with ⟨rfl, _⟩ | ⟨a, len, cap, m, n, D, Pl, rfl, _, hl, hm, hmm, _, hi⟩
  · exact ⟨[], ⟨none, 0, rfl, Nat.le_refl _, Kd.C_nil d w⟩, by simp, fun x hx => by simp at hx⟩
  · simp only [if_true] at hmm
    subst hmm
    have each : ∀ i, i < len → ∃ b : α, p b ∧ ∃ c, c.length = d.sz ∧ d.K w b c ∧ ∀ j u, c[j]? = some u → w.cell? (a.add (i * d.sz + j)) = some u := by
      intro i him
      obtain ⟨cs', hcs, htr⟩ := hi i (by omega)
      obtain ⟨b, hb, hp⟩ := h.2 _ _ _ _ htr
      obtain ⟨_, hcl, hat⟩ := World.cells?_some hcs
      rw [h.1] at hcl hat
      refine ⟨b, hp, cs', hcl, hb, fun j u hu => ?_⟩
      have hj : j < d.sz := by have := (List.getElem?_eq_some_iff.1 hu).1; omega
      rw [← Go.Deep.add_add, hat j hj, hu]
    rcases Nat.eq_zero_or_pos len with h0 | hpos
    · subst h0
      exact ⟨[], ⟨some a, m, rfl, Nat.zero_le _, rfl, by simp, fun hp => absurd hp (by simp)⟩, by simp, fun x hx => by simp at hx⟩
    · obtain ⟨b0, _⟩ := each 0 hpos
      obtain ⟨f, hf⟩ : ∃ f : Nat → α, ∀ i, i < len → p (f i) ∧ ∃ c, c.length = d.sz ∧ d.K w (f i) c ∧ ∀ j u, c[j]? = some u → w.cell? (a.add (i * d.sz + j)) = some u := by
        classical
        refine ⟨fun i => if hi : i < len then Classical.choose (each i hi) else b0, fun i hi => ?_⟩
        simp only [hi, dif_pos]
        exact Classical.choose_spec (each i hi)
      have hlen : ((List.range len).map f).length = len := by simp
      refine ⟨(List.range len).map f, ⟨some a, m, by rw [hlen], by rw [hlen]; exact hl, ?_⟩, by rw [hlen]; unfold maxLen at hm; omega, fun x hx => ?_⟩
      · rw [hlen]
        refine ⟨hlen, by unfold maxLen at hm; omega, fun _ => ⟨a, rfl, fun j q hq => ?_⟩⟩
        rw [List.getElem?_map] at hq
        rcases Nat.lt_or_ge j len with hj | hj
        · rw [List.getElem?_range hj] at hq
          simp only [Option.map_some, Option.some.injEq] at hq
          subst hq
          exact (hf j hj).2
        · rw [List.getElem?_eq_none (by simpa using hj)] at hq
          simp at hq
      · obtain ⟨i, hi, rfl⟩ := List.mem_map.1 hx
        exact (hf i (List.mem_range.1 hi)).1

theorem opensF_last {fs : Array Field} {i off : Nat} {f : Field} {d : Kd α} {p : α → Prop} (hf : fs[i]? = some f) (ho : f.offset = off) (h : Opens enc P d f.type p) : OpensF enc P fs i off d p := by
  intro w n cs hl hy
  obtain ⟨y, hy⟩ := hy i f (Nat.le_refl _) hf
  rw [ho, h.1, List.take_of_length_le (by rw [List.length_drop]; omega)] at hy
  exact h.2 _ _ _ _ hy

theorem opensF_cons {fs : Array Field} {i off : Nat} {f : Field} {d0 : Kd α} {d : Kd β} {p0 : α → Prop} {p : β → Prop} (hf : fs[i]? = some f) (ho : f.offset = off) (h0 : Opens enc P d0 f.type p0) (h : OpensF enc P fs (i + 1) (off + d0.sz) d p) :
    OpensF enc P fs i off (Kd.pair d0 d) (fun x => p0 x.1 ∧ p x.2) := by
  intro w n cs hl hy
  obtain ⟨y, hy0⟩ := hy i f (Nat.le_refl _) hf
  rw [ho, h0.1] at hy0
  obtain ⟨a, ha, hpa⟩ := h0.2 _ _ _ _ hy0
  have hl2 : cs.length = off + d0.sz + d.sz := by rw [hl]; show off + (d0.sz + d.sz) = _; omega
  obtain ⟨b, hb, hpb⟩ := h w n cs hl2 (fun j g hj hg => hy j g (by omega) hg)
  refine ⟨(a, b), ⟨_, _, ?_, ha, hb⟩, hpa, hpb⟩
  rw [← List.drop_drop, List.take_append_drop]

theorem opens_struct {t : TypeId} {fs : Array Field} {d : Kd α} {p : α → Prop} (ht : P.underlying t = some (.struct fs)) (hc : P.cellsOf t = d.sz) (h : OpensF enc P fs 0 0 d p) : Opens enc P d t p := by
  refine ⟨hc, fun w fuel cs x hx => ?_⟩
  obtain ⟨xs, n, _, _, hcl, hxl, hg⟩ := DataW.trod_struct ht hx
  obtain ⟨a, ha, hpa⟩ := h w n cs (by omega) (fun j f _ hf => by
    have hj : j < xs.length := by rw [hxl]; exact (Array.getElem?_eq_some_iff.1 hf).1
    exact ⟨_, (hg j f hf).trans (List.getElem?_eq_getElem hj)⟩)
  exact ⟨a, ha, hpa⟩

theorem opens_iso {t : TypeId} {d : Kd α} {p : α → Prop} {q : β → Prop} (f : β → α) (g : α → β) (hfg : ∀ a, f (g a) = a) (hq : ∀ a, p a → q (g a)) (h : Opens enc P d t p) : Opens enc P (Kd.iso d f) t q := by
  refine ⟨h.1, fun w fuel cs x hx => ?_⟩
  obtain ⟨a, ha, hpa⟩ := h.2 w fuel cs x hx
  refine ⟨g a, ?_, hq a hpa⟩
  show d.K w (f (g a)) cs
  rw [hfg]
  exact ha

/-- An argument by value. -/
theorem arg {w : World} {t : TypeId} {v : Value} {x : DataW H} {ps : List MemPlace} {d : Kd α} {p : α → Prop} (h : Opens enc P d t p) (hd : DataW.Trod enc P w 0 (fun _ => true) true t v x ps) : ∃ a : α, d.K w a v.cells.toList ∧ p a := by
  obtain ⟨fuel, hf⟩ := hd
  exact h.2 _ _ _ _ hf
/-- A slice. -/
theorem arg_slice {w : World} {t e : TypeId} {A : Option Addr} {n c : Nat} {x : DataW H} {ps : List MemPlace} {d : Kd α} {p : List α → Prop} (h : Opens enc P (Kd.slice e d) t p) (hd : DataW.Trod enc P w 0 (fun _ => true) true t (.slice A n c) x ps) :
    ∃ xs : List α, n = xs.length ∧ xs.length ≤ c ∧ d.C w A xs.length xs ∧ p xs := by
  obtain ⟨xs, ⟨A', c', hcs, hl, hC⟩, hp⟩ := arg h hd
  simp only [Value.cells, List.cons.injEq, Value.slice.injEq, and_true] at hcs
  obtain ⟨rfl, rfl, rfl⟩ := hcs
  exact ⟨xs, rfl, hl, hC, hp⟩
/-- A struct by value, its cells told. -/
theorem arg_agg {v : Value} {cs : Array Value} {l : List Value} (hv : v = .agg cs) (h : v.cells.toList = l) : v = .agg l.toArray := by
  subst hv
  simp only [Value.cells] at h
  rw [← h]
end
end Go.Proofs.Ytekbnloceifdmaa.Open
