-- Written by wip/tools/print_more.py (forms of the print, over contracts of this session).
import Derived.Test.YtnflmekjeehgaaaPFnUnpackRunsx0
import Derived.Test.YtnflmekjeehgaaaPFnUnpackRunsx1
import Derived.Test.YtnflmekjeehgaaaPFnUnpackRunsx2
namespace Go.Proofs.Ytnflmekjeehgaaa.PFnUnpackRuns
open Go.RowKit Go.Proofs.YtnflmekjeehgaaaW.PrintWords Go.Proofs.YtnflmekjeehgaaaW.PrintLast Go.Proofs.YtnflmekjeehgaaaW.PrintMore
attribute [local go_sem] max2_int min2_int max_two min_two max_three min_three max_four min_four   -- for this text's walks alone
set_option linter.unusedVariables false
set_option linter.unusedSimpArgs false

/-! ### spec_DrawUnpackRuns: function 10 -/
theorem spec_DrawUnpackRuns.info3 : (Try.prog.info? 3).map (fun i => (i.zero, i.size, i.bytes)) = some (some (.int .i64 0), 1, 8) := by kernel_rfl
def spec_DrawUnpackRuns.f (k : Nat) (l0 : List Int) : Option (List Int) :=
  (spec_l20Open.f l0).bind fun s => (spec_l20Runs.f k s.1 s.2 0).bind fun r => (spec_PackRuns.f k r.1).bind fun list =>
    if 0 < list.length ∧ list.length < 1000000 then (spec_l20Rd_pick.f k s.1 r.2 2).bind fun t => if t.1 = 0 then
      (spec_l20Rd_pick.f k s.1 t.2 (list.length : Int)).bind fun q => (spec_l20Rd_pick.f k s.1 q.2 3).bind fun u =>
        if u.1 = 0 then (spec_l20Rd_pick.f k s.1 u.2 5).bind fun z => (if (0 ≤ z.1 ∧ z.1 < 5) ∧ 0 ≤ q.1 ∧ q.1 < (list.length : Int) then some (list.set q.1.toNat (rd [0, 255, 1, 256, -1] z.1)) else none)
        else if u.1 = 1 then some (list ++ [1, rd list ((list.length : Int) - 1)]) else some (list.drop 1)
      else some list
    else if list.length = 0 then some list else none
theorem spec_DrawUnpackRuns.mono : ∀ a0 k, LeO (spec_DrawUnpackRuns.f k a0) (spec_DrawUnpackRuns.f (k + 1) a0) := by
  intro a0 k
  unfold spec_DrawUnpackRuns.f
  repeat' first
    | exact LeO.refl _
    | exact spec_l20Runs.mono _ _ _ _
    | exact spec_PackRuns.mono _ _
    | exact spec_l20Rd_pick.mono _ _ _ _
    | refine LeO.ite ?_ ?_
    | refine LeO.bind ?_ (fun _ => ?_)
theorem spec_DrawUnpackRuns.below {w w1 : World} {g : Nat} {b : List Int} {p : Int} (h : IsS75 w w1 g b p) (hb : Below w.heap.size w w1) : w.heap.size ≤ g ∧ g < w1.heap.size := by
  obtain ⟨A, c, hh, hg, _⟩ := h
  exact ⟨hg, blk_lt hh⟩
theorem spec_DrawUnpackRuns.lit2 (W : World) (x y : Int) : Kd.C (Kd.int .i64) (W.alloc (.cells #[.int .i64 x, .int .i64 y] 3)) (some ⟨W.heap.size, 0, none⟩) 2 [x, y] :=
  (Kd.R_reads' (d := Kd.int .i64) (e := 3) (base := W.heap.size) (ok := fun _ => True) (xs := [x, y]) ⟨fun _ _ => trivial, [.int .i64 x, .int .i64 y], World.ownsRow_lit W #[.int .i64 x, .int .i64 y] 2 (Nat.le_refl _) (by decide) rfl, by
    have h := (Reps.none ((Kd.int .i64).M (W.alloc (.cells #[.int .i64 x, .int .i64 y] 3)) W.heap.size (fun k => True ∧ some k ≠ (Value.slice (some ⟨W.heap.size, 0, none⟩) 2 2).ownBlock)) 1).snoc (p := x) (c := [.int .i64 x]) rfl rfl
    exact h.snoc (p := y) (c := [.int .i64 y]) rfl rfl⟩).2.2
theorem spec_DrawUnpackRuns.lit5 {W w5 : World} {g : Nat} {cs : Array Value} (hk : KeepBut (W.alloc (.cells cs 3)) w5 g none) (hg : g < W.heap.size) (j : Nat) : w5.cell? ⟨W.heap.size, j, none⟩ = cs[j]? := by
  have h := hk.2 W.heap.size (by simp) (by omega) (by simp)
  rw [heap_alloc_new] at h
  exact cell_of_row w5 _ j cs 3 (0, 0) h
theorem spec_DrawUnpackRuns.five (z : Nat) (h : (z : Int) < 5) : (#[.int .i64 0, .int .i64 255, .int .i64 1, .int .i64 256, .int .i64 (-1)] : Array Value)[z]? = some (.int .i64 (rd [0, 255, 1, 256, -1] z)) := by
  have : z = 0 ∨ z = 1 ∨ z = 2 ∨ z = 3 ∨ z = 4 := by omega
  rcases this with rfl | rfl | rfl | rfl | rfl <;> rfl
theorem spec_DrawUnpackRuns.cellAt {W : World} {base g n cap : Nat} {ok : Nat → Prop} {xs : List Int} (h : Kd.R (Kd.int .i64) 3 W base ok (.slice (some ⟨g, 0, none⟩) n cap) xs) (j : Nat) (hj : j < n) : W.cell? ⟨g, j, none⟩ = some (.int .i64 (rd xs j)) ∧ W.frozen? ⟨g, j, none⟩ = false :=
  Kd.R_celln 0 h (j : Int) (by omega) (by omega)
theorem spec_DrawUnpackRuns.lastAt {W : World} {base g cap : Nat} {ok : Nat → Prop} {xs : List Int} (h : Kd.R (Kd.int .i64) 3 W base ok (.slice (some ⟨g, 0, none⟩) xs.length cap) xs) (hp : 0 < xs.length) : W.cell? ⟨g, xs.length - 1, none⟩ = some (.int .i64 (rd xs ((xs.length : Int) - 1))) := by
  have h1 := (spec_DrawUnpackRuns.cellAt h (xs.length - 1) (by omega)).1
  rwa [show ((xs.length - 1 : Nat) : Int) = (xs.length : Int) - 1 by omega] at h1
set_option maxHeartbeats 8000000 in
set_option maxRecDepth 100000 in
theorem spec_DrawUnpackRuns.calls (k : Nat) (A0 : Option Addr) (c0 : Nat) (l0 : List Int) (r : List Int) (w : World) (hr0 : Kd.C (Kd.int .u8) w A0 l0.length l0) (hc0 : l0.length ≤ c0) (h : spec_DrawUnpackRuns.f k l0 = some r) :
    Calls Try.prog 10 #[.slice A0 l0.length c0] w fun e w' => ∃ v0_ : Value, e = .returned (v0_) ∧ Kd.Q (Kd.int .i64) 3 w' w.heap.size (fun _ => True) v0_ r ∧ Below w.heap.size w w' := by
  unfold spec_DrawUnpackRuns.f at h
  obtain ⟨⟨b, p0⟩, h1, h⟩ := Option.bind_eq_some_iff.1 h
  obtain ⟨⟨rs, p1⟩, h2, h⟩ := Option.bind_eq_some_iff.1 h
  obtain ⟨list, h3, h⟩ := Option.bind_eq_some_iff.1 h
  simp only at h1 h2 h3 h
  have HR0 := Aside0.mk hr0
  have HC0 := Aside0.mk hc0
  have H1 := Aside0.mk h1
  have H2 := Aside0.mk h2
  have H3 := Aside0.mk h3
  clear hr0 hc0 h1 h2 h3
  have HH := Aside0.mk h
  clear h
  obtain h := HH.out
  clear HH
  split at h
  · rename_i hl
    obtain ⟨hl0, hl1⟩ := hl
    obtain ⟨⟨t, p2⟩, h4, h⟩ := Option.bind_eq_some_iff.1 h
    have H4 := Aside0.mk h4
    clear h4
    simp only at h H4
    split at h
    · rename_i ht
      subst ht
      obtain ⟨⟨q, p3⟩, h5, h⟩ := Option.bind_eq_some_iff.1 h
      obtain ⟨⟨u, p4⟩, h6, h⟩ := Option.bind_eq_some_iff.1 h
      have H5 := Aside0.mk h5
      have H6 := Aside0.mk h6
      clear h5 h6
      simp only at h H5 H6
      split at h
      · rename_i hu
        subst hu
        obtain ⟨⟨z, p5⟩, h7, h⟩ := Option.bind_eq_some_iff.1 h
        have H7 := Aside0.mk h7
        clear h7
        simp only at h H7
        split at h
        · rename_i hz
          obtain ⟨⟨hz0, hz1⟩, hq0, hq1⟩ := hz
          obtain ⟨zn, rfl⟩ := Int.eq_ofNat_of_zero_le hz0
          obtain ⟨qn, rfl⟩ := Int.eq_ofNat_of_zero_le hq0
          obtain rfl := Option.some.inj h
          clear h hz0 hq0
          go_enter Try.func10, Try.ntmps10
          go_wp2_with (first
    | (go_at_call 37; refine (spec_l20Open.calls A0 c0 l0 b p0 w w (Below.refl _ _) HR0.out HC0.out H1.out).mono ?_; rintro e w1 ⟨g, rfl, hI, hB, hB'⟩; have HI := Aside0.mk hI; have HB := Aside0.mk hB; clear hI hB hB')
    | (go_at_call 39; refine (spec_l20Runs.calls k g b p0 0 rs p1 w w1 HI.out HB.out H2.out).mono ?_; rintro e w2 ⟨v, rfl, hR, hI, hB, hK⟩; obtain ⟨A1, c1, rfl, hc1, hC1⟩ := Kd.R_reads hR; have n1 := Aside0.mk hI; have n2 := Aside0.mk hB; clear HI HB; have HI := n1; have HB := n2; have HC1 := Aside0.mk hC1; have HC2 := Aside0.mk hc1; clear n1 n2 hI hB hR hK hc1 hC1)
    | (go_at_call 38; refine (spec_PackRuns.calls k A1 c1 rs list w2 HC1.out HC2.out H3.out).mono ?_; rintro e w3 ⟨v, rfl, hR, hB⟩; obtain ⟨g2, c2, rfl, hbg2, hlg2, cl2, hcl2⟩ := Kd.R_form hR hl0; have hc2 := (Kd.R_reads' hR).2.1; have GB2 := Aside0.mk (Nat.le_trans HB.out.size hbg2); have n0 := Aside0.mk (Kd.R_lower (Kd.R_mono (ok' := fun k_ => k_ ≠ g) (Kd.R_bound hR) (fun k_ hk => by have h1 := hk.2.1; have h2 := (spec_DrawUnpackRuns.below HI.out HB.out).2; omega)) HB.out.size); have n1 := Aside0.mk (IsS75.below HI.out hB); have n2 := Aside0.mk (below_then HB.out HB.out.size hB); clear HI HB; have HR := n0; have HI := n1; have HB := n2; clear n0 n1 n2 hR hB hbg2 hcl2)
    | (go_at_call 40; (with_reducible refine (spec_l20Rd_pick.calls k g b _ 2 _ _ w _ (by first | exact HI.out | exact IsS75.alloc HI.out _) (by first | exact HB.out | exact below_alloc HB.out _) H4.out).mono ?_); rintro e w4 ⟨rfl, hI, hB, hK⟩; have n0 := Aside0.mk (Kd.R_keep (show Kd.R (Kd.int .i64) 3 _ w.heap.size (fun k_ => k_ ≠ g) (.slice (some ⟨g2, 0, none⟩) list.length c2) list from (by first | exact HR.out | exact Kd.R_alloc HR.out _)) hK (fun _ hk => hk)); have n1 := Aside0.mk hI; have n2 := Aside0.mk hB; have HK := Aside0.mk hK; clear HI HB HR; have HR := n0; have HI := n1; have HB := n2; clear n0 n1 n2 hI hB hK)
    | (go_at_call 40; (with_reducible refine (spec_l20Rd_pick.calls k g b _ (list.length : Int) _ _ w _ (by first | exact HI.out | exact IsS75.alloc HI.out _) (by first | exact HB.out | exact below_alloc HB.out _) H5.out).mono ?_); rintro e w4 ⟨rfl, hI, hB, hK⟩; have n0 := Aside0.mk (Kd.R_keep (show Kd.R (Kd.int .i64) 3 _ w.heap.size (fun k_ => k_ ≠ g) (.slice (some ⟨g2, 0, none⟩) list.length c2) list from (by first | exact HR.out | exact Kd.R_alloc HR.out _)) hK (fun _ hk => hk)); have n1 := Aside0.mk hI; have n2 := Aside0.mk hB; have HK := Aside0.mk hK; clear HI HB HR; have HR := n0; have HI := n1; have HB := n2; clear n0 n1 n2 hI hB hK)
    | (go_at_call 40; (with_reducible refine (spec_l20Rd_pick.calls k g b _ 3 _ _ w _ (by first | exact HI.out | exact IsS75.alloc HI.out _) (by first | exact HB.out | exact below_alloc HB.out _) H6.out).mono ?_); rintro e w4 ⟨rfl, hI, hB, hK⟩; have n0 := Aside0.mk (Kd.R_keep (show Kd.R (Kd.int .i64) 3 _ w.heap.size (fun k_ => k_ ≠ g) (.slice (some ⟨g2, 0, none⟩) list.length c2) list from (by first | exact HR.out | exact Kd.R_alloc HR.out _)) hK (fun _ hk => hk)); have n1 := Aside0.mk hI; have n2 := Aside0.mk hB; have HK := Aside0.mk hK; clear HI HB HR; have HR := n0; have HI := n1; have HB := n2; clear n0 n1 n2 hI hB hK)
    | (go_at_call 40; (with_reducible refine (spec_l20Rd_pick.calls k g b _ 5 _ _ w _ (by first | exact HI.out | exact IsS75.alloc HI.out _) (by first | exact HB.out | exact below_alloc HB.out _) H7.out).mono ?_); have hgl := (spec_DrawUnpackRuns.below HI.out HB.out).2; rintro e w4 ⟨rfl, hI, hB, hK⟩; have hlit := (spec_DrawUnpackRuns.lit5 hK hgl zn).trans (spec_DrawUnpackRuns.five zn hz1); clear hgl; have n0 := Aside0.mk (Kd.R_keep (show Kd.R (Kd.int .i64) 3 _ w.heap.size (fun k_ => k_ ≠ g) (.slice (some ⟨g2, 0, none⟩) list.length c2) list from (by first | exact HR.out | exact Kd.R_alloc HR.out _)) hK (fun _ hk => hk)); have n1 := Aside0.mk hI; have n2 := Aside0.mk hB; have HK := Aside0.mk hK; obtain ⟨hx, hf⟩ := spec_DrawUnpackRuns.cellAt n0.out qn (by omega); clear HI HB HR; have HR := n0; have HI := n1; have HB := n2; clear n0 n1 n2 hI hB hK))
          go_ret
          exact ⟨_, rfl, Kd.Q_of_R (Kd.R_mono (Kd.R_putn HR.out (qn : Int) _) (fun _ _ => trivial)), below_set HB.out GB2.out⟩
        · cases h
      · split at h
        · rename_i hu0 hu
          subst hu
          clear hu0
          obtain rfl := Option.some.inj h
          clear h
          go_enter Try.func10, Try.ntmps10
          go_wp2_with (first
    | (go_at_call 37; refine (spec_l20Open.calls A0 c0 l0 b p0 w w (Below.refl _ _) HR0.out HC0.out H1.out).mono ?_; rintro e w1 ⟨g, rfl, hI, hB, hB'⟩; have HI := Aside0.mk hI; have HB := Aside0.mk hB; clear hI hB hB')
    | (go_at_call 39; refine (spec_l20Runs.calls k g b p0 0 rs p1 w w1 HI.out HB.out H2.out).mono ?_; rintro e w2 ⟨v, rfl, hR, hI, hB, hK⟩; obtain ⟨A1, c1, rfl, hc1, hC1⟩ := Kd.R_reads hR; have n1 := Aside0.mk hI; have n2 := Aside0.mk hB; clear HI HB; have HI := n1; have HB := n2; have HC1 := Aside0.mk hC1; have HC2 := Aside0.mk hc1; clear n1 n2 hI hB hR hK hc1 hC1)
    | (go_at_call 38; refine (spec_PackRuns.calls k A1 c1 rs list w2 HC1.out HC2.out H3.out).mono ?_; rintro e w3 ⟨v, rfl, hR, hB⟩; obtain ⟨g2, c2, rfl, hbg2, hlg2, cl2, hcl2⟩ := Kd.R_form hR hl0; have hc2 := (Kd.R_reads' hR).2.1; have GB2 := Aside0.mk (Nat.le_trans HB.out.size hbg2); have n0 := Aside0.mk (Kd.R_lower (Kd.R_mono (ok' := fun k_ => k_ ≠ g) (Kd.R_bound hR) (fun k_ hk => by have h1 := hk.2.1; have h2 := (spec_DrawUnpackRuns.below HI.out HB.out).2; omega)) HB.out.size); have n1 := Aside0.mk (IsS75.below HI.out hB); have n2 := Aside0.mk (below_then HB.out HB.out.size hB); clear HI HB; have HR := n0; have HI := n1; have HB := n2; clear n0 n1 n2 hR hB hbg2 hcl2)
    | (go_at_call 40; (with_reducible refine (spec_l20Rd_pick.calls k g b _ 2 _ _ w _ (by first | exact HI.out | exact IsS75.alloc HI.out _) (by first | exact HB.out | exact below_alloc HB.out _) H4.out).mono ?_); rintro e w4 ⟨rfl, hI, hB, hK⟩; have n0 := Aside0.mk (Kd.R_keep (show Kd.R (Kd.int .i64) 3 _ w.heap.size (fun k_ => k_ ≠ g) (.slice (some ⟨g2, 0, none⟩) list.length c2) list from (by first | exact HR.out | exact Kd.R_alloc HR.out _)) hK (fun _ hk => hk)); have n1 := Aside0.mk hI; have n2 := Aside0.mk hB; have HK := Aside0.mk hK; clear HI HB HR; have HR := n0; have HI := n1; have HB := n2; clear n0 n1 n2 hI hB hK)
    | (go_at_call 40; (with_reducible refine (spec_l20Rd_pick.calls k g b _ (list.length : Int) _ _ w _ (by first | exact HI.out | exact IsS75.alloc HI.out _) (by first | exact HB.out | exact below_alloc HB.out _) H5.out).mono ?_); rintro e w4 ⟨rfl, hI, hB, hK⟩; have n0 := Aside0.mk (Kd.R_keep (show Kd.R (Kd.int .i64) 3 _ w.heap.size (fun k_ => k_ ≠ g) (.slice (some ⟨g2, 0, none⟩) list.length c2) list from (by first | exact HR.out | exact Kd.R_alloc HR.out _)) hK (fun _ hk => hk)); have n1 := Aside0.mk hI; have n2 := Aside0.mk hB; have HK := Aside0.mk hK; clear HI HB HR; have HR := n0; have HI := n1; have HB := n2; clear n0 n1 n2 hI hB hK)
    | (go_at_call 40; (with_reducible refine (spec_l20Rd_pick.calls k g b _ 3 _ _ w _ (by first | exact HI.out | exact IsS75.alloc HI.out _) (by first | exact HB.out | exact below_alloc HB.out _) H6.out).mono ?_); rintro e w4 ⟨rfl, hI, hB, hK⟩; have n0 := Aside0.mk (Kd.R_keep (show Kd.R (Kd.int .i64) 3 _ w.heap.size (fun k_ => k_ ≠ g) (.slice (some ⟨g2, 0, none⟩) list.length c2) list from (by first | exact HR.out | exact Kd.R_alloc HR.out _)) hK (fun _ hk => hk)); have n1 := Aside0.mk hI; have n2 := Aside0.mk hB; have HK := Aside0.mk hK; have hx := spec_DrawUnpackRuns.lastAt n0.out hl0; have hgl := Aside0.mk (spec_DrawUnpackRuns.below n1.out n2.out).2; clear HI HB HR; have HR := n0; have HI := n1; have HB := n2; clear n0 n1 n2 hI hB hK)
    | (at_builtin; refine Kd.R_append_rows (Kd.int .i64) (w0 := w) (Rr := (Kd.int .i64).K w) w.heap.size rfl (.tmp 39) (.tmp 46) 23 3 (.int .i64 0) 8 rfl Try.underlying23 spec_DrawUnpackRuns.info3 rfl (by decide) (by omega) (.slice (some ⟨g2, 0, none⟩) list.length c2) list [1, rd list ((list.length : Int) - 1)] (some ⟨w4.heap.size, 0, none⟩) 2 2 (fun k_ => k_ ≠ g) (fun _ => False) rfl rfl ?c1 ?c2 (fun _ _ h => h) (fun _ h => h.elim) ?c3 ?c4 ?c5 ?c6 ?_; rotate_right; (intro v1 w5 hr hb hg hat; have HR5 := Aside0.mk hr; have HB5 := Aside0.mk hb; clear hr hb hg hat); rotate_left))
          case c1 => exact Kd.R_alloc HR.out _
          case c2 => exact spec_DrawUnpackRuns.lit2 w4 1 _
          case c3 => exact fun k_ hk => by have := hgl.out; rw [World.size_alloc] at hk; omega
          case c4 => exact below_alloc HB.out _
          case c5 => rw [World.size_alloc]; have := HB.out.size; omega
          case c6 => omega
          go_ret
          exact ⟨_, rfl, Kd.Q_of_R (Kd.R_mono HR5.out (fun _ _ => trivial)), HB5.out⟩
        · rename_i hu0 hu1
          obtain rfl := Option.some.inj h
          clear h
          have hb0 : (u == 0) = false := by rw [beq_eq_false_iff_ne]; exact hu0
          have hb1 : (u == 1) = false := by rw [beq_eq_false_iff_ne]; exact hu1
          clear hu0 hu1
          go_enter Try.func10, Try.ntmps10
          go_wp2_with (first
    | (go_at_call 37; refine (spec_l20Open.calls A0 c0 l0 b p0 w w (Below.refl _ _) HR0.out HC0.out H1.out).mono ?_; rintro e w1 ⟨g, rfl, hI, hB, hB'⟩; have HI := Aside0.mk hI; have HB := Aside0.mk hB; clear hI hB hB')
    | (go_at_call 39; refine (spec_l20Runs.calls k g b p0 0 rs p1 w w1 HI.out HB.out H2.out).mono ?_; rintro e w2 ⟨v, rfl, hR, hI, hB, hK⟩; obtain ⟨A1, c1, rfl, hc1, hC1⟩ := Kd.R_reads hR; have n1 := Aside0.mk hI; have n2 := Aside0.mk hB; clear HI HB; have HI := n1; have HB := n2; have HC1 := Aside0.mk hC1; have HC2 := Aside0.mk hc1; clear n1 n2 hI hB hR hK hc1 hC1)
    | (go_at_call 38; refine (spec_PackRuns.calls k A1 c1 rs list w2 HC1.out HC2.out H3.out).mono ?_; rintro e w3 ⟨v, rfl, hR, hB⟩; obtain ⟨g2, c2, rfl, hbg2, hlg2, cl2, hcl2⟩ := Kd.R_form hR hl0; have hc2 := (Kd.R_reads' hR).2.1; have GB2 := Aside0.mk (Nat.le_trans HB.out.size hbg2); have n0 := Aside0.mk (Kd.R_lower (Kd.R_mono (ok' := fun k_ => k_ ≠ g) (Kd.R_bound hR) (fun k_ hk => by have h1 := hk.2.1; have h2 := (spec_DrawUnpackRuns.below HI.out HB.out).2; omega)) HB.out.size); have n1 := Aside0.mk (IsS75.below HI.out hB); have n2 := Aside0.mk (below_then HB.out HB.out.size hB); clear HI HB; have HR := n0; have HI := n1; have HB := n2; clear n0 n1 n2 hR hB hbg2 hcl2)
    | (go_at_call 40; (with_reducible refine (spec_l20Rd_pick.calls k g b _ 2 _ _ w _ (by first | exact HI.out | exact IsS75.alloc HI.out _) (by first | exact HB.out | exact below_alloc HB.out _) H4.out).mono ?_); rintro e w4 ⟨rfl, hI, hB, hK⟩; have n0 := Aside0.mk (Kd.R_keep (show Kd.R (Kd.int .i64) 3 _ w.heap.size (fun k_ => k_ ≠ g) (.slice (some ⟨g2, 0, none⟩) list.length c2) list from (by first | exact HR.out | exact Kd.R_alloc HR.out _)) hK (fun _ hk => hk)); have n1 := Aside0.mk hI; have n2 := Aside0.mk hB; have HK := Aside0.mk hK; clear HI HB HR; have HR := n0; have HI := n1; have HB := n2; clear n0 n1 n2 hI hB hK)
    | (go_at_call 40; (with_reducible refine (spec_l20Rd_pick.calls k g b _ (list.length : Int) _ _ w _ (by first | exact HI.out | exact IsS75.alloc HI.out _) (by first | exact HB.out | exact below_alloc HB.out _) H5.out).mono ?_); rintro e w4 ⟨rfl, hI, hB, hK⟩; have n0 := Aside0.mk (Kd.R_keep (show Kd.R (Kd.int .i64) 3 _ w.heap.size (fun k_ => k_ ≠ g) (.slice (some ⟨g2, 0, none⟩) list.length c2) list from (by first | exact HR.out | exact Kd.R_alloc HR.out _)) hK (fun _ hk => hk)); have n1 := Aside0.mk hI; have n2 := Aside0.mk hB; have HK := Aside0.mk hK; clear HI HB HR; have HR := n0; have HI := n1; have HB := n2; clear n0 n1 n2 hI hB hK)
    | (go_at_call 40; (with_reducible refine (spec_l20Rd_pick.calls k g b _ 3 _ _ w _ (by first | exact HI.out | exact IsS75.alloc HI.out _) (by first | exact HB.out | exact below_alloc HB.out _) H6.out).mono ?_); rintro e w4 ⟨rfl, hI, hB, hK⟩; have n0 := Aside0.mk (Kd.R_keep (show Kd.R (Kd.int .i64) 3 _ w.heap.size (fun k_ => k_ ≠ g) (.slice (some ⟨g2, 0, none⟩) list.length c2) list from (by first | exact HR.out | exact Kd.R_alloc HR.out _)) hK (fun _ hk => hk)); have n1 := Aside0.mk hI; have n2 := Aside0.mk hB; have HK := Aside0.mk hK; clear HI HB HR; have HR := n0; have HI := n1; have HB := n2; clear n0 n1 n2 hI hB hK))
          all_goals
            go_ret
            refine ⟨_, rfl, ?_, HB.out⟩
            have hq := Kd.Q_drop (k := 1) (Kd.Q_of_R (Kd.R_mono HR.out (fun _ _ => trivial) (ok' := fun _ => True))) (by omega)
            rw [List.drop_one] at hq
            split at hq <;> first | (exfalso; omega) | exact hq | (have e1 : c2 - 1 = 0 := (by omega); rw [e1] at hq; exact hq)
    · rename_i ht
      have hb0 : (t == 0) = false := by rw [beq_eq_false_iff_ne]; exact ht
      clear ht
      obtain rfl := Option.some.inj h
      clear h
      go_enter Try.func10, Try.ntmps10
      go_wp2_with (first
    | (go_at_call 37; refine (spec_l20Open.calls A0 c0 l0 b p0 w w (Below.refl _ _) HR0.out HC0.out H1.out).mono ?_; rintro e w1 ⟨g, rfl, hI, hB, hB'⟩; have HI := Aside0.mk hI; have HB := Aside0.mk hB; clear hI hB hB')
    | (go_at_call 39; refine (spec_l20Runs.calls k g b p0 0 rs p1 w w1 HI.out HB.out H2.out).mono ?_; rintro e w2 ⟨v, rfl, hR, hI, hB, hK⟩; obtain ⟨A1, c1, rfl, hc1, hC1⟩ := Kd.R_reads hR; have n1 := Aside0.mk hI; have n2 := Aside0.mk hB; clear HI HB; have HI := n1; have HB := n2; have HC1 := Aside0.mk hC1; have HC2 := Aside0.mk hc1; clear n1 n2 hI hB hR hK hc1 hC1)
    | (go_at_call 38; refine (spec_PackRuns.calls k A1 c1 rs list w2 HC1.out HC2.out H3.out).mono ?_; rintro e w3 ⟨v, rfl, hR, hB⟩; obtain ⟨g2, c2, rfl, hbg2, hlg2, cl2, hcl2⟩ := Kd.R_form hR hl0; have hc2 := (Kd.R_reads' hR).2.1; have GB2 := Aside0.mk (Nat.le_trans HB.out.size hbg2); have n0 := Aside0.mk (Kd.R_lower (Kd.R_mono (ok' := fun k_ => k_ ≠ g) (Kd.R_bound hR) (fun k_ hk => by have h1 := hk.2.1; have h2 := (spec_DrawUnpackRuns.below HI.out HB.out).2; omega)) HB.out.size); have n1 := Aside0.mk (IsS75.below HI.out hB); have n2 := Aside0.mk (below_then HB.out HB.out.size hB); clear HI HB; have HR := n0; have HI := n1; have HB := n2; clear n0 n1 n2 hR hB hbg2 hcl2)
    | (go_at_call 40; (with_reducible refine (spec_l20Rd_pick.calls k g b _ 2 _ _ w _ (by first | exact HI.out | exact IsS75.alloc HI.out _) (by first | exact HB.out | exact below_alloc HB.out _) H4.out).mono ?_); rintro e w4 ⟨rfl, hI, hB, hK⟩; have n0 := Aside0.mk (Kd.R_keep (show Kd.R (Kd.int .i64) 3 _ w.heap.size (fun k_ => k_ ≠ g) (.slice (some ⟨g2, 0, none⟩) list.length c2) list from (by first | exact HR.out | exact Kd.R_alloc HR.out _)) hK (fun _ hk => hk)); have n1 := Aside0.mk hI; have n2 := Aside0.mk hB; have HK := Aside0.mk hK; clear HI HB HR; have HR := n0; have HI := n1; have HB := n2; clear n0 n1 n2 hI hB hK))
      go_ret
      exact ⟨_, rfl, Kd.Q_of_R (Kd.R_mono HR.out (fun _ _ => trivial)), HB.out⟩
  · split at h
    · rename_i h0
      obtain rfl := Option.some.inj h
      clear h
      have hle : (list.length : Int) ≤ 0 := by omega
      clear h0
      go_enter Try.func10, Try.ntmps10
      go_wp2_with (first
    | (go_at_call 37; refine (spec_l20Open.calls A0 c0 l0 b p0 w w (Below.refl _ _) HR0.out HC0.out H1.out).mono ?_; rintro e w1 ⟨g, rfl, hI, hB, hB'⟩; have HI := Aside0.mk hI; have HB := Aside0.mk hB; clear hI hB hB')
    | (go_at_call 39; refine (spec_l20Runs.calls k g b p0 0 rs p1 w w1 HI.out HB.out H2.out).mono ?_; rintro e w2 ⟨v, rfl, hR, hI, hB, hK⟩; obtain ⟨A1, c1, rfl, hc1, hC1⟩ := Kd.R_reads hR; have n1 := Aside0.mk hI; have n2 := Aside0.mk hB; clear HI HB; have HI := n1; have HB := n2; have HC1 := Aside0.mk hC1; have HC2 := Aside0.mk hc1; clear n1 n2 hI hB hR hK hc1 hC1)
    | (go_at_call 38; refine (spec_PackRuns.calls k A1 c1 rs list w2 HC1.out HC2.out H3.out).mono ?_; rintro e w3 ⟨v, rfl, hR, hB⟩; obtain ⟨A2, c2, rfl⟩ := Kd.R_slice hR; have n0 := Aside0.mk (Kd.R_lower (Kd.R_mono (ok' := fun k_ => k_ ≠ g) (Kd.R_bound hR) (fun k_ hk => by have h1 := hk.2.1; have h2 := (spec_DrawUnpackRuns.below HI.out HB.out).2; omega)) HB.out.size); have n1 := Aside0.mk (IsS75.below HI.out hB); have n2 := Aside0.mk (below_then HB.out HB.out.size hB); clear HI HB; have HR := n0; have HI := n1; have HB := n2; clear n0 n1 n2 hR hB))
      go_ret
      exact ⟨_, rfl, Kd.Q_of_R (Kd.R_mono HR.out (fun _ _ => trivial)), HB.out⟩
    · cases h

/-! ### impl_within: function 41 -/
def impl_within.f (a0 : Int) (a1 : Int) (a2 : Int) : Option (Bool) := if a0 ≥ a1 then (some (decide (a0 ≤ a2))) else (some false)
set_option maxHeartbeats 8000000 in
set_option maxRecDepth 100000 in
theorem impl_within.calls (a0 : Int) (a1 : Int) (a2 : Int) (r : Bool) (w : World) (h : impl_within.f a0 a1 a2 = some r) :
    Calls Try.prog 41 #[.int .i64 a0, .int .i64 a1, .int .i64 a2] w fun e w' => e = .returned (.bool r) ∧ Drawn0 w w' := by
  have H : (if a0 ≥ a1 then (some (decide (a0 ≤ a2))) else (some false)) = some r := h
  clear h
  by_cases c4 : a0 ≥ a1
  · rw [if_pos c4] at H
    have c4b0 : decide (a1 ≤ a0) = true := decide_eq_true c4
    clear c4
    obtain rfl := Option.some.inj H
    go_enter Try.func41, Try.ntmps41
    go_wp2
    go_ret
    exact ⟨by first | rfl | (simp; done) | (simp [*]; done), by repeat (first | exact Drawn0.refl _ | apply Drawn0.step)⟩
  · rw [if_neg c4] at H
    have c4b0 : decide (a1 ≤ a0) = false := decide_eq_false c4
    clear c4
    obtain rfl := Option.some.inj H
    go_enter Try.func41, Try.ntmps41
    go_wp2
    go_ret
    exact ⟨by first | rfl | (simp; done) | (simp [*]; done), by repeat (first | exact Drawn0.refl _ | apply Drawn0.step)⟩

/-! ### impl_isByte: function 67 -/
def impl_isByte.f (a0 : Int) : Option (Bool) := (impl_within.f a0 0 255).bind fun t185 => (some t185)
set_option maxHeartbeats 8000000 in
set_option maxRecDepth 100000 in
theorem impl_isByte.calls (a0 : Int) (r : Bool) (w : World) (h : impl_isByte.f a0 = some r) :
    Calls Try.prog 67 #[.int .i64 a0] w fun e w' => e = .returned (.bool r) ∧ Drawn0 w w' := by
  have H : ((impl_within.f a0 0 255).bind fun t185 => (some t185)) = some r := h
  clear h
  replace H := Option.bind_eq_some_iff.mp H
  obtain ⟨t185, A20, H⟩ := H
  replace H : (some t185) = some r := H
  have A2 := Aside0.mk A20
  clear A20
  obtain rfl := Option.some.inj H
  go_enter Try.func67, Try.ntmps67
  go_wp2_with (first | ((with_reducible refine gate_callee (f := 41) rfl ?_); refine goesL_ (some 4) rfl rfl Try.func41 (by kernel_rfl) rfl #[.int .i64 a0, .int .i64 0, .int .i64 255] rfl (by (try simp only [List.map_toArray, List.map_cons, List.map_nil]); first | done | rfl | (simp only [List.length_drop, List.length_take]; rfl)) ?_; (with_reducible refine (impl_within.calls a0 0 255 t185 _ A2.out).mono ?_); rintro e w' ⟨rfl, ⟨nd, rfl⟩⟩; refine ⟨_, rfl, ?_⟩))
  go_ret
  exact ⟨by first | rfl | (simp; done) | (simp [*]; done), by repeat (first | exact Drawn0.refl _ | apply Drawn0.step)⟩

/-! ### impl_allBytes: function 45 -/
def impl_allBytes.l0 : Nat → List Int → Int → Int → Option (Bool)
  | 0, _, _, _ => none
  | k + 1, x5, x6, x7 => if x7 < x6 then (if 0 ≤ x7 then (if x7 < (x5.length : Int) then ((impl_isByte.f (rd x5 x7)).bind fun t187 => (if t187 = true then (impl_allBytes.l0 k x5 x6 (wrap64 (x7 + 1))) else (some false))) else (none)) else (none)) else (some true)
def impl_allBytes.f (k : Nat) (l0 : List Int) : Option (Bool) := impl_allBytes.l0 k l0 (l0.length : Int) 0
theorem impl_allBytes.mono_l : ∀ k, (∀ y0 y1 y2, LeO (impl_allBytes.l0 k y0 y1 y2) (impl_allBytes.l0 (k + 1) y0 y1 y2))
  | 0 => fun _ _ _ r h => by simp [impl_allBytes.l0] at h
  | k + 1 => by
    have ih0 := impl_allBytes.mono_l k
    · intro y0 y1 y2
      unfold impl_allBytes.l0
      repeat' first
      | (with_reducible exact ih0 _ _ _)
      | (with_reducible exact LeO.refl _)
      | (with_reducible exact LeO.none _)
      | (with_reducible refine LeO.ite ?_ ?_)
      | (with_reducible refine LeO.bind ?_ (fun _ => ?_))
      | exact ih0 _ _ _
      | exact LeO.none _
      | refine LeO.ite ?_ ?_
      | refine LeO.bind ?_ (fun _ => ?_)
theorem impl_allBytes.mono : ∀ a0 k, LeO (impl_allBytes.f k a0) (impl_allBytes.f (k + 1) a0) := by
  intro a0 k
  have ih0 := impl_allBytes.mono_l k
  unfold impl_allBytes.f
  repeat' first
      | (with_reducible exact ih0 _ _ _)
      | (with_reducible exact LeO.refl _)
      | (with_reducible exact LeO.none _)
      | (with_reducible refine LeO.ite ?_ ?_)
      | (with_reducible refine LeO.bind ?_ (fun _ => ?_))
      | exact ih0 _ _ _
      | exact LeO.none _
      | refine LeO.ite ?_ ?_
      | refine LeO.bind ?_ (fun _ => ?_)
set_option maxHeartbeats 8000000 in
set_option maxRecDepth 100000 in
theorem impl_allBytes.calls (k : Nat) (A0 : Option Addr) (c0 : Nat) (l0 : List Int) (r : Bool) (w : World) (hr0 : Kd.C (Kd.int .i64) w A0 l0.length l0) (hc0 : l0.length ≤ c0) (h : impl_allBytes.f k l0 = some r) :
    Calls Try.prog 45 #[.slice A0 l0.length c0] w fun e w' => e = .returned (.bool r) ∧ Drawn0 w w' := by
  have HR0 := Aside0.mk hr0
  have HC0 := Aside0.mk hc0
  clear hr0 hc0
  have H : (impl_allBytes.l0 k l0 (l0.length : Int) 0) = some r := h
  clear h
  have H' := Aside0.mk H
  clear H
  go_enter Try.func45, Try.ntmps45
  go_wp2
  go_loopg [7] k (fun kq v7 w' => ∃ (x7_1 : Int), v7 = .int .i64 x7_1 ∧ Aside0 (impl_allBytes.l0 kq l0 (l0.length : Int) x7_1 = some r) ∧ Aside0 (kq ≤ k) ∧ Drawn0 w w')
  case atStart => exact ⟨(0), (by first | rfl | (simp; done) | (simp [*]; done)), H', ⟨Nat.le_refl _⟩, by repeat (first | exact Drawn0.refl _ | apply Drawn0.step)⟩
  case round =>
    clear H'
    obtain ⟨x7_1, rfl, HA, HK1, ⟨m1, rfl⟩⟩ := hrel
    cases gk with
    | zero => exact absurd HA.out (by simp [impl_allBytes.l0])
    | succ k1 =>
      have H := HA.out
      clear HA
      simp only [impl_allBytes.l0] at H
      by_cases c2 : x7_1 < (l0.length : Int)
      · rw [if_pos c2] at H
        have c2b0 : decide (x7_1 < (l0.length : Int)) = true := decide_eq_true c2
        clear c2
        by_cases c3 : 0 ≤ x7_1
        · rw [if_pos c3] at H
          have c3b0 : decide (0 ≤ x7_1) = true := decide_eq_true c3
          clear c3
          by_cases c4 : x7_1 < (l0.length : Int)
          · rw [if_pos c4] at H
            have c4b0 : decide (x7_1 < (l0.length : Int)) = true := decide_eq_true c4
            clear c4
            replace H := Option.bind_eq_some_iff.mp H
            obtain ⟨t187, A50, H⟩ := H
            replace H : (if t187 = true then (impl_allBytes.l0 k1 l0 (l0.length : Int) (wrap64 (x7_1 + 1))) else (some false)) = some r := H
            have A5 := Aside0.mk A50
            clear A50
            by_cases c6 : t187 = true
            · subst c6
              have H1 : (impl_allBytes.l0 k1 l0 (l0.length : Int) (wrap64 (x7_1 + 1))) = some r := by rw [if_pos rfl] at H; exact H
              clear H
              have H := H1
              clear H1
              have H' := Aside0.mk H
              clear H
              have p186 : 0 ≤ (x7_1 : Int) := of_decide_eq_true (by first | (with_reducible assumption) | assumption)
              have q186 : x7_1 < (l0.length : Int) := of_decide_eq_true (by first | (with_reducible assumption) | assumption)
              obtain ⟨ad186, e186, hx186_0⟩ := Kd.at_int HR0.out x7_1 p186 q186
              cases e186
              replace p186 := eq_true p186
              replace q186 := eq_true q186
              go_wp2_with (first | ((with_reducible refine gate_callee (f := 67) rfl ?_); refine goesL_ (some 12) rfl rfl Try.func67 (by kernel_rfl) rfl #[.int .i64 (rd l0 x7_1)] rfl (by (try simp only [List.map_toArray, List.map_cons, List.map_nil]); first | done | rfl | (simp only [List.length_drop, List.length_take]; rfl)) ?_; (with_reducible refine (impl_isByte.calls (rd l0 x7_1) true _ A5.out).mono ?_); rintro e w' ⟨rfl, ⟨nd, rfl⟩⟩; refine ⟨_, rfl, ?_⟩))
              go_roundg k1
              case measure => have := HK1.out; omega
              case rel => exact ⟨(wrap64 (x7_1 + 1)), (by first | rfl | (simp; done) | (simp [*]; done)), H', ⟨by have := HK1.out; omega⟩, by repeat (first | exact Drawn0.refl _ | apply Drawn0.step)⟩
            · replace c6 := Bool.eq_false_iff.mpr c6
              subst c6
              have H1 : (some false) = some r := by rw [if_neg (show ¬ (false = true) by decide)] at H; exact H
              clear H
              have H := H1
              clear H1
              obtain rfl := Option.some.inj H
              have p186 : 0 ≤ (x7_1 : Int) := of_decide_eq_true (by first | (with_reducible assumption) | assumption)
              have q186 : x7_1 < (l0.length : Int) := of_decide_eq_true (by first | (with_reducible assumption) | assumption)
              obtain ⟨ad186, e186, hx186_0⟩ := Kd.at_int HR0.out x7_1 p186 q186
              cases e186
              replace p186 := eq_true p186
              replace q186 := eq_true q186
              go_wp2_with (first | ((with_reducible refine gate_callee (f := 67) rfl ?_); refine goesL_ (some 12) rfl rfl Try.func67 (by kernel_rfl) rfl #[.int .i64 (rd l0 x7_1)] rfl (by (try simp only [List.map_toArray, List.map_cons, List.map_nil]); first | done | rfl | (simp only [List.length_drop, List.length_take]; rfl)) ?_; (with_reducible refine (impl_isByte.calls (rd l0 x7_1) false _ A5.out).mono ?_); rintro e w' ⟨rfl, ⟨nd, rfl⟩⟩; refine ⟨_, rfl, ?_⟩))
              go_ret
              exact ⟨by first | rfl | (simp; done) | (simp [*]; done), by repeat (first | exact Drawn0.refl _ | apply Drawn0.step)⟩
          · rw [if_neg c4] at H
            exact absurd H (by simp)
        · rw [if_neg c3] at H
          exact absurd H (by simp)
      · rw [if_neg c2] at H
        have c2b0 : decide (x7_1 < (l0.length : Int)) = false := decide_eq_false c2
        clear c2
        obtain rfl := Option.some.inj H
        go_wp2
        go_ret
        exact ⟨by first | rfl | (simp; done) | (simp [*]; done), by repeat (first | exact Drawn0.refl _ | apply Drawn0.step)⟩

/-! ### impl_PackRuns: function 15 -/
mutual
def impl_PackRuns.j0 : Nat → List Int → Bool → Option (List Int)
  | 0, _, _ => none
  | k + 1, x0, x13 => if x13 = true then (some ([] : List Int)) else (impl_PackRuns.l0 k x0 ([] : List Int) 0)
def impl_PackRuns.l0 : Nat → List Int → List Int → Int → Option (List Int)
  | 0, _, _, _ => none
  | k + 1, x0, x3, x4 => if x4 < (x0.length : Int) then (impl_PackRuns.l1 k x0 x3 x4 1) else (some x3)
def impl_PackRuns.l1 : Nat → List Int → List Int → Int → Int → Option (List Int)
  | 0, _, _, _, _ => none
  | k + 1, x0, x3, x4, x5 => if x5 < 255 then (if (wrap64 (x4 + x5)) < (x0.length : Int) then (if 0 ≤ (wrap64 (x4 + x5)) then (if 0 ≤ x4 then (if x4 < (x0.length : Int) then (if (rd x0 (wrap64 (x4 + x5))) = (rd x0 x4) then (impl_PackRuns.l1 k x0 x3 x4 (wrap64 (x5 + 1))) else ((some (([x5, rd x0 x4] : List Int) : List Int)).bind fun y192 => (if x3.length + y192.length < 17592186044416 then (impl_PackRuns.l0 k x0 (x3 ++ y192) (wrap64 (x4 + x5))) else (none)))) else (none)) else (none)) else (none)) else (if 0 ≤ x4 then (if x4 < (x0.length : Int) then ((some (([x5, rd x0 x4] : List Int) : List Int)).bind fun y199 => (if x3.length + y199.length < 17592186044416 then (impl_PackRuns.l0 k x0 (x3 ++ y199) (wrap64 (x4 + x5))) else (none))) else (none)) else (none))) else (if 0 ≤ x4 then (if x4 < (x0.length : Int) then ((some (([x5, rd x0 x4] : List Int) : List Int)).bind fun y206 => (if x3.length + y206.length < 17592186044416 then (impl_PackRuns.l0 k x0 (x3 ++ y206) (wrap64 (x4 + x5))) else (none))) else (none)) else (none))
end
def impl_PackRuns.f (k : Nat) (l0 : List Int) : Option (List Int) := if (l0.length : Int) > 256 then (impl_PackRuns.j0 k l0 true) else ((impl_allBytes.f k l0).bind fun t188 => (impl_PackRuns.j0 k l0 (!t188)))
theorem impl_PackRuns.mono_l : ∀ k, (∀ y0 y1, LeO (impl_PackRuns.j0 k y0 y1) (impl_PackRuns.j0 (k + 1) y0 y1)) ∧ (∀ y0 y1 y2, LeO (impl_PackRuns.l0 k y0 y1 y2) (impl_PackRuns.l0 (k + 1) y0 y1 y2)) ∧ (∀ y0 y1 y2 y3, LeO (impl_PackRuns.l1 k y0 y1 y2 y3) (impl_PackRuns.l1 (k + 1) y0 y1 y2 y3))
  | 0 => ⟨fun _ _ r h => by simp [impl_PackRuns.j0] at h, fun _ _ _ r h => by simp [impl_PackRuns.l0] at h, fun _ _ _ _ r h => by simp [impl_PackRuns.l1] at h⟩
  | k + 1 => by
    obtain ⟨ih0, ih1, ih2⟩ := impl_PackRuns.mono_l k
    refine ⟨?_, ?_, ?_⟩
    · intro y0 y1
      unfold impl_PackRuns.j0
      repeat' first
      | (with_reducible exact ih0 _ _)
      | (with_reducible exact ih1 _ _ _)
      | (with_reducible exact ih2 _ _ _ _)
      | (with_reducible exact impl_allBytes.mono _ _)
      | (with_reducible exact LeO.refl _)
      | (with_reducible exact LeO.none _)
      | (with_reducible refine LeO.ite ?_ ?_)
      | (with_reducible refine LeO.bind ?_ (fun _ => ?_))
      | exact ih0 _ _
      | exact ih1 _ _ _
      | exact ih2 _ _ _ _
      | exact impl_allBytes.mono _ _
      | exact LeO.none _
      | refine LeO.ite ?_ ?_
      | refine LeO.bind ?_ (fun _ => ?_)
    · intro y0 y1 y2
      unfold impl_PackRuns.l0
      repeat' first
      | (with_reducible exact ih0 _ _)
      | (with_reducible exact ih1 _ _ _)
      | (with_reducible exact ih2 _ _ _ _)
      | (with_reducible exact impl_allBytes.mono _ _)
      | (with_reducible exact LeO.refl _)
      | (with_reducible exact LeO.none _)
      | (with_reducible refine LeO.ite ?_ ?_)
      | (with_reducible refine LeO.bind ?_ (fun _ => ?_))
      | exact ih0 _ _
      | exact ih1 _ _ _
      | exact ih2 _ _ _ _
      | exact impl_allBytes.mono _ _
      | exact LeO.none _
      | refine LeO.ite ?_ ?_
      | refine LeO.bind ?_ (fun _ => ?_)
    · intro y0 y1 y2 y3
      unfold impl_PackRuns.l1
      repeat' first
      | (with_reducible exact ih0 _ _)
      | (with_reducible exact ih1 _ _ _)
      | (with_reducible exact ih2 _ _ _ _)
      | (with_reducible exact impl_allBytes.mono _ _)
      | (with_reducible exact LeO.refl _)
      | (with_reducible exact LeO.none _)
      | (with_reducible refine LeO.ite ?_ ?_)
      | (with_reducible refine LeO.bind ?_ (fun _ => ?_))
      | exact ih0 _ _
      | exact ih1 _ _ _
      | exact ih2 _ _ _ _
      | exact impl_allBytes.mono _ _
      | exact LeO.none _
      | refine LeO.ite ?_ ?_
      | refine LeO.bind ?_ (fun _ => ?_)
theorem impl_PackRuns.mono : ∀ a0 k, LeO (impl_PackRuns.f k a0) (impl_PackRuns.f (k + 1) a0) := by
  intro a0 k
  obtain ⟨ih0, ih1, ih2⟩ := impl_PackRuns.mono_l k
  unfold impl_PackRuns.f
  repeat' first
      | (with_reducible exact ih0 _ _)
      | (with_reducible exact ih1 _ _ _)
      | (with_reducible exact ih2 _ _ _ _)
      | (with_reducible exact impl_allBytes.mono _ _)
      | (with_reducible exact LeO.refl _)
      | (with_reducible exact LeO.none _)
      | (with_reducible refine LeO.ite ?_ ?_)
      | (with_reducible refine LeO.bind ?_ (fun _ => ?_))
      | exact ih0 _ _
      | exact ih1 _ _ _
      | exact ih2 _ _ _ _
      | exact impl_allBytes.mono _ _
      | exact LeO.none _
      | refine LeO.ite ?_ ?_
      | refine LeO.bind ?_ (fun _ => ?_)
set_option maxHeartbeats 8000000 in
set_option maxRecDepth 100000 in
theorem impl_PackRuns.calls (k : Nat) (A0 : Option Addr) (c0 : Nat) (l0 : List Int) (r : List Int) (w : World) (hr0 : Kd.C (Kd.int .i64) w A0 l0.length l0) (hc0 : l0.length ≤ c0) (h : impl_PackRuns.f k l0 = some r) :
    Calls Try.prog 15 #[.slice A0 l0.length c0] w fun e w' => ∃ v0_ : Value, e = .returned (v0_) ∧ Kd.R (Kd.int .i64) 3 w' w.heap.size (fun _ => True) v0_ r ∧ Below w.heap.size w w' := by
  have HR0 := Aside0.mk hr0
  have HC0 := Aside0.mk hc0
  clear hr0 hc0
  have HB := Aside0.mk (Below.refl w.heap.size w)
  have H : (if (l0.length : Int) > 256 then (impl_PackRuns.j0 k l0 true) else ((impl_allBytes.f k l0).bind fun t188 => (impl_PackRuns.j0 k l0 (!t188)))) = some r := h
  clear h
  have HC2 := Aside0.mk H
  clear H
  go_enter Try.func15, Try.ntmps15
  go_upto_region 1 with (fail)
  repeat (go_quiet (fail); go_upto_region 1 with (fail))
  go_cut [13] (fun v13 wc => ∃ (kq : Nat) (x13_1 : Bool), v13 = .bool x13_1 ∧ Aside0 (impl_PackRuns.j0 kq l0 x13_1 = some r) ∧ Aside0 (kq ≤ k) ∧ Aside0 (Below w.heap.size w wc))
  case first =>
    have H := HC2.out
    clear HC2
    by_cases c3 : (l0.length : Int) > 256
    · rw [if_pos c3] at H
      have c3b0 : decide (256 < (l0.length : Int)) = true := decide_eq_true c3
      have c3b1 : decide (256 < l0.length) = true := decide_eq_true (by omega)
      clear c3
      (first | rw [c3b0] | (simp only [i64_w, i32_w]; rw [c3b0]) | skip)
      have H' := Aside0.mk H
      clear H
      go_wp2
      repeat (go_quiet (fail); try go_wp2)
      go_meet
      case rel => exact ⟨_, (true), (by first | rfl | (simp; done) | (simp [*]; done)), H', ⟨by first | omega | exact Nat.le_refl _⟩, ⟨by repeat (first | (with_reducible first | exact HB.out | apply below_alloc | apply pw_below_drewN | apply below_drew1) | exact HB.out)⟩⟩
    · rw [if_neg c3] at H
      have c3b0 : decide (256 < (l0.length : Int)) = false := decide_eq_false c3
      have c3b1 : decide (256 < l0.length) = false := decide_eq_false (by omega)
      clear c3
      (first | rw [c3b0] | (simp only [i64_w, i32_w]; rw [c3b0]) | skip)
      replace H := Option.bind_eq_some_iff.mp H
      obtain ⟨t188, A40, H⟩ := H
      replace H : (impl_PackRuns.j0 k l0 (!t188)) = some r := H
      have A4 := Aside0.mk A40
      clear A40
      have H' := Aside0.mk H
      clear H
      go_wp2_with (first | (go_at_call 45; (with_reducible refine (impl_allBytes.calls k _ _ l0 t188 _ ?side1 ?side2 A4.out).mono ?_); (case side1 => repeat (first | exact (Kd.C_below HR0.out HB.out) | (with_reducible refine Kd.C_alloc ?_ _) | (with_reducible refine Kd.C_drewN ?_ _) | (with_reducible refine Kd.C_drew ?_))); (case side2 => exact HC0.out); rintro e w' ⟨rfl, ⟨nd, rfl⟩⟩; (try first | exact ⟨rfl, _, World.drewN_drewN _ _ _⟩ | exact ⟨rfl, _, Eq.trans (World.drewN_drewN _ _ _) (congrArg (World.drewN _) (Nat.add_assoc _ _ _))⟩)))
      repeat (go_quiet (first | (go_at_call 45; (with_reducible refine (impl_allBytes.calls k _ _ l0 t188 _ ?side1 ?side2 A4.out).mono ?_); (case side1 => repeat (first | exact (Kd.C_below HR0.out HB.out) | (with_reducible refine Kd.C_alloc ?_ _) | (with_reducible refine Kd.C_drewN ?_ _) | (with_reducible refine Kd.C_drew ?_))); (case side2 => exact HC0.out); rintro e w' ⟨rfl, ⟨nd, rfl⟩⟩; (try first | exact ⟨rfl, _, World.drewN_drewN _ _ _⟩ | exact ⟨rfl, _, Eq.trans (World.drewN_drewN _ _ _) (congrArg (World.drewN _) (Nat.add_assoc _ _ _))⟩))); try go_wp2_with (first | (go_at_call 45; (with_reducible refine (impl_allBytes.calls k _ _ l0 t188 _ ?side1 ?side2 A4.out).mono ?_); (case side1 => repeat (first | exact (Kd.C_below HR0.out HB.out) | (with_reducible refine Kd.C_alloc ?_ _) | (with_reducible refine Kd.C_drewN ?_ _) | (with_reducible refine Kd.C_drew ?_))); (case side2 => exact HC0.out); rintro e w' ⟨rfl, ⟨nd, rfl⟩⟩; (try first | exact ⟨rfl, _, World.drewN_drewN _ _ _⟩ | exact ⟨rfl, _, Eq.trans (World.drewN_drewN _ _ _) (congrArg (World.drewN _) (Nat.add_assoc _ _ _))⟩))))
      go_meet
      case rel => exact ⟨_, (!t188), (by first | rfl | (simp; done) | (simp [*]; done)), H', ⟨by first | omega | exact Nat.le_refl _⟩, ⟨by repeat (first | (with_reducible first | exact HB.out | apply below_alloc | apply pw_below_drewN | apply below_drew1) | exact HB.out)⟩⟩
  case rest =>
    clear HC2
    try clear c1
    try clear p2
    try clear c3
    try clear c3b0
    try clear c3b1
    obtain ⟨kq, x13_1, rfl, HA, HJ1, HB⟩ := hcut
    cases kq with
    | zero => exact absurd HA.out (by simp [impl_PackRuns.j0])
    | succ kj1 =>
      have H := HA.out
      clear HA
      simp only [impl_PackRuns.j0] at H
      by_cases c5 : x13_1 = true
      · subst c5
        have H1 : (some ([] : List Int)) = some r := by rw [if_pos rfl] at H; exact H
        clear H
        have H := H1
        clear H1
        obtain rfl := Option.some.inj H
        go_wp2
        repeat (go_quiet (fail); try go_wp2)
        go_ret
        exact ⟨_, by first | rfl | (simp [errW_none, errW_some] <;> rfl) | (simp [*, errW_none, errW_some] <;> rfl), by first | exact Kd.R_nil _ _ _ _ _ | exact Kd.N_nil _ _ _ _ _ | exact Kd.V_nil _ _ _ _ _ | exact Kd.Q_nil _ _ _ _ _ | exact Kd.S_nil _ _ _ _ _, by repeat (first | (with_reducible first | exact HB.out | apply below_alloc | apply pw_below_drewN | apply below_drew1) | exact HB.out)⟩
      · replace c5 := Bool.eq_false_iff.mpr c5
        subst c5
        have H1 : (impl_PackRuns.l0 kj1 l0 ([] : List Int) 0) = some r := by rw [if_neg (show ¬ (false = true) by decide)] at H; exact H
        clear H
        have H := H1
        clear H1
        have H' := Aside0.mk H
        clear H
        go_wp2
        repeat (go_quiet (fail); try go_wp2)
        go_loopg [3, 4] kj1 (fun kq v3 v4 w' => ∃ (x3_2 : List Int) (x4_2 : Int), v4 = .int .i64 x4_2 ∧ Aside0 (impl_PackRuns.l0 kq l0 x3_2 x4_2 = some r) ∧ Aside0 (kq ≤ kj1) ∧ Aside0 (Kd.R (Kd.int .i64) 3 w' w.heap.size (fun _ => True) v3 x3_2) ∧ Aside0 (Below w.heap.size w w'))
        case atStart => exact ⟨(([] : List Int)), (0), (by first | rfl | (simp; done) | (simp [*]; done)), H', ⟨Nat.le_refl _⟩, ⟨by first | exact Kd.R_nil _ _ _ _ _ | exact Kd.N_nil _ _ _ _ _ | exact Kd.V_nil _ _ _ _ _ | exact Kd.Q_nil _ _ _ _ _ | exact Kd.S_nil _ _ _ _ _⟩, ⟨by repeat (first | (with_reducible first | exact HB.out | apply below_alloc | apply pw_below_drewN | apply below_drew1) | exact HB.out)⟩⟩
        case round =>
          clear H'
          try clear c1
          try clear p2
          try clear c3
          try clear c3b0
          try clear c3b1
          try clear c5
          try clear p2
          obtain ⟨x3_2, x4_2, rfl, HA, HK2, HO_3, HB⟩ := hrel
          cases gk with
          | zero => exact absurd HA.out (by simp [impl_PackRuns.l0])
          | succ k2 =>
            have H := HA.out
            clear HA
            simp only [impl_PackRuns.l0] at H
            by_cases c6 : x4_2 < (l0.length : Int)
            · rw [if_pos c6] at H
              have c6b0 : decide (x4_2 < (l0.length : Int)) = true := decide_eq_true c6
              clear c6
              have H' := Aside0.mk H
              clear H
              go_wp2
              repeat (go_quiet (fail); try go_wp2)
              go_loopg [5] k2 (fun kq v5 w' => ∃ (x5_3 : Int), v5 = .int .i64 x5_3 ∧ Aside0 (impl_PackRuns.l1 kq l0 x3_2 x4_2 x5_3 = some r) ∧ Aside0 (kq ≤ k2) ∧ Aside0 (Kd.R (Kd.int .i64) 3 w' w.heap.size (fun _ => True) u3 x3_2) ∧ Aside0 (Below w.heap.size w w'))
              case atStart => exact ⟨(1), (by first | rfl | (simp; done) | (simp [*]; done)), H', ⟨Nat.le_refl _⟩, ⟨by (with_reducible repeat (first | apply Kd.R_alloc | apply Kd.R_drewN | apply Kd.R_drew)); exact HO_3.out⟩, ⟨by repeat (first | (with_reducible first | exact HB.out | apply below_alloc | apply pw_below_drewN | apply below_drew1) | exact HB.out)⟩⟩
              case round =>
                clear H'
                try clear c1
                try clear p2
                try clear c3
                try clear c3b0
                try clear c3b1
                try clear c5
                try clear c6
                try clear c6b0
                try clear p2
                obtain ⟨x5_3, rfl, HA, HK3, HO_3, HB⟩ := hrel
                cases gk with
                | zero => exact absurd HA.out (by simp [impl_PackRuns.l1])
                | succ k3 =>
                  have H := HA.out
                  clear HA
                  simp only [impl_PackRuns.l1] at H
                  by_cases c7 : x5_3 < 255
                  · rw [if_pos c7] at H
                    have c7b0 : decide (x5_3 < 255) = true := decide_eq_true c7
                    clear c7
                    by_cases c8 : (wrap64 (x4_2 + x5_3)) < (l0.length : Int)
                    · rw [if_pos c8] at H
                      have c8b0 : decide ((wrap64 (x4_2 + x5_3)) < (l0.length : Int)) = true := decide_eq_true c8
                      clear c8
                      obtain ⟨ji9, hji9⟩ : ∃ j_ : Int, (wrap64 (x4_2 + x5_3)) = j_ := ⟨_, rfl⟩
                      replace H : (if 0 ≤ (ji9) then (if 0 ≤ x4_2 then (if x4_2 < (l0.length : Int) then (if (rd l0 (ji9)) = (rd l0 x4_2) then (impl_PackRuns.l1 k3 l0 x3_2 x4_2 (wrap64 (x5_3 + 1))) else ((some (([x5_3, rd l0 x4_2] : List Int) : List Int)).bind fun y192 => (if x3_2.length + y192.length < 17592186044416 then (impl_PackRuns.l0 k3 l0 (x3_2 ++ y192) ji9) else (none)))) else (none)) else (none)) else (none)) = some r := by first | (rw [hji9] at H; exact H) | (simp only [hji9] at H ⊢; exact H)
                      (try rw [hji9] at c8b0)
                      have hji9w : (IntKind.i64.wrap (x4_2 + x5_3)) = ji9 := (i64_w _).trans hji9
                      by_cases c10 : 0 ≤ (ji9)
                      · rw [if_pos c10] at H
                        have c10b0 : decide (0 ≤ (ji9)) = true := decide_eq_true c10
                        clear c10
                        by_cases c11 : 0 ≤ x4_2
                        · rw [if_pos c11] at H
                          have c11b0 : decide (0 ≤ x4_2) = true := decide_eq_true c11
                          clear c11
                          by_cases c12 : x4_2 < (l0.length : Int)
                          · rw [if_pos c12] at H
                            have c12b0 : decide (x4_2 < (l0.length : Int)) = true := decide_eq_true c12
                            clear c12
                            by_cases c13 : (rd l0 (ji9)) = (rd l0 x4_2)
                            · rw [if_pos c13] at H
                              have c13b0 : ((rd l0 (ji9)) == (rd l0 x4_2)) = true := beq_iff_eq.mpr c13
                              have c13b1 : ((rd l0 (ji9)) != (rd l0 x4_2)) = false := bne_eq_false_iff_eq.mpr c13
                              clear c13
                              have H' := Aside0.mk H
                              clear H
                              have p189 : 0 ≤ ((ji9) : Int) := of_decide_eq_true (by first | (with_reducible assumption) | assumption)
                              have q189 : (ji9) < (l0.length : Int) := of_decide_eq_true (by first | (with_reducible assumption) | assumption)
                              obtain ⟨ad189, e189, hx189_0⟩ := Kd.at_int HR0.out (ji9) p189 q189
                              cases e189
                              replace hx189_0 := (HB.out.cell (World.block_lt_of_cell? w _ hx189_0)).trans hx189_0
                              replace p189 := eq_true p189
                              replace q189 := eq_true q189
                              have p190 : 0 ≤ (x4_2 : Int) := of_decide_eq_true (by first | (with_reducible assumption) | assumption)
                              have q190 : x4_2 < (l0.length : Int) := of_decide_eq_true (by first | (with_reducible assumption) | assumption)
                              obtain ⟨ad190, e190, hx190_0⟩ := Kd.at_int HR0.out x4_2 p190 q190
                              obtain rfl : ad189 = ad190 := (by injection e190)
                              replace hx190_0 := (HB.out.cell (World.block_lt_of_cell? w _ hx190_0)).trans hx190_0
                              replace p190 := eq_true p190
                              replace q190 := eq_true q190
                              go_wp2
                              repeat (go_quiet (fail); try go_wp2)
                              go_roundg k3
                              case measure => have := HJ1.out; have := HK2.out; have := HK3.out; omega
                              case rel => exact ⟨(wrap64 (x5_3 + 1)), (by first | rfl | (simp; done) | (simp [*]; done)), H', ⟨by have := HJ1.out; have := HK2.out; have := HK3.out; omega⟩, ⟨by (with_reducible repeat (first | apply Kd.R_alloc | apply Kd.R_drewN | apply Kd.R_drew)); exact HO_3.out⟩, ⟨by repeat (first | (with_reducible first | exact HB.out | apply below_alloc | apply pw_below_drewN | apply below_drew1) | exact HB.out)⟩⟩
                            · rw [if_neg c13] at H
                              have c13b0 : ((rd l0 (ji9)) == (rd l0 x4_2)) = false := beq_eq_false_iff_ne.mpr c13
                              have c13b1 : ((rd l0 (ji9)) != (rd l0 x4_2)) = true := bne_iff_ne.mpr c13
                              obtain ⟨y192, hy192⟩ : ∃ y_ : List Int, y_ = (([x5_3, rd l0 x4_2] : List Int)) := ⟨_, rfl⟩
                              replace H : (if x3_2.length + y192.length < 17592186044416 then (impl_PackRuns.l0 k3 l0 (x3_2 ++ y192) ji9) else (none)) = some r := by first | (rw [hy192]; with_reducible exact H) | (have H2_ := (Option.bind_some _ _).symm.trans H; rw [hy192]; with_reducible exact H2_) | (have H2_ := (Option.bind_some _ _).symm.trans H; with_reducible exact H2_) | with_reducible exact H | (rw [hy192]; exact H) | exact H
                              have Ny192 := Aside0.mk hy192
                              clear hy192
                              by_cases c14 : x3_2.length + y192.length < 17592186044416
                              · rw [if_pos c14] at H
                                have LMc14 := Aside0.mk c14
                                clear c14
                                obtain ⟨y195, hy195⟩ : ∃ y_ : List Int, y_ = (x3_2 ++ y192) := ⟨_, rfl⟩
                                replace H : (impl_PackRuns.l0 k3 l0 y195 ji9) = some r := by first | (rw [hy195]; with_reducible exact H) | (have H2_ := (Option.bind_some _ _).symm.trans H; rw [hy195]; with_reducible exact H2_) | (have H2_ := (Option.bind_some _ _).symm.trans H; with_reducible exact H2_) | with_reducible exact H | (rw [hy195]; exact H) | exact H
                                have Ny195 := Aside0.mk hy195
                                clear hy195
                                have H' := Aside0.mk H
                                clear H
                                have p189 : 0 ≤ ((ji9) : Int) := of_decide_eq_true (by first | (with_reducible assumption) | assumption)
                                have q189 : (ji9) < (l0.length : Int) := of_decide_eq_true (by first | (with_reducible assumption) | assumption)
                                obtain ⟨ad189, e189, hx189_0⟩ := Kd.at_int HR0.out (ji9) p189 q189
                                cases e189
                                replace hx189_0 := (HB.out.cell (World.block_lt_of_cell? w _ hx189_0)).trans hx189_0
                                replace p189 := eq_true p189
                                replace q189 := eq_true q189
                                have p190 : 0 ≤ (x4_2 : Int) := of_decide_eq_true (by first | (with_reducible assumption) | assumption)
                                have q190 : x4_2 < (l0.length : Int) := of_decide_eq_true (by first | (with_reducible assumption) | assumption)
                                obtain ⟨ad190, e190, hx190_0⟩ := Kd.at_int HR0.out x4_2 p190 q190
                                obtain rfl : ad189 = ad190 := (by injection e190)
                                replace hx190_0 := (HB.out.cell (World.block_lt_of_cell? w _ hx190_0)).trans hx190_0
                                replace p190 := eq_true p190
                                replace q190 := eq_true q190
                                have p191 : 0 ≤ (x4_2 : Int) := of_decide_eq_true (by first | (with_reducible assumption) | assumption)
                                have q191 : x4_2 < (l0.length : Int) := of_decide_eq_true (by first | (with_reducible assumption) | assumption)
                                obtain ⟨ad191, e191, hx191_0⟩ := Kd.at_int HR0.out x4_2 p191 q191
                                obtain rfl : ad189 = ad191 := (by injection e191)
                                replace hx191_0 := (HB.out.cell (World.block_lt_of_cell? w _ hx191_0)).trans hx191_0
                                replace p191 := eq_true p191
                                replace q191 := eq_true q191
                                go_wp2_with (first | ((with_reducible refine gate_dst (N := 49) rfl ?_); (try (refine gate_guard (by rfl) ?_; dsimp only)); refine Kd.R_lit (Kd.int .i64) _ 3 ?hg (N := 49) ?hd (xs := ([x5_3, rd l0 x4_2] : List Int)) (inner := [.int .i64 x5_3, .int .i64 (rd l0 x4_2)]) (ok := fun _ => True) (okp := fun _ => True) ?hr ?hp (fun _ hk => hk) trivial (Below.refl _ _) (Nat.le_refl _) (by simp) ?_; (case hd => rfl); (case hg => rfl); (case hr => first | (go_simp; done) | (go_simp; rfl)); (case hp => exact (Reps.one (show Kd.M (Kd.int .i64) _ _ _ x5_3 [.int .i64 x5_3] from rfl) (Reps.one (show Kd.M (Kd.int .i64) _ _ _ (rd l0 x4_2) [.int .i64 (rd l0 x4_2)] from rfl) (Reps.none _ _)))); intro v193 w15 ho16 hb hg_ hnew_; clear hg_ hnew_; (first | rw [← Ny192.out] at ho16 | (simp only [Int.reduceToNat] at ho16; rw [← Ny192.out] at ho16)); have n0_ := Aside0.mk (Kd.R_elder' (by (with_reducible repeat (first | apply Kd.R_alloc | apply Kd.R_drewN | apply Kd.R_drew)); exact HO_3.out) (Kd.R_base ho16) hb); have n1_ := Aside0.mk (Kd.R_lower (Kd.R_new' ho16 (Kd.R_lt (by (with_reducible repeat (first | apply Kd.R_alloc | apply Kd.R_drewN | apply Kd.R_drew)); exact HO_3.out))) (below_size (by repeat (first | (with_reducible first | exact HB.out | apply below_alloc | apply pw_below_drewN | apply below_drew1) | exact HB.out)))); have n2_ := Aside0.mk (below_step (by repeat (first | (with_reducible first | exact HB.out | apply below_alloc | apply pw_below_drewN | apply below_drew1) | exact HB.out)) hb); clear HO_3; clear HB; have HO_3 := n0_; have HO194 := n1_; have HB := n2_; clear n0_ n1_ n2_; clear hb ho16; obtain ⟨Ao18, co18, eo18⟩ := Kd.R_slice HO194.out; subst eo18) | ((with_reducible refine gate_builtin (b := .append) (xs := #[.tmp 43, .tmp 49]) rfl ?_); (try (refine gate_guard (by rfl) ?_; dsimp only)); at_builtin; refine Kd.R_append_rows (Kd.int .i64) (w0 := w) w.heap.size rfl (.tmp 43) (.tmp 49) 23 3 (.int .i64 0) 8 rfl Try.underlying23 info3 rfl (by decide) (by omega) u3 x3_2 y192 _ _ _ (fun k_ => some k_ ≠ (.slice Ao18 y192.length co18 : Value).ownBlock) (fun _ => False) rfl rfl ?aO ?aR (fun _ _ h => h) (fun _ h => h.elim) ?aF ?aB ?aS ?aL ?_; (case aR => repeat (first | exact (Kd.R_reads' HO194.out).2.2 | (with_reducible refine Kd.C_alloc ?_ _) | (with_reducible refine Kd.C_drewN ?_ _) | (with_reducible refine Kd.C_drew ?_))); (case aB => exact (by repeat (first | (with_reducible first | exact HB.out | apply below_alloc | apply pw_below_drewN | apply below_drew1) | exact HB.out))); (case aF => exact (fun k_ hk => Kd.fresh' (Kd.R_lt (by (with_reducible repeat (first | apply Kd.R_alloc | apply Kd.R_drewN | apply Kd.R_drew)); exact HO194.out)) k_ hk)); (case aO => exact (by (with_reducible repeat (first | apply Kd.R_alloc | apply Kd.R_drewN | apply Kd.R_drew)); exact Kd.R_mono HO_3.out (fun _ hk => hk.2))); (case aS => exact (below_size (by repeat (first | (with_reducible first | exact HB.out | apply below_alloc | apply pw_below_drewN | apply below_drew1) | exact HB.out)))); (case aL => have := LMc14.out; omega); intro v196 w17 ho hb hg hat; rw [← Ny195.out] at ho; have n0_ := Aside0.mk (Kd.R_after (ok := (fun _ => True)) (by (with_reducible repeat (first | apply Kd.R_alloc | apply Kd.R_drewN | apply Kd.R_drew)); exact HO194.out) hg hat); have n1_ := Aside0.mk (hb); have n2_ := Aside0.mk (ho); clear HO194; clear HB; clear HO_3; have HO194 := n0_; have HB := n1_; have HO197 := n2_; clear n0_ n1_ n2_; clear ho hb hg hat))
                                repeat (go_quiet (first | ((with_reducible refine gate_dst (N := 49) rfl ?_); (try (refine gate_guard (by rfl) ?_; dsimp only)); refine Kd.R_lit (Kd.int .i64) _ 3 ?hg (N := 49) ?hd (xs := ([x5_3, rd l0 x4_2] : List Int)) (inner := [.int .i64 x5_3, .int .i64 (rd l0 x4_2)]) (ok := fun _ => True) (okp := fun _ => True) ?hr ?hp (fun _ hk => hk) trivial (Below.refl _ _) (Nat.le_refl _) (by simp) ?_; (case hd => rfl); (case hg => rfl); (case hr => first | (go_simp; done) | (go_simp; rfl)); (case hp => exact (Reps.one (show Kd.M (Kd.int .i64) _ _ _ x5_3 [.int .i64 x5_3] from rfl) (Reps.one (show Kd.M (Kd.int .i64) _ _ _ (rd l0 x4_2) [.int .i64 (rd l0 x4_2)] from rfl) (Reps.none _ _)))); intro v193 w15 ho16 hb hg_ hnew_; clear hg_ hnew_; (first | rw [← Ny192.out] at ho16 | (simp only [Int.reduceToNat] at ho16; rw [← Ny192.out] at ho16)); have n0_ := Aside0.mk (Kd.R_elder' (by (with_reducible repeat (first | apply Kd.R_alloc | apply Kd.R_drewN | apply Kd.R_drew)); exact HO_3.out) (Kd.R_base ho16) hb); have n1_ := Aside0.mk (Kd.R_lower (Kd.R_new' ho16 (Kd.R_lt (by (with_reducible repeat (first | apply Kd.R_alloc | apply Kd.R_drewN | apply Kd.R_drew)); exact HO_3.out))) (below_size (by repeat (first | (with_reducible first | exact HB.out | apply below_alloc | apply pw_below_drewN | apply below_drew1) | exact HB.out)))); have n2_ := Aside0.mk (below_step (by repeat (first | (with_reducible first | exact HB.out | apply below_alloc | apply pw_below_drewN | apply below_drew1) | exact HB.out)) hb); clear HO_3; clear HB; have HO_3 := n0_; have HO194 := n1_; have HB := n2_; clear n0_ n1_ n2_; clear hb ho16; obtain ⟨Ao18, co18, eo18⟩ := Kd.R_slice HO194.out; subst eo18) | ((with_reducible refine gate_builtin (b := .append) (xs := #[.tmp 43, .tmp 49]) rfl ?_); (try (refine gate_guard (by rfl) ?_; dsimp only)); at_builtin; refine Kd.R_append_rows (Kd.int .i64) (w0 := w) w.heap.size rfl (.tmp 43) (.tmp 49) 23 3 (.int .i64 0) 8 rfl Try.underlying23 info3 rfl (by decide) (by omega) u3 x3_2 y192 _ _ _ (fun k_ => some k_ ≠ (.slice Ao18 y192.length co18 : Value).ownBlock) (fun _ => False) rfl rfl ?aO ?aR (fun _ _ h => h) (fun _ h => h.elim) ?aF ?aB ?aS ?aL ?_; (case aR => repeat (first | exact (Kd.R_reads' HO194.out).2.2 | (with_reducible refine Kd.C_alloc ?_ _) | (with_reducible refine Kd.C_drewN ?_ _) | (with_reducible refine Kd.C_drew ?_))); (case aB => exact (by repeat (first | (with_reducible first | exact HB.out | apply below_alloc | apply pw_below_drewN | apply below_drew1) | exact HB.out))); (case aF => exact (fun k_ hk => Kd.fresh' (Kd.R_lt (by (with_reducible repeat (first | apply Kd.R_alloc | apply Kd.R_drewN | apply Kd.R_drew)); exact HO194.out)) k_ hk)); (case aO => exact (by (with_reducible repeat (first | apply Kd.R_alloc | apply Kd.R_drewN | apply Kd.R_drew)); exact Kd.R_mono HO_3.out (fun _ hk => hk.2))); (case aS => exact (below_size (by repeat (first | (with_reducible first | exact HB.out | apply below_alloc | apply pw_below_drewN | apply below_drew1) | exact HB.out)))); (case aL => have := LMc14.out; omega); intro v196 w17 ho hb hg hat; rw [← Ny195.out] at ho; have n0_ := Aside0.mk (Kd.R_after (ok := (fun _ => True)) (by (with_reducible repeat (first | apply Kd.R_alloc | apply Kd.R_drewN | apply Kd.R_drew)); exact HO194.out) hg hat); have n1_ := Aside0.mk (hb); have n2_ := Aside0.mk (ho); clear HO194; clear HB; clear HO_3; have HO194 := n0_; have HB := n1_; have HO197 := n2_; clear n0_ n1_ n2_; clear ho hb hg hat)); try go_wp2_with (first | ((with_reducible refine gate_dst (N := 49) rfl ?_); (try (refine gate_guard (by rfl) ?_; dsimp only)); refine Kd.R_lit (Kd.int .i64) _ 3 ?hg (N := 49) ?hd (xs := ([x5_3, rd l0 x4_2] : List Int)) (inner := [.int .i64 x5_3, .int .i64 (rd l0 x4_2)]) (ok := fun _ => True) (okp := fun _ => True) ?hr ?hp (fun _ hk => hk) trivial (Below.refl _ _) (Nat.le_refl _) (by simp) ?_; (case hd => rfl); (case hg => rfl); (case hr => first | (go_simp; done) | (go_simp; rfl)); (case hp => exact (Reps.one (show Kd.M (Kd.int .i64) _ _ _ x5_3 [.int .i64 x5_3] from rfl) (Reps.one (show Kd.M (Kd.int .i64) _ _ _ (rd l0 x4_2) [.int .i64 (rd l0 x4_2)] from rfl) (Reps.none _ _)))); intro v193 w15 ho16 hb hg_ hnew_; clear hg_ hnew_; (first | rw [← Ny192.out] at ho16 | (simp only [Int.reduceToNat] at ho16; rw [← Ny192.out] at ho16)); have n0_ := Aside0.mk (Kd.R_elder' (by (with_reducible repeat (first | apply Kd.R_alloc | apply Kd.R_drewN | apply Kd.R_drew)); exact HO_3.out) (Kd.R_base ho16) hb); have n1_ := Aside0.mk (Kd.R_lower (Kd.R_new' ho16 (Kd.R_lt (by (with_reducible repeat (first | apply Kd.R_alloc | apply Kd.R_drewN | apply Kd.R_drew)); exact HO_3.out))) (below_size (by repeat (first | (with_reducible first | exact HB.out | apply below_alloc | apply pw_below_drewN | apply below_drew1) | exact HB.out)))); have n2_ := Aside0.mk (below_step (by repeat (first | (with_reducible first | exact HB.out | apply below_alloc | apply pw_below_drewN | apply below_drew1) | exact HB.out)) hb); clear HO_3; clear HB; have HO_3 := n0_; have HO194 := n1_; have HB := n2_; clear n0_ n1_ n2_; clear hb ho16; obtain ⟨Ao18, co18, eo18⟩ := Kd.R_slice HO194.out; subst eo18) | ((with_reducible refine gate_builtin (b := .append) (xs := #[.tmp 43, .tmp 49]) rfl ?_); (try (refine gate_guard (by rfl) ?_; dsimp only)); at_builtin; refine Kd.R_append_rows (Kd.int .i64) (w0 := w) w.heap.size rfl (.tmp 43) (.tmp 49) 23 3 (.int .i64 0) 8 rfl Try.underlying23 info3 rfl (by decide) (by omega) u3 x3_2 y192 _ _ _ (fun k_ => some k_ ≠ (.slice Ao18 y192.length co18 : Value).ownBlock) (fun _ => False) rfl rfl ?aO ?aR (fun _ _ h => h) (fun _ h => h.elim) ?aF ?aB ?aS ?aL ?_; (case aR => repeat (first | exact (Kd.R_reads' HO194.out).2.2 | (with_reducible refine Kd.C_alloc ?_ _) | (with_reducible refine Kd.C_drewN ?_ _) | (with_reducible refine Kd.C_drew ?_))); (case aB => exact (by repeat (first | (with_reducible first | exact HB.out | apply below_alloc | apply pw_below_drewN | apply below_drew1) | exact HB.out))); (case aF => exact (fun k_ hk => Kd.fresh' (Kd.R_lt (by (with_reducible repeat (first | apply Kd.R_alloc | apply Kd.R_drewN | apply Kd.R_drew)); exact HO194.out)) k_ hk)); (case aO => exact (by (with_reducible repeat (first | apply Kd.R_alloc | apply Kd.R_drewN | apply Kd.R_drew)); exact Kd.R_mono HO_3.out (fun _ hk => hk.2))); (case aS => exact (below_size (by repeat (first | (with_reducible first | exact HB.out | apply below_alloc | apply pw_below_drewN | apply below_drew1) | exact HB.out)))); (case aL => have := LMc14.out; omega); intro v196 w17 ho hb hg hat; rw [← Ny195.out] at ho; have n0_ := Aside0.mk (Kd.R_after (ok := (fun _ => True)) (by (with_reducible repeat (first | apply Kd.R_alloc | apply Kd.R_drewN | apply Kd.R_drew)); exact HO194.out) hg hat); have n1_ := Aside0.mk (hb); have n2_ := Aside0.mk (ho); clear HO194; clear HB; clear HO_3; have HO194 := n0_; have HB := n1_; have HO197 := n2_; clear n0_ n1_ n2_; clear ho hb hg hat)))
                                go_roundg k3
                                case measure => have := HJ1.out; have := HK2.out; have := HK3.out; omega
                                case rel => exact ⟨(y195), (ji9), (by first | rfl | (simp; done) | (simp only [← hji9] <;> (first | rfl | simp)) | (simp [*]; done)), H', ⟨by have := HJ1.out; have := HK2.out; have := HK3.out; omega⟩, ⟨by (with_reducible repeat (first | apply Kd.R_alloc | apply Kd.R_drewN | apply Kd.R_drew)); exact Kd.R_mono HO197.out (fun _ hk => trivial)⟩, ⟨by repeat (first | (with_reducible first | exact HB.out | apply below_alloc | apply pw_below_drewN | apply below_drew1) | exact HB.out)⟩⟩
                              · rw [if_neg c14] at H
                                exact absurd H (by simp)
                          · rw [if_neg c12] at H
                            exact absurd H (by simp)
                        · rw [if_neg c11] at H
                          exact absurd H (by simp)
                      · rw [if_neg c10] at H
                        exact absurd H (by simp)
                    · rw [if_neg c8] at H
                      have c8b0 : decide ((wrap64 (x4_2 + x5_3)) < (l0.length : Int)) = false := decide_eq_false c8
                      clear c8
                      by_cases c19 : 0 ≤ x4_2
                      · rw [if_pos c19] at H
                        have c19b0 : decide (0 ≤ x4_2) = true := decide_eq_true c19
                        clear c19
                        by_cases c20 : x4_2 < (l0.length : Int)
                        · rw [if_pos c20] at H
                          have c20b0 : decide (x4_2 < (l0.length : Int)) = true := decide_eq_true c20
                          clear c20
                          obtain ⟨y199, hy199⟩ : ∃ y_ : List Int, y_ = (([x5_3, rd l0 x4_2] : List Int)) := ⟨_, rfl⟩
                          replace H : (if x3_2.length + y199.length < 17592186044416 then (impl_PackRuns.l0 k3 l0 (x3_2 ++ y199) (wrap64 (x4_2 + x5_3))) else (none)) = some r := by first | (rw [hy199]; with_reducible exact H) | (have H2_ := (Option.bind_some _ _).symm.trans H; rw [hy199]; with_reducible exact H2_) | (have H2_ := (Option.bind_some _ _).symm.trans H; with_reducible exact H2_) | with_reducible exact H | (rw [hy199]; exact H) | exact H
                          have Ny199 := Aside0.mk hy199
                          clear hy199
                          by_cases c21 : x3_2.length + y199.length < 17592186044416
                          · rw [if_pos c21] at H
                            have LMc21 := Aside0.mk c21
                            clear c21
                            obtain ⟨y202, hy202⟩ : ∃ y_ : List Int, y_ = (x3_2 ++ y199) := ⟨_, rfl⟩
                            replace H : (impl_PackRuns.l0 k3 l0 y202 (wrap64 (x4_2 + x5_3))) = some r := by first | (rw [hy202]; with_reducible exact H) | (have H2_ := (Option.bind_some _ _).symm.trans H; rw [hy202]; with_reducible exact H2_) | (have H2_ := (Option.bind_some _ _).symm.trans H; with_reducible exact H2_) | with_reducible exact H | (rw [hy202]; exact H) | exact H
                            have Ny202 := Aside0.mk hy202
                            clear hy202
                            have H' := Aside0.mk H
                            clear H
                            have p198 : 0 ≤ (x4_2 : Int) := of_decide_eq_true (by first | (with_reducible assumption) | assumption)
                            have q198 : x4_2 < (l0.length : Int) := of_decide_eq_true (by first | (with_reducible assumption) | assumption)
                            obtain ⟨ad198, e198, hx198_0⟩ := Kd.at_int HR0.out x4_2 p198 q198
                            cases e198
                            replace hx198_0 := (HB.out.cell (World.block_lt_of_cell? w _ hx198_0)).trans hx198_0
                            replace p198 := eq_true p198
                            replace q198 := eq_true q198
                            go_wp2_with (first | ((with_reducible refine gate_dst (N := 49) rfl ?_); (try (refine gate_guard (by rfl) ?_; dsimp only)); refine Kd.R_lit (Kd.int .i64) _ 3 ?hg (N := 49) ?hd (xs := ([x5_3, rd l0 x4_2] : List Int)) (inner := [.int .i64 x5_3, .int .i64 (rd l0 x4_2)]) (ok := fun _ => True) (okp := fun _ => True) ?hr ?hp (fun _ hk => hk) trivial (Below.refl _ _) (Nat.le_refl _) (by simp) ?_; (case hd => rfl); (case hg => rfl); (case hr => first | (go_simp; done) | (go_simp; rfl)); (case hp => exact (Reps.one (show Kd.M (Kd.int .i64) _ _ _ x5_3 [.int .i64 x5_3] from rfl) (Reps.one (show Kd.M (Kd.int .i64) _ _ _ (rd l0 x4_2) [.int .i64 (rd l0 x4_2)] from rfl) (Reps.none _ _)))); intro v200 w22 ho23 hb hg_ hnew_; clear hg_ hnew_; (first | rw [← Ny199.out] at ho23 | (simp only [Int.reduceToNat] at ho23; rw [← Ny199.out] at ho23)); have n0_ := Aside0.mk (Kd.R_elder' (by (with_reducible repeat (first | apply Kd.R_alloc | apply Kd.R_drewN | apply Kd.R_drew)); exact HO_3.out) (Kd.R_base ho23) hb); have n1_ := Aside0.mk (Kd.R_lower (Kd.R_new' ho23 (Kd.R_lt (by (with_reducible repeat (first | apply Kd.R_alloc | apply Kd.R_drewN | apply Kd.R_drew)); exact HO_3.out))) (below_size (by repeat (first | (with_reducible first | exact HB.out | apply below_alloc | apply pw_below_drewN | apply below_drew1) | exact HB.out)))); have n2_ := Aside0.mk (below_step (by repeat (first | (with_reducible first | exact HB.out | apply below_alloc | apply pw_below_drewN | apply below_drew1) | exact HB.out)) hb); clear HO_3; clear HB; have HO_3 := n0_; have HO201 := n1_; have HB := n2_; clear n0_ n1_ n2_; clear hb ho23; obtain ⟨Ao25, co25, eo25⟩ := Kd.R_slice HO201.out; subst eo25) | ((with_reducible refine gate_builtin (b := .append) (xs := #[.tmp 43, .tmp 49]) rfl ?_); (try (refine gate_guard (by rfl) ?_; dsimp only)); at_builtin; refine Kd.R_append_rows (Kd.int .i64) (w0 := w) w.heap.size rfl (.tmp 43) (.tmp 49) 23 3 (.int .i64 0) 8 rfl Try.underlying23 info3 rfl (by decide) (by omega) u3 x3_2 y199 _ _ _ (fun k_ => some k_ ≠ (.slice Ao25 y199.length co25 : Value).ownBlock) (fun _ => False) rfl rfl ?aO ?aR (fun _ _ h => h) (fun _ h => h.elim) ?aF ?aB ?aS ?aL ?_; (case aR => repeat (first | exact (Kd.R_reads' HO201.out).2.2 | (with_reducible refine Kd.C_alloc ?_ _) | (with_reducible refine Kd.C_drewN ?_ _) | (with_reducible refine Kd.C_drew ?_))); (case aB => exact (by repeat (first | (with_reducible first | exact HB.out | apply below_alloc | apply pw_below_drewN | apply below_drew1) | exact HB.out))); (case aF => exact (fun k_ hk => Kd.fresh' (Kd.R_lt (by (with_reducible repeat (first | apply Kd.R_alloc | apply Kd.R_drewN | apply Kd.R_drew)); exact HO201.out)) k_ hk)); (case aO => exact (by (with_reducible repeat (first | apply Kd.R_alloc | apply Kd.R_drewN | apply Kd.R_drew)); exact Kd.R_mono HO_3.out (fun _ hk => hk.2))); (case aS => exact (below_size (by repeat (first | (with_reducible first | exact HB.out | apply below_alloc | apply pw_below_drewN | apply below_drew1) | exact HB.out)))); (case aL => have := LMc21.out; omega); intro v203 w24 ho hb hg hat; rw [← Ny202.out] at ho; have n0_ := Aside0.mk (Kd.R_after (ok := (fun _ => True)) (by (with_reducible repeat (first | apply Kd.R_alloc | apply Kd.R_drewN | apply Kd.R_drew)); exact HO201.out) hg hat); have n1_ := Aside0.mk (hb); have n2_ := Aside0.mk (ho); clear HO201; clear HB; clear HO_3; have HO201 := n0_; have HB := n1_; have HO204 := n2_; clear n0_ n1_ n2_; clear ho hb hg hat))
                            repeat (go_quiet (first | ((with_reducible refine gate_dst (N := 49) rfl ?_); (try (refine gate_guard (by rfl) ?_; dsimp only)); refine Kd.R_lit (Kd.int .i64) _ 3 ?hg (N := 49) ?hd (xs := ([x5_3, rd l0 x4_2] : List Int)) (inner := [.int .i64 x5_3, .int .i64 (rd l0 x4_2)]) (ok := fun _ => True) (okp := fun _ => True) ?hr ?hp (fun _ hk => hk) trivial (Below.refl _ _) (Nat.le_refl _) (by simp) ?_; (case hd => rfl); (case hg => rfl); (case hr => first | (go_simp; done) | (go_simp; rfl)); (case hp => exact (Reps.one (show Kd.M (Kd.int .i64) _ _ _ x5_3 [.int .i64 x5_3] from rfl) (Reps.one (show Kd.M (Kd.int .i64) _ _ _ (rd l0 x4_2) [.int .i64 (rd l0 x4_2)] from rfl) (Reps.none _ _)))); intro v200 w22 ho23 hb hg_ hnew_; clear hg_ hnew_; (first | rw [← Ny199.out] at ho23 | (simp only [Int.reduceToNat] at ho23; rw [← Ny199.out] at ho23)); have n0_ := Aside0.mk (Kd.R_elder' (by (with_reducible repeat (first | apply Kd.R_alloc | apply Kd.R_drewN | apply Kd.R_drew)); exact HO_3.out) (Kd.R_base ho23) hb); have n1_ := Aside0.mk (Kd.R_lower (Kd.R_new' ho23 (Kd.R_lt (by (with_reducible repeat (first | apply Kd.R_alloc | apply Kd.R_drewN | apply Kd.R_drew)); exact HO_3.out))) (below_size (by repeat (first | (with_reducible first | exact HB.out | apply below_alloc | apply pw_below_drewN | apply below_drew1) | exact HB.out)))); have n2_ := Aside0.mk (below_step (by repeat (first | (with_reducible first | exact HB.out | apply below_alloc | apply pw_below_drewN | apply below_drew1) | exact HB.out)) hb); clear HO_3; clear HB; have HO_3 := n0_; have HO201 := n1_; have HB := n2_; clear n0_ n1_ n2_; clear hb ho23; obtain ⟨Ao25, co25, eo25⟩ := Kd.R_slice HO201.out; subst eo25) | ((with_reducible refine gate_builtin (b := .append) (xs := #[.tmp 43, .tmp 49]) rfl ?_); (try (refine gate_guard (by rfl) ?_; dsimp only)); at_builtin; refine Kd.R_append_rows (Kd.int .i64) (w0 := w) w.heap.size rfl (.tmp 43) (.tmp 49) 23 3 (.int .i64 0) 8 rfl Try.underlying23 info3 rfl (by decide) (by omega) u3 x3_2 y199 _ _ _ (fun k_ => some k_ ≠ (.slice Ao25 y199.length co25 : Value).ownBlock) (fun _ => False) rfl rfl ?aO ?aR (fun _ _ h => h) (fun _ h => h.elim) ?aF ?aB ?aS ?aL ?_; (case aR => repeat (first | exact (Kd.R_reads' HO201.out).2.2 | (with_reducible refine Kd.C_alloc ?_ _) | (with_reducible refine Kd.C_drewN ?_ _) | (with_reducible refine Kd.C_drew ?_))); (case aB => exact (by repeat (first | (with_reducible first | exact HB.out | apply below_alloc | apply pw_below_drewN | apply below_drew1) | exact HB.out))); (case aF => exact (fun k_ hk => Kd.fresh' (Kd.R_lt (by (with_reducible repeat (first | apply Kd.R_alloc | apply Kd.R_drewN | apply Kd.R_drew)); exact HO201.out)) k_ hk)); (case aO => exact (by (with_reducible repeat (first | apply Kd.R_alloc | apply Kd.R_drewN | apply Kd.R_drew)); exact Kd.R_mono HO_3.out (fun _ hk => hk.2))); (case aS => exact (below_size (by repeat (first | (with_reducible first | exact HB.out | apply below_alloc | apply pw_below_drewN | apply below_drew1) | exact HB.out)))); (case aL => have := LMc21.out; omega); intro v203 w24 ho hb hg hat; rw [← Ny202.out] at ho; have n0_ := Aside0.mk (Kd.R_after (ok := (fun _ => True)) (by (with_reducible repeat (first | apply Kd.R_alloc | apply Kd.R_drewN | apply Kd.R_drew)); exact HO201.out) hg hat); have n1_ := Aside0.mk (hb); have n2_ := Aside0.mk (ho); clear HO201; clear HB; clear HO_3; have HO201 := n0_; have HB := n1_; have HO204 := n2_; clear n0_ n1_ n2_; clear ho hb hg hat)); try go_wp2_with (first | ((with_reducible refine gate_dst (N := 49) rfl ?_); (try (refine gate_guard (by rfl) ?_; dsimp only)); refine Kd.R_lit (Kd.int .i64) _ 3 ?hg (N := 49) ?hd (xs := ([x5_3, rd l0 x4_2] : List Int)) (inner := [.int .i64 x5_3, .int .i64 (rd l0 x4_2)]) (ok := fun _ => True) (okp := fun _ => True) ?hr ?hp (fun _ hk => hk) trivial (Below.refl _ _) (Nat.le_refl _) (by simp) ?_; (case hd => rfl); (case hg => rfl); (case hr => first | (go_simp; done) | (go_simp; rfl)); (case hp => exact (Reps.one (show Kd.M (Kd.int .i64) _ _ _ x5_3 [.int .i64 x5_3] from rfl) (Reps.one (show Kd.M (Kd.int .i64) _ _ _ (rd l0 x4_2) [.int .i64 (rd l0 x4_2)] from rfl) (Reps.none _ _)))); intro v200 w22 ho23 hb hg_ hnew_; clear hg_ hnew_; (first | rw [← Ny199.out] at ho23 | (simp only [Int.reduceToNat] at ho23; rw [← Ny199.out] at ho23)); have n0_ := Aside0.mk (Kd.R_elder' (by (with_reducible repeat (first | apply Kd.R_alloc | apply Kd.R_drewN | apply Kd.R_drew)); exact HO_3.out) (Kd.R_base ho23) hb); have n1_ := Aside0.mk (Kd.R_lower (Kd.R_new' ho23 (Kd.R_lt (by (with_reducible repeat (first | apply Kd.R_alloc | apply Kd.R_drewN | apply Kd.R_drew)); exact HO_3.out))) (below_size (by repeat (first | (with_reducible first | exact HB.out | apply below_alloc | apply pw_below_drewN | apply below_drew1) | exact HB.out)))); have n2_ := Aside0.mk (below_step (by repeat (first | (with_reducible first | exact HB.out | apply below_alloc | apply pw_below_drewN | apply below_drew1) | exact HB.out)) hb); clear HO_3; clear HB; have HO_3 := n0_; have HO201 := n1_; have HB := n2_; clear n0_ n1_ n2_; clear hb ho23; obtain ⟨Ao25, co25, eo25⟩ := Kd.R_slice HO201.out; subst eo25) | ((with_reducible refine gate_builtin (b := .append) (xs := #[.tmp 43, .tmp 49]) rfl ?_); (try (refine gate_guard (by rfl) ?_; dsimp only)); at_builtin; refine Kd.R_append_rows (Kd.int .i64) (w0 := w) w.heap.size rfl (.tmp 43) (.tmp 49) 23 3 (.int .i64 0) 8 rfl Try.underlying23 info3 rfl (by decide) (by omega) u3 x3_2 y199 _ _ _ (fun k_ => some k_ ≠ (.slice Ao25 y199.length co25 : Value).ownBlock) (fun _ => False) rfl rfl ?aO ?aR (fun _ _ h => h) (fun _ h => h.elim) ?aF ?aB ?aS ?aL ?_; (case aR => repeat (first | exact (Kd.R_reads' HO201.out).2.2 | (with_reducible refine Kd.C_alloc ?_ _) | (with_reducible refine Kd.C_drewN ?_ _) | (with_reducible refine Kd.C_drew ?_))); (case aB => exact (by repeat (first | (with_reducible first | exact HB.out | apply below_alloc | apply pw_below_drewN | apply below_drew1) | exact HB.out))); (case aF => exact (fun k_ hk => Kd.fresh' (Kd.R_lt (by (with_reducible repeat (first | apply Kd.R_alloc | apply Kd.R_drewN | apply Kd.R_drew)); exact HO201.out)) k_ hk)); (case aO => exact (by (with_reducible repeat (first | apply Kd.R_alloc | apply Kd.R_drewN | apply Kd.R_drew)); exact Kd.R_mono HO_3.out (fun _ hk => hk.2))); (case aS => exact (below_size (by repeat (first | (with_reducible first | exact HB.out | apply below_alloc | apply pw_below_drewN | apply below_drew1) | exact HB.out)))); (case aL => have := LMc21.out; omega); intro v203 w24 ho hb hg hat; rw [← Ny202.out] at ho; have n0_ := Aside0.mk (Kd.R_after (ok := (fun _ => True)) (by (with_reducible repeat (first | apply Kd.R_alloc | apply Kd.R_drewN | apply Kd.R_drew)); exact HO201.out) hg hat); have n1_ := Aside0.mk (hb); have n2_ := Aside0.mk (ho); clear HO201; clear HB; clear HO_3; have HO201 := n0_; have HB := n1_; have HO204 := n2_; clear n0_ n1_ n2_; clear ho hb hg hat)))
                            go_roundg k3
                            case measure => have := HJ1.out; have := HK2.out; have := HK3.out; omega
                            case rel => exact ⟨(y202), (wrap64 (x4_2 + x5_3)), (by first | rfl | (simp; done) | (simp [*]; done)), H', ⟨by have := HJ1.out; have := HK2.out; have := HK3.out; omega⟩, ⟨by (with_reducible repeat (first | apply Kd.R_alloc | apply Kd.R_drewN | apply Kd.R_drew)); exact Kd.R_mono HO204.out (fun _ hk => trivial)⟩, ⟨by repeat (first | (with_reducible first | exact HB.out | apply below_alloc | apply pw_below_drewN | apply below_drew1) | exact HB.out)⟩⟩
                          · rw [if_neg c21] at H
                            exact absurd H (by simp)
                        · rw [if_neg c20] at H
                          exact absurd H (by simp)
                      · rw [if_neg c19] at H
                        exact absurd H (by simp)
                  · rw [if_neg c7] at H
                    have c7b0 : decide (x5_3 < 255) = false := decide_eq_false c7
                    clear c7
                    by_cases c26 : 0 ≤ x4_2
                    · rw [if_pos c26] at H
                      have c26b0 : decide (0 ≤ x4_2) = true := decide_eq_true c26
                      clear c26
                      by_cases c27 : x4_2 < (l0.length : Int)
                      · rw [if_pos c27] at H
                        have c27b0 : decide (x4_2 < (l0.length : Int)) = true := decide_eq_true c27
                        clear c27
                        obtain ⟨y206, hy206⟩ : ∃ y_ : List Int, y_ = (([x5_3, rd l0 x4_2] : List Int)) := ⟨_, rfl⟩
                        replace H : (if x3_2.length + y206.length < 17592186044416 then (impl_PackRuns.l0 k3 l0 (x3_2 ++ y206) (wrap64 (x4_2 + x5_3))) else (none)) = some r := by first | (rw [hy206]; with_reducible exact H) | (have H2_ := (Option.bind_some _ _).symm.trans H; rw [hy206]; with_reducible exact H2_) | (have H2_ := (Option.bind_some _ _).symm.trans H; with_reducible exact H2_) | with_reducible exact H | (rw [hy206]; exact H) | exact H
                        have Ny206 := Aside0.mk hy206
                        clear hy206
                        by_cases c28 : x3_2.length + y206.length < 17592186044416
                        · rw [if_pos c28] at H
                          have LMc28 := Aside0.mk c28
                          clear c28
                          obtain ⟨y209, hy209⟩ : ∃ y_ : List Int, y_ = (x3_2 ++ y206) := ⟨_, rfl⟩
                          replace H : (impl_PackRuns.l0 k3 l0 y209 (wrap64 (x4_2 + x5_3))) = some r := by first | (rw [hy209]; with_reducible exact H) | (have H2_ := (Option.bind_some _ _).symm.trans H; rw [hy209]; with_reducible exact H2_) | (have H2_ := (Option.bind_some _ _).symm.trans H; with_reducible exact H2_) | with_reducible exact H | (rw [hy209]; exact H) | exact H
                          have Ny209 := Aside0.mk hy209
                          clear hy209
                          have H' := Aside0.mk H
                          clear H
                          have p205 : 0 ≤ (x4_2 : Int) := of_decide_eq_true (by first | (with_reducible assumption) | assumption)
                          have q205 : x4_2 < (l0.length : Int) := of_decide_eq_true (by first | (with_reducible assumption) | assumption)
                          obtain ⟨ad205, e205, hx205_0⟩ := Kd.at_int HR0.out x4_2 p205 q205
                          cases e205
                          replace hx205_0 := (HB.out.cell (World.block_lt_of_cell? w _ hx205_0)).trans hx205_0
                          replace p205 := eq_true p205
                          replace q205 := eq_true q205
                          go_wp2_with (first | ((with_reducible refine gate_dst (N := 49) rfl ?_); (try (refine gate_guard (by rfl) ?_; dsimp only)); refine Kd.R_lit (Kd.int .i64) _ 3 ?hg (N := 49) ?hd (xs := ([x5_3, rd l0 x4_2] : List Int)) (inner := [.int .i64 x5_3, .int .i64 (rd l0 x4_2)]) (ok := fun _ => True) (okp := fun _ => True) ?hr ?hp (fun _ hk => hk) trivial (Below.refl _ _) (Nat.le_refl _) (by simp) ?_; (case hd => rfl); (case hg => rfl); (case hr => first | (go_simp; done) | (go_simp; rfl)); (case hp => exact (Reps.one (show Kd.M (Kd.int .i64) _ _ _ x5_3 [.int .i64 x5_3] from rfl) (Reps.one (show Kd.M (Kd.int .i64) _ _ _ (rd l0 x4_2) [.int .i64 (rd l0 x4_2)] from rfl) (Reps.none _ _)))); intro v207 w29 ho30 hb hg_ hnew_; clear hg_ hnew_; (first | rw [← Ny206.out] at ho30 | (simp only [Int.reduceToNat] at ho30; rw [← Ny206.out] at ho30)); have n0_ := Aside0.mk (Kd.R_elder' (by (with_reducible repeat (first | apply Kd.R_alloc | apply Kd.R_drewN | apply Kd.R_drew)); exact HO_3.out) (Kd.R_base ho30) hb); have n1_ := Aside0.mk (Kd.R_lower (Kd.R_new' ho30 (Kd.R_lt (by (with_reducible repeat (first | apply Kd.R_alloc | apply Kd.R_drewN | apply Kd.R_drew)); exact HO_3.out))) (below_size (by repeat (first | (with_reducible first | exact HB.out | apply below_alloc | apply pw_below_drewN | apply below_drew1) | exact HB.out)))); have n2_ := Aside0.mk (below_step (by repeat (first | (with_reducible first | exact HB.out | apply below_alloc | apply pw_below_drewN | apply below_drew1) | exact HB.out)) hb); clear HO_3; clear HB; have HO_3 := n0_; have HO208 := n1_; have HB := n2_; clear n0_ n1_ n2_; clear hb ho30; obtain ⟨Ao32, co32, eo32⟩ := Kd.R_slice HO208.out; subst eo32) | ((with_reducible refine gate_builtin (b := .append) (xs := #[.tmp 43, .tmp 49]) rfl ?_); (try (refine gate_guard (by rfl) ?_; dsimp only)); at_builtin; refine Kd.R_append_rows (Kd.int .i64) (w0 := w) w.heap.size rfl (.tmp 43) (.tmp 49) 23 3 (.int .i64 0) 8 rfl Try.underlying23 info3 rfl (by decide) (by omega) u3 x3_2 y206 _ _ _ (fun k_ => some k_ ≠ (.slice Ao32 y206.length co32 : Value).ownBlock) (fun _ => False) rfl rfl ?aO ?aR (fun _ _ h => h) (fun _ h => h.elim) ?aF ?aB ?aS ?aL ?_; (case aR => repeat (first | exact (Kd.R_reads' HO208.out).2.2 | (with_reducible refine Kd.C_alloc ?_ _) | (with_reducible refine Kd.C_drewN ?_ _) | (with_reducible refine Kd.C_drew ?_))); (case aB => exact (by repeat (first | (with_reducible first | exact HB.out | apply below_alloc | apply pw_below_drewN | apply below_drew1) | exact HB.out))); (case aF => exact (fun k_ hk => Kd.fresh' (Kd.R_lt (by (with_reducible repeat (first | apply Kd.R_alloc | apply Kd.R_drewN | apply Kd.R_drew)); exact HO208.out)) k_ hk)); (case aO => exact (by (with_reducible repeat (first | apply Kd.R_alloc | apply Kd.R_drewN | apply Kd.R_drew)); exact Kd.R_mono HO_3.out (fun _ hk => hk.2))); (case aS => exact (below_size (by repeat (first | (with_reducible first | exact HB.out | apply below_alloc | apply pw_below_drewN | apply below_drew1) | exact HB.out)))); (case aL => have := LMc28.out; omega); intro v210 w31 ho hb hg hat; rw [← Ny209.out] at ho; have n0_ := Aside0.mk (Kd.R_after (ok := (fun _ => True)) (by (with_reducible repeat (first | apply Kd.R_alloc | apply Kd.R_drewN | apply Kd.R_drew)); exact HO208.out) hg hat); have n1_ := Aside0.mk (hb); have n2_ := Aside0.mk (ho); clear HO208; clear HB; clear HO_3; have HO208 := n0_; have HB := n1_; have HO211 := n2_; clear n0_ n1_ n2_; clear ho hb hg hat))
                          repeat (go_quiet (first | ((with_reducible refine gate_dst (N := 49) rfl ?_); (try (refine gate_guard (by rfl) ?_; dsimp only)); refine Kd.R_lit (Kd.int .i64) _ 3 ?hg (N := 49) ?hd (xs := ([x5_3, rd l0 x4_2] : List Int)) (inner := [.int .i64 x5_3, .int .i64 (rd l0 x4_2)]) (ok := fun _ => True) (okp := fun _ => True) ?hr ?hp (fun _ hk => hk) trivial (Below.refl _ _) (Nat.le_refl _) (by simp) ?_; (case hd => rfl); (case hg => rfl); (case hr => first | (go_simp; done) | (go_simp; rfl)); (case hp => exact (Reps.one (show Kd.M (Kd.int .i64) _ _ _ x5_3 [.int .i64 x5_3] from rfl) (Reps.one (show Kd.M (Kd.int .i64) _ _ _ (rd l0 x4_2) [.int .i64 (rd l0 x4_2)] from rfl) (Reps.none _ _)))); intro v207 w29 ho30 hb hg_ hnew_; clear hg_ hnew_; (first | rw [← Ny206.out] at ho30 | (simp only [Int.reduceToNat] at ho30; rw [← Ny206.out] at ho30)); have n0_ := Aside0.mk (Kd.R_elder' (by (with_reducible repeat (first | apply Kd.R_alloc | apply Kd.R_drewN | apply Kd.R_drew)); exact HO_3.out) (Kd.R_base ho30) hb); have n1_ := Aside0.mk (Kd.R_lower (Kd.R_new' ho30 (Kd.R_lt (by (with_reducible repeat (first | apply Kd.R_alloc | apply Kd.R_drewN | apply Kd.R_drew)); exact HO_3.out))) (below_size (by repeat (first | (with_reducible first | exact HB.out | apply below_alloc | apply pw_below_drewN | apply below_drew1) | exact HB.out)))); have n2_ := Aside0.mk (below_step (by repeat (first | (with_reducible first | exact HB.out | apply below_alloc | apply pw_below_drewN | apply below_drew1) | exact HB.out)) hb); clear HO_3; clear HB; have HO_3 := n0_; have HO208 := n1_; have HB := n2_; clear n0_ n1_ n2_; clear hb ho30; obtain ⟨Ao32, co32, eo32⟩ := Kd.R_slice HO208.out; subst eo32) | ((with_reducible refine gate_builtin (b := .append) (xs := #[.tmp 43, .tmp 49]) rfl ?_); (try (refine gate_guard (by rfl) ?_; dsimp only)); at_builtin; refine Kd.R_append_rows (Kd.int .i64) (w0 := w) w.heap.size rfl (.tmp 43) (.tmp 49) 23 3 (.int .i64 0) 8 rfl Try.underlying23 info3 rfl (by decide) (by omega) u3 x3_2 y206 _ _ _ (fun k_ => some k_ ≠ (.slice Ao32 y206.length co32 : Value).ownBlock) (fun _ => False) rfl rfl ?aO ?aR (fun _ _ h => h) (fun _ h => h.elim) ?aF ?aB ?aS ?aL ?_; (case aR => repeat (first | exact (Kd.R_reads' HO208.out).2.2 | (with_reducible refine Kd.C_alloc ?_ _) | (with_reducible refine Kd.C_drewN ?_ _) | (with_reducible refine Kd.C_drew ?_))); (case aB => exact (by repeat (first | (with_reducible first | exact HB.out | apply below_alloc | apply pw_below_drewN | apply below_drew1) | exact HB.out))); (case aF => exact (fun k_ hk => Kd.fresh' (Kd.R_lt (by (with_reducible repeat (first | apply Kd.R_alloc | apply Kd.R_drewN | apply Kd.R_drew)); exact HO208.out)) k_ hk)); (case aO => exact (by (with_reducible repeat (first | apply Kd.R_alloc | apply Kd.R_drewN | apply Kd.R_drew)); exact Kd.R_mono HO_3.out (fun _ hk => hk.2))); (case aS => exact (below_size (by repeat (first | (with_reducible first | exact HB.out | apply below_alloc | apply pw_below_drewN | apply below_drew1) | exact HB.out)))); (case aL => have := LMc28.out; omega); intro v210 w31 ho hb hg hat; rw [← Ny209.out] at ho; have n0_ := Aside0.mk (Kd.R_after (ok := (fun _ => True)) (by (with_reducible repeat (first | apply Kd.R_alloc | apply Kd.R_drewN | apply Kd.R_drew)); exact HO208.out) hg hat); have n1_ := Aside0.mk (hb); have n2_ := Aside0.mk (ho); clear HO208; clear HB; clear HO_3; have HO208 := n0_; have HB := n1_; have HO211 := n2_; clear n0_ n1_ n2_; clear ho hb hg hat)); try go_wp2_with (first | ((with_reducible refine gate_dst (N := 49) rfl ?_); (try (refine gate_guard (by rfl) ?_; dsimp only)); refine Kd.R_lit (Kd.int .i64) _ 3 ?hg (N := 49) ?hd (xs := ([x5_3, rd l0 x4_2] : List Int)) (inner := [.int .i64 x5_3, .int .i64 (rd l0 x4_2)]) (ok := fun _ => True) (okp := fun _ => True) ?hr ?hp (fun _ hk => hk) trivial (Below.refl _ _) (Nat.le_refl _) (by simp) ?_; (case hd => rfl); (case hg => rfl); (case hr => first | (go_simp; done) | (go_simp; rfl)); (case hp => exact (Reps.one (show Kd.M (Kd.int .i64) _ _ _ x5_3 [.int .i64 x5_3] from rfl) (Reps.one (show Kd.M (Kd.int .i64) _ _ _ (rd l0 x4_2) [.int .i64 (rd l0 x4_2)] from rfl) (Reps.none _ _)))); intro v207 w29 ho30 hb hg_ hnew_; clear hg_ hnew_; (first | rw [← Ny206.out] at ho30 | (simp only [Int.reduceToNat] at ho30; rw [← Ny206.out] at ho30)); have n0_ := Aside0.mk (Kd.R_elder' (by (with_reducible repeat (first | apply Kd.R_alloc | apply Kd.R_drewN | apply Kd.R_drew)); exact HO_3.out) (Kd.R_base ho30) hb); have n1_ := Aside0.mk (Kd.R_lower (Kd.R_new' ho30 (Kd.R_lt (by (with_reducible repeat (first | apply Kd.R_alloc | apply Kd.R_drewN | apply Kd.R_drew)); exact HO_3.out))) (below_size (by repeat (first | (with_reducible first | exact HB.out | apply below_alloc | apply pw_below_drewN | apply below_drew1) | exact HB.out)))); have n2_ := Aside0.mk (below_step (by repeat (first | (with_reducible first | exact HB.out | apply below_alloc | apply pw_below_drewN | apply below_drew1) | exact HB.out)) hb); clear HO_3; clear HB; have HO_3 := n0_; have HO208 := n1_; have HB := n2_; clear n0_ n1_ n2_; clear hb ho30; obtain ⟨Ao32, co32, eo32⟩ := Kd.R_slice HO208.out; subst eo32) | ((with_reducible refine gate_builtin (b := .append) (xs := #[.tmp 43, .tmp 49]) rfl ?_); (try (refine gate_guard (by rfl) ?_; dsimp only)); at_builtin; refine Kd.R_append_rows (Kd.int .i64) (w0 := w) w.heap.size rfl (.tmp 43) (.tmp 49) 23 3 (.int .i64 0) 8 rfl Try.underlying23 info3 rfl (by decide) (by omega) u3 x3_2 y206 _ _ _ (fun k_ => some k_ ≠ (.slice Ao32 y206.length co32 : Value).ownBlock) (fun _ => False) rfl rfl ?aO ?aR (fun _ _ h => h) (fun _ h => h.elim) ?aF ?aB ?aS ?aL ?_; (case aR => repeat (first | exact (Kd.R_reads' HO208.out).2.2 | (with_reducible refine Kd.C_alloc ?_ _) | (with_reducible refine Kd.C_drewN ?_ _) | (with_reducible refine Kd.C_drew ?_))); (case aB => exact (by repeat (first | (with_reducible first | exact HB.out | apply below_alloc | apply pw_below_drewN | apply below_drew1) | exact HB.out))); (case aF => exact (fun k_ hk => Kd.fresh' (Kd.R_lt (by (with_reducible repeat (first | apply Kd.R_alloc | apply Kd.R_drewN | apply Kd.R_drew)); exact HO208.out)) k_ hk)); (case aO => exact (by (with_reducible repeat (first | apply Kd.R_alloc | apply Kd.R_drewN | apply Kd.R_drew)); exact Kd.R_mono HO_3.out (fun _ hk => hk.2))); (case aS => exact (below_size (by repeat (first | (with_reducible first | exact HB.out | apply below_alloc | apply pw_below_drewN | apply below_drew1) | exact HB.out)))); (case aL => have := LMc28.out; omega); intro v210 w31 ho hb hg hat; rw [← Ny209.out] at ho; have n0_ := Aside0.mk (Kd.R_after (ok := (fun _ => True)) (by (with_reducible repeat (first | apply Kd.R_alloc | apply Kd.R_drewN | apply Kd.R_drew)); exact HO208.out) hg hat); have n1_ := Aside0.mk (hb); have n2_ := Aside0.mk (ho); clear HO208; clear HB; clear HO_3; have HO208 := n0_; have HB := n1_; have HO211 := n2_; clear n0_ n1_ n2_; clear ho hb hg hat)))
                          go_roundg k3
                          case measure => have := HJ1.out; have := HK2.out; have := HK3.out; omega
                          case rel => exact ⟨(y209), (wrap64 (x4_2 + x5_3)), (by first | rfl | (simp; done) | (simp [*]; done)), H', ⟨by have := HJ1.out; have := HK2.out; have := HK3.out; omega⟩, ⟨by (with_reducible repeat (first | apply Kd.R_alloc | apply Kd.R_drewN | apply Kd.R_drew)); exact Kd.R_mono HO211.out (fun _ hk => trivial)⟩, ⟨by repeat (first | (with_reducible first | exact HB.out | apply below_alloc | apply pw_below_drewN | apply below_drew1) | exact HB.out)⟩⟩
                        · rw [if_neg c28] at H
                          exact absurd H (by simp)
                      · rw [if_neg c27] at H
                        exact absurd H (by simp)
                    · rw [if_neg c26] at H
                      exact absurd H (by simp)
            · rw [if_neg c6] at H
              have c6b0 : decide (x4_2 < (l0.length : Int)) = false := decide_eq_false c6
              clear c6
              obtain rfl := Option.some.inj H
              go_wp2
              repeat (go_quiet (fail); try go_wp2)
              go_ret
              exact ⟨_, by first | rfl | (simp [errW_none, errW_some] <;> rfl) | (simp [*, errW_none, errW_some] <;> rfl), by (with_reducible repeat (first | apply Kd.R_alloc | apply Kd.R_drewN | apply Kd.R_drew)); exact HO_3.out, by repeat (first | (with_reducible first | exact HB.out | apply below_alloc | apply pw_below_drewN | apply below_drew1) | exact HB.out)⟩

end Go.Proofs.Ytnflmekjeehgaaa.PFnUnpackRuns
