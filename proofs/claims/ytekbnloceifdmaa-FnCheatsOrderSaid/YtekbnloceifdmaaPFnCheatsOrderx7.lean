-- Written by wip/tools/print_more.py (forms of the print, over contracts of this session).
import Derived.Test.YtekbnloceifdmaaPFnCheatsOrderx0
import Derived.Test.YtekbnloceifdmaaPFnCheatsOrderx3
import Derived.Test.YtekbnloceifdmaaPFnCheatsOrderx4
import Derived.Test.YtekbnloceifdmaaPFnCheatsOrderx5
import Derived.Test.YtekbnloceifdmaaPFnCheatsOrderx6
namespace Go.Proofs.Ytekbnloceifdmaa.PFnCheatsOrder
open Go.RowKit Go.Proofs.YtekbnloceifdmaaW.PrintWords Go.Proofs.YtekbnloceifdmaaW.PrintLast Go.Proofs.YtekbnloceifdmaaW.PrintMore
attribute [local go_sem] max2_int min2_int max_two min_two max_three min_three max_four min_four   -- for this text's walks alone
set_option linter.unusedVariables false
set_option linter.unusedSimpArgs false

/-! ### spec_l20Memory: function 78 -/
def spec_l20Memory.l0 : Nat → Int → Int → List Int → Int → List Int → List (List Int) → Int → Option (List Int × (List (List Int)) × Int × Int)
  | 0, _, _, _, _, _, _, _ => none
  | k + 1, x1, x6, x1000, x1001, x284000, x284001, x284002 => if x6 > 0 then ((spec_l20Rd_pick.f k x1000 x1001 16).bind fun bt286 => ((spec_l20Rd_pick.f k x1000 bt286.2 16).bind fun bt288 => ((some (([bt286.1, wrap64 (240 + bt288.1)] : List Int) : List Int)).bind fun y290 => ((spec_l20Rd_pick.f k x1000 bt288.2 2).bind fun bt293 => (if 0 ≤ bt293.1 then (if bt293.1 < (y290.length : Int) then ((spec_l20Rd_pick.f k x1000 bt293.2 256).bind fun bt296 => (if 0 ≤ (rd y290 bt293.1) then (if (rd y290 bt293.1) < (x284000.length : Int) then (spec_l20Memory.l0 k x1 (wrap64 (x6 - 1)) x1000 bt296.2 (x284000.set ((rd y290 bt293.1) : Int).toNat bt296.1) x284001 x284002) else (none)) else (none))) else (none)) else (none)))))) else ((spec_l20Rd_pick.f k x1000 x1001 (x284001.length : Int)).bind fun bt299 => ((spec_l20Rd_odd.f k x1000 bt299.2 x1).bind fun bt301 => (if bt301.1 = true then ((spec_l20Rd_pick.f k x1000 bt301.2 4).bind fun bt303 => (if bt303.1 = 0 then ((spec_l20Rd_pick.f k x1000 bt303.2 256).bind fun bt305 => ((some (([(-1), 256] : List Int) : List Int)).bind fun y307 => ((spec_l20Rd_pick.f k x1000 bt305.2 2).bind fun bt310 => (if 0 ≤ bt310.1 then (if bt310.1 < (y307.length : Int) then (if 0 ≤ bt305.1 then (if bt305.1 < (x284000.length : Int) then (some ((x284000.set (bt305.1 : Int).toNat (rd y307 bt310.1)), x284001, bt299.1, bt310.2)) else (none)) else (none)) else (none)) else (none))))) else (if bt303.1 = 1 then (if 1 ≤ (x284000.length : Int) then (some ((x284000.drop (1 : Int).toNat), x284001, bt299.1, bt303.2)) else (none)) else (if bt303.1 = 2 then (some (x284000, x284001, (x284001.length : Int), bt303.2)) else (some (x284000, (([] : List (List Int))), bt299.1, bt303.2)))))) else (some (x284000, x284001, bt299.1, bt301.2)))))
def spec_l20Memory.f (k : Nat) (s0_0 : List Int) (s0_1 : Int) (a1 : Int) : Option (List Int × (List (List Int)) × Int × Int) := (spec_l20Rom.f k s0_0 s0_1).bind fun bt272 => ((spec_NewMemory.f k bt272.1).bind fun bt276 => ((spec_l20Rd_pick.f k s0_0 bt272.2 6).bind fun bt284 => (spec_l20Memory.l0 k a1 bt284.1 s0_0 bt284.2 bt276.1 bt276.2.1 bt276.2.2)))
theorem spec_l20Memory.mono_l : ∀ k, (∀ y0 y1 y2 y3 y4 y5 y6, LeO (spec_l20Memory.l0 k y0 y1 y2 y3 y4 y5 y6) (spec_l20Memory.l0 (k + 1) y0 y1 y2 y3 y4 y5 y6))
  | 0 => fun _ _ _ _ _ _ _ r h => by simp [spec_l20Memory.l0] at h
  | k + 1 => by
    have ih0 := spec_l20Memory.mono_l k
    · intro y0 y1 y2 y3 y4 y5 y6
      unfold spec_l20Memory.l0
      repeat' first
      | (with_reducible exact ih0 _ _ _ _ _ _ _)
      | (with_reducible exact spec_NewMemory.mono _ _)
      | (with_reducible exact spec_l20Rd_odd.mono _ _ _ _)
      | (with_reducible exact spec_l20Rd_pick.mono _ _ _ _)
      | (with_reducible exact spec_l20Rom.mono _ _ _)
      | (with_reducible exact LeO.refl _)
      | (with_reducible exact LeO.none _)
      | (with_reducible refine LeO.ite ?_ ?_)
      | (with_reducible refine LeO.bind ?_ (fun _ => ?_))
      | exact ih0 _ _ _ _ _ _ _
      | exact spec_NewMemory.mono _ _
      | exact spec_l20Rd_odd.mono _ _ _ _
      | exact spec_l20Rd_pick.mono _ _ _ _
      | exact spec_l20Rom.mono _ _ _
      | exact LeO.none _
      | refine LeO.ite ?_ ?_
      | refine LeO.bind ?_ (fun _ => ?_)
theorem spec_l20Memory.mono : ∀ a0 a1 a2 k, LeO (spec_l20Memory.f k a0 a1 a2) (spec_l20Memory.f (k + 1) a0 a1 a2) := by
  intro a0 a1 a2 k
  have ih0 := spec_l20Memory.mono_l k
  unfold spec_l20Memory.f
  repeat' first
      | (with_reducible exact ih0 _ _ _ _ _ _ _)
      | (with_reducible exact spec_NewMemory.mono _ _)
      | (with_reducible exact spec_l20Rd_odd.mono _ _ _ _)
      | (with_reducible exact spec_l20Rd_pick.mono _ _ _ _)
      | (with_reducible exact spec_l20Rom.mono _ _ _)
      | (with_reducible exact LeO.refl _)
      | (with_reducible exact LeO.none _)
      | (with_reducible refine LeO.ite ?_ ?_)
      | (with_reducible refine LeO.bind ?_ (fun _ => ?_))
      | exact ih0 _ _ _ _ _ _ _
      | exact spec_NewMemory.mono _ _
      | exact spec_l20Rd_odd.mono _ _ _ _
      | exact spec_l20Rd_pick.mono _ _ _ _
      | exact spec_l20Rom.mono _ _ _
      | exact LeO.none _
      | refine LeO.ite ?_ ?_
      | refine LeO.bind ?_ (fun _ => ?_)
def spec_l20Memory.T5 : Bool × List (List Nat × List Nat) := (true, [([], []), ([0], [0]), ([], []), ([2], [2]), ([], []), ([4, 3], [4]), ([5], [5]), ([3, 6], [3, 6]), ([], []), ([8, 5], [8]), ([7, 9], [7, 9]), ([10], [10]), ([], []), ([12, 9], [12]), ([1, 11, 0, 1, 2, 3, 4, 5, 6, 7, 8, 9, 10, 11, 12, 13], [1, 11]), ([14, 13, 13, 0, 1, 2, 3, 4, 5, 6, 7, 8, 9, 10, 11, 12, 13], [13, 14])])
def spec_l20Memory.B5 : List Nat := [0, 1, 0, 4, 0, 28, 60, 124, 0, 316, 1020, 2044, 0, 4924, 16383, 32767]
theorem spec_l20Memory.tab5 : rtab .any (opsOf Try.f78 5) = spec_l20Memory.T5 := by kernel_rfl
theorem spec_l20Memory.bits5 : waitsOk spec_l20Memory.T5.2 spec_l20Memory.B5 = true := by kernel_rfl
def spec_l20Memory.T11 : Bool × List (List Nat × List Nat) := (true, [([], []), ([0], [0]), ([], []), ([2], [2]), ([], []), ([], []), ([5, 3], [5]), ([4, 6], [4, 6]), ([7], [7]), ([1, 3, 0, 1, 2, 3, 4, 5, 6, 7, 8], [1, 3]), ([9, 8, 6, 0, 1, 2, 3, 4, 5, 6, 7, 8], [8, 9])])
def spec_l20Memory.B11 : List Nat := [0, 1, 0, 4, 0, 0, 44, 124, 252, 511, 1023]
theorem spec_l20Memory.tab11 : rtab .any (opsOf Try.f78 11) = spec_l20Memory.T11 := by kernel_rfl
theorem spec_l20Memory.bits11 : waitsOk spec_l20Memory.T11.2 spec_l20Memory.B11 = true := by kernel_rfl
set_option maxHeartbeats 8000000 in
set_option maxRecDepth 100000 in
theorem spec_l20Memory.calls (k : Nat) (g : Nat) (s0_0 : List Int) (s0_1 : Int) (a1 : Int) (r1 : List Int) (r2 : List (List Int)) (r3 : Int) (r4 : Int) (w0 w : World) (hI : IsS109 w0 w g s0_0 s0_1) (hB : Below w0.heap.size w0 w) (h : spec_l20Memory.f k s0_0 s0_1 a1 = some (r1, r2, r3, r4)) :
    Calls Try.prog 78 #[.pointer (some ⟨g, 0, none⟩), .int .i64 a1] w fun e w' => ∃ v0_ v1_ : Value, e = .returned (.agg #[v0_, v1_, .int .i64 r3]) ∧ Kd.Q (Kd.int .i64) 3 w' w.heap.size (fun _ => True) v0_ r1 ∧ Kd.S (Kd.slice 3 (Kd.int .i64)) 22 w' w.heap.size (fun k_ => some k_ ≠ (v0_ : Value).ownBlock) v1_ r2 ∧ IsS109 w0 w' g s0_0 r4 ∧ Below w0.heap.size w0 w' ∧ KeepBut w w' g none := by
  have hu42 := Try.underlying42
  have HI0 := Aside0.mk hI
  have HK := Aside0.mk (KeepBut.refl w g none)
  have HL := Aside0.mk hB.size
  clear hI
  have HW0 := Aside0.mk hB.size
  have HB := Aside0.mk hB
  clear hB
  have H : ((spec_l20Rom.f k s0_0 s0_1).bind fun bt272 => ((spec_NewMemory.f k bt272.1).bind fun bt276 => ((spec_l20Rd_pick.f k s0_0 bt272.2 6).bind fun bt284 => (spec_l20Memory.l0 k a1 bt284.1 s0_0 bt284.2 bt276.1 bt276.2.1 bt276.2.2)))) = some (r1, r2, r3, r4) := h
  clear h
  replace H := Option.bind_eq_some_iff.mp H
  obtain ⟨⟨t272, t275⟩, A30, H⟩ := H
  replace H : ((spec_NewMemory.f k t272).bind fun bt276 => ((spec_l20Rd_pick.f k s0_0 t275 6).bind fun bt284 => (spec_l20Memory.l0 k a1 bt284.1 s0_0 bt284.2 bt276.1 bt276.2.1 bt276.2.2))) = some (r1, r2, r3, r4) := H
  have A3 := Aside0.mk A30
  clear A30
  replace H := Option.bind_eq_some_iff.mp H
  obtain ⟨⟨t276, t279, t282⟩, A40, H⟩ := H
  replace H : ((spec_l20Rd_pick.f k s0_0 t275 6).bind fun bt284 => (spec_l20Memory.l0 k a1 bt284.1 s0_0 bt284.2 t276 t279 t282)) = some (r1, r2, r3, r4) := H
  have A4 := Aside0.mk A40
  clear A40
  replace H := Option.bind_eq_some_iff.mp H
  obtain ⟨⟨t284, t285⟩, A50, H⟩ := H
  replace H : (spec_l20Memory.l0 k a1 t284 s0_0 t285 t276 t279 t282) = some (r1, r2, r3, r4) := H
  have A5 := Aside0.mk A50
  clear A50
  have H' := Aside0.mk H
  clear H
  go_enter Try.func78, Try.ntmps78
  go_wp2_with (first | ((with_reducible refine gate_dst (N := 4) rfl ?_); refine box_event ?hg (N := 4) ?hd (cs := #[.slice none 0 0, .slice none 0 0, .int .i64 0]) (t := 42) ?hr ?_; (case hd => rfl); (case hg => rfl); (case hr => first | (go_simp; done) | (go_simp; rfl)); intro gb271 hg w6 hbox hb; have n0_ := Aside0.mk (IsS109.below (by repeat (first | (with_reducible first | exact HI0.out | apply IsS109.alloc | apply IsS109.drewN | apply IsS109.drew | apply IsS109.set_1) | exact HI0.out)) hb); have n1_ := Aside0.mk (KeepBut.trans (by repeat (first | (with_reducible first | exact HK.out | apply KeepBut.set_ | apply keep_drewN | apply keep_drew | apply keep_alloc) | exact HK.out)) (KeepBut.of_below hb g none) (.inl rfl)); have n2_ := Aside0.mk (below_step (by repeat (first | (with_reducible first | exact HB.out | apply below_alloc | apply pw_below_drewN | apply below_drew1 | refine below_set ?_ (IsS109.ge HI0.out)) | exact HB.out)) hb); have n3_ := Aside0.mk (hbox); have n4_ := Aside0.mk ((by rw [hg]; exact (keep_size (w := w) (g := g) (row := none) (by repeat (first | (with_reducible first | exact HK.out | apply KeepBut.set_ | apply keep_drewN | apply keep_drew | apply keep_alloc) | exact HK.out))) : w.heap.size ≤ gb271)); have n5_ := Aside0.mk ((Nat.le_trans HW0.out (by rw [hg]; exact (keep_size (w := w) (g := g) (row := none) (by repeat (first | (with_reducible first | exact HK.out | apply KeepBut.set_ | apply keep_drewN | apply keep_drew | apply keep_alloc) | exact HK.out))) : w.heap.size ≤ gb271) : w0.heap.size ≤ gb271)); have n6_ := Aside0.mk ((by rw [hg]; exact Nat.ne_of_lt (IsS109.lt (show IsS109 w0 _ g s0_0 s0_1 from by repeat (first | (with_reducible first | exact HI0.out | apply IsS109.alloc | apply IsS109.drewN | apply IsS109.drew | apply IsS109.set_1) | exact HI0.out))) : g ≠ gb271)); have n7_ := Aside0.mk ((by rw [hg]; exact Nat.ne_of_gt (IsS109.lt (show IsS109 w0 _ g s0_0 s0_1 from by repeat (first | (with_reducible first | exact HI0.out | apply IsS109.alloc | apply IsS109.drewN | apply IsS109.drew | apply IsS109.set_1) | exact HI0.out))) : gb271 ≠ g)); clear HI0; clear HK; clear HB; have HI0 := n0_; have HK := n1_; have HB := n2_; have BK271 := n3_; have GW271 := n4_; have GE271 := n5_; have NB0_271 := n6_; have NB271_0 := n7_; clear n0_ n1_ n2_ n3_ n4_ n5_ n6_ n7_; clear hb hbox hg) | ((with_reducible refine gate_callee (f := 66) rfl ?_); refine goesL_ (some 8) rfl rfl Try.func66 (by kernel_rfl) rfl #[.pointer (some ⟨g, 0, none⟩)] rfl (by (try simp only [List.map_toArray, List.map_cons, List.map_nil]); first | done | rfl | (simp only [List.length_drop, List.length_take]; rfl)) ?_; (with_reducible refine (spec_l20Rom.calls k g s0_0 s0_1 t272 t275 w0 _ ?side1 ?side2 A3.out).mono ?_); (case side1 => repeat (first | (with_reducible first | exact HI0.out | apply IsS109.alloc | apply IsS109.drewN | apply IsS109.drew | apply IsS109.set_1 | refine IsS109.far ?_ NB0_271.out _) | exact HI0.out)); (case side2 => repeat (first | (with_reducible first | exact HB.out | apply below_alloc | apply pw_below_drewN | apply below_drew1 | refine below_set ?_ (IsS109.ge HI0.out) | refine below_set ?_ GE271.out) | exact HB.out)); rintro e w7 ⟨v273, rfl, ho0, hi, hb, hk⟩; refine ⟨_, rfl, ?_⟩; have n0_ := Aside0.mk (KeepBut.blk hk (g' := gb271) (o := .cells #[.slice none 0 0, .slice none 0 0, .int .i64 0] 42 (0, 0)) (by (with_reducible repeat (first | refine blk_drewN ?_ _ | refine blk_drew ?_ | refine blk_alloc ?_ _)); exact BK271.out) NB271_0.out (by simp)); have n1_ := Aside0.mk (Kd.S_lower ho0 (keep_size (w := w) (g := g) (row := none) (by repeat (first | (with_reducible first | exact HK.out | apply KeepBut.set_ | apply keep_drewN | apply keep_drew | apply keep_alloc | refine keep_far ?_ GW271.out _) | exact HK.out)))); have n2_ := Aside0.mk (KeepBut.trans (by repeat (first | (with_reducible first | exact HK.out | apply KeepBut.set_ | apply keep_drewN | apply keep_drew | apply keep_alloc | refine keep_far ?_ GW271.out _) | exact HK.out)) hk (.inl rfl)); have n3_ := Aside0.mk (hb); have n4_ := Aside0.mk (hi); clear BK271; clear HK; clear HB; clear HI0; have BK271 := n0_; have HO274 := n1_; have HK := n2_; have HB := n3_; have HI0 := n4_; clear n0_ n1_ n2_ n3_ n4_; (try clear hb); (try clear hb2); (try clear hk); (try clear hi); (try clear ho0); obtain ⟨Ao8, co8, eo8⟩ := Kd.S_slice HO274.out; subst eo8) | ((with_reducible refine gate_callee (f := 63) rfl ?_); refine goesL_ (some 9) rfl rfl Try.func63 (by kernel_rfl) rfl #[.slice Ao8 t272.length co8] rfl (by (try simp only [List.map_toArray, List.map_cons, List.map_nil]); first | done | rfl | (simp only [List.length_drop, List.length_take]; rfl)) ?_; (with_reducible refine (spec_NewMemory.calls k _ _ t272 t276 t279 t282 _ ?side1 ?side2 A4.out).mono ?_); (case side1 => repeat (first | exact (Kd.S_reads' HO274.out).2.2 | (with_reducible refine Kd.C_alloc ?_ _) | (with_reducible refine Kd.C_drewN ?_ _) | (with_reducible refine Kd.C_drew ?_))); (case side2 => exact (Kd.S_reads' HO274.out).2.1); rintro e w9 ⟨v277, v280, rfl, ho0, ho1, hb⟩; refine ⟨_, rfl, ?_⟩; have n0_ := Aside0.mk (Kd.S_mono (Kd.S_told (Kd.S_told (Kd.S_old (by (with_reducible repeat (first | apply Kd.S_alloc | apply Kd.S_drewN | apply Kd.S_drew)); exact HO274.out) hb) (Kd.R_base ho0)) (Kd.S_base ho1)) (fun _ h_ => h_.1)); have n1_ := Aside0.mk (Kd.R_lower ho0 (keep_size (w := w) (g := g) (row := none) (by repeat (first | (with_reducible first | exact HK.out | apply KeepBut.set_ | apply keep_drewN | apply keep_drew | apply keep_alloc | refine keep_far ?_ GW271.out _) | exact HK.out)))); have n2_ := Aside0.mk (Kd.S_lower (Kd.S_new' ho1 (Kd.S_lt (by (with_reducible repeat (first | apply Kd.S_alloc | apply Kd.S_drewN | apply Kd.S_drew)); exact HO274.out))) (keep_size (w := w) (g := g) (row := none) (by repeat (first | (with_reducible first | exact HK.out | apply KeepBut.set_ | apply keep_drewN | apply keep_drew | apply keep_alloc | refine keep_far ?_ GW271.out _) | exact HK.out)))); have n3_ := Aside0.mk (IsS109.below (by repeat (first | (with_reducible first | exact HI0.out | apply IsS109.alloc | apply IsS109.drewN | apply IsS109.drew | apply IsS109.set_1 | refine IsS109.far ?_ NB0_271.out _) | exact HI0.out)) hb); have n4_ := Aside0.mk (blk_below (g := gb271) (o := .cells #[.slice none 0 0, .slice none 0 0, .int .i64 0] 42 (0, 0)) (by (with_reducible repeat (first | refine blk_drewN ?_ _ | refine blk_drew ?_ | refine blk_alloc ?_ _)); exact BK271.out) hb); have n5_ := Aside0.mk (KeepBut.trans (by repeat (first | (with_reducible first | exact HK.out | apply KeepBut.set_ | apply keep_drewN | apply keep_drew | apply keep_alloc | refine keep_far ?_ GW271.out _) | exact HK.out)) (KeepBut.of_below hb g none) (.inl rfl)); have n6_ := Aside0.mk (below_step (by repeat (first | (with_reducible first | exact HB.out | apply below_alloc | apply pw_below_drewN | apply below_drew1 | refine below_set ?_ (IsS109.ge HI0.out) | refine below_set ?_ GE271.out) | exact HB.out)) hb); clear HO274; clear HI0; clear BK271; clear HK; clear HB; have HO274 := n0_; have HO278 := n1_; have HO281 := n2_; have HI0 := n3_; have BK271 := n4_; have HK := n5_; have HB := n6_; clear n0_ n1_ n2_ n3_ n4_ n5_ n6_; (try clear hb); (try clear hb2); (try clear hk); (try clear hi); (try clear ho0); (try clear ho1)) | ((with_reducible refine gate_dst (N := 5) rfl ?_); refine box_event ?hg (N := 5) ?hd (cs := #[.slice none 0 0, .slice none 0 0, .int .i64 0]) (t := 42) ?hr ?_; (case hd => rfl); (case hg => rfl); (case hr => first | (go_simp; done) | (go_simp; rfl)); intro gb283 hg w10 hbox hb; have n0_ := Aside0.mk (Kd.S_below (by (with_reducible repeat (first | apply Kd.S_alloc | apply Kd.S_drewN | apply Kd.S_drew)); exact HO274.out) hb); have n1_ := Aside0.mk (Kd.R_below (by (with_reducible repeat (first | apply Kd.R_alloc | apply Kd.R_drewN | apply Kd.R_drew)); exact HO278.out) hb); have n2_ := Aside0.mk (Kd.S_below (by (with_reducible repeat (first | apply Kd.S_alloc | apply Kd.S_drewN | apply Kd.S_drew)); exact HO281.out) hb); have n3_ := Aside0.mk (IsS109.below (by repeat (first | (with_reducible first | exact HI0.out | apply IsS109.alloc | apply IsS109.drewN | apply IsS109.drew | apply IsS109.set_1 | refine IsS109.far ?_ NB0_271.out _) | exact HI0.out)) hb); have n4_ := Aside0.mk (blk_below (g := gb271) (o := .cells #[.slice none 0 0, .slice none 0 0, .int .i64 0] 42 (0, 0)) (by (with_reducible repeat (first | refine blk_drewN ?_ _ | refine blk_drew ?_ | refine blk_alloc ?_ _)); exact BK271.out) hb); have n5_ := Aside0.mk (KeepBut.trans (by repeat (first | (with_reducible first | exact HK.out | apply KeepBut.set_ | apply keep_drewN | apply keep_drew | apply keep_alloc | refine keep_far ?_ GW271.out _) | exact HK.out)) (KeepBut.of_below hb g none) (.inl rfl)); have n6_ := Aside0.mk (below_step (by repeat (first | (with_reducible first | exact HB.out | apply below_alloc | apply pw_below_drewN | apply below_drew1 | refine below_set ?_ (IsS109.ge HI0.out) | refine below_set ?_ GE271.out) | exact HB.out)) hb); have n7_ := Aside0.mk (hbox); have n8_ := Aside0.mk ((by rw [hg]; exact (keep_size (w := w) (g := g) (row := none) (by repeat (first | (with_reducible first | exact HK.out | apply KeepBut.set_ | apply keep_drewN | apply keep_drew | apply keep_alloc | refine keep_far ?_ GW271.out _) | exact HK.out))) : w.heap.size ≤ gb283)); have n9_ := Aside0.mk ((Nat.le_trans HW0.out (by rw [hg]; exact (keep_size (w := w) (g := g) (row := none) (by repeat (first | (with_reducible first | exact HK.out | apply KeepBut.set_ | apply keep_drewN | apply keep_drew | apply keep_alloc | refine keep_far ?_ GW271.out _) | exact HK.out))) : w.heap.size ≤ gb283) : w0.heap.size ≤ gb283)); have n10_ := Aside0.mk ((by rw [hg]; exact Nat.ne_of_lt (blk_lt (g := gb271) (o := .cells #[.slice none 0 0, .slice none 0 0, .int .i64 0] 42 (0, 0)) (by (with_reducible repeat (first | refine blk_drewN ?_ _ | refine blk_drew ?_ | refine blk_alloc ?_ _)); exact BK271.out)) : gb271 ≠ gb283)); have n11_ := Aside0.mk ((by rw [hg]; exact Nat.ne_of_gt (blk_lt (g := gb271) (o := .cells #[.slice none 0 0, .slice none 0 0, .int .i64 0] 42 (0, 0)) (by (with_reducible repeat (first | refine blk_drewN ?_ _ | refine blk_drew ?_ | refine blk_alloc ?_ _)); exact BK271.out)) : gb283 ≠ gb271)); have n12_ := Aside0.mk ((by rw [hg]; exact Nat.ne_of_lt (IsS109.lt (show IsS109 w0 _ g s0_0 t275 from by repeat (first | (with_reducible first | exact HI0.out | apply IsS109.alloc | apply IsS109.drewN | apply IsS109.drew | apply IsS109.set_1 | refine IsS109.far ?_ NB0_271.out _) | exact HI0.out))) : g ≠ gb283)); have n13_ := Aside0.mk ((by rw [hg]; exact Nat.ne_of_gt (IsS109.lt (show IsS109 w0 _ g s0_0 t275 from by repeat (first | (with_reducible first | exact HI0.out | apply IsS109.alloc | apply IsS109.drewN | apply IsS109.drew | apply IsS109.set_1 | refine IsS109.far ?_ NB0_271.out _) | exact HI0.out))) : gb283 ≠ g)); clear HO274; clear HO278; clear HO281; clear HI0; clear BK271; clear HK; clear HB; have HO274 := n0_; have HO278 := n1_; have HO281 := n2_; have HI0 := n3_; have BK271 := n4_; have HK := n5_; have HB := n6_; have BK283 := n7_; have GW283 := n8_; have GE283 := n9_; have NB271_283 := n10_; have NB283_271 := n11_; have NB0_283 := n12_; have NB283_0 := n13_; clear n0_ n1_ n2_ n3_ n4_ n5_ n6_ n7_ n8_ n9_ n10_ n11_ n12_ n13_; clear hb hbox hg; obtain ⟨Ao11, co11, eo11⟩ := Kd.R_slice HO278.out; subst eo11; have hnb12 := NB283_271.out; have hnc12 := NB271_283.out; have hnb13 := NB283_0.out; have hnc13 := NB0_283.out; have hcz14_0 : w10.cell? ⟨gb283, 0, none⟩ = some (.slice none 0 0) := (blk_cell BK283.out 0).trans rfl; have hcz14_1 : w10.cell? ⟨gb283, 1, none⟩ = some (.slice none 0 0) := (blk_cell BK283.out 1).trans rfl; have hcz14_2 : w10.cell? ⟨gb283, 2, none⟩ = some (.int .i64 0) := (blk_cell BK283.out 2).trans rfl; have hfz14_0 := blk_frozen BK283.out 0; have hfz14_1 := blk_frozen BK283.out 1; have hfz14_2 := blk_frozen BK283.out 2; obtain ⟨Ao15, co15, eo15⟩ := Kd.S_slice HO281.out; subst eo15) | ((with_reducible refine gate_callee (f := 67) rfl ?_); refine goesL_ (some 11) rfl rfl Try.func67 (by kernel_rfl) rfl #[.pointer (some ⟨g, 0, none⟩), .int .i64 6] rfl (by (try simp only [List.map_toArray, List.map_cons, List.map_nil]); first | done | rfl | (simp only [List.length_drop, List.length_take]; rfl)) ?_; (with_reducible refine (spec_l20Rd_pick.calls k g s0_0 t275 6 t284 t285 w0 _ ?side1 ?side2 A5.out).mono ?_); (case side1 => repeat (first | (with_reducible first | exact HI0.out | apply IsS109.alloc | apply IsS109.drewN | apply IsS109.drew | apply IsS109.set_1 | refine IsS109.far ?_ NB0_271.out _ | refine IsS109.far ?_ NB0_283.out _) | exact HI0.out)); (case side2 => repeat (first | (with_reducible first | exact HB.out | apply below_alloc | apply pw_below_drewN | apply below_drew1 | refine below_set ?_ (IsS109.ge HI0.out) | refine below_set ?_ GE271.out | refine below_set ?_ GE283.out) | exact HB.out)); rintro e w16 ⟨rfl, hi, hb, hk⟩; refine ⟨_, rfl, ?_⟩; have n0_ := Aside0.mk (KeepBut.blk hk (g' := gb271) (o := .cells #[.slice none 0 0, .slice none 0 0, .int .i64 0] 42 (0, 0)) (by (with_reducible repeat (first | refine blk_drewN ?_ _ | refine blk_drew ?_ | refine blk_alloc ?_ _)); refine blk_far ?_ NB271_283.out _; (with_reducible repeat (first | refine blk_drewN ?_ _ | refine blk_drew ?_ | refine blk_alloc ?_ _)); refine blk_far ?_ NB271_283.out _; (with_reducible repeat (first | refine blk_drewN ?_ _ | refine blk_drew ?_ | refine blk_alloc ?_ _)); refine blk_far ?_ NB271_283.out _; (with_reducible repeat (first | refine blk_drewN ?_ _ | refine blk_drew ?_ | refine blk_alloc ?_ _)); exact BK271.out) NB271_0.out (by simp)); have n1_ := Aside0.mk (Kd.S_mono (Kd.S_keep (IsS109.apartS (show IsS109 w0 _ g s0_0 t275 from by repeat (first | (with_reducible first | exact HI0.out | apply IsS109.alloc | apply IsS109.drewN | apply IsS109.drew | apply IsS109.set_1 | refine IsS109.far ?_ NB0_271.out _ | refine IsS109.far ?_ NB0_283.out _) | exact HI0.out)) (by (with_reducible repeat (first | apply Kd.S_alloc | apply Kd.S_drewN | apply Kd.S_drew)); exact (Kd.S_mono (Kd.S_far (p := ⟨gb283, 2, none⟩) (Kd.S_far (p := ⟨gb283, 1, none⟩) (Kd.S_far (p := ⟨gb283, 0, none⟩) (Kd.S_types HO274.out BK283.out (by decide)) (fun _ hk => hk.2) (.slice Ao11 t276.length co11)) (fun _ hk => hk.2) (.slice Ao15 t279.length co15)) (fun _ hk => hk.2) (.int .i64 t282)) (fun _ h_ => h_.1))) (by decide)) hk (fun _ h => h.2)) (fun _ h => h.1)); have n2_ := Aside0.mk (Kd.R_mono (Kd.R_keep (IsS109.apart (show IsS109 w0 _ g s0_0 t275 from by repeat (first | (with_reducible first | exact HI0.out | apply IsS109.alloc | apply IsS109.drewN | apply IsS109.drew | apply IsS109.set_1 | refine IsS109.far ?_ NB0_271.out _ | refine IsS109.far ?_ NB0_283.out _) | exact HI0.out)) (by (with_reducible repeat (first | apply Kd.R_alloc | apply Kd.R_drewN | apply Kd.R_drew)); exact (Kd.R_mono (Kd.R_far (p := ⟨gb283, 2, none⟩) (Kd.R_far (p := ⟨gb283, 1, none⟩) (Kd.R_far (p := ⟨gb283, 0, none⟩) (Kd.R_types HO278.out BK283.out (by decide)) (fun _ hk => hk.2) (.slice Ao11 t276.length co11)) (fun _ hk => hk.2) (.slice Ao15 t279.length co15)) (fun _ hk => hk.2) (.int .i64 t282)) (fun _ h_ => h_.1))) (by decide)) hk (fun _ h => h.2)) (fun _ h => h.1)); have n3_ := Aside0.mk (Kd.S_mono (Kd.S_keep (IsS109.apartS (show IsS109 w0 _ g s0_0 t275 from by repeat (first | (with_reducible first | exact HI0.out | apply IsS109.alloc | apply IsS109.drewN | apply IsS109.drew | apply IsS109.set_1 | refine IsS109.far ?_ NB0_271.out _ | refine IsS109.far ?_ NB0_283.out _) | exact HI0.out)) (by (with_reducible repeat (first | apply Kd.S_alloc | apply Kd.S_drewN | apply Kd.S_drew)); exact (Kd.S_mono (Kd.S_far (p := ⟨gb283, 2, none⟩) (Kd.S_far (p := ⟨gb283, 1, none⟩) (Kd.S_far (p := ⟨gb283, 0, none⟩) (Kd.S_types HO281.out BK283.out (by decide)) (fun _ hk => hk.2) (.slice Ao11 t276.length co11)) (fun _ hk => hk.2) (.slice Ao15 t279.length co15)) (fun _ hk => hk.2) (.int .i64 t282)) (fun _ h_ => h_.1))) (by decide)) hk (fun _ h => h.2)) (fun _ h => h.1)); have n4_ := Aside0.mk (KeepBut.blk hk (g' := gb283) (o := .cells #[.slice Ao11 t276.length co11, .slice Ao15 t279.length co15, .int .i64 t282] 42 (0, 0)) (by (with_reducible repeat (first | refine blk_drewN ?_ _ | refine blk_drew ?_ | refine blk_alloc ?_ _)); refine blk_put (cs := #[.slice Ao11 t276.length co11, .slice Ao15 t279.length co15, .int .i64 0]) ?_ 2 _ rfl; (with_reducible repeat (first | refine blk_drewN ?_ _ | refine blk_drew ?_ | refine blk_alloc ?_ _)); refine blk_put (cs := #[.slice Ao11 t276.length co11, .slice none 0 0, .int .i64 0]) ?_ 1 _ rfl; (with_reducible repeat (first | refine blk_drewN ?_ _ | refine blk_drew ?_ | refine blk_alloc ?_ _)); refine blk_put (cs := #[.slice none 0 0, .slice none 0 0, .int .i64 0]) ?_ 0 _ rfl; (with_reducible repeat (first | refine blk_drewN ?_ _ | refine blk_drew ?_ | refine blk_alloc ?_ _)); exact BK283.out) NB283_0.out (by simp)); have n5_ := Aside0.mk (KeepBut.trans (by repeat (first | (with_reducible first | exact HK.out | apply KeepBut.set_ | apply keep_drewN | apply keep_drew | apply keep_alloc | refine keep_far ?_ GW271.out _ | refine keep_far ?_ GW283.out _) | exact HK.out)) hk (.inl rfl)); have n6_ := Aside0.mk (hb); have n7_ := Aside0.mk (hi); clear BK271; clear HO274; clear HO278; clear HO281; clear BK283; clear HK; clear HB; clear HI0; have BK271 := n0_; have HO274 := n1_; have HO278 := n2_; have HO281 := n3_; have BK283 := n4_; have HK := n5_; have HB := n6_; have HI0 := n7_; clear n0_ n1_ n2_ n3_ n4_ n5_ n6_ n7_; (try clear hb); (try clear hb2); (try clear hk); (try clear hi)))
  go_loopg [6] k (fun kq v6 w' => ∃ (x6_1 : Int) (x1001_1 : Int) (x284000_1 : List Int) (u284000 : Value), v6 = .int .i64 x6_1 ∧ Aside0 (spec_l20Memory.l0 kq a1 x6_1 s0_0 x1001_1 x284000_1 t279 t282 = some (r1, r2, r3, r4)) ∧ Aside0 (kq ≤ k) ∧ Aside0 (Kd.Q (Kd.int .i64) 3 w' w.heap.size (fun _ => True) u284000 x284000_1) ∧ Aside0 (Kd.S (Kd.slice 3 (Kd.int .i64)) 22 w' w.heap.size (fun k_ => some k_ ≠ (u284000 : Value).ownBlock) (.slice Ao15 t279.length co15) t279) ∧ Aside0 (w'.heap[gb271]? = some (.cells #[(.slice none 0 0), (.slice none 0 0), .int .i64 0] 42 (0, 0))) ∧ Aside0 (w'.heap[gb283]? = some (.cells #[u284000, (.slice Ao15 t279.length co15), .int .i64 t282] 42 (0, 0))) ∧ Aside0 (IsS109 w0 w' g s0_0 x1001_1) ∧ Aside0 (KeepBut w w' g none) ∧ Aside0 (Below w0.heap.size w0 w'))
  case atStart => exact ⟨(t284), (t285), (t276), (.slice Ao11 t276.length co11), (by first | rfl | (simp; done) | (simp [*]; done)), H', ⟨Nat.le_refl _⟩, ⟨Kd.Q_of_R (by (with_reducible repeat (first | apply Kd.R_alloc | apply Kd.R_drewN | apply Kd.R_drew)); exact HO278.out)⟩, ⟨by (with_reducible repeat (first | apply Kd.S_alloc | apply Kd.S_drewN | apply Kd.S_drew)); exact Kd.S_mono HO281.out (fun _ hk => hk.1)⟩, ⟨by (with_reducible repeat (first | refine blk_drewN ?_ _ | refine blk_drew ?_ | refine blk_alloc ?_ _)); exact BK271.out⟩, ⟨by (with_reducible repeat (first | refine blk_drewN ?_ _ | refine blk_drew ?_ | refine blk_alloc ?_ _)); exact BK283.out⟩, ⟨by repeat (first | (with_reducible first | exact HI0.out | apply IsS109.alloc | apply IsS109.drewN | apply IsS109.drew | apply IsS109.set_1 | refine IsS109.far ?_ NB0_271.out _ | refine IsS109.far ?_ NB0_283.out _) | exact HI0.out)⟩, ⟨by repeat (first | (with_reducible first | exact HK.out | apply KeepBut.set_ | apply keep_drewN | apply keep_drew | apply keep_alloc | refine keep_far ?_ GW271.out _ | refine keep_far ?_ GW283.out _) | exact HK.out)⟩, ⟨by repeat (first | (with_reducible first | exact HB.out | apply below_alloc | apply pw_below_drewN | apply below_drew1 | refine below_set ?_ (IsS109.ge HI0.out) | refine below_set ?_ GE271.out | refine below_set ?_ GE283.out) | exact HB.out)⟩⟩
  case round =>
    clear H'
    try clear c1
    try clear p2
    try clear c6
    try clear c7
    try clear c12
    try clear c13
    try clear hcz14_0
    try clear hcz14_1
    try clear hcz14_2
    try clear hfz14_0
    try clear hfz14_1
    try clear hfz14_2
    obtain ⟨x6_1, x1001_1, x284000_1, u284000, rfl, HA, HK1, HO_284000, HO_284001, BK271, BK283, HI0, HK, HB⟩ := hrel
    cases gk with
    | zero => exact absurd HA.out (by simp [spec_l20Memory.l0])
    | succ k1 =>
      have H := HA.out
      clear HA
      simp only [spec_l20Memory.l0] at H
      by_cases c17 : x6_1 > 0
      · rw [if_pos c17] at H
        have c17b0 : decide (0 < x6_1) = true := decide_eq_true c17
        clear c17
        replace H := Option.bind_eq_some_iff.mp H
        obtain ⟨⟨t286, t287⟩, A180, H⟩ := H
        replace H : ((spec_l20Rd_pick.f k1 s0_0 t287 16).bind fun bt288 => ((some (([t286, wrap64 (240 + bt288.1)] : List Int) : List Int)).bind fun y290 => ((spec_l20Rd_pick.f k1 s0_0 bt288.2 2).bind fun bt293 => (if 0 ≤ bt293.1 then (if bt293.1 < (y290.length : Int) then ((spec_l20Rd_pick.f k1 s0_0 bt293.2 256).bind fun bt296 => (if 0 ≤ (rd y290 bt293.1) then (if (rd y290 bt293.1) < (x284000_1.length : Int) then (spec_l20Memory.l0 k1 a1 (wrap64 (x6_1 - 1)) s0_0 bt296.2 (x284000_1.set ((rd y290 bt293.1) : Int).toNat bt296.1) t279 t282) else (none)) else (none))) else (none)) else (none))))) = some (r1, r2, r3, r4) := H
        have A18 := Aside0.mk A180
        clear A180
        replace H := Option.bind_eq_some_iff.mp H
        obtain ⟨⟨t288, t289⟩, A190, H⟩ := H
        replace H : ((some (([t286, wrap64 (240 + t288)] : List Int) : List Int)).bind fun y290 => ((spec_l20Rd_pick.f k1 s0_0 t289 2).bind fun bt293 => (if 0 ≤ bt293.1 then (if bt293.1 < (y290.length : Int) then ((spec_l20Rd_pick.f k1 s0_0 bt293.2 256).bind fun bt296 => (if 0 ≤ (rd y290 bt293.1) then (if (rd y290 bt293.1) < (x284000_1.length : Int) then (spec_l20Memory.l0 k1 a1 (wrap64 (x6_1 - 1)) s0_0 bt296.2 (x284000_1.set ((rd y290 bt293.1) : Int).toNat bt296.1) t279 t282) else (none)) else (none))) else (none)) else (none)))) = some (r1, r2, r3, r4) := H
        have A19 := Aside0.mk A190
        clear A190
        obtain ⟨y290, hy290⟩ : ∃ y_ : List Int, y_ = (([t286, wrap64 (240 + t288)] : List Int)) := ⟨_, rfl⟩
        replace H : ((spec_l20Rd_pick.f k1 s0_0 t289 2).bind fun bt293 => (if 0 ≤ bt293.1 then (if bt293.1 < (y290.length : Int) then ((spec_l20Rd_pick.f k1 s0_0 bt293.2 256).bind fun bt296 => (if 0 ≤ (rd y290 bt293.1) then (if (rd y290 bt293.1) < (x284000_1.length : Int) then (spec_l20Memory.l0 k1 a1 (wrap64 (x6_1 - 1)) s0_0 bt296.2 (x284000_1.set ((rd y290 bt293.1) : Int).toNat bt296.1) t279 t282) else (none)) else (none))) else (none)) else (none))) = some (r1, r2, r3, r4) := by first | (rw [hy290]; with_reducible exact H) | (have H2_ := (Option.bind_some _ _).symm.trans H; rw [hy290]; with_reducible exact H2_) | (have H2_ := (Option.bind_some _ _).symm.trans H; with_reducible exact H2_) | with_reducible exact H | (rw [hy290]; exact H) | exact H
        have Ny290 := Aside0.mk hy290
        clear hy290
        replace H := Option.bind_eq_some_iff.mp H
        obtain ⟨⟨t293, t294⟩, A200, H⟩ := H
        replace H : (if 0 ≤ t293 then (if t293 < (y290.length : Int) then ((spec_l20Rd_pick.f k1 s0_0 t294 256).bind fun bt296 => (if 0 ≤ (rd y290 t293) then (if (rd y290 t293) < (x284000_1.length : Int) then (spec_l20Memory.l0 k1 a1 (wrap64 (x6_1 - 1)) s0_0 bt296.2 (x284000_1.set ((rd y290 t293) : Int).toNat bt296.1) t279 t282) else (none)) else (none))) else (none)) else (none)) = some (r1, r2, r3, r4) := H
        have A20 := Aside0.mk A200
        clear A200
        by_cases c21 : 0 ≤ t293
        · rw [if_pos c21] at H
          have c21b0 : decide (0 ≤ t293) = true := decide_eq_true c21
          clear c21
          by_cases c22 : t293 < (y290.length : Int)
          · rw [if_pos c22] at H
            have c22b0 : decide (t293 < (y290.length : Int)) = true := decide_eq_true c22
            clear c22
            replace H := Option.bind_eq_some_iff.mp H
            obtain ⟨⟨t296, t297⟩, A230, H⟩ := H
            replace H : (if 0 ≤ (rd y290 t293) then (if (rd y290 t293) < (x284000_1.length : Int) then (spec_l20Memory.l0 k1 a1 (wrap64 (x6_1 - 1)) s0_0 t297 (x284000_1.set ((rd y290 t293) : Int).toNat t296) t279 t282) else (none)) else (none)) = some (r1, r2, r3, r4) := H
            have A23 := Aside0.mk A230
            clear A230
            by_cases c24 : 0 ≤ (rd y290 t293)
            · rw [if_pos c24] at H
              have c24b0 : decide (0 ≤ (rd y290 t293)) = true := decide_eq_true c24
              clear c24
              by_cases c25 : (rd y290 t293) < (x284000_1.length : Int)
              · rw [if_pos c25] at H
                have c25b0 : decide ((rd y290 t293) < (x284000_1.length : Int)) = true := decide_eq_true c25
                clear c25
                obtain ⟨y298, hy298⟩ : ∃ y_ : List Int, y_ = (x284000_1.set ((rd y290 t293) : Int).toNat t296) := ⟨_, rfl⟩
                replace H : (spec_l20Memory.l0 k1 a1 (wrap64 (x6_1 - 1)) s0_0 t297 y298 t279 t282) = some (r1, r2, r3, r4) := by first | (rw [hy298]; with_reducible exact H) | (have H2_ := (Option.bind_some _ _).symm.trans H; rw [hy298]; with_reducible exact H2_) | (have H2_ := (Option.bind_some _ _).symm.trans H; with_reducible exact H2_) | with_reducible exact H | (rw [hy298]; exact H) | exact H
                have Ny298 := Aside0.mk hy298
                clear hy298
                have H' := Aside0.mk H
                clear H
                try go_wp2
                have pi295 : (0 ≤ (t293 : Int)) = True := eq_true (of_decide_eq_true (by first | (with_reducible assumption) | assumption))
                have qi295 : (t293 < (y290.length : Int)) = True := eq_true (of_decide_eq_true (by first | (with_reducible assumption) | assumption))
                have n0_ := Aside0.mk (Kd.Q_drew HO_284000.out)
                have n1_ := Aside0.mk (Kd.S_drew HO_284001.out)
                have n2_ := Aside0.mk (blk_drew BK271.out)
                have n3_ := Aside0.mk (blk_drew BK283.out)
                have n4_ := Aside0.mk (IsS109.drew HI0.out)
                have n5_ := Aside0.mk (keep_drew HK.out)
                have n6_ := Aside0.mk (below_drew1 HB.out)
                clear HO_284000
                clear HO_284001
                clear BK271
                clear BK283
                clear HI0
                clear HK
                clear HB
                have HO_284000 := n0_
                have HO_284001 := n1_
                have BK271 := n2_
                have BK283 := n3_
                have HI0 := n4_
                have HK := n5_
                have HB := n6_
                clear n0_ n1_ n2_ n3_ n4_ n5_ n6_
                refine start_ (n := 16) (S := fun w' => w'.cell? ⟨gb283, 0, none⟩ = some (u284000) ∧ w'.cell? ⟨gb283, 1, none⟩ = some (.slice Ao15 t279.length co15) ∧ w'.cell? ⟨gb283, 2, none⟩ = some (.int .i64 t282)) (ds := [15]) #[false, false, false, false, false, false, false, false, false, false, false, false, false, false, false, false] (by kernel_rfl) rfl rfl ⟨(blk_cell BK283.out 0).trans rfl, (blk_cell BK283.out 1).trans rfl, (blk_cell BK283.out 2).trans rfl⟩ (fun hHeld => ?_); refine with_tabW spec_l20Memory.tab5 spec_l20Memory.bits5 (fun HT_ HW_ => ?_)
                generalize wr.drew = w27 at HO_284000 HO_284001 BK271 BK283 HI0 HK HB hHeld ⊢
                refine pure_ (i := 0) (N := some 16) (v := ?_) (a' := ?_) #[true, false, false, false, false, false, false, false, false, false, false, false, false, false, false, false] rfl rfl (any_of HT_.out (by kernel_rfl)) (fun _ _ _ h => h) (Or.inl ⟨by rfl, ?_⟩) ?_ ?_
                rotate_left
                · intro w'
                  go_simp
                  with_reducible rfl
                rotate_left
                · simp only [Act.put, List.setIfInBounds_toArray, List.set_cons_zero, List.set_cons_succ, i64_w, i32_w]
                  rfl
                refine pure_ (i := 2) (N := some 18) (v := ?_) (a' := ?_) #[true, false, true, false, false, false, false, false, false, false, false, false, false, false, false, false] rfl rfl (any_of HT_.out (by kernel_rfl)) (fun _ _ _ h => h) (Or.inl ⟨by rfl, ?_⟩) ?_ ?_
                rotate_left
                · intro w'
                  go_simp
                  with_reducible rfl
                rotate_left
                · simp only [Act.put, List.setIfInBounds_toArray, List.set_cons_zero, List.set_cons_succ, i64_w, i32_w]
                  rfl
                refine pure_ (i := 4) (N := some 20) (v := ?_) (a' := ?_) #[true, false, true, false, true, false, false, false, false, false, false, false, false, false, false, false] rfl rfl (any_of HT_.out (by kernel_rfl)) (fun _ _ _ h => h) (Or.inl ⟨by rfl, ?_⟩) ?_ ?_
                rotate_left
                · intro w'
                  go_simp
                  with_reducible rfl
                rotate_left
                · simp only [Act.put, List.setIfInBounds_toArray, List.set_cons_zero, List.set_cons_succ, i64_w, i32_w]
                  rfl
                refine pure_ (i := 8) (N := some 24) (v := ?_) (a' := ?_) #[true, false, true, false, true, false, false, false, true, false, false, false, false, false, false, false] rfl rfl (any_of HT_.out (by kernel_rfl)) (fun _ _ _ h => h) (Or.inl ⟨by rfl, ?_⟩) ?_ ?_
                rotate_left
                · intro w'
                  go_simp
                  with_reducible rfl
                rotate_left
                · simp only [Act.put, List.setIfInBounds_toArray, List.set_cons_zero, List.set_cons_succ, i64_w, i32_w]
                  rfl
                refine pure_ (i := 12) (N := some 28) (v := ?_) (a' := ?_) #[true, false, true, false, true, false, false, false, true, false, false, false, true, false, false, false] rfl rfl (any_of HT_.out (by kernel_rfl)) (fun _ _ _ h => h) (Or.inl ⟨by rfl, ?_⟩) ?_ ?_
                rotate_left
                · intro w'
                  go_simp
                  with_reducible rfl
                rotate_left
                · simp only [Act.put, List.setIfInBounds_toArray, List.set_cons_zero, List.set_cons_succ, i64_w, i32_w]
                  rfl
                refine take_ (i := 1) (N := some 17) (v := ?_) (a' := ?_) #[true, true, true, false, true, false, false, false, true, false, false, false, true, false, false, false] rfl rfl (take_ofW HT_.out HW_.out (by kernel_rfl)) (fun _ _ _ h => h) (Or.inl ⟨by rfl, ?_⟩) hHeld ?_ ?_
                rotate_left
                · rintro w' ⟨s0, s1, s2⟩
                  go_simp
                  with_reducible rfl
                rotate_left
                · simp only [Act.put, List.setIfInBounds_toArray, List.set_cons_zero, List.set_cons_succ, i64_w, i32_w]
                  rfl
                refine one_ (i := 3) (N := some 19) #[true, true, true, true, true, false, false, false, true, false, false, false, true, false, false, false] rfl rfl (one_of HT_.out (by kernel_rfl)) (by decide) (fun K hK => ?_)
                refine goes_ Try.func67 (by kernel_rfl) rfl #[.pointer (some ⟨g, 0, none⟩), .int .i64 16] (by rfl) rfl rfl (by (try simp only [List.map_toArray, List.map_cons, List.map_nil]); first | done | rfl | (simp only [List.length_drop, List.length_take]; rfl)) ?_
                with_reducible refine (spec_l20Rd_pick.calls k1 g s0_0 x1001_1 16 t286 t287 w0 _ ?side1 ?side2 A18.out).mono ?_
                (case side1 => repeat (first | (with_reducible first | exact HI0.out | apply IsS109.alloc | apply IsS109.drewN | apply IsS109.drew | apply IsS109.set_1 | refine IsS109.far ?_ NB0_271.out _ | refine IsS109.far ?_ NB0_283.out _) | exact HI0.out))
                (case side2 => repeat (first | (with_reducible first | exact HB.out | apply below_alloc | apply pw_below_drewN | apply below_drew1 | refine below_set ?_ (IsS109.ge HI0.out) | refine below_set ?_ GE271.out | refine below_set ?_ GE283.out) | exact HB.out))
                rintro e w28 ⟨rfl, hi, hb, hk⟩
                refine ⟨_, rfl, ?_⟩
                have n0_ := Aside0.mk (Kd.Q_mono (Kd.Q_keep (IsS109.apartQ (show IsS109 w0 _ g s0_0 x1001_1 from by repeat (first | (with_reducible first | exact HI0.out | apply IsS109.alloc | apply IsS109.drewN | apply IsS109.drew | apply IsS109.set_1 | refine IsS109.far ?_ NB0_271.out _ | refine IsS109.far ?_ NB0_283.out _) | exact HI0.out)) (by (with_reducible repeat (first | apply Kd.Q_alloc | apply Kd.Q_drewN | apply Kd.Q_drew)); exact HO_284000.out) (by decide)) hk (fun _ h => h.2)) (fun _ h => h.1))
                have n1_ := Aside0.mk (Kd.S_mono (Kd.S_keep (IsS109.apartS (show IsS109 w0 _ g s0_0 x1001_1 from by repeat (first | (with_reducible first | exact HI0.out | apply IsS109.alloc | apply IsS109.drewN | apply IsS109.drew | apply IsS109.set_1 | refine IsS109.far ?_ NB0_271.out _ | refine IsS109.far ?_ NB0_283.out _) | exact HI0.out)) (by (with_reducible repeat (first | apply Kd.S_alloc | apply Kd.S_drewN | apply Kd.S_drew)); exact HO_284001.out) (by decide)) hk (fun _ h => h.2)) (fun _ h => h.1))
                have n2_ := Aside0.mk (KeepBut.blk hk (g' := gb271) (o := .cells #[.slice none 0 0, .slice none 0 0, .int .i64 0] 42 (0, 0)) (by (with_reducible repeat (first | refine blk_drewN ?_ _ | refine blk_drew ?_ | refine blk_alloc ?_ _)); exact BK271.out) NB271_0.out (by simp))
                have n3_ := Aside0.mk (KeepBut.blk hk (g' := gb283) (o := .cells #[u284000, .slice Ao15 t279.length co15, .int .i64 t282] 42 (0, 0)) (by (with_reducible repeat (first | refine blk_drewN ?_ _ | refine blk_drew ?_ | refine blk_alloc ?_ _)); exact BK283.out) NB283_0.out (by simp))
                have n4_ := Aside0.mk (KeepBut.trans (by repeat (first | (with_reducible first | exact HK.out | apply KeepBut.set_ | apply keep_drewN | apply keep_drew | apply keep_alloc | refine keep_far ?_ GW271.out _ | refine keep_far ?_ GW283.out _) | exact HK.out)) hk (.inl rfl))
                have n5_ := Aside0.mk (hb)
                have n6_ := Aside0.mk (hi)
                clear HO_284000
                clear HO_284001
                clear BK271
                clear BK283
                clear HK
                clear HB
                clear HI0
                have HO_284000 := n0_
                have HO_284001 := n1_
                have BK271 := n2_
                have BK283 := n3_
                have HK := n4_
                have HB := n5_
                have HI0 := n6_
                clear n0_ n1_ n2_ n3_ n4_ n5_ n6_
                (try clear hb)
                (try clear hb2)
                (try clear hk)
                (try clear hi)
                refine hK.out _ _ ⟨(blk_cell BK283.out 0).trans rfl, (blk_cell BK283.out 1).trans rfl, (blk_cell BK283.out 2).trans rfl⟩ (fun hHeld => ?_)
                clear hK K
                refine norm_ (a' := ?_) ?_ ?_
                rotate_left
                · show Act.put _ (some 19) _ = _
                  simp only [Act.put, List.setIfInBounds_toArray, List.set_cons_zero, List.set_cons_succ, i64_w, i32_w]
                  rfl
                refine one_ (i := 5) (N := some 21) #[true, true, true, true, true, true, false, false, true, false, false, false, true, false, false, false] rfl rfl (one_of HT_.out (by kernel_rfl)) (by decide) (fun K hK => ?_)
                refine goes_ Try.func67 (by kernel_rfl) rfl #[.pointer (some ⟨g, 0, none⟩), .int .i64 16] (by rfl) rfl rfl (by (try simp only [List.map_toArray, List.map_cons, List.map_nil]); first | done | rfl | (simp only [List.length_drop, List.length_take]; rfl)) ?_
                with_reducible refine (spec_l20Rd_pick.calls k1 g s0_0 t287 16 t288 t289 w0 _ ?side1 ?side2 A19.out).mono ?_
                (case side1 => repeat (first | (with_reducible first | exact HI0.out | apply IsS109.alloc | apply IsS109.drewN | apply IsS109.drew | apply IsS109.set_1 | refine IsS109.far ?_ NB0_271.out _ | refine IsS109.far ?_ NB0_283.out _) | exact HI0.out))
                (case side2 => repeat (first | (with_reducible first | exact HB.out | apply below_alloc | apply pw_below_drewN | apply below_drew1 | refine below_set ?_ (IsS109.ge HI0.out) | refine below_set ?_ GE271.out | refine below_set ?_ GE283.out) | exact HB.out))
                rintro e w29 ⟨rfl, hi, hb, hk⟩
                refine ⟨_, rfl, ?_⟩
                have n0_ := Aside0.mk (Kd.Q_mono (Kd.Q_keep (IsS109.apartQ (show IsS109 w0 _ g s0_0 t287 from by repeat (first | (with_reducible first | exact HI0.out | apply IsS109.alloc | apply IsS109.drewN | apply IsS109.drew | apply IsS109.set_1 | refine IsS109.far ?_ NB0_271.out _ | refine IsS109.far ?_ NB0_283.out _) | exact HI0.out)) (by (with_reducible repeat (first | apply Kd.Q_alloc | apply Kd.Q_drewN | apply Kd.Q_drew)); exact HO_284000.out) (by decide)) hk (fun _ h => h.2)) (fun _ h => h.1))
                have n1_ := Aside0.mk (Kd.S_mono (Kd.S_keep (IsS109.apartS (show IsS109 w0 _ g s0_0 t287 from by repeat (first | (with_reducible first | exact HI0.out | apply IsS109.alloc | apply IsS109.drewN | apply IsS109.drew | apply IsS109.set_1 | refine IsS109.far ?_ NB0_271.out _ | refine IsS109.far ?_ NB0_283.out _) | exact HI0.out)) (by (with_reducible repeat (first | apply Kd.S_alloc | apply Kd.S_drewN | apply Kd.S_drew)); exact HO_284001.out) (by decide)) hk (fun _ h => h.2)) (fun _ h => h.1))
                have n2_ := Aside0.mk (KeepBut.blk hk (g' := gb271) (o := .cells #[.slice none 0 0, .slice none 0 0, .int .i64 0] 42 (0, 0)) (by (with_reducible repeat (first | refine blk_drewN ?_ _ | refine blk_drew ?_ | refine blk_alloc ?_ _)); exact BK271.out) NB271_0.out (by simp))
                have n3_ := Aside0.mk (KeepBut.blk hk (g' := gb283) (o := .cells #[u284000, .slice Ao15 t279.length co15, .int .i64 t282] 42 (0, 0)) (by (with_reducible repeat (first | refine blk_drewN ?_ _ | refine blk_drew ?_ | refine blk_alloc ?_ _)); exact BK283.out) NB283_0.out (by simp))
                have n4_ := Aside0.mk (KeepBut.trans (by repeat (first | (with_reducible first | exact HK.out | apply KeepBut.set_ | apply keep_drewN | apply keep_drew | apply keep_alloc | refine keep_far ?_ GW271.out _ | refine keep_far ?_ GW283.out _) | exact HK.out)) hk (.inl rfl))
                have n5_ := Aside0.mk (hb)
                have n6_ := Aside0.mk (hi)
                clear HO_284000
                clear HO_284001
                clear BK271
                clear BK283
                clear HK
                clear HB
                clear HI0
                have HO_284000 := n0_
                have HO_284001 := n1_
                have BK271 := n2_
                have BK283 := n3_
                have HK := n4_
                have HB := n5_
                have HI0 := n6_
                clear n0_ n1_ n2_ n3_ n4_ n5_ n6_
                (try clear hb)
                (try clear hb2)
                (try clear hk)
                (try clear hi)
                refine hK.out _ _ ⟨(blk_cell BK283.out 0).trans rfl, (blk_cell BK283.out 1).trans rfl, (blk_cell BK283.out 2).trans rfl⟩ (fun hHeld => ?_)
                clear hK K
                refine norm_ (a' := ?_) ?_ ?_
                rotate_left
                · show Act.put _ (some 21) _ = _
                  simp only [Act.put, List.setIfInBounds_toArray, List.set_cons_zero, List.set_cons_succ, i64_w, i32_w]
                  rfl
                refine pure_ (i := 6) (N := some 22) (v := ?_) (a' := ?_) #[true, true, true, true, true, true, true, false, true, false, false, false, true, false, false, false] rfl rfl (any_of HT_.out (by kernel_rfl)) (fun _ _ _ h => h) (Or.inl ⟨by rfl, ?_⟩) ?_ ?_
                rotate_left
                · intro w'
                  go_simp
                  with_reducible rfl
                rotate_left
                · simp only [Act.put, List.setIfInBounds_toArray, List.set_cons_zero, List.set_cons_succ, i64_w, i32_w]
                  rfl
                refine join_ (σ := Value × Addr) 2 #[true, true, true, true, true, true, true, true, true, true, true, true, true, true, false, false] (fun s_ => [(23, s_.1), (25, .int .i64 t293), (27, .int .i64 (rd y290 t293)), (29, .int .i64 t296), (26, .pointer (some (s_.2.add (t293).toNat)))]) (fun s_ w' => (w'.cell? ⟨gb283, 0, none⟩ = some (u284000) ∧ w'.cell? ⟨gb283, 1, none⟩ = some (.slice Ao15 t279.length co15) ∧ w'.cell? ⟨gb283, 2, none⟩ = some (.int .i64 t282)) ∧ (Kd.R (Kd.int .i64) 3 w' w.heap.size (fun k_ => some k_ ≠ (u284000 : Value).ownBlock) s_.1 y290) ∧ (Kd.Q (Kd.int .i64) 3 w' w.heap.size (fun k_ => some k_ ≠ (s_.1 : Value).ownBlock) u284000 x284000_1) ∧ (Kd.S (Kd.slice 3 (Kd.int .i64)) 22 w' w.heap.size (fun k_ => some k_ ≠ (s_.1 : Value).ownBlock ∧ some k_ ≠ (u284000 : Value).ownBlock) (.slice Ao15 t279.length co15) t279) ∧ (∃ c_, (s_.1 : Value) = .slice (some s_.2) y290.length c_) ∧ (w'.heap[gb271]? = some (.cells #[.slice none 0 0, .slice none 0 0, .int .i64 0] 42 (0, 0))) ∧ (w'.heap[gb283]? = some (.cells #[u284000, .slice Ao15 t279.length co15, .int .i64 t282] 42 (0, 0))) ∧ (IsS109 w0 w' g s0_0 t297) ∧ (KeepBut w w' g none) ∧ (Below w0.heap.size w0 w')) ?_ ?_
                rotate_left
                · intro hJ7_9_11_13
                  refine join_ (σ := Value × Addr) 3 #[true, true, true, true, true, true, true, true, true, true, true, true, true, false, false, false] (fun s_ => [(23, s_.1), (25, .int .i64 t293), (27, .int .i64 (rd y290 t293)), (26, .pointer (some (s_.2.add (t293).toNat)))]) (fun s_ w' => (w'.cell? ⟨gb283, 0, none⟩ = some (u284000) ∧ w'.cell? ⟨gb283, 1, none⟩ = some (.slice Ao15 t279.length co15) ∧ w'.cell? ⟨gb283, 2, none⟩ = some (.int .i64 t282)) ∧ (Kd.R (Kd.int .i64) 3 w' w.heap.size (fun k_ => some k_ ≠ (u284000 : Value).ownBlock) s_.1 y290) ∧ (Kd.Q (Kd.int .i64) 3 w' w.heap.size (fun k_ => some k_ ≠ (s_.1 : Value).ownBlock) u284000 x284000_1) ∧ (Kd.S (Kd.slice 3 (Kd.int .i64)) 22 w' w.heap.size (fun k_ => some k_ ≠ (s_.1 : Value).ownBlock ∧ some k_ ≠ (u284000 : Value).ownBlock) (.slice Ao15 t279.length co15) t279) ∧ (∃ c_, (s_.1 : Value) = .slice (some s_.2) y290.length c_) ∧ (w'.heap[gb271]? = some (.cells #[.slice none 0 0, .slice none 0 0, .int .i64 0] 42 (0, 0))) ∧ (w'.heap[gb283]? = some (.cells #[u284000, .slice Ao15 t279.length co15, .int .i64 t282] 42 (0, 0))) ∧ (IsS109 w0 w' g s0_0 t294) ∧ (KeepBut w w' g none) ∧ (Below w0.heap.size w0 w')) ?_ ?_
                  rotate_left
                  · intro hJ7_9_11
                    refine join_ (σ := Value × Addr) 3 #[true, true, true, true, true, true, true, true, true, true, true, false, true, true, false, false] (fun s_ => [(23, s_.1), (25, .int .i64 t293), (29, .int .i64 t296), (26, .pointer (some (s_.2.add (t293).toNat)))]) (fun s_ w' => (w'.cell? ⟨gb283, 0, none⟩ = some (u284000) ∧ w'.cell? ⟨gb283, 1, none⟩ = some (.slice Ao15 t279.length co15) ∧ w'.cell? ⟨gb283, 2, none⟩ = some (.int .i64 t282)) ∧ (Kd.R (Kd.int .i64) 3 w' w.heap.size (fun k_ => some k_ ≠ (u284000 : Value).ownBlock) s_.1 y290) ∧ (Kd.Q (Kd.int .i64) 3 w' w.heap.size (fun k_ => some k_ ≠ (s_.1 : Value).ownBlock) u284000 x284000_1) ∧ (Kd.S (Kd.slice 3 (Kd.int .i64)) 22 w' w.heap.size (fun k_ => some k_ ≠ (s_.1 : Value).ownBlock ∧ some k_ ≠ (u284000 : Value).ownBlock) (.slice Ao15 t279.length co15) t279) ∧ (∃ c_, (s_.1 : Value) = .slice (some s_.2) y290.length c_) ∧ (w'.heap[gb271]? = some (.cells #[.slice none 0 0, .slice none 0 0, .int .i64 0] 42 (0, 0))) ∧ (w'.heap[gb283]? = some (.cells #[u284000, .slice Ao15 t279.length co15, .int .i64 t282] 42 (0, 0))) ∧ (IsS109 w0 w' g s0_0 t297) ∧ (KeepBut w w' g none) ∧ (Below w0.heap.size w0 w')) ?_ ?_
                    rotate_left
                    · intro hJ7_9_13
                      refine join_ (σ := Value × Addr) 4 #[true, true, true, true, true, true, true, true, true, true, true, false, true, false, false, false] (fun s_ => [(23, s_.1), (25, .int .i64 t293), (26, .pointer (some (s_.2.add (t293).toNat)))]) (fun s_ w' => (w'.cell? ⟨gb283, 0, none⟩ = some (u284000) ∧ w'.cell? ⟨gb283, 1, none⟩ = some (.slice Ao15 t279.length co15) ∧ w'.cell? ⟨gb283, 2, none⟩ = some (.int .i64 t282)) ∧ (Kd.R (Kd.int .i64) 3 w' w.heap.size (fun k_ => some k_ ≠ (u284000 : Value).ownBlock) s_.1 y290) ∧ (Kd.Q (Kd.int .i64) 3 w' w.heap.size (fun k_ => some k_ ≠ (s_.1 : Value).ownBlock) u284000 x284000_1) ∧ (Kd.S (Kd.slice 3 (Kd.int .i64)) 22 w' w.heap.size (fun k_ => some k_ ≠ (s_.1 : Value).ownBlock ∧ some k_ ≠ (u284000 : Value).ownBlock) (.slice Ao15 t279.length co15) t279) ∧ (∃ c_, (s_.1 : Value) = .slice (some s_.2) y290.length c_) ∧ (w'.heap[gb271]? = some (.cells #[.slice none 0 0, .slice none 0 0, .int .i64 0] 42 (0, 0))) ∧ (w'.heap[gb283]? = some (.cells #[u284000, .slice Ao15 t279.length co15, .int .i64 t282] 42 (0, 0))) ∧ (IsS109 w0 w' g s0_0 t294) ∧ (KeepBut w w' g none) ∧ (Below w0.heap.size w0 w')) ?_ ?_
                      rotate_left
                      · intro hJ7_9
                        refine join_ (σ := Unit) 5 #[true, true, true, true, true, true, true, false, true, true, false, false, true, true, false, false] (fun s_ => [(25, .int .i64 t293), (29, .int .i64 t296)]) (fun s_ w' => (w'.cell? ⟨gb283, 0, none⟩ = some (u284000) ∧ w'.cell? ⟨gb283, 1, none⟩ = some (.slice Ao15 t279.length co15) ∧ w'.cell? ⟨gb283, 2, none⟩ = some (.int .i64 t282)) ∧ (Kd.Q (Kd.int .i64) 3 w' w.heap.size (fun _ => True) u284000 x284000_1) ∧ (Kd.S (Kd.slice 3 (Kd.int .i64)) 22 w' w.heap.size (fun k_ => some k_ ≠ (u284000 : Value).ownBlock) (.slice Ao15 t279.length co15) t279) ∧ (w'.heap[gb271]? = some (.cells #[.slice none 0 0, .slice none 0 0, .int .i64 0] 42 (0, 0))) ∧ (w'.heap[gb283]? = some (.cells #[u284000, .slice Ao15 t279.length co15, .int .i64 t282] 42 (0, 0))) ∧ (IsS109 w0 w' g s0_0 t297) ∧ (KeepBut w w' g none) ∧ (Below w0.heap.size w0 w')) ?_ ?_
                        rotate_left
                        · intro hJ9_13
                          refine join_ (σ := Value × Addr) 6 #[true, true, true, true, true, true, true, true, true, false, false, false, true, false, false, false] (fun s_ => [(23, s_.1)]) (fun s_ w' => (w'.cell? ⟨gb283, 0, none⟩ = some (u284000) ∧ w'.cell? ⟨gb283, 1, none⟩ = some (.slice Ao15 t279.length co15) ∧ w'.cell? ⟨gb283, 2, none⟩ = some (.int .i64 t282)) ∧ (Kd.R (Kd.int .i64) 3 w' w.heap.size (fun k_ => some k_ ≠ (u284000 : Value).ownBlock) s_.1 y290) ∧ (Kd.Q (Kd.int .i64) 3 w' w.heap.size (fun k_ => some k_ ≠ (s_.1 : Value).ownBlock) u284000 x284000_1) ∧ (Kd.S (Kd.slice 3 (Kd.int .i64)) 22 w' w.heap.size (fun k_ => some k_ ≠ (s_.1 : Value).ownBlock ∧ some k_ ≠ (u284000 : Value).ownBlock) (.slice Ao15 t279.length co15) t279) ∧ (∃ c_, (s_.1 : Value) = .slice (some s_.2) y290.length c_) ∧ (w'.heap[gb271]? = some (.cells #[.slice none 0 0, .slice none 0 0, .int .i64 0] 42 (0, 0))) ∧ (w'.heap[gb283]? = some (.cells #[u284000, .slice Ao15 t279.length co15, .int .i64 t282] 42 (0, 0))) ∧ (IsS109 w0 w' g s0_0 t289) ∧ (KeepBut w w' g none) ∧ (Below w0.heap.size w0 w')) ?_ ?_
                          rotate_left
                          · intro hJ7
                            refine join_ (σ := Unit) 6 #[true, true, true, true, true, true, true, false, true, true, false, false, true, false, false, false] (fun s_ => [(25, .int .i64 t293)]) (fun s_ w' => (w'.cell? ⟨gb283, 0, none⟩ = some (u284000) ∧ w'.cell? ⟨gb283, 1, none⟩ = some (.slice Ao15 t279.length co15) ∧ w'.cell? ⟨gb283, 2, none⟩ = some (.int .i64 t282)) ∧ (Kd.Q (Kd.int .i64) 3 w' w.heap.size (fun _ => True) u284000 x284000_1) ∧ (Kd.S (Kd.slice 3 (Kd.int .i64)) 22 w' w.heap.size (fun k_ => some k_ ≠ (u284000 : Value).ownBlock) (.slice Ao15 t279.length co15) t279) ∧ (w'.heap[gb271]? = some (.cells #[.slice none 0 0, .slice none 0 0, .int .i64 0] 42 (0, 0))) ∧ (w'.heap[gb283]? = some (.cells #[u284000, .slice Ao15 t279.length co15, .int .i64 t282] 42 (0, 0))) ∧ (IsS109 w0 w' g s0_0 t294) ∧ (KeepBut w w' g none) ∧ (Below w0.heap.size w0 w')) ?_ ?_
                            rotate_left
                            · intro hJ9
                              refine two_ (i := 7) (j := 9) (Ni := some 23) (Nj := some 25) #[true, true, true, true, true, true, true, true, true, false, false, false, true, false, false, false] #[true, true, true, true, true, true, true, false, true, true, false, false, true, false, false, false] rfl rfl rfl rfl (two_of HT_.out (by kernel_rfl)) (by decide) (by decide) (fun K hK => ?_) (fun K hK => ?_)
                              · skip
                                refine Kd.R_lit_step (Kd.int .i64) _ 3 ?hg (N := 23) ?hd (xs := ([t286, wrap64 (240 + t288)] : List Int)) (inner := [.int .i64 t286, .int .i64 (wrap64 (240 + t288))]) (ok := fun _ => True) (okp := fun _ => True) ?hr ?hp (fun _ hk => hk) trivial (Below.refl _ _) (Nat.le_refl _) (by simp) ?_; (case hd => rfl); (case hg => rfl); (case hr => first | (go_simp; done) | (go_simp; rfl)); (case hp => exact (Reps.one (show Kd.M (Kd.int .i64) _ _ _ t286 [.int .i64 t286] from rfl) (Reps.one (show Kd.M (Kd.int .i64) _ _ _ (wrap64 (240 + t288)) [.int .i64 (wrap64 (240 + t288))] from rfl) (Reps.none _ _))))
                                intro v291 w30 ho31 hb hg_ hnew_
                                clear hg_ hnew_
                                (first | rw [← Ny290.out] at ho31 | (simp only [Int.reduceToNat] at ho31; rw [← Ny290.out] at ho31))
                                have n0_ := Aside0.mk (Kd.Q_elder' (by (with_reducible repeat (first | apply Kd.Q_alloc | apply Kd.Q_drewN | apply Kd.Q_drew)); exact HO_284000.out) (Kd.R_base ho31) hb)
                                have n1_ := Aside0.mk (Kd.S_elder' (by (with_reducible repeat (first | apply Kd.S_alloc | apply Kd.S_drewN | apply Kd.S_drew)); exact HO_284001.out) (Kd.R_base ho31) hb)
                                have n2_ := Aside0.mk (Kd.R_lower (Kd.R_new' ho31 (Kd.Q_lt (by (with_reducible repeat (first | apply Kd.Q_alloc | apply Kd.Q_drewN | apply Kd.Q_drew)); exact HO_284000.out))) (keep_size (w := w) (g := g) (row := none) (by repeat (first | (with_reducible first | exact HK.out | apply KeepBut.set_ | apply keep_drewN | apply keep_drew | apply keep_alloc | refine keep_far ?_ GW271.out _ | refine keep_far ?_ GW283.out _) | exact HK.out))))
                                have n3_ := Aside0.mk (blk_below (g := gb271) (o := .cells #[.slice none 0 0, .slice none 0 0, .int .i64 0] 42 (0, 0)) (by (with_reducible repeat (first | refine blk_drewN ?_ _ | refine blk_drew ?_ | refine blk_alloc ?_ _)); exact BK271.out) hb)
                                have n4_ := Aside0.mk (blk_below (g := gb283) (o := .cells #[u284000, .slice Ao15 t279.length co15, .int .i64 t282] 42 (0, 0)) (by (with_reducible repeat (first | refine blk_drewN ?_ _ | refine blk_drew ?_ | refine blk_alloc ?_ _)); exact BK283.out) hb)
                                have n5_ := Aside0.mk (IsS109.below (by repeat (first | (with_reducible first | exact HI0.out | apply IsS109.alloc | apply IsS109.drewN | apply IsS109.drew | apply IsS109.set_1 | refine IsS109.far ?_ NB0_271.out _ | refine IsS109.far ?_ NB0_283.out _) | exact HI0.out)) hb)
                                have n6_ := Aside0.mk (KeepBut.trans (by repeat (first | (with_reducible first | exact HK.out | apply KeepBut.set_ | apply keep_drewN | apply keep_drew | apply keep_alloc | refine keep_far ?_ GW271.out _ | refine keep_far ?_ GW283.out _) | exact HK.out)) (KeepBut.of_below hb g none) (.inl rfl))
                                have n7_ := Aside0.mk (below_step (by repeat (first | (with_reducible first | exact HB.out | apply below_alloc | apply pw_below_drewN | apply below_drew1 | refine below_set ?_ (IsS109.ge HI0.out) | refine below_set ?_ GE271.out | refine below_set ?_ GE283.out) | exact HB.out)) hb)
                                clear HO_284000
                                clear HO_284001
                                clear BK271
                                clear BK283
                                clear HI0
                                clear HK
                                clear HB
                                have HO_284000 := n0_
                                have HO_284001 := n1_
                                have HO292 := n2_
                                have BK271 := n3_
                                have BK283 := n4_
                                have HI0 := n5_
                                have HK := n6_
                                have HB := n7_
                                clear n0_ n1_ n2_ n3_ n4_ n5_ n6_ n7_
                                clear hb ho31
                                obtain ⟨Ao32, co32, eo32⟩ := Kd.R_slice HO292.out
                                subst eo32
                                obtain ⟨ado32, fo32, _⟩ := Kd.at_int (Kd.R_reads' HO292.out).2.2 0 (by decide) (by rw [Ny290.out]; simp)
                                cases fo32
                                refine hK.out _ _ ⟨(blk_cell BK283.out 0).trans rfl, (blk_cell BK283.out 1).trans rfl, (blk_cell BK283.out 2).trans rfl⟩ (fun hHeld => ?_)
                                clear hK K
                                refine norm_ (a' := ?_) ?_ ?_
                                rotate_left
                                · show Act.put _ (some 23) _ = _
                                  simp only [Act.put, List.setIfInBounds_toArray, List.set_cons_zero, List.set_cons_succ, i64_w, i32_w]
                                  rfl
                                exact norm_ (by first | (simp only [putAll, Act.put, List.setIfInBounds_toArray, List.set_cons_zero, List.set_cons_succ]; done) | (simp only [putAll, Act.put, List.setIfInBounds_toArray, List.set_cons_zero, List.set_cons_succ]; rfl)) (hJ7 (.slice (some ado32) y290.length co32, ado32) _ ⟨hHeld, (by (with_reducible repeat (first | apply Kd.R_alloc | apply Kd.R_drewN | apply Kd.R_drew)); exact Kd.R_mono HO292.out (fun _ hk => hk.2)), (by (with_reducible repeat (first | apply Kd.Q_alloc | apply Kd.Q_drewN | apply Kd.Q_drew)); exact Kd.Q_mono HO_284000.out (fun _ hk => hk.2)), (by (with_reducible repeat (first | apply Kd.S_alloc | apply Kd.S_drewN | apply Kd.S_drew)); exact Kd.S_mono HO_284001.out (fun _ hk => ⟨hk.2, hk.1⟩)), ⟨_, rfl⟩, (by (with_reducible repeat (first | refine blk_drewN ?_ _ | refine blk_drew ?_ | refine blk_alloc ?_ _)); exact BK271.out), (by (with_reducible repeat (first | refine blk_drewN ?_ _ | refine blk_drew ?_ | refine blk_alloc ?_ _)); exact BK283.out), (by repeat (first | (with_reducible first | exact HI0.out | apply IsS109.alloc | apply IsS109.drewN | apply IsS109.drew | apply IsS109.set_1 | refine IsS109.far ?_ NB0_271.out _ | refine IsS109.far ?_ NB0_283.out _) | exact HI0.out)), (by repeat (first | (with_reducible first | exact HK.out | apply KeepBut.set_ | apply keep_drewN | apply keep_drew | apply keep_alloc | refine keep_far ?_ GW271.out _ | refine keep_far ?_ GW283.out _) | exact HK.out)), (by repeat (first | (with_reducible first | exact HB.out | apply below_alloc | apply pw_below_drewN | apply below_drew1 | refine below_set ?_ (IsS109.ge HI0.out) | refine below_set ?_ GE271.out | refine below_set ?_ GE283.out) | exact HB.out))⟩)
                              · skip
                                refine goes_ Try.func67 (by kernel_rfl) rfl #[.pointer (some ⟨g, 0, none⟩), .int .i64 2] (by rfl) rfl rfl (by (try simp only [List.map_toArray, List.map_cons, List.map_nil]); first | done | rfl | (simp only [List.length_drop, List.length_take]; rfl)) ?_
                                with_reducible refine (spec_l20Rd_pick.calls k1 g s0_0 t289 2 t293 t294 w0 _ ?side1 ?side2 A20.out).mono ?_
                                (case side1 => repeat (first | (with_reducible first | exact HI0.out | apply IsS109.alloc | apply IsS109.drewN | apply IsS109.drew | apply IsS109.set_1 | refine IsS109.far ?_ NB0_271.out _ | refine IsS109.far ?_ NB0_283.out _) | exact HI0.out))
                                (case side2 => repeat (first | (with_reducible first | exact HB.out | apply below_alloc | apply pw_below_drewN | apply below_drew1 | refine below_set ?_ (IsS109.ge HI0.out) | refine below_set ?_ GE271.out | refine below_set ?_ GE283.out) | exact HB.out))
                                rintro e w30 ⟨rfl, hi, hb, hk⟩
                                refine ⟨_, rfl, ?_⟩
                                have n0_ := Aside0.mk (Kd.Q_mono (Kd.Q_keep (IsS109.apartQ (show IsS109 w0 _ g s0_0 t289 from by repeat (first | (with_reducible first | exact HI0.out | apply IsS109.alloc | apply IsS109.drewN | apply IsS109.drew | apply IsS109.set_1 | refine IsS109.far ?_ NB0_271.out _ | refine IsS109.far ?_ NB0_283.out _) | exact HI0.out)) (by (with_reducible repeat (first | apply Kd.Q_alloc | apply Kd.Q_drewN | apply Kd.Q_drew)); exact HO_284000.out) (by decide)) hk (fun _ h => h.2)) (fun _ h => h.1))
                                have n1_ := Aside0.mk (Kd.S_mono (Kd.S_keep (IsS109.apartS (show IsS109 w0 _ g s0_0 t289 from by repeat (first | (with_reducible first | exact HI0.out | apply IsS109.alloc | apply IsS109.drewN | apply IsS109.drew | apply IsS109.set_1 | refine IsS109.far ?_ NB0_271.out _ | refine IsS109.far ?_ NB0_283.out _) | exact HI0.out)) (by (with_reducible repeat (first | apply Kd.S_alloc | apply Kd.S_drewN | apply Kd.S_drew)); exact HO_284001.out) (by decide)) hk (fun _ h => h.2)) (fun _ h => h.1))
                                have n2_ := Aside0.mk (KeepBut.blk hk (g' := gb271) (o := .cells #[.slice none 0 0, .slice none 0 0, .int .i64 0] 42 (0, 0)) (by (with_reducible repeat (first | refine blk_drewN ?_ _ | refine blk_drew ?_ | refine blk_alloc ?_ _)); exact BK271.out) NB271_0.out (by simp))
                                have n3_ := Aside0.mk (KeepBut.blk hk (g' := gb283) (o := .cells #[u284000, .slice Ao15 t279.length co15, .int .i64 t282] 42 (0, 0)) (by (with_reducible repeat (first | refine blk_drewN ?_ _ | refine blk_drew ?_ | refine blk_alloc ?_ _)); exact BK283.out) NB283_0.out (by simp))
                                have n4_ := Aside0.mk (KeepBut.trans (by repeat (first | (with_reducible first | exact HK.out | apply KeepBut.set_ | apply keep_drewN | apply keep_drew | apply keep_alloc | refine keep_far ?_ GW271.out _ | refine keep_far ?_ GW283.out _) | exact HK.out)) hk (.inl rfl))
                                have n5_ := Aside0.mk (hb)
                                have n6_ := Aside0.mk (hi)
                                clear HO_284000
                                clear HO_284001
                                clear BK271
                                clear BK283
                                clear HK
                                clear HB
                                clear HI0
                                have HO_284000 := n0_
                                have HO_284001 := n1_
                                have BK271 := n2_
                                have BK283 := n3_
                                have HK := n4_
                                have HB := n5_
                                have HI0 := n6_
                                clear n0_ n1_ n2_ n3_ n4_ n5_ n6_
                                (try clear hb)
                                (try clear hb2)
                                (try clear hk)
                                (try clear hi)
                                refine hK.out _ _ ⟨(blk_cell BK283.out 0).trans rfl, (blk_cell BK283.out 1).trans rfl, (blk_cell BK283.out 2).trans rfl⟩ (fun hHeld => ?_)
                                clear hK K
                                refine norm_ (a' := ?_) ?_ ?_
                                rotate_left
                                · show Act.put _ (some 25) _ = _
                                  simp only [Act.put, List.setIfInBounds_toArray, List.set_cons_zero, List.set_cons_succ, i64_w, i32_w]
                                  rfl
                                exact norm_ (by first | (simp only [putAll, Act.put, List.setIfInBounds_toArray, List.set_cons_zero, List.set_cons_succ]; done) | (simp only [putAll, Act.put, List.setIfInBounds_toArray, List.set_cons_zero, List.set_cons_succ]; rfl)) (hJ9 () _ ⟨hHeld, (by (with_reducible repeat (first | apply Kd.Q_alloc | apply Kd.Q_drewN | apply Kd.Q_drew)); exact HO_284000.out), (by (with_reducible repeat (first | apply Kd.S_alloc | apply Kd.S_drewN | apply Kd.S_drew)); exact HO_284001.out), (by (with_reducible repeat (first | refine blk_drewN ?_ _ | refine blk_drew ?_ | refine blk_alloc ?_ _)); exact BK271.out), (by (with_reducible repeat (first | refine blk_drewN ?_ _ | refine blk_drew ?_ | refine blk_alloc ?_ _)); exact BK283.out), (by repeat (first | (with_reducible first | exact HI0.out | apply IsS109.alloc | apply IsS109.drewN | apply IsS109.drew | apply IsS109.set_1 | refine IsS109.far ?_ NB0_271.out _ | refine IsS109.far ?_ NB0_283.out _) | exact HI0.out)), (by repeat (first | (with_reducible first | exact HK.out | apply KeepBut.set_ | apply keep_drewN | apply keep_drew | apply keep_alloc | refine keep_far ?_ GW271.out _ | refine keep_far ?_ GW283.out _) | exact HK.out)), (by repeat (first | (with_reducible first | exact HB.out | apply below_alloc | apply pw_below_drewN | apply below_drew1 | refine below_set ?_ (IsS109.ge HI0.out) | refine below_set ?_ GE271.out | refine below_set ?_ GE283.out) | exact HB.out))⟩)
                            · skip
                              rintro _ w31 ⟨hS_, h0_, h1_, h2_, h3_, h4_, h5_, h6_⟩
                              have n0_ : Aside0 (Kd.Q (Kd.int .i64) 3 w31 w.heap.size (fun _ => True) u284000 x284000_1) := ⟨h0_⟩
                              have n1_ : Aside0 (Kd.S (Kd.slice 3 (Kd.int .i64)) 22 w31 w.heap.size (fun k_ => some k_ ≠ (u284000 : Value).ownBlock) (.slice Ao15 t279.length co15) t279) := ⟨h1_⟩
                              have n2_ : Aside0 (w31.heap[gb271]? = some (.cells #[.slice none 0 0, .slice none 0 0, .int .i64 0] 42 (0, 0))) := ⟨h2_⟩
                              have n3_ : Aside0 (w31.heap[gb283]? = some (.cells #[u284000, .slice Ao15 t279.length co15, .int .i64 t282] 42 (0, 0))) := ⟨h3_⟩
                              have n4_ : Aside0 (IsS109 w0 w31 g s0_0 t294) := ⟨h4_⟩
                              have n5_ : Aside0 (KeepBut w w31 g none) := ⟨h5_⟩
                              have n6_ : Aside0 (Below w0.heap.size w0 w31) := ⟨h6_⟩
                              clear HO_284000
                              clear HO_284001
                              clear BK271
                              clear BK283
                              clear HI0
                              clear HK
                              clear HB
                              clear h0_ h1_ h2_ h3_ h4_ h5_ h6_
                              have HO_284000 := n0_
                              have HO_284001 := n1_
                              have BK271 := n2_
                              have BK283 := n3_
                              have HI0 := n4_
                              have HK := n5_
                              have HB := n6_
                              clear n0_ n1_ n2_ n3_ n4_ n5_ n6_
                              have hHeld : w31.cell? ⟨gb283, 0, none⟩ = some (u284000) ∧ w31.cell? ⟨gb283, 1, none⟩ = some (.slice Ao15 t279.length co15) ∧ w31.cell? ⟨gb283, 2, none⟩ = some (.int .i64 t282) := hS_
                              refine norm_ (a' := ?_) ?_ ?_
                              rotate_left
                              · simp only [putAll, Act.put, List.setIfInBounds_toArray, List.set_cons_zero, List.set_cons_succ]
                                rfl
                              refine two_ (i := 7) (j := 13) (Ni := some 23) (Nj := some 29) #[true, true, true, true, true, true, true, true, true, true, false, false, true, false, false, false] #[true, true, true, true, true, true, true, false, true, true, false, false, true, true, false, false] rfl rfl rfl rfl (two_of HT_.out (by kernel_rfl)) (by decide) (by decide) (fun K hK => ?_) (fun K hK => ?_)
                              · skip
                                refine Kd.R_lit_step (Kd.int .i64) _ 3 ?hg (N := 23) ?hd (xs := ([t286, wrap64 (240 + t288)] : List Int)) (inner := [.int .i64 t286, .int .i64 (wrap64 (240 + t288))]) (ok := fun _ => True) (okp := fun _ => True) ?hr ?hp (fun _ hk => hk) trivial (Below.refl _ _) (Nat.le_refl _) (by simp) ?_; (case hd => rfl); (case hg => rfl); (case hr => first | (go_simp; done) | (go_simp; rfl)); (case hp => exact (Reps.one (show Kd.M (Kd.int .i64) _ _ _ t286 [.int .i64 t286] from rfl) (Reps.one (show Kd.M (Kd.int .i64) _ _ _ (wrap64 (240 + t288)) [.int .i64 (wrap64 (240 + t288))] from rfl) (Reps.none _ _))))
                                intro v291 w32 ho33 hb hg_ hnew_
                                clear hg_ hnew_
                                (first | rw [← Ny290.out] at ho33 | (simp only [Int.reduceToNat] at ho33; rw [← Ny290.out] at ho33))
                                have n0_ := Aside0.mk (Kd.Q_elder' (by (with_reducible repeat (first | apply Kd.Q_alloc | apply Kd.Q_drewN | apply Kd.Q_drew)); exact HO_284000.out) (Kd.R_base ho33) hb)
                                have n1_ := Aside0.mk (Kd.S_elder' (by (with_reducible repeat (first | apply Kd.S_alloc | apply Kd.S_drewN | apply Kd.S_drew)); exact HO_284001.out) (Kd.R_base ho33) hb)
                                have n2_ := Aside0.mk (Kd.R_lower (Kd.R_new' ho33 (Kd.Q_lt (by (with_reducible repeat (first | apply Kd.Q_alloc | apply Kd.Q_drewN | apply Kd.Q_drew)); exact HO_284000.out))) (keep_size (w := w) (g := g) (row := none) (by repeat (first | (with_reducible first | exact HK.out | apply KeepBut.set_ | apply keep_drewN | apply keep_drew | apply keep_alloc | refine keep_far ?_ GW271.out _ | refine keep_far ?_ GW283.out _) | exact HK.out))))
                                have n3_ := Aside0.mk (blk_below (g := gb271) (o := .cells #[.slice none 0 0, .slice none 0 0, .int .i64 0] 42 (0, 0)) (by (with_reducible repeat (first | refine blk_drewN ?_ _ | refine blk_drew ?_ | refine blk_alloc ?_ _)); exact BK271.out) hb)
                                have n4_ := Aside0.mk (blk_below (g := gb283) (o := .cells #[u284000, .slice Ao15 t279.length co15, .int .i64 t282] 42 (0, 0)) (by (with_reducible repeat (first | refine blk_drewN ?_ _ | refine blk_drew ?_ | refine blk_alloc ?_ _)); exact BK283.out) hb)
                                have n5_ := Aside0.mk (IsS109.below (by repeat (first | (with_reducible first | exact HI0.out | apply IsS109.alloc | apply IsS109.drewN | apply IsS109.drew | apply IsS109.set_1 | refine IsS109.far ?_ NB0_271.out _ | refine IsS109.far ?_ NB0_283.out _) | exact HI0.out)) hb)
                                have n6_ := Aside0.mk (KeepBut.trans (by repeat (first | (with_reducible first | exact HK.out | apply KeepBut.set_ | apply keep_drewN | apply keep_drew | apply keep_alloc | refine keep_far ?_ GW271.out _ | refine keep_far ?_ GW283.out _) | exact HK.out)) (KeepBut.of_below hb g none) (.inl rfl))
                                have n7_ := Aside0.mk (below_step (by repeat (first | (with_reducible first | exact HB.out | apply below_alloc | apply pw_below_drewN | apply below_drew1 | refine below_set ?_ (IsS109.ge HI0.out) | refine below_set ?_ GE271.out | refine below_set ?_ GE283.out) | exact HB.out)) hb)
                                clear HO_284000
                                clear HO_284001
                                clear BK271
                                clear BK283
                                clear HI0
                                clear HK
                                clear HB
                                have HO_284000 := n0_
                                have HO_284001 := n1_
                                have HO292 := n2_
                                have BK271 := n3_
                                have BK283 := n4_
                                have HI0 := n5_
                                have HK := n6_
                                have HB := n7_
                                clear n0_ n1_ n2_ n3_ n4_ n5_ n6_ n7_
                                clear hb ho33
                                obtain ⟨Ao34, co34, eo34⟩ := Kd.R_slice HO292.out
                                subst eo34
                                obtain ⟨ado34, fo34, _⟩ := Kd.at_int (Kd.R_reads' HO292.out).2.2 0 (by decide) (by rw [Ny290.out]; simp)
                                cases fo34
                                refine hK.out _ _ ⟨(blk_cell BK283.out 0).trans rfl, (blk_cell BK283.out 1).trans rfl, (blk_cell BK283.out 2).trans rfl⟩ (fun hHeld => ?_)
                                clear hK K
                                refine norm_ (a' := ?_) ?_ ?_
                                rotate_left
                                · show Act.put _ (some 23) _ = _
                                  simp only [Act.put, List.setIfInBounds_toArray, List.set_cons_zero, List.set_cons_succ, i64_w, i32_w]
                                  rfl
                                refine pure_ (i := 10) (N := some 26) (v := ?_) (a' := ?_) #[true, true, true, true, true, true, true, true, true, true, true, false, true, false, false, false] rfl rfl (any_of HT_.out (by kernel_rfl)) (fun _ _ _ h => h) (Or.inl ⟨by rfl, ?_⟩) ?_ ?_
                                rotate_left
                                · intro w'
                                  go_simp
                                  with_reducible rfl
                                rotate_left
                                · simp only [Act.put, List.setIfInBounds_toArray, List.set_cons_zero, List.set_cons_succ, i64_w, i32_w]
                                  rfl
                                exact norm_ (by first | (simp only [putAll, Act.put, List.setIfInBounds_toArray, List.set_cons_zero, List.set_cons_succ]; done) | (simp only [putAll, Act.put, List.setIfInBounds_toArray, List.set_cons_zero, List.set_cons_succ]; rfl)) (hJ7_9 (.slice (some ado34) y290.length co34, ado34) _ ⟨hHeld, (by (with_reducible repeat (first | apply Kd.R_alloc | apply Kd.R_drewN | apply Kd.R_drew)); exact Kd.R_mono HO292.out (fun _ hk => hk.2)), (by (with_reducible repeat (first | apply Kd.Q_alloc | apply Kd.Q_drewN | apply Kd.Q_drew)); exact Kd.Q_mono HO_284000.out (fun _ hk => hk.2)), (by (with_reducible repeat (first | apply Kd.S_alloc | apply Kd.S_drewN | apply Kd.S_drew)); exact Kd.S_mono HO_284001.out (fun _ hk => ⟨hk.2, hk.1⟩)), ⟨_, rfl⟩, (by (with_reducible repeat (first | refine blk_drewN ?_ _ | refine blk_drew ?_ | refine blk_alloc ?_ _)); exact BK271.out), (by (with_reducible repeat (first | refine blk_drewN ?_ _ | refine blk_drew ?_ | refine blk_alloc ?_ _)); exact BK283.out), (by repeat (first | (with_reducible first | exact HI0.out | apply IsS109.alloc | apply IsS109.drewN | apply IsS109.drew | apply IsS109.set_1 | refine IsS109.far ?_ NB0_271.out _ | refine IsS109.far ?_ NB0_283.out _) | exact HI0.out)), (by repeat (first | (with_reducible first | exact HK.out | apply KeepBut.set_ | apply keep_drewN | apply keep_drew | apply keep_alloc | refine keep_far ?_ GW271.out _ | refine keep_far ?_ GW283.out _) | exact HK.out)), (by repeat (first | (with_reducible first | exact HB.out | apply below_alloc | apply pw_below_drewN | apply below_drew1 | refine below_set ?_ (IsS109.ge HI0.out) | refine below_set ?_ GE271.out | refine below_set ?_ GE283.out) | exact HB.out))⟩)
                              · skip
                                refine goes_ Try.func67 (by kernel_rfl) rfl #[.pointer (some ⟨g, 0, none⟩), .int .i64 256] (by rfl) rfl rfl (by (try simp only [List.map_toArray, List.map_cons, List.map_nil]); first | done | rfl | (simp only [List.length_drop, List.length_take]; rfl)) ?_
                                with_reducible refine (spec_l20Rd_pick.calls k1 g s0_0 t294 256 t296 t297 w0 _ ?side1 ?side2 A23.out).mono ?_
                                (case side1 => repeat (first | (with_reducible first | exact HI0.out | apply IsS109.alloc | apply IsS109.drewN | apply IsS109.drew | apply IsS109.set_1 | refine IsS109.far ?_ NB0_271.out _ | refine IsS109.far ?_ NB0_283.out _) | exact HI0.out))
                                (case side2 => repeat (first | (with_reducible first | exact HB.out | apply below_alloc | apply pw_below_drewN | apply below_drew1 | refine below_set ?_ (IsS109.ge HI0.out) | refine below_set ?_ GE271.out | refine below_set ?_ GE283.out) | exact HB.out))
                                rintro e w32 ⟨rfl, hi, hb, hk⟩
                                refine ⟨_, rfl, ?_⟩
                                have n0_ := Aside0.mk (Kd.Q_mono (Kd.Q_keep (IsS109.apartQ (show IsS109 w0 _ g s0_0 t294 from by repeat (first | (with_reducible first | exact HI0.out | apply IsS109.alloc | apply IsS109.drewN | apply IsS109.drew | apply IsS109.set_1 | refine IsS109.far ?_ NB0_271.out _ | refine IsS109.far ?_ NB0_283.out _) | exact HI0.out)) (by (with_reducible repeat (first | apply Kd.Q_alloc | apply Kd.Q_drewN | apply Kd.Q_drew)); exact HO_284000.out) (by decide)) hk (fun _ h => h.2)) (fun _ h => h.1))
                                have n1_ := Aside0.mk (Kd.S_mono (Kd.S_keep (IsS109.apartS (show IsS109 w0 _ g s0_0 t294 from by repeat (first | (with_reducible first | exact HI0.out | apply IsS109.alloc | apply IsS109.drewN | apply IsS109.drew | apply IsS109.set_1 | refine IsS109.far ?_ NB0_271.out _ | refine IsS109.far ?_ NB0_283.out _) | exact HI0.out)) (by (with_reducible repeat (first | apply Kd.S_alloc | apply Kd.S_drewN | apply Kd.S_drew)); exact HO_284001.out) (by decide)) hk (fun _ h => h.2)) (fun _ h => h.1))
                                have n2_ := Aside0.mk (KeepBut.blk hk (g' := gb271) (o := .cells #[.slice none 0 0, .slice none 0 0, .int .i64 0] 42 (0, 0)) (by (with_reducible repeat (first | refine blk_drewN ?_ _ | refine blk_drew ?_ | refine blk_alloc ?_ _)); exact BK271.out) NB271_0.out (by simp))
                                have n3_ := Aside0.mk (KeepBut.blk hk (g' := gb283) (o := .cells #[u284000, .slice Ao15 t279.length co15, .int .i64 t282] 42 (0, 0)) (by (with_reducible repeat (first | refine blk_drewN ?_ _ | refine blk_drew ?_ | refine blk_alloc ?_ _)); exact BK283.out) NB283_0.out (by simp))
                                have n4_ := Aside0.mk (KeepBut.trans (by repeat (first | (with_reducible first | exact HK.out | apply KeepBut.set_ | apply keep_drewN | apply keep_drew | apply keep_alloc | refine keep_far ?_ GW271.out _ | refine keep_far ?_ GW283.out _) | exact HK.out)) hk (.inl rfl))
                                have n5_ := Aside0.mk (hb)
                                have n6_ := Aside0.mk (hi)
                                clear HO_284000
                                clear HO_284001
                                clear BK271
                                clear BK283
                                clear HK
                                clear HB
                                clear HI0
                                have HO_284000 := n0_
                                have HO_284001 := n1_
                                have BK271 := n2_
                                have BK283 := n3_
                                have HK := n4_
                                have HB := n5_
                                have HI0 := n6_
                                clear n0_ n1_ n2_ n3_ n4_ n5_ n6_
                                (try clear hb)
                                (try clear hb2)
                                (try clear hk)
                                (try clear hi)
                                refine hK.out _ _ ⟨(blk_cell BK283.out 0).trans rfl, (blk_cell BK283.out 1).trans rfl, (blk_cell BK283.out 2).trans rfl⟩ (fun hHeld => ?_)
                                clear hK K
                                refine norm_ (a' := ?_) ?_ ?_
                                rotate_left
                                · show Act.put _ (some 29) _ = _
                                  simp only [Act.put, List.setIfInBounds_toArray, List.set_cons_zero, List.set_cons_succ, i64_w, i32_w]
                                  rfl
                                exact norm_ (by first | (simp only [putAll, Act.put, List.setIfInBounds_toArray, List.set_cons_zero, List.set_cons_succ]; done) | (simp only [putAll, Act.put, List.setIfInBounds_toArray, List.set_cons_zero, List.set_cons_succ]; rfl)) (hJ9_13 () _ ⟨hHeld, (by (with_reducible repeat (first | apply Kd.Q_alloc | apply Kd.Q_drewN | apply Kd.Q_drew)); exact HO_284000.out), (by (with_reducible repeat (first | apply Kd.S_alloc | apply Kd.S_drewN | apply Kd.S_drew)); exact HO_284001.out), (by (with_reducible repeat (first | refine blk_drewN ?_ _ | refine blk_drew ?_ | refine blk_alloc ?_ _)); exact BK271.out), (by (with_reducible repeat (first | refine blk_drewN ?_ _ | refine blk_drew ?_ | refine blk_alloc ?_ _)); exact BK283.out), (by repeat (first | (with_reducible first | exact HI0.out | apply IsS109.alloc | apply IsS109.drewN | apply IsS109.drew | apply IsS109.set_1 | refine IsS109.far ?_ NB0_271.out _ | refine IsS109.far ?_ NB0_283.out _) | exact HI0.out)), (by repeat (first | (with_reducible first | exact HK.out | apply KeepBut.set_ | apply keep_drewN | apply keep_drew | apply keep_alloc | refine keep_far ?_ GW271.out _ | refine keep_far ?_ GW283.out _) | exact HK.out)), (by repeat (first | (with_reducible first | exact HB.out | apply below_alloc | apply pw_below_drewN | apply below_drew1 | refine below_set ?_ (IsS109.ge HI0.out) | refine below_set ?_ GE271.out | refine below_set ?_ GE283.out) | exact HB.out))⟩)
                          · skip
                            rintro ⟨v291, adz_v291⟩ w33 ⟨hS_, h0_, h1_, h2_, h3_, h4_, h5_, h6_, h7_, h8_⟩
                            have n0_ : Aside0 (Kd.R (Kd.int .i64) 3 w33 w.heap.size (fun k_ => some k_ ≠ (u284000 : Value).ownBlock) v291 y290) := ⟨h0_⟩
                            have n1_ : Aside0 (Kd.Q (Kd.int .i64) 3 w33 w.heap.size (fun k_ => some k_ ≠ (v291 : Value).ownBlock) u284000 x284000_1) := ⟨h1_⟩
                            have n2_ : Aside0 (Kd.S (Kd.slice 3 (Kd.int .i64)) 22 w33 w.heap.size (fun k_ => some k_ ≠ (v291 : Value).ownBlock ∧ some k_ ≠ (u284000 : Value).ownBlock) (.slice Ao15 t279.length co15) t279) := ⟨h2_⟩
                            have n3_ : Aside0 (∃ c_, (v291 : Value) = .slice (some adz_v291) y290.length c_) := ⟨h3_⟩
                            have n4_ : Aside0 (w33.heap[gb271]? = some (.cells #[.slice none 0 0, .slice none 0 0, .int .i64 0] 42 (0, 0))) := ⟨h4_⟩
                            have n5_ : Aside0 (w33.heap[gb283]? = some (.cells #[u284000, .slice Ao15 t279.length co15, .int .i64 t282] 42 (0, 0))) := ⟨h5_⟩
                            have n6_ : Aside0 (IsS109 w0 w33 g s0_0 t289) := ⟨h6_⟩
                            have n7_ : Aside0 (KeepBut w w33 g none) := ⟨h7_⟩
                            have n8_ : Aside0 (Below w0.heap.size w0 w33) := ⟨h8_⟩
                            clear HO_284000
                            clear HO_284001
                            clear BK271
                            clear BK283
                            clear HI0
                            clear HK
                            clear HB
                            clear h0_ h1_ h2_ h3_ h4_ h5_ h6_ h7_ h8_
                            have HO292 := n0_
                            have HO_284000 := n1_
                            have HO_284001 := n2_
                            have HA_HO292 := n3_
                            have BK271 := n4_
                            have BK283 := n5_
                            have HI0 := n6_
                            have HK := n7_
                            have HB := n8_
                            clear n0_ n1_ n2_ n3_ n4_ n5_ n6_ n7_ n8_
                            have hHeld : w33.cell? ⟨gb283, 0, none⟩ = some (u284000) ∧ w33.cell? ⟨gb283, 1, none⟩ = some (.slice Ao15 t279.length co15) ∧ w33.cell? ⟨gb283, 2, none⟩ = some (.int .i64 t282) := hS_
                            obtain ⟨co34, eo34⟩ := HA_HO292.out
                            clear HA_HO292
                            subst eo34
                            refine norm_ (a' := ?_) ?_ ?_
                            rotate_left
                            · simp only [putAll, Act.put, List.setIfInBounds_toArray, List.set_cons_zero, List.set_cons_succ]
                              rfl
                            refine one_ (i := 9) (N := some 25) #[true, true, true, true, true, true, true, true, true, true, false, false, true, false, false, false] rfl rfl (one_of HT_.out (by kernel_rfl)) (by decide) (fun K hK => ?_)
                            refine goes_ Try.func67 (by kernel_rfl) rfl #[.pointer (some ⟨g, 0, none⟩), .int .i64 2] (by rfl) rfl rfl (by (try simp only [List.map_toArray, List.map_cons, List.map_nil]); first | done | rfl | (simp only [List.length_drop, List.length_take]; rfl)) ?_
                            with_reducible refine (spec_l20Rd_pick.calls k1 g s0_0 t289 2 t293 t294 w0 _ ?side1 ?side2 A20.out).mono ?_
                            (case side1 => repeat (first | (with_reducible first | exact HI0.out | apply IsS109.alloc | apply IsS109.drewN | apply IsS109.drew | apply IsS109.set_1 | refine IsS109.far ?_ NB0_271.out _ | refine IsS109.far ?_ NB0_283.out _) | exact HI0.out))
                            (case side2 => repeat (first | (with_reducible first | exact HB.out | apply below_alloc | apply pw_below_drewN | apply below_drew1 | refine below_set ?_ (IsS109.ge HI0.out) | refine below_set ?_ GE271.out | refine below_set ?_ GE283.out) | exact HB.out))
                            rintro e w35 ⟨rfl, hi, hb, hk⟩
                            refine ⟨_, rfl, ?_⟩
                            have n0_ := Aside0.mk (Kd.Q_mono (Kd.Q_keep (IsS109.apartQ (show IsS109 w0 _ g s0_0 t289 from by repeat (first | (with_reducible first | exact HI0.out | apply IsS109.alloc | apply IsS109.drewN | apply IsS109.drew | apply IsS109.set_1 | refine IsS109.far ?_ NB0_271.out _ | refine IsS109.far ?_ NB0_283.out _) | exact HI0.out)) (by (with_reducible repeat (first | apply Kd.Q_alloc | apply Kd.Q_drewN | apply Kd.Q_drew)); exact HO_284000.out) (by decide)) hk (fun _ h => h.2)) (fun _ h => h.1))
                            have n1_ := Aside0.mk (Kd.S_mono (Kd.S_keep (IsS109.apartS (show IsS109 w0 _ g s0_0 t289 from by repeat (first | (with_reducible first | exact HI0.out | apply IsS109.alloc | apply IsS109.drewN | apply IsS109.drew | apply IsS109.set_1 | refine IsS109.far ?_ NB0_271.out _ | refine IsS109.far ?_ NB0_283.out _) | exact HI0.out)) (by (with_reducible repeat (first | apply Kd.S_alloc | apply Kd.S_drewN | apply Kd.S_drew)); exact HO_284001.out) (by decide)) hk (fun _ h => h.2)) (fun _ h => h.1))
                            have n2_ := Aside0.mk (KeepBut.blk hk (g' := gb271) (o := .cells #[.slice none 0 0, .slice none 0 0, .int .i64 0] 42 (0, 0)) (by (with_reducible repeat (first | refine blk_drewN ?_ _ | refine blk_drew ?_ | refine blk_alloc ?_ _)); exact BK271.out) NB271_0.out (by simp))
                            have n3_ := Aside0.mk (KeepBut.blk hk (g' := gb283) (o := .cells #[u284000, .slice Ao15 t279.length co15, .int .i64 t282] 42 (0, 0)) (by (with_reducible repeat (first | refine blk_drewN ?_ _ | refine blk_drew ?_ | refine blk_alloc ?_ _)); exact BK283.out) NB283_0.out (by simp))
                            have n4_ := Aside0.mk (Kd.R_mono (Kd.R_keep (IsS109.apart (show IsS109 w0 _ g s0_0 t289 from by repeat (first | (with_reducible first | exact HI0.out | apply IsS109.alloc | apply IsS109.drewN | apply IsS109.drew | apply IsS109.set_1 | refine IsS109.far ?_ NB0_271.out _ | refine IsS109.far ?_ NB0_283.out _) | exact HI0.out)) (by (with_reducible repeat (first | apply Kd.R_alloc | apply Kd.R_drewN | apply Kd.R_drew)); exact HO292.out) (by decide)) hk (fun _ h => h.2)) (fun _ h => h.1))
                            have n5_ := Aside0.mk (KeepBut.trans (by repeat (first | (with_reducible first | exact HK.out | apply KeepBut.set_ | apply keep_drewN | apply keep_drew | apply keep_alloc | refine keep_far ?_ GW271.out _ | refine keep_far ?_ GW283.out _) | exact HK.out)) hk (.inl rfl))
                            have n6_ := Aside0.mk (hb)
                            have n7_ := Aside0.mk (hi)
                            clear HO_284000
                            clear HO_284001
                            clear BK271
                            clear BK283
                            clear HO292
                            clear HK
                            clear HB
                            clear HI0
                            have HO_284000 := n0_
                            have HO_284001 := n1_
                            have BK271 := n2_
                            have BK283 := n3_
                            have HO292 := n4_
                            have HK := n5_
                            have HB := n6_
                            have HI0 := n7_
                            clear n0_ n1_ n2_ n3_ n4_ n5_ n6_ n7_
                            (try clear hb)
                            (try clear hb2)
                            (try clear hk)
                            (try clear hi)
                            refine hK.out _ _ ⟨(blk_cell BK283.out 0).trans rfl, (blk_cell BK283.out 1).trans rfl, (blk_cell BK283.out 2).trans rfl⟩ (fun hHeld => ?_)
                            clear hK K
                            refine norm_ (a' := ?_) ?_ ?_
                            rotate_left
                            · show Act.put _ (some 25) _ = _
                              simp only [Act.put, List.setIfInBounds_toArray, List.set_cons_zero, List.set_cons_succ, i64_w, i32_w]
                              rfl
                            refine pure_ (i := 10) (N := some 26) (v := ?_) (a' := ?_) #[true, true, true, true, true, true, true, true, true, true, true, false, true, false, false, false] rfl rfl (any_of HT_.out (by kernel_rfl)) (fun _ _ _ h => h) (Or.inl ⟨by rfl, ?_⟩) ?_ ?_
                            rotate_left
                            · intro w'
                              go_simp
                              with_reducible rfl
                            rotate_left
                            · simp only [Act.put, List.setIfInBounds_toArray, List.set_cons_zero, List.set_cons_succ, i64_w, i32_w]
                              rfl
                            exact norm_ (by first | (simp only [putAll, Act.put, List.setIfInBounds_toArray, List.set_cons_zero, List.set_cons_succ]; done) | (simp only [putAll, Act.put, List.setIfInBounds_toArray, List.set_cons_zero, List.set_cons_succ]; rfl)) (hJ7_9 (.slice (some adz_v291) y290.length co34, adz_v291) _ ⟨hHeld, (by (with_reducible repeat (first | apply Kd.R_alloc | apply Kd.R_drewN | apply Kd.R_drew)); exact HO292.out), (by (with_reducible repeat (first | apply Kd.Q_alloc | apply Kd.Q_drewN | apply Kd.Q_drew)); exact HO_284000.out), (by (with_reducible repeat (first | apply Kd.S_alloc | apply Kd.S_drewN | apply Kd.S_drew)); exact HO_284001.out), ⟨_, rfl⟩, (by (with_reducible repeat (first | refine blk_drewN ?_ _ | refine blk_drew ?_ | refine blk_alloc ?_ _)); exact BK271.out), (by (with_reducible repeat (first | refine blk_drewN ?_ _ | refine blk_drew ?_ | refine blk_alloc ?_ _)); exact BK283.out), (by repeat (first | (with_reducible first | exact HI0.out | apply IsS109.alloc | apply IsS109.drewN | apply IsS109.drew | apply IsS109.set_1 | refine IsS109.far ?_ NB0_271.out _ | refine IsS109.far ?_ NB0_283.out _) | exact HI0.out)), (by repeat (first | (with_reducible first | exact HK.out | apply KeepBut.set_ | apply keep_drewN | apply keep_drew | apply keep_alloc | refine keep_far ?_ GW271.out _ | refine keep_far ?_ GW283.out _) | exact HK.out)), (by repeat (first | (with_reducible first | exact HB.out | apply below_alloc | apply pw_below_drewN | apply below_drew1 | refine below_set ?_ (IsS109.ge HI0.out) | refine below_set ?_ GE271.out | refine below_set ?_ GE283.out) | exact HB.out))⟩)
                        · skip
                          rintro _ w32 ⟨hS_, h0_, h1_, h2_, h3_, h4_, h5_, h6_⟩
                          have n0_ : Aside0 (Kd.Q (Kd.int .i64) 3 w32 w.heap.size (fun _ => True) u284000 x284000_1) := ⟨h0_⟩
                          have n1_ : Aside0 (Kd.S (Kd.slice 3 (Kd.int .i64)) 22 w32 w.heap.size (fun k_ => some k_ ≠ (u284000 : Value).ownBlock) (.slice Ao15 t279.length co15) t279) := ⟨h1_⟩
                          have n2_ : Aside0 (w32.heap[gb271]? = some (.cells #[.slice none 0 0, .slice none 0 0, .int .i64 0] 42 (0, 0))) := ⟨h2_⟩
                          have n3_ : Aside0 (w32.heap[gb283]? = some (.cells #[u284000, .slice Ao15 t279.length co15, .int .i64 t282] 42 (0, 0))) := ⟨h3_⟩
                          have n4_ : Aside0 (IsS109 w0 w32 g s0_0 t297) := ⟨h4_⟩
                          have n5_ : Aside0 (KeepBut w w32 g none) := ⟨h5_⟩
                          have n6_ : Aside0 (Below w0.heap.size w0 w32) := ⟨h6_⟩
                          clear HO_284000
                          clear HO_284001
                          clear BK271
                          clear BK283
                          clear HI0
                          clear HK
                          clear HB
                          clear h0_ h1_ h2_ h3_ h4_ h5_ h6_
                          have HO_284000 := n0_
                          have HO_284001 := n1_
                          have BK271 := n2_
                          have BK283 := n3_
                          have HI0 := n4_
                          have HK := n5_
                          have HB := n6_
                          clear n0_ n1_ n2_ n3_ n4_ n5_ n6_
                          have hHeld : w32.cell? ⟨gb283, 0, none⟩ = some (u284000) ∧ w32.cell? ⟨gb283, 1, none⟩ = some (.slice Ao15 t279.length co15) ∧ w32.cell? ⟨gb283, 2, none⟩ = some (.int .i64 t282) := hS_
                          refine norm_ (a' := ?_) ?_ ?_
                          rotate_left
                          · simp only [putAll, Act.put, List.setIfInBounds_toArray, List.set_cons_zero, List.set_cons_succ]
                            rfl
                          refine one_ (i := 7) (N := some 23) #[true, true, true, true, true, true, true, true, true, true, false, false, true, true, false, false] rfl rfl (one_of HT_.out (by kernel_rfl)) (by decide) (fun K hK => ?_)
                          refine Kd.R_lit_step (Kd.int .i64) _ 3 ?hg (N := 23) ?hd (xs := ([t286, wrap64 (240 + t288)] : List Int)) (inner := [.int .i64 t286, .int .i64 (wrap64 (240 + t288))]) (ok := fun _ => True) (okp := fun _ => True) ?hr ?hp (fun _ hk => hk) trivial (Below.refl _ _) (Nat.le_refl _) (by simp) ?_; (case hd => rfl); (case hg => rfl); (case hr => first | (go_simp; done) | (go_simp; rfl)); (case hp => exact (Reps.one (show Kd.M (Kd.int .i64) _ _ _ t286 [.int .i64 t286] from rfl) (Reps.one (show Kd.M (Kd.int .i64) _ _ _ (wrap64 (240 + t288)) [.int .i64 (wrap64 (240 + t288))] from rfl) (Reps.none _ _))))
                          intro v291 w33 ho34 hb hg_ hnew_
                          clear hg_ hnew_
                          (first | rw [← Ny290.out] at ho34 | (simp only [Int.reduceToNat] at ho34; rw [← Ny290.out] at ho34))
                          have n0_ := Aside0.mk (Kd.Q_elder' (by (with_reducible repeat (first | apply Kd.Q_alloc | apply Kd.Q_drewN | apply Kd.Q_drew)); exact HO_284000.out) (Kd.R_base ho34) hb)
                          have n1_ := Aside0.mk (Kd.S_elder' (by (with_reducible repeat (first | apply Kd.S_alloc | apply Kd.S_drewN | apply Kd.S_drew)); exact HO_284001.out) (Kd.R_base ho34) hb)
                          have n2_ := Aside0.mk (Kd.R_lower (Kd.R_new' ho34 (Kd.Q_lt (by (with_reducible repeat (first | apply Kd.Q_alloc | apply Kd.Q_drewN | apply Kd.Q_drew)); exact HO_284000.out))) (keep_size (w := w) (g := g) (row := none) (by repeat (first | (with_reducible first | exact HK.out | apply KeepBut.set_ | apply keep_drewN | apply keep_drew | apply keep_alloc | refine keep_far ?_ GW271.out _ | refine keep_far ?_ GW283.out _) | exact HK.out))))
                          have n3_ := Aside0.mk (blk_below (g := gb271) (o := .cells #[.slice none 0 0, .slice none 0 0, .int .i64 0] 42 (0, 0)) (by (with_reducible repeat (first | refine blk_drewN ?_ _ | refine blk_drew ?_ | refine blk_alloc ?_ _)); exact BK271.out) hb)
                          have n4_ := Aside0.mk (blk_below (g := gb283) (o := .cells #[u284000, .slice Ao15 t279.length co15, .int .i64 t282] 42 (0, 0)) (by (with_reducible repeat (first | refine blk_drewN ?_ _ | refine blk_drew ?_ | refine blk_alloc ?_ _)); exact BK283.out) hb)
                          have n5_ := Aside0.mk (IsS109.below (by repeat (first | (with_reducible first | exact HI0.out | apply IsS109.alloc | apply IsS109.drewN | apply IsS109.drew | apply IsS109.set_1 | refine IsS109.far ?_ NB0_271.out _ | refine IsS109.far ?_ NB0_283.out _) | exact HI0.out)) hb)
                          have n6_ := Aside0.mk (KeepBut.trans (by repeat (first | (with_reducible first | exact HK.out | apply KeepBut.set_ | apply keep_drewN | apply keep_drew | apply keep_alloc | refine keep_far ?_ GW271.out _ | refine keep_far ?_ GW283.out _) | exact HK.out)) (KeepBut.of_below hb g none) (.inl rfl))
                          have n7_ := Aside0.mk (below_step (by repeat (first | (with_reducible first | exact HB.out | apply below_alloc | apply pw_below_drewN | apply below_drew1 | refine below_set ?_ (IsS109.ge HI0.out) | refine below_set ?_ GE271.out | refine below_set ?_ GE283.out) | exact HB.out)) hb)
                          clear HO_284000
                          clear HO_284001
                          clear BK271
                          clear BK283
                          clear HI0
                          clear HK
                          clear HB
                          have HO_284000 := n0_
                          have HO_284001 := n1_
                          have HO292 := n2_
                          have BK271 := n3_
                          have BK283 := n4_
                          have HI0 := n5_
                          have HK := n6_
                          have HB := n7_
                          clear n0_ n1_ n2_ n3_ n4_ n5_ n6_ n7_
                          clear hb ho34
                          obtain ⟨Ao35, co35, eo35⟩ := Kd.R_slice HO292.out
                          subst eo35
                          obtain ⟨ado35, fo35, _⟩ := Kd.at_int (Kd.R_reads' HO292.out).2.2 0 (by decide) (by rw [Ny290.out]; simp)
                          cases fo35
                          refine hK.out _ _ ⟨(blk_cell BK283.out 0).trans rfl, (blk_cell BK283.out 1).trans rfl, (blk_cell BK283.out 2).trans rfl⟩ (fun hHeld => ?_)
                          clear hK K
                          refine norm_ (a' := ?_) ?_ ?_
                          rotate_left
                          · show Act.put _ (some 23) _ = _
                            simp only [Act.put, List.setIfInBounds_toArray, List.set_cons_zero, List.set_cons_succ, i64_w, i32_w]
                            rfl
                          refine pure_ (i := 10) (N := some 26) (v := ?_) (a' := ?_) #[true, true, true, true, true, true, true, true, true, true, true, false, true, true, false, false] rfl rfl (any_of HT_.out (by kernel_rfl)) (fun _ _ _ h => h) (Or.inl ⟨by rfl, ?_⟩) ?_ ?_
                          rotate_left
                          · intro w'
                            go_simp
                            with_reducible rfl
                          rotate_left
                          · simp only [Act.put, List.setIfInBounds_toArray, List.set_cons_zero, List.set_cons_succ, i64_w, i32_w]
                            rfl
                          exact norm_ (by first | (simp only [putAll, Act.put, List.setIfInBounds_toArray, List.set_cons_zero, List.set_cons_succ]; done) | (simp only [putAll, Act.put, List.setIfInBounds_toArray, List.set_cons_zero, List.set_cons_succ]; rfl)) (hJ7_9_13 (.slice (some ado35) y290.length co35, ado35) _ ⟨hHeld, (by (with_reducible repeat (first | apply Kd.R_alloc | apply Kd.R_drewN | apply Kd.R_drew)); exact Kd.R_mono HO292.out (fun _ hk => hk.2)), (by (with_reducible repeat (first | apply Kd.Q_alloc | apply Kd.Q_drewN | apply Kd.Q_drew)); exact Kd.Q_mono HO_284000.out (fun _ hk => hk.2)), (by (with_reducible repeat (first | apply Kd.S_alloc | apply Kd.S_drewN | apply Kd.S_drew)); exact Kd.S_mono HO_284001.out (fun _ hk => ⟨hk.2, hk.1⟩)), ⟨_, rfl⟩, (by (with_reducible repeat (first | refine blk_drewN ?_ _ | refine blk_drew ?_ | refine blk_alloc ?_ _)); exact BK271.out), (by (with_reducible repeat (first | refine blk_drewN ?_ _ | refine blk_drew ?_ | refine blk_alloc ?_ _)); exact BK283.out), (by repeat (first | (with_reducible first | exact HI0.out | apply IsS109.alloc | apply IsS109.drewN | apply IsS109.drew | apply IsS109.set_1 | refine IsS109.far ?_ NB0_271.out _ | refine IsS109.far ?_ NB0_283.out _) | exact HI0.out)), (by repeat (first | (with_reducible first | exact HK.out | apply KeepBut.set_ | apply keep_drewN | apply keep_drew | apply keep_alloc | refine keep_far ?_ GW271.out _ | refine keep_far ?_ GW283.out _) | exact HK.out)), (by repeat (first | (with_reducible first | exact HB.out | apply below_alloc | apply pw_below_drewN | apply below_drew1 | refine below_set ?_ (IsS109.ge HI0.out) | refine below_set ?_ GE271.out | refine below_set ?_ GE283.out) | exact HB.out))⟩)
                      · skip
                        rintro ⟨v291, adz_v291⟩ w34 ⟨hS_, h0_, h1_, h2_, h3_, h4_, h5_, h6_, h7_, h8_⟩
                        have n0_ : Aside0 (Kd.R (Kd.int .i64) 3 w34 w.heap.size (fun k_ => some k_ ≠ (u284000 : Value).ownBlock) v291 y290) := ⟨h0_⟩
                        have n1_ : Aside0 (Kd.Q (Kd.int .i64) 3 w34 w.heap.size (fun k_ => some k_ ≠ (v291 : Value).ownBlock) u284000 x284000_1) := ⟨h1_⟩
                        have n2_ : Aside0 (Kd.S (Kd.slice 3 (Kd.int .i64)) 22 w34 w.heap.size (fun k_ => some k_ ≠ (v291 : Value).ownBlock ∧ some k_ ≠ (u284000 : Value).ownBlock) (.slice Ao15 t279.length co15) t279) := ⟨h2_⟩
                        have n3_ : Aside0 (∃ c_, (v291 : Value) = .slice (some adz_v291) y290.length c_) := ⟨h3_⟩
                        have n4_ : Aside0 (w34.heap[gb271]? = some (.cells #[.slice none 0 0, .slice none 0 0, .int .i64 0] 42 (0, 0))) := ⟨h4_⟩
                        have n5_ : Aside0 (w34.heap[gb283]? = some (.cells #[u284000, .slice Ao15 t279.length co15, .int .i64 t282] 42 (0, 0))) := ⟨h5_⟩
                        have n6_ : Aside0 (IsS109 w0 w34 g s0_0 t294) := ⟨h6_⟩
                        have n7_ : Aside0 (KeepBut w w34 g none) := ⟨h7_⟩
                        have n8_ : Aside0 (Below w0.heap.size w0 w34) := ⟨h8_⟩
                        clear HO_284000
                        clear HO_284001
                        clear BK271
                        clear BK283
                        clear HI0
                        clear HK
                        clear HB
                        clear h0_ h1_ h2_ h3_ h4_ h5_ h6_ h7_ h8_
                        have HO292 := n0_
                        have HO_284000 := n1_
                        have HO_284001 := n2_
                        have HA_HO292 := n3_
                        have BK271 := n4_
                        have BK283 := n5_
                        have HI0 := n6_
                        have HK := n7_
                        have HB := n8_
                        clear n0_ n1_ n2_ n3_ n4_ n5_ n6_ n7_ n8_
                        have hHeld : w34.cell? ⟨gb283, 0, none⟩ = some (u284000) ∧ w34.cell? ⟨gb283, 1, none⟩ = some (.slice Ao15 t279.length co15) ∧ w34.cell? ⟨gb283, 2, none⟩ = some (.int .i64 t282) := hS_
                        obtain ⟨co35, eo35⟩ := HA_HO292.out
                        clear HA_HO292
                        subst eo35
                        refine norm_ (a' := ?_) ?_ ?_
                        rotate_left
                        · simp only [putAll, Act.put, List.setIfInBounds_toArray, List.set_cons_zero, List.set_cons_succ]
                          rfl
                        refine two_ (i := 11) (j := 13) (Ni := some 27) (Nj := some 29) #[true, true, true, true, true, true, true, true, true, true, true, true, true, false, false, false] #[true, true, true, true, true, true, true, true, true, true, true, false, true, true, false, false] rfl rfl rfl rfl (two_of HT_.out (by kernel_rfl)) (by decide) (by decide) (fun K hK => ?_) (fun K hK => ?_)
                        · skip
                          (have p295 : 0 ≤ (t293 : Int) := of_decide_eq_true (by first | (with_reducible assumption) | assumption); have q295 : t293 < (y290.length : Int) := of_decide_eq_true (by first | (with_reducible assumption) | assumption); obtain ⟨ad295, e295, hx295_0⟩ := Kd.at_int (Kd.R_reads' HO292.out).2.2 t293 p295 q295; obtain rfl : adz_v291 = ad295 := (by injection e295))
                          refine value_ (w1 := ?_) (v := ?_) (by rfl) rfl ?_ ?_
                          rotate_left 2
                          · go_simp
                            constructor
                            · rfl
                            · rfl
                          clear hx295_0
                          refine hK.out _ _ ⟨(blk_cell BK283.out 0).trans rfl, (blk_cell BK283.out 1).trans rfl, (blk_cell BK283.out 2).trans rfl⟩ (fun hHeld => ?_)
                          clear hK K
                          refine norm_ (a' := ?_) ?_ ?_
                          rotate_left
                          · show Act.put _ (some 27) _ = _
                            simp only [Act.put, List.setIfInBounds_toArray, List.set_cons_zero, List.set_cons_succ, i64_w, i32_w]
                            rfl
                          exact norm_ (by first | (simp only [putAll, Act.put, List.setIfInBounds_toArray, List.set_cons_zero, List.set_cons_succ]; done) | (simp only [putAll, Act.put, List.setIfInBounds_toArray, List.set_cons_zero, List.set_cons_succ]; rfl)) (hJ7_9_11 (.slice (some adz_v291) y290.length co35, adz_v291) _ ⟨hHeld, (by (with_reducible repeat (first | apply Kd.R_alloc | apply Kd.R_drewN | apply Kd.R_drew)); exact HO292.out), (by (with_reducible repeat (first | apply Kd.Q_alloc | apply Kd.Q_drewN | apply Kd.Q_drew)); exact HO_284000.out), (by (with_reducible repeat (first | apply Kd.S_alloc | apply Kd.S_drewN | apply Kd.S_drew)); exact HO_284001.out), ⟨_, rfl⟩, (by (with_reducible repeat (first | refine blk_drewN ?_ _ | refine blk_drew ?_ | refine blk_alloc ?_ _)); exact BK271.out), (by (with_reducible repeat (first | refine blk_drewN ?_ _ | refine blk_drew ?_ | refine blk_alloc ?_ _)); exact BK283.out), (by repeat (first | (with_reducible first | exact HI0.out | apply IsS109.alloc | apply IsS109.drewN | apply IsS109.drew | apply IsS109.set_1 | refine IsS109.far ?_ NB0_271.out _ | refine IsS109.far ?_ NB0_283.out _) | exact HI0.out)), (by repeat (first | (with_reducible first | exact HK.out | apply KeepBut.set_ | apply keep_drewN | apply keep_drew | apply keep_alloc | refine keep_far ?_ GW271.out _ | refine keep_far ?_ GW283.out _) | exact HK.out)), (by repeat (first | (with_reducible first | exact HB.out | apply below_alloc | apply pw_below_drewN | apply below_drew1 | refine below_set ?_ (IsS109.ge HI0.out) | refine below_set ?_ GE271.out | refine below_set ?_ GE283.out) | exact HB.out))⟩)
                        · skip
                          refine goes_ Try.func67 (by kernel_rfl) rfl #[.pointer (some ⟨g, 0, none⟩), .int .i64 256] (by rfl) rfl rfl (by (try simp only [List.map_toArray, List.map_cons, List.map_nil]); first | done | rfl | (simp only [List.length_drop, List.length_take]; rfl)) ?_
                          with_reducible refine (spec_l20Rd_pick.calls k1 g s0_0 t294 256 t296 t297 w0 _ ?side1 ?side2 A23.out).mono ?_
                          (case side1 => repeat (first | (with_reducible first | exact HI0.out | apply IsS109.alloc | apply IsS109.drewN | apply IsS109.drew | apply IsS109.set_1 | refine IsS109.far ?_ NB0_271.out _ | refine IsS109.far ?_ NB0_283.out _) | exact HI0.out))
                          (case side2 => repeat (first | (with_reducible first | exact HB.out | apply below_alloc | apply pw_below_drewN | apply below_drew1 | refine below_set ?_ (IsS109.ge HI0.out) | refine below_set ?_ GE271.out | refine below_set ?_ GE283.out) | exact HB.out))
                          rintro e w36 ⟨rfl, hi, hb, hk⟩
                          refine ⟨_, rfl, ?_⟩
                          have n0_ := Aside0.mk (Kd.Q_mono (Kd.Q_keep (IsS109.apartQ (show IsS109 w0 _ g s0_0 t294 from by repeat (first | (with_reducible first | exact HI0.out | apply IsS109.alloc | apply IsS109.drewN | apply IsS109.drew | apply IsS109.set_1 | refine IsS109.far ?_ NB0_271.out _ | refine IsS109.far ?_ NB0_283.out _) | exact HI0.out)) (by (with_reducible repeat (first | apply Kd.Q_alloc | apply Kd.Q_drewN | apply Kd.Q_drew)); exact HO_284000.out) (by decide)) hk (fun _ h => h.2)) (fun _ h => h.1))
                          have n1_ := Aside0.mk (Kd.S_mono (Kd.S_keep (IsS109.apartS (show IsS109 w0 _ g s0_0 t294 from by repeat (first | (with_reducible first | exact HI0.out | apply IsS109.alloc | apply IsS109.drewN | apply IsS109.drew | apply IsS109.set_1 | refine IsS109.far ?_ NB0_271.out _ | refine IsS109.far ?_ NB0_283.out _) | exact HI0.out)) (by (with_reducible repeat (first | apply Kd.S_alloc | apply Kd.S_drewN | apply Kd.S_drew)); exact HO_284001.out) (by decide)) hk (fun _ h => h.2)) (fun _ h => h.1))
                          have n2_ := Aside0.mk (KeepBut.blk hk (g' := gb271) (o := .cells #[.slice none 0 0, .slice none 0 0, .int .i64 0] 42 (0, 0)) (by (with_reducible repeat (first | refine blk_drewN ?_ _ | refine blk_drew ?_ | refine blk_alloc ?_ _)); exact BK271.out) NB271_0.out (by simp))
                          have n3_ := Aside0.mk (KeepBut.blk hk (g' := gb283) (o := .cells #[u284000, .slice Ao15 t279.length co15, .int .i64 t282] 42 (0, 0)) (by (with_reducible repeat (first | refine blk_drewN ?_ _ | refine blk_drew ?_ | refine blk_alloc ?_ _)); exact BK283.out) NB283_0.out (by simp))
                          have n4_ := Aside0.mk (Kd.R_mono (Kd.R_keep (IsS109.apart (show IsS109 w0 _ g s0_0 t294 from by repeat (first | (with_reducible first | exact HI0.out | apply IsS109.alloc | apply IsS109.drewN | apply IsS109.drew | apply IsS109.set_1 | refine IsS109.far ?_ NB0_271.out _ | refine IsS109.far ?_ NB0_283.out _) | exact HI0.out)) (by (with_reducible repeat (first | apply Kd.R_alloc | apply Kd.R_drewN | apply Kd.R_drew)); exact HO292.out) (by decide)) hk (fun _ h => h.2)) (fun _ h => h.1))
                          have n5_ := Aside0.mk (KeepBut.trans (by repeat (first | (with_reducible first | exact HK.out | apply KeepBut.set_ | apply keep_drewN | apply keep_drew | apply keep_alloc | refine keep_far ?_ GW271.out _ | refine keep_far ?_ GW283.out _) | exact HK.out)) hk (.inl rfl))
                          have n6_ := Aside0.mk (hb)
                          have n7_ := Aside0.mk (hi)
                          clear HO_284000
                          clear HO_284001
                          clear BK271
                          clear BK283
                          clear HO292
                          clear HK
                          clear HB
                          clear HI0
                          have HO_284000 := n0_
                          have HO_284001 := n1_
                          have BK271 := n2_
                          have BK283 := n3_
                          have HO292 := n4_
                          have HK := n5_
                          have HB := n6_
                          have HI0 := n7_
                          clear n0_ n1_ n2_ n3_ n4_ n5_ n6_ n7_
                          (try clear hb)
                          (try clear hb2)
                          (try clear hk)
                          (try clear hi)
                          refine hK.out _ _ ⟨(blk_cell BK283.out 0).trans rfl, (blk_cell BK283.out 1).trans rfl, (blk_cell BK283.out 2).trans rfl⟩ (fun hHeld => ?_)
                          clear hK K
                          refine norm_ (a' := ?_) ?_ ?_
                          rotate_left
                          · show Act.put _ (some 29) _ = _
                            simp only [Act.put, List.setIfInBounds_toArray, List.set_cons_zero, List.set_cons_succ, i64_w, i32_w]
                            rfl
                          exact norm_ (by first | (simp only [putAll, Act.put, List.setIfInBounds_toArray, List.set_cons_zero, List.set_cons_succ]; done) | (simp only [putAll, Act.put, List.setIfInBounds_toArray, List.set_cons_zero, List.set_cons_succ]; rfl)) (hJ7_9_13 (.slice (some adz_v291) y290.length co35, adz_v291) _ ⟨hHeld, (by (with_reducible repeat (first | apply Kd.R_alloc | apply Kd.R_drewN | apply Kd.R_drew)); exact HO292.out), (by (with_reducible repeat (first | apply Kd.Q_alloc | apply Kd.Q_drewN | apply Kd.Q_drew)); exact HO_284000.out), (by (with_reducible repeat (first | apply Kd.S_alloc | apply Kd.S_drewN | apply Kd.S_drew)); exact HO_284001.out), ⟨_, rfl⟩, (by (with_reducible repeat (first | refine blk_drewN ?_ _ | refine blk_drew ?_ | refine blk_alloc ?_ _)); exact BK271.out), (by (with_reducible repeat (first | refine blk_drewN ?_ _ | refine blk_drew ?_ | refine blk_alloc ?_ _)); exact BK283.out), (by repeat (first | (with_reducible first | exact HI0.out | apply IsS109.alloc | apply IsS109.drewN | apply IsS109.drew | apply IsS109.set_1 | refine IsS109.far ?_ NB0_271.out _ | refine IsS109.far ?_ NB0_283.out _) | exact HI0.out)), (by repeat (first | (with_reducible first | exact HK.out | apply KeepBut.set_ | apply keep_drewN | apply keep_drew | apply keep_alloc | refine keep_far ?_ GW271.out _ | refine keep_far ?_ GW283.out _) | exact HK.out)), (by repeat (first | (with_reducible first | exact HB.out | apply below_alloc | apply pw_below_drewN | apply below_drew1 | refine below_set ?_ (IsS109.ge HI0.out) | refine below_set ?_ GE271.out | refine below_set ?_ GE283.out) | exact HB.out))⟩)
                    · skip
                      rintro ⟨v291, adz_v291⟩ w35 ⟨hS_, h0_, h1_, h2_, h3_, h4_, h5_, h6_, h7_, h8_⟩
                      have n0_ : Aside0 (Kd.R (Kd.int .i64) 3 w35 w.heap.size (fun k_ => some k_ ≠ (u284000 : Value).ownBlock) v291 y290) := ⟨h0_⟩
                      have n1_ : Aside0 (Kd.Q (Kd.int .i64) 3 w35 w.heap.size (fun k_ => some k_ ≠ (v291 : Value).ownBlock) u284000 x284000_1) := ⟨h1_⟩
                      have n2_ : Aside0 (Kd.S (Kd.slice 3 (Kd.int .i64)) 22 w35 w.heap.size (fun k_ => some k_ ≠ (v291 : Value).ownBlock ∧ some k_ ≠ (u284000 : Value).ownBlock) (.slice Ao15 t279.length co15) t279) := ⟨h2_⟩
                      have n3_ : Aside0 (∃ c_, (v291 : Value) = .slice (some adz_v291) y290.length c_) := ⟨h3_⟩
                      have n4_ : Aside0 (w35.heap[gb271]? = some (.cells #[.slice none 0 0, .slice none 0 0, .int .i64 0] 42 (0, 0))) := ⟨h4_⟩
                      have n5_ : Aside0 (w35.heap[gb283]? = some (.cells #[u284000, .slice Ao15 t279.length co15, .int .i64 t282] 42 (0, 0))) := ⟨h5_⟩
                      have n6_ : Aside0 (IsS109 w0 w35 g s0_0 t297) := ⟨h6_⟩
                      have n7_ : Aside0 (KeepBut w w35 g none) := ⟨h7_⟩
                      have n8_ : Aside0 (Below w0.heap.size w0 w35) := ⟨h8_⟩
                      clear HO_284000
                      clear HO_284001
                      clear BK271
                      clear BK283
                      clear HI0
                      clear HK
                      clear HB
                      clear h0_ h1_ h2_ h3_ h4_ h5_ h6_ h7_ h8_
                      have HO292 := n0_
                      have HO_284000 := n1_
                      have HO_284001 := n2_
                      have HA_HO292 := n3_
                      have BK271 := n4_
                      have BK283 := n5_
                      have HI0 := n6_
                      have HK := n7_
                      have HB := n8_
                      clear n0_ n1_ n2_ n3_ n4_ n5_ n6_ n7_ n8_
                      have hHeld : w35.cell? ⟨gb283, 0, none⟩ = some (u284000) ∧ w35.cell? ⟨gb283, 1, none⟩ = some (.slice Ao15 t279.length co15) ∧ w35.cell? ⟨gb283, 2, none⟩ = some (.int .i64 t282) := hS_
                      obtain ⟨co36, eo36⟩ := HA_HO292.out
                      clear HA_HO292
                      subst eo36
                      refine norm_ (a' := ?_) ?_ ?_
                      rotate_left
                      · simp only [putAll, Act.put, List.setIfInBounds_toArray, List.set_cons_zero, List.set_cons_succ]
                        rfl
                      refine one_ (i := 11) (N := some 27) #[true, true, true, true, true, true, true, true, true, true, true, true, true, true, false, false] rfl rfl (one_of HT_.out (by kernel_rfl)) (by decide) (fun K hK => ?_)
                      (have p295 : 0 ≤ (t293 : Int) := of_decide_eq_true (by first | (with_reducible assumption) | assumption); have q295 : t293 < (y290.length : Int) := of_decide_eq_true (by first | (with_reducible assumption) | assumption); obtain ⟨ad295, e295, hx295_0⟩ := Kd.at_int (Kd.R_reads' HO292.out).2.2 t293 p295 q295; obtain rfl : adz_v291 = ad295 := (by injection e295))
                      refine value_ (w1 := ?_) (v := ?_) (by rfl) rfl ?_ ?_
                      rotate_left 2
                      · go_simp
                        constructor
                        · rfl
                        · rfl
                      clear hx295_0
                      refine hK.out _ _ ⟨(blk_cell BK283.out 0).trans rfl, (blk_cell BK283.out 1).trans rfl, (blk_cell BK283.out 2).trans rfl⟩ (fun hHeld => ?_)
                      clear hK K
                      refine norm_ (a' := ?_) ?_ ?_
                      rotate_left
                      · show Act.put _ (some 27) _ = _
                        simp only [Act.put, List.setIfInBounds_toArray, List.set_cons_zero, List.set_cons_succ, i64_w, i32_w]
                        rfl
                      exact norm_ (by first | (simp only [putAll, Act.put, List.setIfInBounds_toArray, List.set_cons_zero, List.set_cons_succ]; done) | (simp only [putAll, Act.put, List.setIfInBounds_toArray, List.set_cons_zero, List.set_cons_succ]; rfl)) (hJ7_9_11_13 (.slice (some adz_v291) y290.length co36, adz_v291) _ ⟨hHeld, (by (with_reducible repeat (first | apply Kd.R_alloc | apply Kd.R_drewN | apply Kd.R_drew)); exact HO292.out), (by (with_reducible repeat (first | apply Kd.Q_alloc | apply Kd.Q_drewN | apply Kd.Q_drew)); exact HO_284000.out), (by (with_reducible repeat (first | apply Kd.S_alloc | apply Kd.S_drewN | apply Kd.S_drew)); exact HO_284001.out), ⟨_, rfl⟩, (by (with_reducible repeat (first | refine blk_drewN ?_ _ | refine blk_drew ?_ | refine blk_alloc ?_ _)); exact BK271.out), (by (with_reducible repeat (first | refine blk_drewN ?_ _ | refine blk_drew ?_ | refine blk_alloc ?_ _)); exact BK283.out), (by repeat (first | (with_reducible first | exact HI0.out | apply IsS109.alloc | apply IsS109.drewN | apply IsS109.drew | apply IsS109.set_1 | refine IsS109.far ?_ NB0_271.out _ | refine IsS109.far ?_ NB0_283.out _) | exact HI0.out)), (by repeat (first | (with_reducible first | exact HK.out | apply KeepBut.set_ | apply keep_drewN | apply keep_drew | apply keep_alloc | refine keep_far ?_ GW271.out _ | refine keep_far ?_ GW283.out _) | exact HK.out)), (by repeat (first | (with_reducible first | exact HB.out | apply below_alloc | apply pw_below_drewN | apply below_drew1 | refine below_set ?_ (IsS109.ge HI0.out) | refine below_set ?_ GE271.out | refine below_set ?_ GE283.out) | exact HB.out))⟩)
                  · skip
                    rintro ⟨v291, adz_v291⟩ w34 ⟨hS_, h0_, h1_, h2_, h3_, h4_, h5_, h6_, h7_, h8_⟩
                    have n0_ : Aside0 (Kd.R (Kd.int .i64) 3 w34 w.heap.size (fun k_ => some k_ ≠ (u284000 : Value).ownBlock) v291 y290) := ⟨h0_⟩
                    have n1_ : Aside0 (Kd.Q (Kd.int .i64) 3 w34 w.heap.size (fun k_ => some k_ ≠ (v291 : Value).ownBlock) u284000 x284000_1) := ⟨h1_⟩
                    have n2_ : Aside0 (Kd.S (Kd.slice 3 (Kd.int .i64)) 22 w34 w.heap.size (fun k_ => some k_ ≠ (v291 : Value).ownBlock ∧ some k_ ≠ (u284000 : Value).ownBlock) (.slice Ao15 t279.length co15) t279) := ⟨h2_⟩
                    have n3_ : Aside0 (∃ c_, (v291 : Value) = .slice (some adz_v291) y290.length c_) := ⟨h3_⟩
                    have n4_ : Aside0 (w34.heap[gb271]? = some (.cells #[.slice none 0 0, .slice none 0 0, .int .i64 0] 42 (0, 0))) := ⟨h4_⟩
                    have n5_ : Aside0 (w34.heap[gb283]? = some (.cells #[u284000, .slice Ao15 t279.length co15, .int .i64 t282] 42 (0, 0))) := ⟨h5_⟩
                    have n6_ : Aside0 (IsS109 w0 w34 g s0_0 t294) := ⟨h6_⟩
                    have n7_ : Aside0 (KeepBut w w34 g none) := ⟨h7_⟩
                    have n8_ : Aside0 (Below w0.heap.size w0 w34) := ⟨h8_⟩
                    clear HO_284000
                    clear HO_284001
                    clear BK271
                    clear BK283
                    clear HI0
                    clear HK
                    clear HB
                    clear h0_ h1_ h2_ h3_ h4_ h5_ h6_ h7_ h8_
                    have HO292 := n0_
                    have HO_284000 := n1_
                    have HO_284001 := n2_
                    have HA_HO292 := n3_
                    have BK271 := n4_
                    have BK283 := n5_
                    have HI0 := n6_
                    have HK := n7_
                    have HB := n8_
                    clear n0_ n1_ n2_ n3_ n4_ n5_ n6_ n7_ n8_
                    have hHeld : w34.cell? ⟨gb283, 0, none⟩ = some (u284000) ∧ w34.cell? ⟨gb283, 1, none⟩ = some (.slice Ao15 t279.length co15) ∧ w34.cell? ⟨gb283, 2, none⟩ = some (.int .i64 t282) := hS_
                    obtain ⟨co35, eo35⟩ := HA_HO292.out
                    clear HA_HO292
                    subst eo35
                    refine norm_ (a' := ?_) ?_ ?_
                    rotate_left
                    · simp only [putAll, Act.put, List.setIfInBounds_toArray, List.set_cons_zero, List.set_cons_succ]
                      rfl
                    refine one_ (i := 13) (N := some 29) #[true, true, true, true, true, true, true, true, true, true, true, true, true, true, false, false] rfl rfl (one_of HT_.out (by kernel_rfl)) (by decide) (fun K hK => ?_)
                    refine goes_ Try.func67 (by kernel_rfl) rfl #[.pointer (some ⟨g, 0, none⟩), .int .i64 256] (by rfl) rfl rfl (by (try simp only [List.map_toArray, List.map_cons, List.map_nil]); first | done | rfl | (simp only [List.length_drop, List.length_take]; rfl)) ?_
                    with_reducible refine (spec_l20Rd_pick.calls k1 g s0_0 t294 256 t296 t297 w0 _ ?side1 ?side2 A23.out).mono ?_
                    (case side1 => repeat (first | (with_reducible first | exact HI0.out | apply IsS109.alloc | apply IsS109.drewN | apply IsS109.drew | apply IsS109.set_1 | refine IsS109.far ?_ NB0_271.out _ | refine IsS109.far ?_ NB0_283.out _) | exact HI0.out))
                    (case side2 => repeat (first | (with_reducible first | exact HB.out | apply below_alloc | apply pw_below_drewN | apply below_drew1 | refine below_set ?_ (IsS109.ge HI0.out) | refine below_set ?_ GE271.out | refine below_set ?_ GE283.out) | exact HB.out))
                    rintro e w36 ⟨rfl, hi, hb, hk⟩
                    refine ⟨_, rfl, ?_⟩
                    have n0_ := Aside0.mk (Kd.Q_mono (Kd.Q_keep (IsS109.apartQ (show IsS109 w0 _ g s0_0 t294 from by repeat (first | (with_reducible first | exact HI0.out | apply IsS109.alloc | apply IsS109.drewN | apply IsS109.drew | apply IsS109.set_1 | refine IsS109.far ?_ NB0_271.out _ | refine IsS109.far ?_ NB0_283.out _) | exact HI0.out)) (by (with_reducible repeat (first | apply Kd.Q_alloc | apply Kd.Q_drewN | apply Kd.Q_drew)); exact HO_284000.out) (by decide)) hk (fun _ h => h.2)) (fun _ h => h.1))
                    have n1_ := Aside0.mk (Kd.S_mono (Kd.S_keep (IsS109.apartS (show IsS109 w0 _ g s0_0 t294 from by repeat (first | (with_reducible first | exact HI0.out | apply IsS109.alloc | apply IsS109.drewN | apply IsS109.drew | apply IsS109.set_1 | refine IsS109.far ?_ NB0_271.out _ | refine IsS109.far ?_ NB0_283.out _) | exact HI0.out)) (by (with_reducible repeat (first | apply Kd.S_alloc | apply Kd.S_drewN | apply Kd.S_drew)); exact HO_284001.out) (by decide)) hk (fun _ h => h.2)) (fun _ h => h.1))
                    have n2_ := Aside0.mk (KeepBut.blk hk (g' := gb271) (o := .cells #[.slice none 0 0, .slice none 0 0, .int .i64 0] 42 (0, 0)) (by (with_reducible repeat (first | refine blk_drewN ?_ _ | refine blk_drew ?_ | refine blk_alloc ?_ _)); exact BK271.out) NB271_0.out (by simp))
                    have n3_ := Aside0.mk (KeepBut.blk hk (g' := gb283) (o := .cells #[u284000, .slice Ao15 t279.length co15, .int .i64 t282] 42 (0, 0)) (by (with_reducible repeat (first | refine blk_drewN ?_ _ | refine blk_drew ?_ | refine blk_alloc ?_ _)); exact BK283.out) NB283_0.out (by simp))
                    have n4_ := Aside0.mk (Kd.R_mono (Kd.R_keep (IsS109.apart (show IsS109 w0 _ g s0_0 t294 from by repeat (first | (with_reducible first | exact HI0.out | apply IsS109.alloc | apply IsS109.drewN | apply IsS109.drew | apply IsS109.set_1 | refine IsS109.far ?_ NB0_271.out _ | refine IsS109.far ?_ NB0_283.out _) | exact HI0.out)) (by (with_reducible repeat (first | apply Kd.R_alloc | apply Kd.R_drewN | apply Kd.R_drew)); exact HO292.out) (by decide)) hk (fun _ h => h.2)) (fun _ h => h.1))
                    have n5_ := Aside0.mk (KeepBut.trans (by repeat (first | (with_reducible first | exact HK.out | apply KeepBut.set_ | apply keep_drewN | apply keep_drew | apply keep_alloc | refine keep_far ?_ GW271.out _ | refine keep_far ?_ GW283.out _) | exact HK.out)) hk (.inl rfl))
                    have n6_ := Aside0.mk (hb)
                    have n7_ := Aside0.mk (hi)
                    clear HO_284000
                    clear HO_284001
                    clear BK271
                    clear BK283
                    clear HO292
                    clear HK
                    clear HB
                    clear HI0
                    have HO_284000 := n0_
                    have HO_284001 := n1_
                    have BK271 := n2_
                    have BK283 := n3_
                    have HO292 := n4_
                    have HK := n5_
                    have HB := n6_
                    have HI0 := n7_
                    clear n0_ n1_ n2_ n3_ n4_ n5_ n6_ n7_
                    (try clear hb)
                    (try clear hb2)
                    (try clear hk)
                    (try clear hi)
                    refine hK.out _ _ ⟨(blk_cell BK283.out 0).trans rfl, (blk_cell BK283.out 1).trans rfl, (blk_cell BK283.out 2).trans rfl⟩ (fun hHeld => ?_)
                    clear hK K
                    refine norm_ (a' := ?_) ?_ ?_
                    rotate_left
                    · show Act.put _ (some 29) _ = _
                      simp only [Act.put, List.setIfInBounds_toArray, List.set_cons_zero, List.set_cons_succ, i64_w, i32_w]
                      rfl
                    exact norm_ (by first | (simp only [putAll, Act.put, List.setIfInBounds_toArray, List.set_cons_zero, List.set_cons_succ]; done) | (simp only [putAll, Act.put, List.setIfInBounds_toArray, List.set_cons_zero, List.set_cons_succ]; rfl)) (hJ7_9_11_13 (.slice (some adz_v291) y290.length co35, adz_v291) _ ⟨hHeld, (by (with_reducible repeat (first | apply Kd.R_alloc | apply Kd.R_drewN | apply Kd.R_drew)); exact HO292.out), (by (with_reducible repeat (first | apply Kd.Q_alloc | apply Kd.Q_drewN | apply Kd.Q_drew)); exact HO_284000.out), (by (with_reducible repeat (first | apply Kd.S_alloc | apply Kd.S_drewN | apply Kd.S_drew)); exact HO_284001.out), ⟨_, rfl⟩, (by (with_reducible repeat (first | refine blk_drewN ?_ _ | refine blk_drew ?_ | refine blk_alloc ?_ _)); exact BK271.out), (by (with_reducible repeat (first | refine blk_drewN ?_ _ | refine blk_drew ?_ | refine blk_alloc ?_ _)); exact BK283.out), (by repeat (first | (with_reducible first | exact HI0.out | apply IsS109.alloc | apply IsS109.drewN | apply IsS109.drew | apply IsS109.set_1 | refine IsS109.far ?_ NB0_271.out _ | refine IsS109.far ?_ NB0_283.out _) | exact HI0.out)), (by repeat (first | (with_reducible first | exact HK.out | apply KeepBut.set_ | apply keep_drewN | apply keep_drew | apply keep_alloc | refine keep_far ?_ GW271.out _ | refine keep_far ?_ GW283.out _) | exact HK.out)), (by repeat (first | (with_reducible first | exact HB.out | apply below_alloc | apply pw_below_drewN | apply below_drew1 | refine below_set ?_ (IsS109.ge HI0.out) | refine below_set ?_ GE271.out | refine below_set ?_ GE283.out) | exact HB.out))⟩)
                rintro ⟨v291, adz_v291⟩ w35 ⟨hS_, h0_, h1_, h2_, h3_, h4_, h5_, h6_, h7_, h8_⟩
                have n0_ : Aside0 (Kd.R (Kd.int .i64) 3 w35 w.heap.size (fun k_ => some k_ ≠ (u284000 : Value).ownBlock) v291 y290) := ⟨h0_⟩
                have n1_ : Aside0 (Kd.Q (Kd.int .i64) 3 w35 w.heap.size (fun k_ => some k_ ≠ (v291 : Value).ownBlock) u284000 x284000_1) := ⟨h1_⟩
                have n2_ : Aside0 (Kd.S (Kd.slice 3 (Kd.int .i64)) 22 w35 w.heap.size (fun k_ => some k_ ≠ (v291 : Value).ownBlock ∧ some k_ ≠ (u284000 : Value).ownBlock) (.slice Ao15 t279.length co15) t279) := ⟨h2_⟩
                have n3_ : Aside0 (∃ c_, (v291 : Value) = .slice (some adz_v291) y290.length c_) := ⟨h3_⟩
                have n4_ : Aside0 (w35.heap[gb271]? = some (.cells #[.slice none 0 0, .slice none 0 0, .int .i64 0] 42 (0, 0))) := ⟨h4_⟩
                have n5_ : Aside0 (w35.heap[gb283]? = some (.cells #[u284000, .slice Ao15 t279.length co15, .int .i64 t282] 42 (0, 0))) := ⟨h5_⟩
                have n6_ : Aside0 (IsS109 w0 w35 g s0_0 t297) := ⟨h6_⟩
                have n7_ : Aside0 (KeepBut w w35 g none) := ⟨h7_⟩
                have n8_ : Aside0 (Below w0.heap.size w0 w35) := ⟨h8_⟩
                clear HO_284000
                clear HO_284001
                clear BK271
                clear BK283
                clear HI0
                clear HK
                clear HB
                clear h0_ h1_ h2_ h3_ h4_ h5_ h6_ h7_ h8_
                have HO292 := n0_
                have HO_284000 := n1_
                have HO_284001 := n2_
                have HA_HO292 := n3_
                have BK271 := n4_
                have BK283 := n5_
                have HI0 := n6_
                have HK := n7_
                have HB := n8_
                clear n0_ n1_ n2_ n3_ n4_ n5_ n6_ n7_ n8_
                have hHeld : w35.cell? ⟨gb283, 0, none⟩ = some (u284000) ∧ w35.cell? ⟨gb283, 1, none⟩ = some (.slice Ao15 t279.length co15) ∧ w35.cell? ⟨gb283, 2, none⟩ = some (.int .i64 t282) := hS_
                obtain ⟨co36, eo36⟩ := HA_HO292.out
                clear HA_HO292
                subst eo36
                have p26 : 0 ≤ ((rd y290 t293) : Int) := of_decide_eq_true (by first | (with_reducible assumption) | assumption)
                have q26 : ((rd y290 t293) : Int) < ((x284000_1.length : Int) : Int) := of_decide_eq_true (by first | (with_reducible assumption) | assumption)
                obtain ⟨go26, oo26, co26, eo26, gb26, gl26, cl26, HG26⟩ := Kd.Q_form HO_284000.out (by omega)
                (first | cases eo26 | (injection eo26 with ea_ en_ ec_; (first | subst ea_ | (injection ea_ with ea_; subst ea_)); subst ec_; clear en_))
                have GB26 := Aside0.mk gb26
                have GG26 := Aside0.mk HG26
                clear gb26 gl26 HG26
                obtain ⟨hx26_0, hf26_0⟩ := Kd.Q_cell 0 HO_284000.out ((rd y290 t293) : Int) p26 q26
                replace p26 := eq_true p26
                replace q26 := eq_true q26
                have HN0_go26 := Aside0.mk (show g ≠ go26 from by have h_ := IsS109.own_neQ HI0.out HO_284000.out (by decide); intro e_; exact h_ (by rw [e_]; rfl))
                have HP37 := (Kd.Q_putg HO_284000.out ((rd y290 t293) : Int) (of_decide_eq_true (by first | (with_reducible assumption) | assumption)) (by have h_ : ((rd y290 t293) : Int) < ((x284000_1.length : Int) : Int) := of_decide_eq_true (by first | (with_reducible assumption) | assumption); first | exact h_ | (have e_ := (Kd.Q_reads' HO_284000.out).1; omega) | simpa using h_) t296).1
                rw [← Ny298.out] at HP37
                have HQ37 := Aside0.mk HP37
                clear HP37
                refine norm_ (a' := ?_) ?_ ?_
                rotate_left
                · simp only [putAll, Act.put, List.setIfInBounds_toArray, List.set_cons_zero, List.set_cons_succ]
                  rfl
                refine pure_ (i := 14) (N := some 30) (v := ?_) (a' := ?_) #[true, true, true, true, true, true, true, true, true, true, true, true, true, true, true, false] rfl rfl (any_of HT_.out (by kernel_rfl)) (fun _ _ _ h => h) (Or.inl ⟨by rfl, ?_⟩) ?_ ?_
                rotate_left
                · intro w'
                  go_simp
                  with_reducible rfl
                rotate_left
                · simp only [Act.put, List.setIfInBounds_toArray, List.set_cons_zero, List.set_cons_succ, i64_w, i32_w]
                  rfl
                refine last_ (i := 15) (N := none) #[true, true, true, true, true, true, true, true, true, true, true, true, true, true, true, true] rfl rfl (one_of HT_.out (by kernel_rfl)) (by decide) (fun K hK => ?_)
                refine skip_ (w1 := ?_) (by rfl) rfl ?_ ?_
                rotate_left
                · go_simp
                  rfl
                refine hK.out _ _ ?_
                clear hK K
                refine done_ (done_of HT_.out (by kernel_rfl)) ?_
                try go_wp2
                go_roundg k1
                case measure => have := HK1.out; omega
                case rel => exact ⟨(wrap64 (x6_1 - 1)), (t297), (y298), (.slice (some ⟨go26, oo26, none⟩) x284000_1.length co26), (by first | rfl | (simp; done) | (simp [*]; done)), H', ⟨by have := HK1.out; omega⟩, ⟨by (with_reducible repeat (first | apply Kd.Q_alloc | apply Kd.Q_drewN | apply Kd.Q_drew)); exact Kd.Q_mono HQ37.out (fun _ hk => trivial)⟩, ⟨by (with_reducible repeat (first | apply Kd.S_alloc | apply Kd.S_drewN | apply Kd.S_drew)); exact Kd.S_mono (Kd.S_far (p := ⟨go26, oo26 + ((rd y290 t293) : Int).toNat, none⟩) (Kd.S_mono HO_284001.out (fun k_ hk => (⟨hk, fun e_ => hk.2 (by rw [e_]; rfl)⟩ : _ ∧ k_ ≠ go26))) (fun _ hk => hk.2) (.int .i64 t296)) (fun _ hk => hk.1.2)⟩, ⟨by (with_reducible repeat (first | refine blk_drewN ?_ _ | refine blk_drew ?_ | refine blk_alloc ?_ _)); refine blk_far ?_ (by have h_ := Kd.Q_ne HO_284000.out BK271.out (by decide); intro e_; exact h_ (by rw [e_]; rfl)) _; (with_reducible repeat (first | refine blk_drewN ?_ _ | refine blk_drew ?_ | refine blk_alloc ?_ _)); exact BK271.out⟩, ⟨by (with_reducible repeat (first | refine blk_drewN ?_ _ | refine blk_drew ?_ | refine blk_alloc ?_ _)); refine blk_far ?_ (by have h_ := Kd.Q_ne HO_284000.out BK283.out (by decide); intro e_; exact h_ (by rw [e_]; rfl)) _; (with_reducible repeat (first | refine blk_drewN ?_ _ | refine blk_drew ?_ | refine blk_alloc ?_ _)); exact BK283.out⟩, ⟨by repeat (first | (with_reducible first | exact HI0.out | apply IsS109.alloc | apply IsS109.drewN | apply IsS109.drew | apply IsS109.set_1 | refine IsS109.far ?_ HN0_go26.out _ | refine IsS109.far ?_ NB0_271.out _ | refine IsS109.far ?_ NB0_283.out _) | exact HI0.out)⟩, ⟨by repeat (first | (with_reducible first | exact HK.out | apply KeepBut.set_ | apply keep_drewN | apply keep_drew | apply keep_alloc | refine keep_far ?_ GB26.out _ | refine keep_far ?_ GW271.out _ | refine keep_far ?_ GW283.out _) | exact HK.out)⟩, ⟨by repeat (first | (with_reducible first | exact HB.out | apply below_alloc | apply pw_below_drewN | apply below_drew1 | refine below_set ?_ (Nat.le_trans HL.out GB26.out) | refine below_set ?_ (IsS109.ge HI0.out) | refine below_set ?_ GE271.out | refine below_set ?_ GE283.out) | exact HB.out)⟩⟩
              · rw [if_neg c25] at H
                exact absurd H (by simp)
            · rw [if_neg c24] at H
              exact absurd H (by simp)
          · rw [if_neg c22] at H
            exact absurd H (by simp)
        · rw [if_neg c21] at H
          exact absurd H (by simp)
      · rw [if_neg c17] at H
        have c17b0 : decide (0 < x6_1) = false := decide_eq_false c17
        clear c17
        replace H := Option.bind_eq_some_iff.mp H
        obtain ⟨⟨t299, t300⟩, A380, H⟩ := H
        replace H : ((spec_l20Rd_odd.f k1 s0_0 t300 a1).bind fun bt301 => (if bt301.1 = true then ((spec_l20Rd_pick.f k1 s0_0 bt301.2 4).bind fun bt303 => (if bt303.1 = 0 then ((spec_l20Rd_pick.f k1 s0_0 bt303.2 256).bind fun bt305 => ((some (([(-1), 256] : List Int) : List Int)).bind fun y307 => ((spec_l20Rd_pick.f k1 s0_0 bt305.2 2).bind fun bt310 => (if 0 ≤ bt310.1 then (if bt310.1 < (y307.length : Int) then (if 0 ≤ bt305.1 then (if bt305.1 < (x284000_1.length : Int) then (some ((x284000_1.set (bt305.1 : Int).toNat (rd y307 bt310.1)), t279, t299, bt310.2)) else (none)) else (none)) else (none)) else (none))))) else (if bt303.1 = 1 then (if 1 ≤ (x284000_1.length : Int) then (some ((x284000_1.drop (1 : Int).toNat), t279, t299, bt303.2)) else (none)) else (if bt303.1 = 2 then (some (x284000_1, t279, (t279.length : Int), bt303.2)) else (some (x284000_1, (([] : List (List Int))), t299, bt303.2)))))) else (some (x284000_1, t279, t299, bt301.2)))) = some (r1, r2, r3, r4) := H
        have A38 := Aside0.mk A380
        clear A380
        replace H := Option.bind_eq_some_iff.mp H
        obtain ⟨⟨t301, t302⟩, A390, H⟩ := H
        replace H : (if t301 = true then ((spec_l20Rd_pick.f k1 s0_0 t302 4).bind fun bt303 => (if bt303.1 = 0 then ((spec_l20Rd_pick.f k1 s0_0 bt303.2 256).bind fun bt305 => ((some (([(-1), 256] : List Int) : List Int)).bind fun y307 => ((spec_l20Rd_pick.f k1 s0_0 bt305.2 2).bind fun bt310 => (if 0 ≤ bt310.1 then (if bt310.1 < (y307.length : Int) then (if 0 ≤ bt305.1 then (if bt305.1 < (x284000_1.length : Int) then (some ((x284000_1.set (bt305.1 : Int).toNat (rd y307 bt310.1)), t279, t299, bt310.2)) else (none)) else (none)) else (none)) else (none))))) else (if bt303.1 = 1 then (if 1 ≤ (x284000_1.length : Int) then (some ((x284000_1.drop (1 : Int).toNat), t279, t299, bt303.2)) else (none)) else (if bt303.1 = 2 then (some (x284000_1, t279, (t279.length : Int), bt303.2)) else (some (x284000_1, (([] : List (List Int))), t299, bt303.2)))))) else (some (x284000_1, t279, t299, t302))) = some (r1, r2, r3, r4) := H
        have A39 := Aside0.mk A390
        clear A390
        by_cases c40 : t301 = true
        · subst c40
          have H1 : ((spec_l20Rd_pick.f k1 s0_0 t302 4).bind fun bt303 => (if bt303.1 = 0 then ((spec_l20Rd_pick.f k1 s0_0 bt303.2 256).bind fun bt305 => ((some (([(-1), 256] : List Int) : List Int)).bind fun y307 => ((spec_l20Rd_pick.f k1 s0_0 bt305.2 2).bind fun bt310 => (if 0 ≤ bt310.1 then (if bt310.1 < (y307.length : Int) then (if 0 ≤ bt305.1 then (if bt305.1 < (x284000_1.length : Int) then (some ((x284000_1.set (bt305.1 : Int).toNat (rd y307 bt310.1)), t279, t299, bt310.2)) else (none)) else (none)) else (none)) else (none))))) else (if bt303.1 = 1 then (if 1 ≤ (x284000_1.length : Int) then (some ((x284000_1.drop (1 : Int).toNat), t279, t299, bt303.2)) else (none)) else (if bt303.1 = 2 then (some (x284000_1, t279, (t279.length : Int), bt303.2)) else (some (x284000_1, (([] : List (List Int))), t299, bt303.2)))))) = some (r1, r2, r3, r4) := by rw [if_pos rfl] at H; exact H
          clear H
          have H := H1
          clear H1
          replace H := Option.bind_eq_some_iff.mp H
          obtain ⟨⟨t303, t304⟩, A410, H⟩ := H
          replace H : (if t303 = 0 then ((spec_l20Rd_pick.f k1 s0_0 t304 256).bind fun bt305 => ((some (([(-1), 256] : List Int) : List Int)).bind fun y307 => ((spec_l20Rd_pick.f k1 s0_0 bt305.2 2).bind fun bt310 => (if 0 ≤ bt310.1 then (if bt310.1 < (y307.length : Int) then (if 0 ≤ bt305.1 then (if bt305.1 < (x284000_1.length : Int) then (some ((x284000_1.set (bt305.1 : Int).toNat (rd y307 bt310.1)), t279, t299, bt310.2)) else (none)) else (none)) else (none)) else (none))))) else (if t303 = 1 then (if 1 ≤ (x284000_1.length : Int) then (some ((x284000_1.drop (1 : Int).toNat), t279, t299, t304)) else (none)) else (if t303 = 2 then (some (x284000_1, t279, (t279.length : Int), t304)) else (some (x284000_1, (([] : List (List Int))), t299, t304))))) = some (r1, r2, r3, r4) := H
          have A41 := Aside0.mk A410
          clear A410
          by_cases c42 : t303 = 0
          · rw [if_pos c42] at H
            have c42b0 : (t303 == 0) = true := beq_iff_eq.mpr c42
            have c42b1 : (t303 != 0) = false := bne_eq_false_iff_eq.mpr c42
            clear c42
            replace H := Option.bind_eq_some_iff.mp H
            obtain ⟨⟨t305, t306⟩, A430, H⟩ := H
            replace H : ((some (([(-1), 256] : List Int) : List Int)).bind fun y307 => ((spec_l20Rd_pick.f k1 s0_0 t306 2).bind fun bt310 => (if 0 ≤ bt310.1 then (if bt310.1 < (y307.length : Int) then (if 0 ≤ t305 then (if t305 < (x284000_1.length : Int) then (some ((x284000_1.set (t305 : Int).toNat (rd y307 bt310.1)), t279, t299, bt310.2)) else (none)) else (none)) else (none)) else (none)))) = some (r1, r2, r3, r4) := H
            have A43 := Aside0.mk A430
            clear A430
            obtain ⟨y307, hy307⟩ : ∃ y_ : List Int, y_ = (([(-1), 256] : List Int)) := ⟨_, rfl⟩
            replace H : ((spec_l20Rd_pick.f k1 s0_0 t306 2).bind fun bt310 => (if 0 ≤ bt310.1 then (if bt310.1 < (y307.length : Int) then (if 0 ≤ t305 then (if t305 < (x284000_1.length : Int) then (some ((x284000_1.set (t305 : Int).toNat (rd y307 bt310.1)), t279, t299, bt310.2)) else (none)) else (none)) else (none)) else (none))) = some (r1, r2, r3, r4) := by first | (rw [hy307]; with_reducible exact H) | (have H2_ := (Option.bind_some _ _).symm.trans H; rw [hy307]; with_reducible exact H2_) | (have H2_ := (Option.bind_some _ _).symm.trans H; with_reducible exact H2_) | with_reducible exact H | (rw [hy307]; exact H) | exact H
            have Ny307 := Aside0.mk hy307
            clear hy307
            replace H := Option.bind_eq_some_iff.mp H
            obtain ⟨⟨t310, t311⟩, A440, H⟩ := H
            replace H : (if 0 ≤ t310 then (if t310 < (y307.length : Int) then (if 0 ≤ t305 then (if t305 < (x284000_1.length : Int) then (some ((x284000_1.set (t305 : Int).toNat (rd y307 t310)), t279, t299, t311)) else (none)) else (none)) else (none)) else (none)) = some (r1, r2, r3, r4) := H
            have A44 := Aside0.mk A440
            clear A440
            by_cases c45 : 0 ≤ t310
            · rw [if_pos c45] at H
              have c45b0 : decide (0 ≤ t310) = true := decide_eq_true c45
              clear c45
              by_cases c46 : t310 < (y307.length : Int)
              · rw [if_pos c46] at H
                have c46b0 : decide (t310 < (y307.length : Int)) = true := decide_eq_true c46
                clear c46
                by_cases c47 : 0 ≤ t305
                · rw [if_pos c47] at H
                  have c47b0 : decide (0 ≤ t305) = true := decide_eq_true c47
                  clear c47
                  by_cases c48 : t305 < (x284000_1.length : Int)
                  · rw [if_pos c48] at H
                    have c48b0 : decide (t305 < (x284000_1.length : Int)) = true := decide_eq_true c48
                    clear c48
                    obtain ⟨y313, hy313⟩ : ∃ y_ : List Int, y_ = (x284000_1.set (t305 : Int).toNat (rd y307 t310)) := ⟨_, rfl⟩
                    replace H : (some (y313, t279, t299, t311)) = some (r1, r2, r3, r4) := by first | (rw [hy313]; with_reducible exact H) | (have H2_ := (Option.bind_some _ _).symm.trans H; rw [hy313]; with_reducible exact H2_) | (have H2_ := (Option.bind_some _ _).symm.trans H; with_reducible exact H2_) | with_reducible exact H | (rw [hy313]; exact H) | exact H
                    have Ny313 := Aside0.mk hy313
                    clear hy313
                    simp only [Option.some.injEq, Prod.mk.injEq] at H
                    obtain ⟨rfl, rfl, rfl, rfl⟩ := H
                    have hnb50 := NB283_271.out
                    have hnc50 := NB271_283.out
                    have hnb51 := NB283_0.out
                    have hnc51 := NB0_283.out
                    have hcz52_0 : wr.cell? ⟨gb283, 0, none⟩ = some (u284000) := (blk_cell BK283.out 0).trans rfl
                    have hcz52_1 : wr.cell? ⟨gb283, 1, none⟩ = some (.slice Ao15 t279.length co15) := (blk_cell BK283.out 1).trans rfl
                    have hcz52_2 : wr.cell? ⟨gb283, 2, none⟩ = some (.int .i64 t282) := (blk_cell BK283.out 2).trans rfl
                    have hfz52_0 := blk_frozen BK283.out 0
                    have hfz52_1 := blk_frozen BK283.out 1
                    have hfz52_2 := blk_frozen BK283.out 2
                    try go_wp2_with (first | ((with_reducible refine gate_callee (f := 67) rfl ?_); refine goesL_ (some 35) rfl rfl Try.func67 (by kernel_rfl) rfl #[.pointer (some ⟨g, 0, none⟩), .int .i64 (t279.length : Int)] rfl (by (try simp only [List.map_toArray, List.map_cons, List.map_nil]); first | done | rfl | (simp only [List.length_drop, List.length_take]; rfl)) ?_; (with_reducible refine (spec_l20Rd_pick.calls k1 g s0_0 x1001_1 (t279.length : Int) t299 t300 w0 _ ?side1 ?side2 A38.out).mono ?_); (case side1 => repeat (first | (with_reducible first | exact HI0.out | apply IsS109.alloc | apply IsS109.drewN | apply IsS109.drew | apply IsS109.set_1 | refine IsS109.far ?_ NB0_271.out _ | refine IsS109.far ?_ NB0_283.out _) | exact HI0.out)); (case side2 => repeat (first | (with_reducible first | exact HB.out | apply below_alloc | apply pw_below_drewN | apply below_drew1 | refine below_set ?_ (IsS109.ge HI0.out) | refine below_set ?_ GE271.out | refine below_set ?_ GE283.out) | exact HB.out)); rintro e w53 ⟨rfl, hi, hb, hk⟩; refine ⟨_, rfl, ?_⟩; have n0_ := Aside0.mk (Kd.Q_mono (Kd.Q_keep (IsS109.apartQ (show IsS109 w0 _ g s0_0 x1001_1 from by repeat (first | (with_reducible first | exact HI0.out | apply IsS109.alloc | apply IsS109.drewN | apply IsS109.drew | apply IsS109.set_1 | refine IsS109.far ?_ NB0_271.out _ | refine IsS109.far ?_ NB0_283.out _) | exact HI0.out)) (by (with_reducible repeat (first | apply Kd.Q_alloc | apply Kd.Q_drewN | apply Kd.Q_drew)); exact HO_284000.out) (by decide)) hk (fun _ h => h.2)) (fun _ h => h.1)); have n1_ := Aside0.mk (Kd.S_mono (Kd.S_keep (IsS109.apartS (show IsS109 w0 _ g s0_0 x1001_1 from by repeat (first | (with_reducible first | exact HI0.out | apply IsS109.alloc | apply IsS109.drewN | apply IsS109.drew | apply IsS109.set_1 | refine IsS109.far ?_ NB0_271.out _ | refine IsS109.far ?_ NB0_283.out _) | exact HI0.out)) (by (with_reducible repeat (first | apply Kd.S_alloc | apply Kd.S_drewN | apply Kd.S_drew)); exact HO_284001.out) (by decide)) hk (fun _ h => h.2)) (fun _ h => h.1)); have n2_ := Aside0.mk (KeepBut.blk hk (g' := gb271) (o := .cells #[.slice none 0 0, .slice none 0 0, .int .i64 0] 42 (0, 0)) (by (with_reducible repeat (first | refine blk_drewN ?_ _ | refine blk_drew ?_ | refine blk_alloc ?_ _)); exact BK271.out) NB271_0.out (by simp)); have n3_ := Aside0.mk (KeepBut.blk hk (g' := gb283) (o := .cells #[u284000, .slice Ao15 t279.length co15, .int .i64 t282] 42 (0, 0)) (by (with_reducible repeat (first | refine blk_drewN ?_ _ | refine blk_drew ?_ | refine blk_alloc ?_ _)); exact BK283.out) NB283_0.out (by simp)); have n4_ := Aside0.mk (KeepBut.trans (by repeat (first | (with_reducible first | exact HK.out | apply KeepBut.set_ | apply keep_drewN | apply keep_drew | apply keep_alloc | refine keep_far ?_ GW271.out _ | refine keep_far ?_ GW283.out _) | exact HK.out)) hk (.inl rfl)); have n5_ := Aside0.mk (hb); have n6_ := Aside0.mk (hi); clear HO_284000; clear HO_284001; clear BK271; clear BK283; clear HK; clear HB; clear HI0; have HO_284000 := n0_; have HO_284001 := n1_; have BK271 := n2_; have BK283 := n3_; have HK := n4_; have HB := n5_; have HI0 := n6_; clear n0_ n1_ n2_ n3_ n4_ n5_ n6_; (try clear hb); (try clear hb2); (try clear hk); (try clear hi); have hcz54_0 : w53.cell? ⟨gb283, 0, none⟩ = some (u284000) := (blk_cell BK283.out 0).trans rfl; have hcz54_1 : w53.cell? ⟨gb283, 1, none⟩ = some (.slice Ao15 t279.length co15) := (blk_cell BK283.out 1).trans rfl; have hcz54_2 : w53.cell? ⟨gb283, 2, none⟩ = some (.int .i64 t282) := (blk_cell BK283.out 2).trans rfl; have hfz54_0 := blk_frozen BK283.out 0; have hfz54_1 := blk_frozen BK283.out 1; have hfz54_2 := blk_frozen BK283.out 2) | ((with_reducible refine gate_callee (f := 86) rfl ?_); refine goesL_ (some 39) rfl rfl Try.func86 (by kernel_rfl) rfl #[.pointer (some ⟨g, 0, none⟩), .int .i64 a1] rfl (by (try simp only [List.map_toArray, List.map_cons, List.map_nil]); first | done | rfl | (simp only [List.length_drop, List.length_take]; rfl)) ?_; (with_reducible refine (spec_l20Rd_odd.calls k1 g s0_0 t300 a1 true t302 w0 _ ?side1 ?side2 A39.out).mono ?_); (case side1 => repeat (first | (with_reducible first | exact HI0.out | apply IsS109.alloc | apply IsS109.drewN | apply IsS109.drew | apply IsS109.set_1 | refine IsS109.far ?_ NB0_271.out _ | refine IsS109.far ?_ NB0_283.out _) | exact HI0.out)); (case side2 => repeat (first | (with_reducible first | exact HB.out | apply below_alloc | apply pw_below_drewN | apply below_drew1 | refine below_set ?_ (IsS109.ge HI0.out) | refine below_set ?_ GE271.out | refine below_set ?_ GE283.out) | exact HB.out)); rintro e w55 ⟨rfl, hi, hb, hk⟩; refine ⟨_, rfl, ?_⟩; have n0_ := Aside0.mk (Kd.Q_mono (Kd.Q_keep (IsS109.apartQ (show IsS109 w0 _ g s0_0 t300 from by repeat (first | (with_reducible first | exact HI0.out | apply IsS109.alloc | apply IsS109.drewN | apply IsS109.drew | apply IsS109.set_1 | refine IsS109.far ?_ NB0_271.out _ | refine IsS109.far ?_ NB0_283.out _) | exact HI0.out)) (by (with_reducible repeat (first | apply Kd.Q_alloc | apply Kd.Q_drewN | apply Kd.Q_drew)); exact (Kd.Q_mono (Kd.Q_far (p := ⟨gb283, 2, none⟩) (Kd.Q_types HO_284000.out BK283.out (by decide)) (fun _ hk => hk.2) (.int .i64 t299)) (fun _ h_ => h_.1))) (by decide)) hk (fun _ h => h.2)) (fun _ h => h.1)); have n1_ := Aside0.mk (Kd.S_mono (Kd.S_keep (IsS109.apartS (show IsS109 w0 _ g s0_0 t300 from by repeat (first | (with_reducible first | exact HI0.out | apply IsS109.alloc | apply IsS109.drewN | apply IsS109.drew | apply IsS109.set_1 | refine IsS109.far ?_ NB0_271.out _ | refine IsS109.far ?_ NB0_283.out _) | exact HI0.out)) (by (with_reducible repeat (first | apply Kd.S_alloc | apply Kd.S_drewN | apply Kd.S_drew)); exact (Kd.S_mono (Kd.S_far (p := ⟨gb283, 2, none⟩) (Kd.S_types HO_284001.out BK283.out (by decide)) (fun _ hk => hk.2) (.int .i64 t299)) (fun _ h_ => h_.1))) (by decide)) hk (fun _ h => h.2)) (fun _ h => h.1)); have n2_ := Aside0.mk (KeepBut.blk hk (g' := gb271) (o := .cells #[.slice none 0 0, .slice none 0 0, .int .i64 0] 42 (0, 0)) (by (with_reducible repeat (first | refine blk_drewN ?_ _ | refine blk_drew ?_ | refine blk_alloc ?_ _)); refine blk_far ?_ NB271_283.out _; (with_reducible repeat (first | refine blk_drewN ?_ _ | refine blk_drew ?_ | refine blk_alloc ?_ _)); exact BK271.out) NB271_0.out (by simp)); have n3_ := Aside0.mk (KeepBut.blk hk (g' := gb283) (o := .cells #[u284000, .slice Ao15 t279.length co15, .int .i64 t299] 42 (0, 0)) (by (with_reducible repeat (first | refine blk_drewN ?_ _ | refine blk_drew ?_ | refine blk_alloc ?_ _)); refine blk_put (cs := #[u284000, .slice Ao15 t279.length co15, .int .i64 t282]) ?_ 2 _ rfl; (with_reducible repeat (first | refine blk_drewN ?_ _ | refine blk_drew ?_ | refine blk_alloc ?_ _)); exact BK283.out) NB283_0.out (by simp)); have n4_ := Aside0.mk (KeepBut.trans (by repeat (first | (with_reducible first | exact HK.out | apply KeepBut.set_ | apply keep_drewN | apply keep_drew | apply keep_alloc | refine keep_far ?_ GW271.out _ | refine keep_far ?_ GW283.out _) | exact HK.out)) hk (.inl rfl)); have n5_ := Aside0.mk (hb); have n6_ := Aside0.mk (hi); clear HO_284000; clear HO_284001; clear BK271; clear BK283; clear HK; clear HB; clear HI0; have HO_284000 := n0_; have HO_284001 := n1_; have BK271 := n2_; have BK283 := n3_; have HK := n4_; have HB := n5_; have HI0 := n6_; clear n0_ n1_ n2_ n3_ n4_ n5_ n6_; (try clear hb); (try clear hb2); (try clear hk); (try clear hi)) | ((with_reducible refine gate_callee (f := 67) rfl ?_); refine goesL_ (some 41) rfl rfl Try.func67 (by kernel_rfl) rfl #[.pointer (some ⟨g, 0, none⟩), .int .i64 4] rfl (by (try simp only [List.map_toArray, List.map_cons, List.map_nil]); first | done | rfl | (simp only [List.length_drop, List.length_take]; rfl)) ?_; (with_reducible refine (spec_l20Rd_pick.calls k1 g s0_0 t302 4 t303 t304 w0 _ ?side1 ?side2 A41.out).mono ?_); (case side1 => repeat (first | (with_reducible first | exact HI0.out | apply IsS109.alloc | apply IsS109.drewN | apply IsS109.drew | apply IsS109.set_1 | refine IsS109.far ?_ NB0_271.out _ | refine IsS109.far ?_ NB0_283.out _) | exact HI0.out)); (case side2 => repeat (first | (with_reducible first | exact HB.out | apply below_alloc | apply pw_below_drewN | apply below_drew1 | refine below_set ?_ (IsS109.ge HI0.out) | refine below_set ?_ GE271.out | refine below_set ?_ GE283.out) | exact HB.out)); rintro e w56 ⟨rfl, hi, hb, hk⟩; refine ⟨_, rfl, ?_⟩; have n0_ := Aside0.mk (Kd.Q_mono (Kd.Q_keep (IsS109.apartQ (show IsS109 w0 _ g s0_0 t302 from by repeat (first | (with_reducible first | exact HI0.out | apply IsS109.alloc | apply IsS109.drewN | apply IsS109.drew | apply IsS109.set_1 | refine IsS109.far ?_ NB0_271.out _ | refine IsS109.far ?_ NB0_283.out _) | exact HI0.out)) (by (with_reducible repeat (first | apply Kd.Q_alloc | apply Kd.Q_drewN | apply Kd.Q_drew)); exact HO_284000.out) (by decide)) hk (fun _ h => h.2)) (fun _ h => h.1)); have n1_ := Aside0.mk (Kd.S_mono (Kd.S_keep (IsS109.apartS (show IsS109 w0 _ g s0_0 t302 from by repeat (first | (with_reducible first | exact HI0.out | apply IsS109.alloc | apply IsS109.drewN | apply IsS109.drew | apply IsS109.set_1 | refine IsS109.far ?_ NB0_271.out _ | refine IsS109.far ?_ NB0_283.out _) | exact HI0.out)) (by (with_reducible repeat (first | apply Kd.S_alloc | apply Kd.S_drewN | apply Kd.S_drew)); exact HO_284001.out) (by decide)) hk (fun _ h => h.2)) (fun _ h => h.1)); have n2_ := Aside0.mk (KeepBut.blk hk (g' := gb271) (o := .cells #[.slice none 0 0, .slice none 0 0, .int .i64 0] 42 (0, 0)) (by (with_reducible repeat (first | refine blk_drewN ?_ _ | refine blk_drew ?_ | refine blk_alloc ?_ _)); exact BK271.out) NB271_0.out (by simp)); have n3_ := Aside0.mk (KeepBut.blk hk (g' := gb283) (o := .cells #[u284000, .slice Ao15 t279.length co15, .int .i64 t299] 42 (0, 0)) (by (with_reducible repeat (first | refine blk_drewN ?_ _ | refine blk_drew ?_ | refine blk_alloc ?_ _)); exact BK283.out) NB283_0.out (by simp)); have n4_ := Aside0.mk (KeepBut.trans (by repeat (first | (with_reducible first | exact HK.out | apply KeepBut.set_ | apply keep_drewN | apply keep_drew | apply keep_alloc | refine keep_far ?_ GW271.out _ | refine keep_far ?_ GW283.out _) | exact HK.out)) hk (.inl rfl)); have n5_ := Aside0.mk (hb); have n6_ := Aside0.mk (hi); clear HO_284000; clear HO_284001; clear BK271; clear BK283; clear HK; clear HB; clear HI0; have HO_284000 := n0_; have HO_284001 := n1_; have BK271 := n2_; have BK283 := n3_; have HK := n4_; have HB := n5_; have HI0 := n6_; clear n0_ n1_ n2_ n3_ n4_ n5_ n6_; (try clear hb); (try clear hb2); (try clear hk); (try clear hi)))
                    have pi312 : (0 ≤ (t310 : Int)) = True := eq_true (of_decide_eq_true (by first | (with_reducible assumption) | assumption))
                    have qi312 : (t310 < (y307.length : Int)) = True := eq_true (of_decide_eq_true (by first | (with_reducible assumption) | assumption))
                    have n0_ := Aside0.mk (Kd.Q_drew HO_284000.out)
                    have n1_ := Aside0.mk (Kd.S_drew HO_284001.out)
                    have n2_ := Aside0.mk (blk_drew BK271.out)
                    have n3_ := Aside0.mk (blk_drew BK283.out)
                    have n4_ := Aside0.mk (IsS109.drew HI0.out)
                    have n5_ := Aside0.mk (keep_drew HK.out)
                    have n6_ := Aside0.mk (below_drew1 HB.out)
                    clear HO_284000
                    clear HO_284001
                    clear BK271
                    clear BK283
                    clear HI0
                    clear HK
                    clear HB
                    have HO_284000 := n0_
                    have HO_284001 := n1_
                    have BK271 := n2_
                    have BK283 := n3_
                    have HI0 := n4_
                    have HK := n5_
                    have HB := n6_
                    clear n0_ n1_ n2_ n3_ n4_ n5_ n6_
                    refine start_ (n := 11) (S := fun w' => w'.cell? ⟨gb283, 0, none⟩ = some (u284000) ∧ w'.cell? ⟨gb283, 1, none⟩ = some (.slice Ao15 t279.length co15) ∧ w'.cell? ⟨gb283, 2, none⟩ = some (.int .i64 t299)) (ds := [10]) #[false, false, false, false, false, false, false, false, false, false, false] (by kernel_rfl) rfl rfl ⟨(blk_cell BK283.out 0).trans rfl, (blk_cell BK283.out 1).trans rfl, (blk_cell BK283.out 2).trans rfl⟩ (fun hHeld => ?_); refine with_tabW spec_l20Memory.tab11 spec_l20Memory.bits11 (fun HT_ HW_ => ?_)
                    generalize w56.drew = w57 at HO_284000 HO_284001 BK271 BK283 HI0 HK HB hHeld ⊢
                    refine pure_ (i := 0) (N := some 46) (v := ?_) (a' := ?_) #[true, false, false, false, false, false, false, false, false, false, false] rfl rfl (any_of HT_.out (by kernel_rfl)) (fun _ _ _ h => h) (Or.inl ⟨by rfl, ?_⟩) ?_ ?_
                    rotate_left
                    · intro w'
                      go_simp
                      with_reducible rfl
                    rotate_left
                    · simp only [Act.put, List.setIfInBounds_toArray, List.set_cons_zero, List.set_cons_succ, i64_w, i32_w]
                      rfl
                    refine pure_ (i := 2) (N := some 48) (v := ?_) (a' := ?_) #[true, false, true, false, false, false, false, false, false, false, false] rfl rfl (any_of HT_.out (by kernel_rfl)) (fun _ _ _ h => h) (Or.inl ⟨by rfl, ?_⟩) ?_ ?_
                    rotate_left
                    · intro w'
                      go_simp
                      with_reducible rfl
                    rotate_left
                    · simp only [Act.put, List.setIfInBounds_toArray, List.set_cons_zero, List.set_cons_succ, i64_w, i32_w]
                      rfl
                    refine pure_ (i := 5) (N := some 51) (v := ?_) (a' := ?_) #[true, false, true, false, false, true, false, false, false, false, false] rfl rfl (any_of HT_.out (by kernel_rfl)) (fun _ _ _ h => h) (Or.inl ⟨by rfl, ?_⟩) ?_ ?_
                    rotate_left
                    · intro w'
                      go_simp
                      with_reducible rfl
                    rotate_left
                    · simp only [Act.put, List.setIfInBounds_toArray, List.set_cons_zero, List.set_cons_succ, i64_w, i32_w]
                      rfl
                    refine take_ (i := 1) (N := some 47) (v := ?_) (a' := ?_) #[true, true, true, false, false, true, false, false, false, false, false] rfl rfl (take_ofW HT_.out HW_.out (by kernel_rfl)) (fun _ _ _ h => h) (Or.inl ⟨by rfl, ?_⟩) hHeld ?_ ?_
                    rotate_left
                    · rintro w' ⟨s0, s1, s2⟩
                      go_simp
                      with_reducible rfl
                    rotate_left
                    · simp only [Act.put, List.setIfInBounds_toArray, List.set_cons_zero, List.set_cons_succ, i64_w, i32_w]
                      rfl
                    refine join_ (σ := Value × Addr) 4 #[true, true, true, true, true, true, true, false, false, false, false] (fun s_ => [(49, .int .i64 t305), (50, s_.1), (52, .int .i64 t310)]) (fun s_ w' => (w'.cell? ⟨gb283, 0, none⟩ = some (u284000) ∧ w'.cell? ⟨gb283, 1, none⟩ = some (.slice Ao15 t279.length co15) ∧ w'.cell? ⟨gb283, 2, none⟩ = some (.int .i64 t299)) ∧ (Kd.R (Kd.int .i64) 3 w' w.heap.size (fun k_ => some k_ ≠ (u284000 : Value).ownBlock) s_.1 y307) ∧ (Kd.Q (Kd.int .i64) 3 w' w.heap.size (fun k_ => some k_ ≠ (s_.1 : Value).ownBlock) u284000 x284000_1) ∧ (Kd.S (Kd.slice 3 (Kd.int .i64)) 22 w' w.heap.size (fun k_ => some k_ ≠ (s_.1 : Value).ownBlock ∧ some k_ ≠ (u284000 : Value).ownBlock) (.slice Ao15 t279.length co15) t279) ∧ (∃ c_, (s_.1 : Value) = .slice (some s_.2) y307.length c_) ∧ (w'.heap[gb271]? = some (.cells #[.slice none 0 0, .slice none 0 0, .int .i64 0] 42 (0, 0))) ∧ (w'.heap[gb283]? = some (.cells #[u284000, .slice Ao15 t279.length co15, .int .i64 t299] 42 (0, 0))) ∧ (IsS109 w0 w' g s0_0 t311) ∧ (KeepBut w w' g none) ∧ (Below w0.heap.size w0 w')) ?_ ?_
                    rotate_left
                    · intro hCont
                      refine two_ (i := 3) (j := 4) (Ni := some 49) (Nj := some 50) #[true, true, true, true, false, true, false, false, false, false, false] #[true, true, true, false, true, true, false, false, false, false, false] rfl rfl rfl rfl (two_of HT_.out (by kernel_rfl)) (by decide) (by decide) (fun K hK => ?_) (fun K hK => ?_)
                      · skip
                        refine goes_ Try.func67 (by kernel_rfl) rfl #[.pointer (some ⟨g, 0, none⟩), .int .i64 256] (by rfl) rfl rfl (by (try simp only [List.map_toArray, List.map_cons, List.map_nil]); first | done | rfl | (simp only [List.length_drop, List.length_take]; rfl)) ?_
                        with_reducible refine (spec_l20Rd_pick.calls k1 g s0_0 t304 256 t305 t306 w0 _ ?side1 ?side2 A43.out).mono ?_
                        (case side1 => repeat (first | (with_reducible first | exact HI0.out | apply IsS109.alloc | apply IsS109.drewN | apply IsS109.drew | apply IsS109.set_1 | refine IsS109.far ?_ NB0_271.out _ | refine IsS109.far ?_ NB0_283.out _) | exact HI0.out))
                        (case side2 => repeat (first | (with_reducible first | exact HB.out | apply below_alloc | apply pw_below_drewN | apply below_drew1 | refine below_set ?_ (IsS109.ge HI0.out) | refine below_set ?_ GE271.out | refine below_set ?_ GE283.out) | exact HB.out))
                        rintro e w58 ⟨rfl, hi, hb, hk⟩
                        refine ⟨_, rfl, ?_⟩
                        have n0_ := Aside0.mk (Kd.Q_mono (Kd.Q_keep (IsS109.apartQ (show IsS109 w0 _ g s0_0 t304 from by repeat (first | (with_reducible first | exact HI0.out | apply IsS109.alloc | apply IsS109.drewN | apply IsS109.drew | apply IsS109.set_1 | refine IsS109.far ?_ NB0_271.out _ | refine IsS109.far ?_ NB0_283.out _) | exact HI0.out)) (by (with_reducible repeat (first | apply Kd.Q_alloc | apply Kd.Q_drewN | apply Kd.Q_drew)); exact HO_284000.out) (by decide)) hk (fun _ h => h.2)) (fun _ h => h.1))
                        have n1_ := Aside0.mk (Kd.S_mono (Kd.S_keep (IsS109.apartS (show IsS109 w0 _ g s0_0 t304 from by repeat (first | (with_reducible first | exact HI0.out | apply IsS109.alloc | apply IsS109.drewN | apply IsS109.drew | apply IsS109.set_1 | refine IsS109.far ?_ NB0_271.out _ | refine IsS109.far ?_ NB0_283.out _) | exact HI0.out)) (by (with_reducible repeat (first | apply Kd.S_alloc | apply Kd.S_drewN | apply Kd.S_drew)); exact HO_284001.out) (by decide)) hk (fun _ h => h.2)) (fun _ h => h.1))
                        have n2_ := Aside0.mk (KeepBut.blk hk (g' := gb271) (o := .cells #[.slice none 0 0, .slice none 0 0, .int .i64 0] 42 (0, 0)) (by (with_reducible repeat (first | refine blk_drewN ?_ _ | refine blk_drew ?_ | refine blk_alloc ?_ _)); exact BK271.out) NB271_0.out (by simp))
                        have n3_ := Aside0.mk (KeepBut.blk hk (g' := gb283) (o := .cells #[u284000, .slice Ao15 t279.length co15, .int .i64 t299] 42 (0, 0)) (by (with_reducible repeat (first | refine blk_drewN ?_ _ | refine blk_drew ?_ | refine blk_alloc ?_ _)); exact BK283.out) NB283_0.out (by simp))
                        have n4_ := Aside0.mk (KeepBut.trans (by repeat (first | (with_reducible first | exact HK.out | apply KeepBut.set_ | apply keep_drewN | apply keep_drew | apply keep_alloc | refine keep_far ?_ GW271.out _ | refine keep_far ?_ GW283.out _) | exact HK.out)) hk (.inl rfl))
                        have n5_ := Aside0.mk (hb)
                        have n6_ := Aside0.mk (hi)
                        clear HO_284000
                        clear HO_284001
                        clear BK271
                        clear BK283
                        clear HK
                        clear HB
                        clear HI0
                        have HO_284000 := n0_
                        have HO_284001 := n1_
                        have BK271 := n2_
                        have BK283 := n3_
                        have HK := n4_
                        have HB := n5_
                        have HI0 := n6_
                        clear n0_ n1_ n2_ n3_ n4_ n5_ n6_
                        (try clear hb)
                        (try clear hb2)
                        (try clear hk)
                        (try clear hi)
                        refine hK.out _ _ ⟨(blk_cell BK283.out 0).trans rfl, (blk_cell BK283.out 1).trans rfl, (blk_cell BK283.out 2).trans rfl⟩ (fun hHeld => ?_)
                        clear hK K
                        refine norm_ (a' := ?_) ?_ ?_
                        rotate_left
                        · show Act.put _ (some 49) _ = _
                          simp only [Act.put, List.setIfInBounds_toArray, List.set_cons_zero, List.set_cons_succ, i64_w, i32_w]
                          rfl
                        refine two_ (i := 4) (j := 6) (Ni := some 50) (Nj := some 52) #[true, true, true, true, true, true, false, false, false, false, false] #[true, true, true, true, false, true, true, false, false, false, false] rfl rfl rfl rfl (two_of HT_.out (by kernel_rfl)) (by decide) (by decide) (fun K hK => ?_) (fun K hK => ?_)
                        · skip
                          refine Kd.R_lit_step (Kd.int .i64) _ 3 ?hg (N := 50) ?hd (xs := ([(-1), 256] : List Int)) (inner := [.int .i64 (-1), .int .i64 256]) (ok := fun _ => True) (okp := fun _ => True) ?hr ?hp (fun _ hk => hk) trivial (Below.refl _ _) (Nat.le_refl _) (by simp) ?_; (case hd => rfl); (case hg => rfl); (case hr => first | (go_simp; done) | (go_simp; rfl)); (case hp => exact (Reps.one (show Kd.M (Kd.int .i64) _ _ _ (-1) [.int .i64 (-1)] from rfl) (Reps.one (show Kd.M (Kd.int .i64) _ _ _ 256 [.int .i64 256] from rfl) (Reps.none _ _))))
                          intro v308 w59 ho60 hb hg_ hnew_
                          clear hg_ hnew_
                          (first | rw [← Ny307.out] at ho60 | (simp only [Int.reduceToNat] at ho60; rw [← Ny307.out] at ho60))
                          have n0_ := Aside0.mk (Kd.Q_elder' (by (with_reducible repeat (first | apply Kd.Q_alloc | apply Kd.Q_drewN | apply Kd.Q_drew)); exact HO_284000.out) (Kd.R_base ho60) hb)
                          have n1_ := Aside0.mk (Kd.S_elder' (by (with_reducible repeat (first | apply Kd.S_alloc | apply Kd.S_drewN | apply Kd.S_drew)); exact HO_284001.out) (Kd.R_base ho60) hb)
                          have n2_ := Aside0.mk (Kd.R_lower (Kd.R_new' ho60 (Kd.Q_lt (by (with_reducible repeat (first | apply Kd.Q_alloc | apply Kd.Q_drewN | apply Kd.Q_drew)); exact HO_284000.out))) (keep_size (w := w) (g := g) (row := none) (by repeat (first | (with_reducible first | exact HK.out | apply KeepBut.set_ | apply keep_drewN | apply keep_drew | apply keep_alloc | refine keep_far ?_ GW271.out _ | refine keep_far ?_ GW283.out _) | exact HK.out))))
                          have n3_ := Aside0.mk (blk_below (g := gb271) (o := .cells #[.slice none 0 0, .slice none 0 0, .int .i64 0] 42 (0, 0)) (by (with_reducible repeat (first | refine blk_drewN ?_ _ | refine blk_drew ?_ | refine blk_alloc ?_ _)); exact BK271.out) hb)
                          have n4_ := Aside0.mk (blk_below (g := gb283) (o := .cells #[u284000, .slice Ao15 t279.length co15, .int .i64 t299] 42 (0, 0)) (by (with_reducible repeat (first | refine blk_drewN ?_ _ | refine blk_drew ?_ | refine blk_alloc ?_ _)); exact BK283.out) hb)
                          have n5_ := Aside0.mk (IsS109.below (by repeat (first | (with_reducible first | exact HI0.out | apply IsS109.alloc | apply IsS109.drewN | apply IsS109.drew | apply IsS109.set_1 | refine IsS109.far ?_ NB0_271.out _ | refine IsS109.far ?_ NB0_283.out _) | exact HI0.out)) hb)
                          have n6_ := Aside0.mk (KeepBut.trans (by repeat (first | (with_reducible first | exact HK.out | apply KeepBut.set_ | apply keep_drewN | apply keep_drew | apply keep_alloc | refine keep_far ?_ GW271.out _ | refine keep_far ?_ GW283.out _) | exact HK.out)) (KeepBut.of_below hb g none) (.inl rfl))
                          have n7_ := Aside0.mk (below_step (by repeat (first | (with_reducible first | exact HB.out | apply below_alloc | apply pw_below_drewN | apply below_drew1 | refine below_set ?_ (IsS109.ge HI0.out) | refine below_set ?_ GE271.out | refine below_set ?_ GE283.out) | exact HB.out)) hb)
                          clear HO_284000
                          clear HO_284001
                          clear BK271
                          clear BK283
                          clear HI0
                          clear HK
                          clear HB
                          have HO_284000 := n0_
                          have HO_284001 := n1_
                          have HO309 := n2_
                          have BK271 := n3_
                          have BK283 := n4_
                          have HI0 := n5_
                          have HK := n6_
                          have HB := n7_
                          clear n0_ n1_ n2_ n3_ n4_ n5_ n6_ n7_
                          clear hb ho60
                          obtain ⟨Ao61, co61, eo61⟩ := Kd.R_slice HO309.out
                          subst eo61
                          obtain ⟨ado61, fo61, _⟩ := Kd.at_int (Kd.R_reads' HO309.out).2.2 0 (by decide) (by rw [Ny307.out]; simp)
                          cases fo61
                          refine hK.out _ _ ⟨(blk_cell BK283.out 0).trans rfl, (blk_cell BK283.out 1).trans rfl, (blk_cell BK283.out 2).trans rfl⟩ (fun hHeld => ?_)
                          clear hK K
                          refine norm_ (a' := ?_) ?_ ?_
                          rotate_left
                          · show Act.put _ (some 50) _ = _
                            simp only [Act.put, List.setIfInBounds_toArray, List.set_cons_zero, List.set_cons_succ, i64_w, i32_w]
                            rfl
                          refine one_ (i := 6) (N := some 52) #[true, true, true, true, true, true, true, false, false, false, false] rfl rfl (one_of HT_.out (by kernel_rfl)) (by decide) (fun K hK => ?_)
                          refine goes_ Try.func67 (by kernel_rfl) rfl #[.pointer (some ⟨g, 0, none⟩), .int .i64 2] (by rfl) rfl rfl (by (try simp only [List.map_toArray, List.map_cons, List.map_nil]); first | done | rfl | (simp only [List.length_drop, List.length_take]; rfl)) ?_
                          with_reducible refine (spec_l20Rd_pick.calls k1 g s0_0 t306 2 t310 t311 w0 _ ?side1 ?side2 A44.out).mono ?_
                          (case side1 => repeat (first | (with_reducible first | exact HI0.out | apply IsS109.alloc | apply IsS109.drewN | apply IsS109.drew | apply IsS109.set_1 | refine IsS109.far ?_ NB0_271.out _ | refine IsS109.far ?_ NB0_283.out _) | exact HI0.out))
                          (case side2 => repeat (first | (with_reducible first | exact HB.out | apply below_alloc | apply pw_below_drewN | apply below_drew1 | refine below_set ?_ (IsS109.ge HI0.out) | refine below_set ?_ GE271.out | refine below_set ?_ GE283.out) | exact HB.out))
                          rintro e w62 ⟨rfl, hi, hb, hk⟩
                          refine ⟨_, rfl, ?_⟩
                          have n0_ := Aside0.mk (Kd.Q_mono (Kd.Q_keep (IsS109.apartQ (show IsS109 w0 _ g s0_0 t306 from by repeat (first | (with_reducible first | exact HI0.out | apply IsS109.alloc | apply IsS109.drewN | apply IsS109.drew | apply IsS109.set_1 | refine IsS109.far ?_ NB0_271.out _ | refine IsS109.far ?_ NB0_283.out _) | exact HI0.out)) (by (with_reducible repeat (first | apply Kd.Q_alloc | apply Kd.Q_drewN | apply Kd.Q_drew)); exact HO_284000.out) (by decide)) hk (fun _ h => h.2)) (fun _ h => h.1))
                          have n1_ := Aside0.mk (Kd.S_mono (Kd.S_keep (IsS109.apartS (show IsS109 w0 _ g s0_0 t306 from by repeat (first | (with_reducible first | exact HI0.out | apply IsS109.alloc | apply IsS109.drewN | apply IsS109.drew | apply IsS109.set_1 | refine IsS109.far ?_ NB0_271.out _ | refine IsS109.far ?_ NB0_283.out _) | exact HI0.out)) (by (with_reducible repeat (first | apply Kd.S_alloc | apply Kd.S_drewN | apply Kd.S_drew)); exact HO_284001.out) (by decide)) hk (fun _ h => h.2)) (fun _ h => h.1))
                          have n2_ := Aside0.mk (KeepBut.blk hk (g' := gb271) (o := .cells #[.slice none 0 0, .slice none 0 0, .int .i64 0] 42 (0, 0)) (by (with_reducible repeat (first | refine blk_drewN ?_ _ | refine blk_drew ?_ | refine blk_alloc ?_ _)); exact BK271.out) NB271_0.out (by simp))
                          have n3_ := Aside0.mk (KeepBut.blk hk (g' := gb283) (o := .cells #[u284000, .slice Ao15 t279.length co15, .int .i64 t299] 42 (0, 0)) (by (with_reducible repeat (first | refine blk_drewN ?_ _ | refine blk_drew ?_ | refine blk_alloc ?_ _)); exact BK283.out) NB283_0.out (by simp))
                          have n4_ := Aside0.mk (Kd.R_mono (Kd.R_keep (IsS109.apart (show IsS109 w0 _ g s0_0 t306 from by repeat (first | (with_reducible first | exact HI0.out | apply IsS109.alloc | apply IsS109.drewN | apply IsS109.drew | apply IsS109.set_1 | refine IsS109.far ?_ NB0_271.out _ | refine IsS109.far ?_ NB0_283.out _) | exact HI0.out)) (by (with_reducible repeat (first | apply Kd.R_alloc | apply Kd.R_drewN | apply Kd.R_drew)); exact HO309.out) (by decide)) hk (fun _ h => h.2)) (fun _ h => h.1))
                          have n5_ := Aside0.mk (KeepBut.trans (by repeat (first | (with_reducible first | exact HK.out | apply KeepBut.set_ | apply keep_drewN | apply keep_drew | apply keep_alloc | refine keep_far ?_ GW271.out _ | refine keep_far ?_ GW283.out _) | exact HK.out)) hk (.inl rfl))
                          have n6_ := Aside0.mk (hb)
                          have n7_ := Aside0.mk (hi)
                          clear HO_284000
                          clear HO_284001
                          clear BK271
                          clear BK283
                          clear HO309
                          clear HK
                          clear HB
                          clear HI0
                          have HO_284000 := n0_
                          have HO_284001 := n1_
                          have BK271 := n2_
                          have BK283 := n3_
                          have HO309 := n4_
                          have HK := n5_
                          have HB := n6_
                          have HI0 := n7_
                          clear n0_ n1_ n2_ n3_ n4_ n5_ n6_ n7_
                          (try clear hb)
                          (try clear hb2)
                          (try clear hk)
                          (try clear hi)
                          refine hK.out _ _ ⟨(blk_cell BK283.out 0).trans rfl, (blk_cell BK283.out 1).trans rfl, (blk_cell BK283.out 2).trans rfl⟩ (fun hHeld => ?_)
                          clear hK K
                          refine norm_ (a' := ?_) ?_ ?_
                          rotate_left
                          · show Act.put _ (some 52) _ = _
                            simp only [Act.put, List.setIfInBounds_toArray, List.set_cons_zero, List.set_cons_succ, i64_w, i32_w]
                            rfl
                          exact norm_ (by simp only [putAll, Act.put, List.setIfInBounds_toArray, List.set_cons_zero, List.set_cons_succ]) (hCont (.slice (some ado61) y307.length co61, ado61) _ ⟨hHeld, (by (with_reducible repeat (first | apply Kd.R_alloc | apply Kd.R_drewN | apply Kd.R_drew)); exact Kd.R_mono HO309.out (fun _ hk => hk.2)), (by (with_reducible repeat (first | apply Kd.Q_alloc | apply Kd.Q_drewN | apply Kd.Q_drew)); exact Kd.Q_mono HO_284000.out (fun _ hk => hk.2)), (by (with_reducible repeat (first | apply Kd.S_alloc | apply Kd.S_drewN | apply Kd.S_drew)); exact Kd.S_mono HO_284001.out (fun _ hk => ⟨hk.2, hk.1⟩)), ⟨_, rfl⟩, (by (with_reducible repeat (first | refine blk_drewN ?_ _ | refine blk_drew ?_ | refine blk_alloc ?_ _)); exact BK271.out), (by (with_reducible repeat (first | refine blk_drewN ?_ _ | refine blk_drew ?_ | refine blk_alloc ?_ _)); exact BK283.out), (by repeat (first | (with_reducible first | exact HI0.out | apply IsS109.alloc | apply IsS109.drewN | apply IsS109.drew | apply IsS109.set_1 | refine IsS109.far ?_ NB0_271.out _ | refine IsS109.far ?_ NB0_283.out _) | exact HI0.out)), (by repeat (first | (with_reducible first | exact HK.out | apply KeepBut.set_ | apply keep_drewN | apply keep_drew | apply keep_alloc | refine keep_far ?_ GW271.out _ | refine keep_far ?_ GW283.out _) | exact HK.out)), (by repeat (first | (with_reducible first | exact HB.out | apply below_alloc | apply pw_below_drewN | apply below_drew1 | refine below_set ?_ (IsS109.ge HI0.out) | refine below_set ?_ GE271.out | refine below_set ?_ GE283.out) | exact HB.out))⟩)
                        · skip
                          refine goes_ Try.func67 (by kernel_rfl) rfl #[.pointer (some ⟨g, 0, none⟩), .int .i64 2] (by rfl) rfl rfl (by (try simp only [List.map_toArray, List.map_cons, List.map_nil]); first | done | rfl | (simp only [List.length_drop, List.length_take]; rfl)) ?_
                          with_reducible refine (spec_l20Rd_pick.calls k1 g s0_0 t306 2 t310 t311 w0 _ ?side1 ?side2 A44.out).mono ?_
                          (case side1 => repeat (first | (with_reducible first | exact HI0.out | apply IsS109.alloc | apply IsS109.drewN | apply IsS109.drew | apply IsS109.set_1 | refine IsS109.far ?_ NB0_271.out _ | refine IsS109.far ?_ NB0_283.out _) | exact HI0.out))
                          (case side2 => repeat (first | (with_reducible first | exact HB.out | apply below_alloc | apply pw_below_drewN | apply below_drew1 | refine below_set ?_ (IsS109.ge HI0.out) | refine below_set ?_ GE271.out | refine below_set ?_ GE283.out) | exact HB.out))
                          rintro e w59 ⟨rfl, hi, hb, hk⟩
                          refine ⟨_, rfl, ?_⟩
                          have n0_ := Aside0.mk (Kd.Q_mono (Kd.Q_keep (IsS109.apartQ (show IsS109 w0 _ g s0_0 t306 from by repeat (first | (with_reducible first | exact HI0.out | apply IsS109.alloc | apply IsS109.drewN | apply IsS109.drew | apply IsS109.set_1 | refine IsS109.far ?_ NB0_271.out _ | refine IsS109.far ?_ NB0_283.out _) | exact HI0.out)) (by (with_reducible repeat (first | apply Kd.Q_alloc | apply Kd.Q_drewN | apply Kd.Q_drew)); exact HO_284000.out) (by decide)) hk (fun _ h => h.2)) (fun _ h => h.1))
                          have n1_ := Aside0.mk (Kd.S_mono (Kd.S_keep (IsS109.apartS (show IsS109 w0 _ g s0_0 t306 from by repeat (first | (with_reducible first | exact HI0.out | apply IsS109.alloc | apply IsS109.drewN | apply IsS109.drew | apply IsS109.set_1 | refine IsS109.far ?_ NB0_271.out _ | refine IsS109.far ?_ NB0_283.out _) | exact HI0.out)) (by (with_reducible repeat (first | apply Kd.S_alloc | apply Kd.S_drewN | apply Kd.S_drew)); exact HO_284001.out) (by decide)) hk (fun _ h => h.2)) (fun _ h => h.1))
                          have n2_ := Aside0.mk (KeepBut.blk hk (g' := gb271) (o := .cells #[.slice none 0 0, .slice none 0 0, .int .i64 0] 42 (0, 0)) (by (with_reducible repeat (first | refine blk_drewN ?_ _ | refine blk_drew ?_ | refine blk_alloc ?_ _)); exact BK271.out) NB271_0.out (by simp))
                          have n3_ := Aside0.mk (KeepBut.blk hk (g' := gb283) (o := .cells #[u284000, .slice Ao15 t279.length co15, .int .i64 t299] 42 (0, 0)) (by (with_reducible repeat (first | refine blk_drewN ?_ _ | refine blk_drew ?_ | refine blk_alloc ?_ _)); exact BK283.out) NB283_0.out (by simp))
                          have n4_ := Aside0.mk (KeepBut.trans (by repeat (first | (with_reducible first | exact HK.out | apply KeepBut.set_ | apply keep_drewN | apply keep_drew | apply keep_alloc | refine keep_far ?_ GW271.out _ | refine keep_far ?_ GW283.out _) | exact HK.out)) hk (.inl rfl))
                          have n5_ := Aside0.mk (hb)
                          have n6_ := Aside0.mk (hi)
                          clear HO_284000
                          clear HO_284001
                          clear BK271
                          clear BK283
                          clear HK
                          clear HB
                          clear HI0
                          have HO_284000 := n0_
                          have HO_284001 := n1_
                          have BK271 := n2_
                          have BK283 := n3_
                          have HK := n4_
                          have HB := n5_
                          have HI0 := n6_
                          clear n0_ n1_ n2_ n3_ n4_ n5_ n6_
                          (try clear hb)
                          (try clear hb2)
                          (try clear hk)
                          (try clear hi)
                          refine hK.out _ _ ⟨(blk_cell BK283.out 0).trans rfl, (blk_cell BK283.out 1).trans rfl, (blk_cell BK283.out 2).trans rfl⟩ (fun hHeld => ?_)
                          clear hK K
                          refine norm_ (a' := ?_) ?_ ?_
                          rotate_left
                          · show Act.put _ (some 52) _ = _
                            simp only [Act.put, List.setIfInBounds_toArray, List.set_cons_zero, List.set_cons_succ, i64_w, i32_w]
                            rfl
                          refine one_ (i := 4) (N := some 50) #[true, true, true, true, true, true, true, false, false, false, false] rfl rfl (one_of HT_.out (by kernel_rfl)) (by decide) (fun K hK => ?_)
                          refine Kd.R_lit_step (Kd.int .i64) _ 3 ?hg (N := 50) ?hd (xs := ([(-1), 256] : List Int)) (inner := [.int .i64 (-1), .int .i64 256]) (ok := fun _ => True) (okp := fun _ => True) ?hr ?hp (fun _ hk => hk) trivial (Below.refl _ _) (Nat.le_refl _) (by simp) ?_; (case hd => rfl); (case hg => rfl); (case hr => first | (go_simp; done) | (go_simp; rfl)); (case hp => exact (Reps.one (show Kd.M (Kd.int .i64) _ _ _ (-1) [.int .i64 (-1)] from rfl) (Reps.one (show Kd.M (Kd.int .i64) _ _ _ 256 [.int .i64 256] from rfl) (Reps.none _ _))))
                          intro v308 w60 ho61 hb hg_ hnew_
                          clear hg_ hnew_
                          (first | rw [← Ny307.out] at ho61 | (simp only [Int.reduceToNat] at ho61; rw [← Ny307.out] at ho61))
                          have n0_ := Aside0.mk (Kd.Q_elder' (by (with_reducible repeat (first | apply Kd.Q_alloc | apply Kd.Q_drewN | apply Kd.Q_drew)); exact HO_284000.out) (Kd.R_base ho61) hb)
                          have n1_ := Aside0.mk (Kd.S_elder' (by (with_reducible repeat (first | apply Kd.S_alloc | apply Kd.S_drewN | apply Kd.S_drew)); exact HO_284001.out) (Kd.R_base ho61) hb)
                          have n2_ := Aside0.mk (Kd.R_lower (Kd.R_new' ho61 (Kd.Q_lt (by (with_reducible repeat (first | apply Kd.Q_alloc | apply Kd.Q_drewN | apply Kd.Q_drew)); exact HO_284000.out))) (keep_size (w := w) (g := g) (row := none) (by repeat (first | (with_reducible first | exact HK.out | apply KeepBut.set_ | apply keep_drewN | apply keep_drew | apply keep_alloc | refine keep_far ?_ GW271.out _ | refine keep_far ?_ GW283.out _) | exact HK.out))))
                          have n3_ := Aside0.mk (blk_below (g := gb271) (o := .cells #[.slice none 0 0, .slice none 0 0, .int .i64 0] 42 (0, 0)) (by (with_reducible repeat (first | refine blk_drewN ?_ _ | refine blk_drew ?_ | refine blk_alloc ?_ _)); exact BK271.out) hb)
                          have n4_ := Aside0.mk (blk_below (g := gb283) (o := .cells #[u284000, .slice Ao15 t279.length co15, .int .i64 t299] 42 (0, 0)) (by (with_reducible repeat (first | refine blk_drewN ?_ _ | refine blk_drew ?_ | refine blk_alloc ?_ _)); exact BK283.out) hb)
                          have n5_ := Aside0.mk (IsS109.below (by repeat (first | (with_reducible first | exact HI0.out | apply IsS109.alloc | apply IsS109.drewN | apply IsS109.drew | apply IsS109.set_1 | refine IsS109.far ?_ NB0_271.out _ | refine IsS109.far ?_ NB0_283.out _) | exact HI0.out)) hb)
                          have n6_ := Aside0.mk (KeepBut.trans (by repeat (first | (with_reducible first | exact HK.out | apply KeepBut.set_ | apply keep_drewN | apply keep_drew | apply keep_alloc | refine keep_far ?_ GW271.out _ | refine keep_far ?_ GW283.out _) | exact HK.out)) (KeepBut.of_below hb g none) (.inl rfl))
                          have n7_ := Aside0.mk (below_step (by repeat (first | (with_reducible first | exact HB.out | apply below_alloc | apply pw_below_drewN | apply below_drew1 | refine below_set ?_ (IsS109.ge HI0.out) | refine below_set ?_ GE271.out | refine below_set ?_ GE283.out) | exact HB.out)) hb)
                          clear HO_284000
                          clear HO_284001
                          clear BK271
                          clear BK283
                          clear HI0
                          clear HK
                          clear HB
                          have HO_284000 := n0_
                          have HO_284001 := n1_
                          have HO309 := n2_
                          have BK271 := n3_
                          have BK283 := n4_
                          have HI0 := n5_
                          have HK := n6_
                          have HB := n7_
                          clear n0_ n1_ n2_ n3_ n4_ n5_ n6_ n7_
                          clear hb ho61
                          obtain ⟨Ao62, co62, eo62⟩ := Kd.R_slice HO309.out
                          subst eo62
                          obtain ⟨ado62, fo62, _⟩ := Kd.at_int (Kd.R_reads' HO309.out).2.2 0 (by decide) (by rw [Ny307.out]; simp)
                          cases fo62
                          refine hK.out _ _ ⟨(blk_cell BK283.out 0).trans rfl, (blk_cell BK283.out 1).trans rfl, (blk_cell BK283.out 2).trans rfl⟩ (fun hHeld => ?_)
                          clear hK K
                          refine norm_ (a' := ?_) ?_ ?_
                          rotate_left
                          · show Act.put _ (some 50) _ = _
                            simp only [Act.put, List.setIfInBounds_toArray, List.set_cons_zero, List.set_cons_succ, i64_w, i32_w]
                            rfl
                          exact norm_ (by simp only [putAll, Act.put, List.setIfInBounds_toArray, List.set_cons_zero, List.set_cons_succ]) (hCont (.slice (some ado62) y307.length co62, ado62) _ ⟨hHeld, (by (with_reducible repeat (first | apply Kd.R_alloc | apply Kd.R_drewN | apply Kd.R_drew)); exact Kd.R_mono HO309.out (fun _ hk => hk.2)), (by (with_reducible repeat (first | apply Kd.Q_alloc | apply Kd.Q_drewN | apply Kd.Q_drew)); exact Kd.Q_mono HO_284000.out (fun _ hk => hk.2)), (by (with_reducible repeat (first | apply Kd.S_alloc | apply Kd.S_drewN | apply Kd.S_drew)); exact Kd.S_mono HO_284001.out (fun _ hk => ⟨hk.2, hk.1⟩)), ⟨_, rfl⟩, (by (with_reducible repeat (first | refine blk_drewN ?_ _ | refine blk_drew ?_ | refine blk_alloc ?_ _)); exact BK271.out), (by (with_reducible repeat (first | refine blk_drewN ?_ _ | refine blk_drew ?_ | refine blk_alloc ?_ _)); exact BK283.out), (by repeat (first | (with_reducible first | exact HI0.out | apply IsS109.alloc | apply IsS109.drewN | apply IsS109.drew | apply IsS109.set_1 | refine IsS109.far ?_ NB0_271.out _ | refine IsS109.far ?_ NB0_283.out _) | exact HI0.out)), (by repeat (first | (with_reducible first | exact HK.out | apply KeepBut.set_ | apply keep_drewN | apply keep_drew | apply keep_alloc | refine keep_far ?_ GW271.out _ | refine keep_far ?_ GW283.out _) | exact HK.out)), (by repeat (first | (with_reducible first | exact HB.out | apply below_alloc | apply pw_below_drewN | apply below_drew1 | refine below_set ?_ (IsS109.ge HI0.out) | refine below_set ?_ GE271.out | refine below_set ?_ GE283.out) | exact HB.out))⟩)
                      · skip
                        refine Kd.R_lit_step (Kd.int .i64) _ 3 ?hg (N := 50) ?hd (xs := ([(-1), 256] : List Int)) (inner := [.int .i64 (-1), .int .i64 256]) (ok := fun _ => True) (okp := fun _ => True) ?hr ?hp (fun _ hk => hk) trivial (Below.refl _ _) (Nat.le_refl _) (by simp) ?_; (case hd => rfl); (case hg => rfl); (case hr => first | (go_simp; done) | (go_simp; rfl)); (case hp => exact (Reps.one (show Kd.M (Kd.int .i64) _ _ _ (-1) [.int .i64 (-1)] from rfl) (Reps.one (show Kd.M (Kd.int .i64) _ _ _ 256 [.int .i64 256] from rfl) (Reps.none _ _))))
                        intro v308 w58 ho59 hb hg_ hnew_
                        clear hg_ hnew_
                        (first | rw [← Ny307.out] at ho59 | (simp only [Int.reduceToNat] at ho59; rw [← Ny307.out] at ho59))
                        have n0_ := Aside0.mk (Kd.Q_elder' (by (with_reducible repeat (first | apply Kd.Q_alloc | apply Kd.Q_drewN | apply Kd.Q_drew)); exact HO_284000.out) (Kd.R_base ho59) hb)
                        have n1_ := Aside0.mk (Kd.S_elder' (by (with_reducible repeat (first | apply Kd.S_alloc | apply Kd.S_drewN | apply Kd.S_drew)); exact HO_284001.out) (Kd.R_base ho59) hb)
                        have n2_ := Aside0.mk (Kd.R_lower (Kd.R_new' ho59 (Kd.Q_lt (by (with_reducible repeat (first | apply Kd.Q_alloc | apply Kd.Q_drewN | apply Kd.Q_drew)); exact HO_284000.out))) (keep_size (w := w) (g := g) (row := none) (by repeat (first | (with_reducible first | exact HK.out | apply KeepBut.set_ | apply keep_drewN | apply keep_drew | apply keep_alloc | refine keep_far ?_ GW271.out _ | refine keep_far ?_ GW283.out _) | exact HK.out))))
                        have n3_ := Aside0.mk (blk_below (g := gb271) (o := .cells #[.slice none 0 0, .slice none 0 0, .int .i64 0] 42 (0, 0)) (by (with_reducible repeat (first | refine blk_drewN ?_ _ | refine blk_drew ?_ | refine blk_alloc ?_ _)); exact BK271.out) hb)
                        have n4_ := Aside0.mk (blk_below (g := gb283) (o := .cells #[u284000, .slice Ao15 t279.length co15, .int .i64 t299] 42 (0, 0)) (by (with_reducible repeat (first | refine blk_drewN ?_ _ | refine blk_drew ?_ | refine blk_alloc ?_ _)); exact BK283.out) hb)
                        have n5_ := Aside0.mk (IsS109.below (by repeat (first | (with_reducible first | exact HI0.out | apply IsS109.alloc | apply IsS109.drewN | apply IsS109.drew | apply IsS109.set_1 | refine IsS109.far ?_ NB0_271.out _ | refine IsS109.far ?_ NB0_283.out _) | exact HI0.out)) hb)
                        have n6_ := Aside0.mk (KeepBut.trans (by repeat (first | (with_reducible first | exact HK.out | apply KeepBut.set_ | apply keep_drewN | apply keep_drew | apply keep_alloc | refine keep_far ?_ GW271.out _ | refine keep_far ?_ GW283.out _) | exact HK.out)) (KeepBut.of_below hb g none) (.inl rfl))
                        have n7_ := Aside0.mk (below_step (by repeat (first | (with_reducible first | exact HB.out | apply below_alloc | apply pw_below_drewN | apply below_drew1 | refine below_set ?_ (IsS109.ge HI0.out) | refine below_set ?_ GE271.out | refine below_set ?_ GE283.out) | exact HB.out)) hb)
                        clear HO_284000
                        clear HO_284001
                        clear BK271
                        clear BK283
                        clear HI0
                        clear HK
                        clear HB
                        have HO_284000 := n0_
                        have HO_284001 := n1_
                        have HO309 := n2_
                        have BK271 := n3_
                        have BK283 := n4_
                        have HI0 := n5_
                        have HK := n6_
                        have HB := n7_
                        clear n0_ n1_ n2_ n3_ n4_ n5_ n6_ n7_
                        clear hb ho59
                        obtain ⟨Ao60, co60, eo60⟩ := Kd.R_slice HO309.out
                        subst eo60
                        obtain ⟨ado60, fo60, _⟩ := Kd.at_int (Kd.R_reads' HO309.out).2.2 0 (by decide) (by rw [Ny307.out]; simp)
                        cases fo60
                        refine hK.out _ _ ⟨(blk_cell BK283.out 0).trans rfl, (blk_cell BK283.out 1).trans rfl, (blk_cell BK283.out 2).trans rfl⟩ (fun hHeld => ?_)
                        clear hK K
                        refine norm_ (a' := ?_) ?_ ?_
                        rotate_left
                        · show Act.put _ (some 50) _ = _
                          simp only [Act.put, List.setIfInBounds_toArray, List.set_cons_zero, List.set_cons_succ, i64_w, i32_w]
                          rfl
                        refine one_ (i := 3) (N := some 49) #[true, true, true, true, true, true, false, false, false, false, false] rfl rfl (one_of HT_.out (by kernel_rfl)) (by decide) (fun K hK => ?_)
                        refine goes_ Try.func67 (by kernel_rfl) rfl #[.pointer (some ⟨g, 0, none⟩), .int .i64 256] (by rfl) rfl rfl (by (try simp only [List.map_toArray, List.map_cons, List.map_nil]); first | done | rfl | (simp only [List.length_drop, List.length_take]; rfl)) ?_
                        with_reducible refine (spec_l20Rd_pick.calls k1 g s0_0 t304 256 t305 t306 w0 _ ?side1 ?side2 A43.out).mono ?_
                        (case side1 => repeat (first | (with_reducible first | exact HI0.out | apply IsS109.alloc | apply IsS109.drewN | apply IsS109.drew | apply IsS109.set_1 | refine IsS109.far ?_ NB0_271.out _ | refine IsS109.far ?_ NB0_283.out _) | exact HI0.out))
                        (case side2 => repeat (first | (with_reducible first | exact HB.out | apply below_alloc | apply pw_below_drewN | apply below_drew1 | refine below_set ?_ (IsS109.ge HI0.out) | refine below_set ?_ GE271.out | refine below_set ?_ GE283.out) | exact HB.out))
                        rintro e w61 ⟨rfl, hi, hb, hk⟩
                        refine ⟨_, rfl, ?_⟩
                        have n0_ := Aside0.mk (Kd.Q_mono (Kd.Q_keep (IsS109.apartQ (show IsS109 w0 _ g s0_0 t304 from by repeat (first | (with_reducible first | exact HI0.out | apply IsS109.alloc | apply IsS109.drewN | apply IsS109.drew | apply IsS109.set_1 | refine IsS109.far ?_ NB0_271.out _ | refine IsS109.far ?_ NB0_283.out _) | exact HI0.out)) (by (with_reducible repeat (first | apply Kd.Q_alloc | apply Kd.Q_drewN | apply Kd.Q_drew)); exact HO_284000.out) (by decide)) hk (fun _ h => h.2)) (fun _ h => h.1))
                        have n1_ := Aside0.mk (Kd.S_mono (Kd.S_keep (IsS109.apartS (show IsS109 w0 _ g s0_0 t304 from by repeat (first | (with_reducible first | exact HI0.out | apply IsS109.alloc | apply IsS109.drewN | apply IsS109.drew | apply IsS109.set_1 | refine IsS109.far ?_ NB0_271.out _ | refine IsS109.far ?_ NB0_283.out _) | exact HI0.out)) (by (with_reducible repeat (first | apply Kd.S_alloc | apply Kd.S_drewN | apply Kd.S_drew)); exact HO_284001.out) (by decide)) hk (fun _ h => h.2)) (fun _ h => h.1))
                        have n2_ := Aside0.mk (KeepBut.blk hk (g' := gb271) (o := .cells #[.slice none 0 0, .slice none 0 0, .int .i64 0] 42 (0, 0)) (by (with_reducible repeat (first | refine blk_drewN ?_ _ | refine blk_drew ?_ | refine blk_alloc ?_ _)); exact BK271.out) NB271_0.out (by simp))
                        have n3_ := Aside0.mk (KeepBut.blk hk (g' := gb283) (o := .cells #[u284000, .slice Ao15 t279.length co15, .int .i64 t299] 42 (0, 0)) (by (with_reducible repeat (first | refine blk_drewN ?_ _ | refine blk_drew ?_ | refine blk_alloc ?_ _)); exact BK283.out) NB283_0.out (by simp))
                        have n4_ := Aside0.mk (Kd.R_mono (Kd.R_keep (IsS109.apart (show IsS109 w0 _ g s0_0 t304 from by repeat (first | (with_reducible first | exact HI0.out | apply IsS109.alloc | apply IsS109.drewN | apply IsS109.drew | apply IsS109.set_1 | refine IsS109.far ?_ NB0_271.out _ | refine IsS109.far ?_ NB0_283.out _) | exact HI0.out)) (by (with_reducible repeat (first | apply Kd.R_alloc | apply Kd.R_drewN | apply Kd.R_drew)); exact HO309.out) (by decide)) hk (fun _ h => h.2)) (fun _ h => h.1))
                        have n5_ := Aside0.mk (KeepBut.trans (by repeat (first | (with_reducible first | exact HK.out | apply KeepBut.set_ | apply keep_drewN | apply keep_drew | apply keep_alloc | refine keep_far ?_ GW271.out _ | refine keep_far ?_ GW283.out _) | exact HK.out)) hk (.inl rfl))
                        have n6_ := Aside0.mk (hb)
                        have n7_ := Aside0.mk (hi)
                        clear HO_284000
                        clear HO_284001
                        clear BK271
                        clear BK283
                        clear HO309
                        clear HK
                        clear HB
                        clear HI0
                        have HO_284000 := n0_
                        have HO_284001 := n1_
                        have BK271 := n2_
                        have BK283 := n3_
                        have HO309 := n4_
                        have HK := n5_
                        have HB := n6_
                        have HI0 := n7_
                        clear n0_ n1_ n2_ n3_ n4_ n5_ n6_ n7_
                        (try clear hb)
                        (try clear hb2)
                        (try clear hk)
                        (try clear hi)
                        refine hK.out _ _ ⟨(blk_cell BK283.out 0).trans rfl, (blk_cell BK283.out 1).trans rfl, (blk_cell BK283.out 2).trans rfl⟩ (fun hHeld => ?_)
                        clear hK K
                        refine norm_ (a' := ?_) ?_ ?_
                        rotate_left
                        · show Act.put _ (some 49) _ = _
                          simp only [Act.put, List.setIfInBounds_toArray, List.set_cons_zero, List.set_cons_succ, i64_w, i32_w]
                          rfl
                        refine one_ (i := 6) (N := some 52) #[true, true, true, true, true, true, true, false, false, false, false] rfl rfl (one_of HT_.out (by kernel_rfl)) (by decide) (fun K hK => ?_)
                        refine goes_ Try.func67 (by kernel_rfl) rfl #[.pointer (some ⟨g, 0, none⟩), .int .i64 2] (by rfl) rfl rfl (by (try simp only [List.map_toArray, List.map_cons, List.map_nil]); first | done | rfl | (simp only [List.length_drop, List.length_take]; rfl)) ?_
                        with_reducible refine (spec_l20Rd_pick.calls k1 g s0_0 t306 2 t310 t311 w0 _ ?side1 ?side2 A44.out).mono ?_
                        (case side1 => repeat (first | (with_reducible first | exact HI0.out | apply IsS109.alloc | apply IsS109.drewN | apply IsS109.drew | apply IsS109.set_1 | refine IsS109.far ?_ NB0_271.out _ | refine IsS109.far ?_ NB0_283.out _) | exact HI0.out))
                        (case side2 => repeat (first | (with_reducible first | exact HB.out | apply below_alloc | apply pw_below_drewN | apply below_drew1 | refine below_set ?_ (IsS109.ge HI0.out) | refine below_set ?_ GE271.out | refine below_set ?_ GE283.out) | exact HB.out))
                        rintro e w62 ⟨rfl, hi, hb, hk⟩
                        refine ⟨_, rfl, ?_⟩
                        have n0_ := Aside0.mk (Kd.Q_mono (Kd.Q_keep (IsS109.apartQ (show IsS109 w0 _ g s0_0 t306 from by repeat (first | (with_reducible first | exact HI0.out | apply IsS109.alloc | apply IsS109.drewN | apply IsS109.drew | apply IsS109.set_1 | refine IsS109.far ?_ NB0_271.out _ | refine IsS109.far ?_ NB0_283.out _) | exact HI0.out)) (by (with_reducible repeat (first | apply Kd.Q_alloc | apply Kd.Q_drewN | apply Kd.Q_drew)); exact HO_284000.out) (by decide)) hk (fun _ h => h.2)) (fun _ h => h.1))
                        have n1_ := Aside0.mk (Kd.S_mono (Kd.S_keep (IsS109.apartS (show IsS109 w0 _ g s0_0 t306 from by repeat (first | (with_reducible first | exact HI0.out | apply IsS109.alloc | apply IsS109.drewN | apply IsS109.drew | apply IsS109.set_1 | refine IsS109.far ?_ NB0_271.out _ | refine IsS109.far ?_ NB0_283.out _) | exact HI0.out)) (by (with_reducible repeat (first | apply Kd.S_alloc | apply Kd.S_drewN | apply Kd.S_drew)); exact HO_284001.out) (by decide)) hk (fun _ h => h.2)) (fun _ h => h.1))
                        have n2_ := Aside0.mk (KeepBut.blk hk (g' := gb271) (o := .cells #[.slice none 0 0, .slice none 0 0, .int .i64 0] 42 (0, 0)) (by (with_reducible repeat (first | refine blk_drewN ?_ _ | refine blk_drew ?_ | refine blk_alloc ?_ _)); exact BK271.out) NB271_0.out (by simp))
                        have n3_ := Aside0.mk (KeepBut.blk hk (g' := gb283) (o := .cells #[u284000, .slice Ao15 t279.length co15, .int .i64 t299] 42 (0, 0)) (by (with_reducible repeat (first | refine blk_drewN ?_ _ | refine blk_drew ?_ | refine blk_alloc ?_ _)); exact BK283.out) NB283_0.out (by simp))
                        have n4_ := Aside0.mk (Kd.R_mono (Kd.R_keep (IsS109.apart (show IsS109 w0 _ g s0_0 t306 from by repeat (first | (with_reducible first | exact HI0.out | apply IsS109.alloc | apply IsS109.drewN | apply IsS109.drew | apply IsS109.set_1 | refine IsS109.far ?_ NB0_271.out _ | refine IsS109.far ?_ NB0_283.out _) | exact HI0.out)) (by (with_reducible repeat (first | apply Kd.R_alloc | apply Kd.R_drewN | apply Kd.R_drew)); exact HO309.out) (by decide)) hk (fun _ h => h.2)) (fun _ h => h.1))
                        have n5_ := Aside0.mk (KeepBut.trans (by repeat (first | (with_reducible first | exact HK.out | apply KeepBut.set_ | apply keep_drewN | apply keep_drew | apply keep_alloc | refine keep_far ?_ GW271.out _ | refine keep_far ?_ GW283.out _) | exact HK.out)) hk (.inl rfl))
                        have n6_ := Aside0.mk (hb)
                        have n7_ := Aside0.mk (hi)
                        clear HO_284000
                        clear HO_284001
                        clear BK271
                        clear BK283
                        clear HO309
                        clear HK
                        clear HB
                        clear HI0
                        have HO_284000 := n0_
                        have HO_284001 := n1_
                        have BK271 := n2_
                        have BK283 := n3_
                        have HO309 := n4_
                        have HK := n5_
                        have HB := n6_
                        have HI0 := n7_
                        clear n0_ n1_ n2_ n3_ n4_ n5_ n6_ n7_
                        (try clear hb)
                        (try clear hb2)
                        (try clear hk)
                        (try clear hi)
                        refine hK.out _ _ ⟨(blk_cell BK283.out 0).trans rfl, (blk_cell BK283.out 1).trans rfl, (blk_cell BK283.out 2).trans rfl⟩ (fun hHeld => ?_)
                        clear hK K
                        refine norm_ (a' := ?_) ?_ ?_
                        rotate_left
                        · show Act.put _ (some 52) _ = _
                          simp only [Act.put, List.setIfInBounds_toArray, List.set_cons_zero, List.set_cons_succ, i64_w, i32_w]
                          rfl
                        exact norm_ (by simp only [putAll, Act.put, List.setIfInBounds_toArray, List.set_cons_zero, List.set_cons_succ]) (hCont (.slice (some ado60) y307.length co60, ado60) _ ⟨hHeld, (by (with_reducible repeat (first | apply Kd.R_alloc | apply Kd.R_drewN | apply Kd.R_drew)); exact Kd.R_mono HO309.out (fun _ hk => hk.2)), (by (with_reducible repeat (first | apply Kd.Q_alloc | apply Kd.Q_drewN | apply Kd.Q_drew)); exact Kd.Q_mono HO_284000.out (fun _ hk => hk.2)), (by (with_reducible repeat (first | apply Kd.S_alloc | apply Kd.S_drewN | apply Kd.S_drew)); exact Kd.S_mono HO_284001.out (fun _ hk => ⟨hk.2, hk.1⟩)), ⟨_, rfl⟩, (by (with_reducible repeat (first | refine blk_drewN ?_ _ | refine blk_drew ?_ | refine blk_alloc ?_ _)); exact BK271.out), (by (with_reducible repeat (first | refine blk_drewN ?_ _ | refine blk_drew ?_ | refine blk_alloc ?_ _)); exact BK283.out), (by repeat (first | (with_reducible first | exact HI0.out | apply IsS109.alloc | apply IsS109.drewN | apply IsS109.drew | apply IsS109.set_1 | refine IsS109.far ?_ NB0_271.out _ | refine IsS109.far ?_ NB0_283.out _) | exact HI0.out)), (by repeat (first | (with_reducible first | exact HK.out | apply KeepBut.set_ | apply keep_drewN | apply keep_drew | apply keep_alloc | refine keep_far ?_ GW271.out _ | refine keep_far ?_ GW283.out _) | exact HK.out)), (by repeat (first | (with_reducible first | exact HB.out | apply below_alloc | apply pw_below_drewN | apply below_drew1 | refine below_set ?_ (IsS109.ge HI0.out) | refine below_set ?_ GE271.out | refine below_set ?_ GE283.out) | exact HB.out))⟩)
                    rintro ⟨v308, adz_v308⟩ w63 ⟨hS_, h0_, h1_, h2_, h3_, h4_, h5_, h6_, h7_, h8_⟩
                    have n0_ : Aside0 (Kd.R (Kd.int .i64) 3 w63 w.heap.size (fun k_ => some k_ ≠ (u284000 : Value).ownBlock) v308 y307) := ⟨h0_⟩
                    have n1_ : Aside0 (Kd.Q (Kd.int .i64) 3 w63 w.heap.size (fun k_ => some k_ ≠ (v308 : Value).ownBlock) u284000 x284000_1) := ⟨h1_⟩
                    have n2_ : Aside0 (Kd.S (Kd.slice 3 (Kd.int .i64)) 22 w63 w.heap.size (fun k_ => some k_ ≠ (v308 : Value).ownBlock ∧ some k_ ≠ (u284000 : Value).ownBlock) (.slice Ao15 t279.length co15) t279) := ⟨h2_⟩
                    have n3_ : Aside0 (∃ c_, (v308 : Value) = .slice (some adz_v308) y307.length c_) := ⟨h3_⟩
                    have n4_ : Aside0 (w63.heap[gb271]? = some (.cells #[.slice none 0 0, .slice none 0 0, .int .i64 0] 42 (0, 0))) := ⟨h4_⟩
                    have n5_ : Aside0 (w63.heap[gb283]? = some (.cells #[u284000, .slice Ao15 t279.length co15, .int .i64 t299] 42 (0, 0))) := ⟨h5_⟩
                    have n6_ : Aside0 (IsS109 w0 w63 g s0_0 t311) := ⟨h6_⟩
                    have n7_ : Aside0 (KeepBut w w63 g none) := ⟨h7_⟩
                    have n8_ : Aside0 (Below w0.heap.size w0 w63) := ⟨h8_⟩
                    clear HO_284000
                    clear HO_284001
                    clear BK271
                    clear BK283
                    clear HI0
                    clear HK
                    clear HB
                    clear h0_ h1_ h2_ h3_ h4_ h5_ h6_ h7_ h8_
                    have HO309 := n0_
                    have HO_284000 := n1_
                    have HO_284001 := n2_
                    have HA_HO309 := n3_
                    have BK271 := n4_
                    have BK283 := n5_
                    have HI0 := n6_
                    have HK := n7_
                    have HB := n8_
                    clear n0_ n1_ n2_ n3_ n4_ n5_ n6_ n7_ n8_
                    have hHeld : w63.cell? ⟨gb283, 0, none⟩ = some (u284000) ∧ w63.cell? ⟨gb283, 1, none⟩ = some (.slice Ao15 t279.length co15) ∧ w63.cell? ⟨gb283, 2, none⟩ = some (.int .i64 t299) := hS_
                    obtain ⟨co64, eo64⟩ := HA_HO309.out
                    clear HA_HO309
                    subst eo64
                    have p49 : 0 ≤ (t305 : Int) := of_decide_eq_true (by first | (with_reducible assumption) | assumption)
                    have q49 : (t305 : Int) < ((x284000_1.length : Int) : Int) := of_decide_eq_true (by first | (with_reducible assumption) | assumption)
                    obtain ⟨go49, oo49, co49, eo49, gb49, gl49, cl49, HG49⟩ := Kd.Q_form HO_284000.out (by omega)
                    (first | cases eo49 | (injection eo49 with ea_ en_ ec_; (first | subst ea_ | (injection ea_ with ea_; subst ea_)); subst ec_; clear en_))
                    have GB49 := Aside0.mk gb49
                    have GG49 := Aside0.mk HG49
                    clear gb49 gl49 HG49
                    obtain ⟨hx49_0, hf49_0⟩ := Kd.Q_cell 0 HO_284000.out (t305 : Int) p49 q49
                    replace p49 := eq_true p49
                    replace q49 := eq_true q49
                    have HN0_go49 := Aside0.mk (show g ≠ go49 from by have h_ := IsS109.own_neQ HI0.out HO_284000.out (by decide); intro e_; exact h_ (by rw [e_]; rfl))
                    have HP65 := (Kd.Q_putg HO_284000.out (t305 : Int) (of_decide_eq_true (by first | (with_reducible assumption) | assumption)) (by have h_ : (t305 : Int) < ((x284000_1.length : Int) : Int) := of_decide_eq_true (by first | (with_reducible assumption) | assumption); first | exact h_ | (have e_ := (Kd.Q_reads' HO_284000.out).1; omega) | simpa using h_) (rd y307 t310)).1
                    rw [← Ny313.out] at HP65
                    have HQ65 := Aside0.mk HP65
                    clear HP65
                    refine norm_ (a' := ?_) ?_ ?_
                    rotate_left
                    · simp only [putAll, Act.put, List.setIfInBounds_toArray, List.set_cons_zero, List.set_cons_succ]
                      rfl
                    refine pure_ (i := 7) (N := some 53) (v := ?_) (a' := ?_) #[true, true, true, true, true, true, true, true, false, false, false] rfl rfl (any_of HT_.out (by kernel_rfl)) (fun _ _ _ h => h) (Or.inl ⟨by rfl, ?_⟩) ?_ ?_
                    rotate_left
                    · intro w'
                      go_simp
                      with_reducible rfl
                    rotate_left
                    · simp only [Act.put, List.setIfInBounds_toArray, List.set_cons_zero, List.set_cons_succ, i64_w, i32_w]
                      rfl
                    refine one_ (i := 8) (N := some 54) #[true, true, true, true, true, true, true, true, true, false, false] rfl rfl (one_of HT_.out (by kernel_rfl)) (by decide) (fun K hK => ?_)
                    (have p312 : 0 ≤ (t310 : Int) := of_decide_eq_true (by first | (with_reducible assumption) | assumption); have q312 : t310 < (y307.length : Int) := of_decide_eq_true (by first | (with_reducible assumption) | assumption); obtain ⟨ad312, e312, hx312_0⟩ := Kd.at_int (Kd.R_reads' HO309.out).2.2 t310 p312 q312; obtain rfl : adz_v308 = ad312 := (by injection e312))
                    refine value_ (w1 := ?_) (v := ?_) (by rfl) rfl ?_ ?_
                    rotate_left 2
                    · go_simp
                      constructor
                      · rfl
                      · rfl
                    clear hx312_0
                    refine hK.out _ _ ⟨(blk_cell BK283.out 0).trans rfl, (blk_cell BK283.out 1).trans rfl, (blk_cell BK283.out 2).trans rfl⟩ (fun hHeld => ?_)
                    clear hK K
                    refine norm_ (a' := ?_) ?_ ?_
                    rotate_left
                    · show Act.put _ (some 54) _ = _
                      simp only [Act.put, List.setIfInBounds_toArray, List.set_cons_zero, List.set_cons_succ, i64_w, i32_w]
                      rfl
                    refine pure_ (i := 9) (N := some 55) (v := ?_) (a' := ?_) #[true, true, true, true, true, true, true, true, true, true, false] rfl rfl (any_of HT_.out (by kernel_rfl)) (fun _ _ _ h => h) (Or.inl ⟨by rfl, ?_⟩) ?_ ?_
                    rotate_left
                    · intro w'
                      go_simp
                      with_reducible rfl
                    rotate_left
                    · simp only [Act.put, List.setIfInBounds_toArray, List.set_cons_zero, List.set_cons_succ, i64_w, i32_w]
                      rfl
                    refine last_ (i := 10) (N := none) #[true, true, true, true, true, true, true, true, true, true, true] rfl rfl (one_of HT_.out (by kernel_rfl)) (by decide) (fun K hK => ?_)
                    refine skip_ (w1 := ?_) (by rfl) rfl ?_ ?_
                    rotate_left
                    · go_simp
                      rfl
                    refine hK.out _ _ ?_
                    clear hK K
                    refine done_ (done_of HT_.out (by kernel_rfl)) ?_
                    have n0_ : Aside0 (Kd.Q (Kd.int .i64) 3 (w63.setCell ⟨go49, oo49 + (t305 : Int).toNat, none⟩ (.int .i64 (rd y307 t310))) w.heap.size (fun k_ => some k_ ≠ (.slice (some adz_v308) y307.length co64 : Value).ownBlock) (.slice (some ⟨go49, oo49, none⟩) x284000_1.length co49) y313) := ⟨by (with_reducible repeat (first | apply Kd.Q_alloc | apply Kd.Q_drewN | apply Kd.Q_drew)); exact HQ65.out⟩
                    have n1_ : Aside0 (Kd.S (Kd.slice 3 (Kd.int .i64)) 22 (w63.setCell ⟨go49, oo49 + (t305 : Int).toNat, none⟩ (.int .i64 (rd y307 t310))) w.heap.size (fun k_ => some k_ ≠ (.slice (some ⟨go49, oo49, none⟩) x284000_1.length co49 : Value).ownBlock ∧ some k_ ≠ (.slice (some adz_v308) y307.length co64 : Value).ownBlock) (.slice Ao15 t279.length co15) t279) := ⟨by (with_reducible repeat (first | apply Kd.S_alloc | apply Kd.S_drewN | apply Kd.S_drew)); exact Kd.S_mono (Kd.S_far (p := ⟨go49, oo49 + (t305 : Int).toNat, none⟩) (Kd.S_mono HO_284001.out (fun k_ hk => (⟨hk, fun e_ => hk.2 (by rw [e_]; rfl)⟩ : _ ∧ k_ ≠ go49))) (fun _ hk => hk.2) (.int .i64 (rd y307 t310))) (fun _ hk => ⟨hk.1.2, hk.1.1⟩)⟩
                    have n2_ : Aside0 (Kd.R (Kd.int .i64) 3 (w63.setCell ⟨go49, oo49 + (t305 : Int).toNat, none⟩ (.int .i64 (rd y307 t310))) w.heap.size (fun k_ => some k_ ≠ (.slice (some ⟨go49, oo49, none⟩) x284000_1.length co49 : Value).ownBlock) (.slice (some adz_v308) y307.length co64) y307) := ⟨by (with_reducible repeat (first | apply Kd.R_alloc | apply Kd.R_drewN | apply Kd.R_drew)); exact Kd.R_mono (Kd.R_far (p := ⟨go49, oo49 + (t305 : Int).toNat, none⟩) (Kd.R_mono HO309.out (fun k_ hk => (⟨hk, fun e_ => hk (by rw [e_]; rfl)⟩ : _ ∧ k_ ≠ go49))) (fun _ hk => hk.2) (.int .i64 (rd y307 t310))) (fun _ hk => hk.1)⟩
                    have n3_ : Aside0 ((w63.setCell ⟨go49, oo49 + (t305 : Int).toNat, none⟩ (.int .i64 (rd y307 t310))).heap[gb271]? = some (.cells #[.slice none 0 0, .slice none 0 0, .int .i64 0] 42 (0, 0))) := ⟨by (with_reducible repeat (first | refine blk_drewN ?_ _ | refine blk_drew ?_ | refine blk_alloc ?_ _)); refine blk_far ?_ (by have h_ := Kd.Q_ne HO_284000.out BK271.out (by decide); intro e_; exact h_ (by rw [e_]; rfl)) _; (with_reducible repeat (first | refine blk_drewN ?_ _ | refine blk_drew ?_ | refine blk_alloc ?_ _)); exact BK271.out⟩
                    have n4_ : Aside0 ((w63.setCell ⟨go49, oo49 + (t305 : Int).toNat, none⟩ (.int .i64 (rd y307 t310))).heap[gb283]? = some (.cells #[.slice (some ⟨go49, oo49, none⟩) x284000_1.length co49, .slice Ao15 t279.length co15, .int .i64 t299] 42 (0, 0))) := ⟨by (with_reducible repeat (first | refine blk_drewN ?_ _ | refine blk_drew ?_ | refine blk_alloc ?_ _)); refine blk_far ?_ (by have h_ := Kd.Q_ne HO_284000.out BK283.out (by decide); intro e_; exact h_ (by rw [e_]; rfl)) _; (with_reducible repeat (first | refine blk_drewN ?_ _ | refine blk_drew ?_ | refine blk_alloc ?_ _)); exact BK283.out⟩
                    have n5_ : Aside0 (IsS109 w0 (w63.setCell ⟨go49, oo49 + (t305 : Int).toNat, none⟩ (.int .i64 (rd y307 t310))) g s0_0 t311) := ⟨by repeat (first | (with_reducible first | exact HI0.out | apply IsS109.alloc | apply IsS109.drewN | apply IsS109.drew | apply IsS109.set_1 | refine IsS109.far ?_ HN0_go49.out _ | refine IsS109.far ?_ NB0_271.out _ | refine IsS109.far ?_ NB0_283.out _) | exact HI0.out)⟩
                    have n6_ : Aside0 (KeepBut w (w63.setCell ⟨go49, oo49 + (t305 : Int).toNat, none⟩ (.int .i64 (rd y307 t310))) g none) := ⟨by repeat (first | (with_reducible first | exact HK.out | apply KeepBut.set_ | apply keep_drewN | apply keep_drew | apply keep_alloc | refine keep_far ?_ GB49.out _ | refine keep_far ?_ GW271.out _ | refine keep_far ?_ GW283.out _) | exact HK.out)⟩
                    have n7_ : Aside0 (Below w0.heap.size w0 (w63.setCell ⟨go49, oo49 + (t305 : Int).toNat, none⟩ (.int .i64 (rd y307 t310)))) := ⟨by repeat (first | (with_reducible first | exact HB.out | apply below_alloc | apply pw_below_drewN | apply below_drew1 | refine below_set ?_ (Nat.le_trans HL.out GB49.out) | refine below_set ?_ (IsS109.ge HI0.out) | refine below_set ?_ GE271.out | refine below_set ?_ GE283.out) | exact HB.out)⟩
                    (try clear HO_284000)
                    (try clear HO_284001)
                    (try clear HO309)
                    (try clear BK271)
                    (try clear BK283)
                    (try clear HI0)
                    (try clear HK)
                    (try clear HB)
                    generalize (w63.setCell ⟨go49, oo49 + (t305 : Int).toNat, none⟩ (.int .i64 (rd y307 t310))) = w66 at n0_ n1_ n2_ n3_ n4_ n5_ n6_ n7_ ⊢
                    have HO_284000 := n0_
                    have HO_284001 := n1_
                    have HO309 := n2_
                    have BK271 := n3_
                    have BK283 := n4_
                    have HI0 := n5_
                    have HK := n6_
                    have HB := n7_
                    clear n0_ n1_ n2_ n3_ n4_ n5_ n6_ n7_
                    have hcz67_0 : w66.cell? ⟨gb283, 0, none⟩ = some (.slice (some ⟨go49, oo49, none⟩) x284000_1.length co49) := (blk_cell BK283.out 0).trans rfl
                    have hcz67_1 : w66.cell? ⟨gb283, 1, none⟩ = some (.slice Ao15 t279.length co15) := (blk_cell BK283.out 1).trans rfl
                    have hcz67_2 : w66.cell? ⟨gb283, 2, none⟩ = some (.int .i64 t299) := (blk_cell BK283.out 2).trans rfl
                    have hfz67_0 := blk_frozen BK283.out 0
                    have hfz67_1 := blk_frozen BK283.out 1
                    have hfz67_2 := blk_frozen BK283.out 2
                    have hnb68 := NB271_0.out
                    have hnc68 := NB0_271.out
                    have hcz69_0 : w66.cell? ⟨gb271, 0, none⟩ = some (.slice none 0 0) := (blk_cell BK271.out 0).trans rfl
                    have hcz69_1 : w66.cell? ⟨gb271, 1, none⟩ = some (.slice none 0 0) := (blk_cell BK271.out 1).trans rfl
                    have hcz69_2 : w66.cell? ⟨gb271, 2, none⟩ = some (.int .i64 0) := (blk_cell BK271.out 2).trans rfl
                    have hfz69_0 := blk_frozen BK271.out 0
                    have hfz69_1 := blk_frozen BK271.out 1
                    have hfz69_2 := blk_frozen BK271.out 2
                    try go_wp2
                    refine bodyPost_ret (results_cell_row rfl _ _ gb271 42 #[.slice (some ⟨go49, oo49, none⟩) x284000_1.length co49, .slice Ao15 t279.length co15, .int .i64 t299] (0, 0) _ rfl (by (with_reducible repeat (first | refine blk_drewN ?_ _ | refine blk_drew ?_ | refine blk_alloc ?_ _)); refine blk_put (cs := #[.slice (some ⟨go49, oo49, none⟩) x284000_1.length co49, .slice Ao15 t279.length co15, .int .i64 0]) ?_ 2 _ rfl; (with_reducible repeat (first | refine blk_drewN ?_ _ | refine blk_drew ?_ | refine blk_alloc ?_ _)); refine blk_put (cs := #[.slice (some ⟨go49, oo49, none⟩) x284000_1.length co49, .slice none 0 0, .int .i64 0]) ?_ 1 _ rfl; (with_reducible repeat (first | refine blk_drewN ?_ _ | refine blk_drew ?_ | refine blk_alloc ?_ _)); refine blk_put (cs := #[.slice none 0 0, .slice none 0 0, .int .i64 0]) ?_ 0 _ rfl; (with_reducible repeat (first | refine blk_drewN ?_ _ | refine blk_drew ?_ | refine blk_alloc ?_ _)); exact BK271.out) Try.underlying42 rfl (by kernel_rfl)) rfl ?_
                    exact ⟨_, _, by first | rfl | (simp [errW_none, errW_some] <;> rfl) | (simp [*, errW_none, errW_some] <;> rfl), by (with_reducible repeat (first | apply Kd.Q_alloc | apply Kd.Q_drewN | apply Kd.Q_drew)); exact Kd.Q_mono (Kd.Q_far (p := ⟨gb271, 2, none⟩) (Kd.Q_far (p := ⟨gb271, 1, none⟩) (Kd.Q_far (p := ⟨gb271, 0, none⟩) (Kd.Q_types HO_284000.out BK271.out (by decide)) (fun _ hk => hk.2) (.slice (some ⟨go49, oo49, none⟩) x284000_1.length co49)) (fun _ hk => hk.2) (.slice Ao15 t279.length co15)) (fun _ hk => hk.2) (.int .i64 t299)) (fun _ hk => trivial), by (with_reducible repeat (first | apply Kd.S_alloc | apply Kd.S_drewN | apply Kd.S_drew)); exact Kd.S_mono (Kd.S_far (p := ⟨gb271, 2, none⟩) (Kd.S_far (p := ⟨gb271, 1, none⟩) (Kd.S_far (p := ⟨gb271, 0, none⟩) (Kd.S_types HO_284001.out BK271.out (by decide)) (fun _ hk => hk.2) (.slice (some ⟨go49, oo49, none⟩) x284000_1.length co49)) (fun _ hk => hk.2) (.slice Ao15 t279.length co15)) (fun _ hk => hk.2) (.int .i64 t299)) (fun _ hk => hk.1.1), by repeat (first | (with_reducible first | exact HI0.out | apply IsS109.alloc | apply IsS109.drewN | apply IsS109.drew | apply IsS109.set_1 | refine IsS109.far ?_ NB0_271.out _ | refine IsS109.far ?_ NB0_283.out _) | exact HI0.out), by repeat (first | (with_reducible first | exact HB.out | apply below_alloc | apply pw_below_drewN | apply below_drew1 | refine below_set ?_ (IsS109.ge HI0.out) | refine below_set ?_ GE271.out | refine below_set ?_ GE283.out) | exact HB.out), by repeat (first | (with_reducible first | exact HK.out | apply KeepBut.set_ | apply keep_drewN | apply keep_drew | apply keep_alloc | refine keep_far ?_ GW271.out _ | refine keep_far ?_ GW283.out _) | exact HK.out)⟩
                  · rw [if_neg c48] at H
                    exact absurd H (by simp)
                · rw [if_neg c47] at H
                  exact absurd H (by simp)
              · rw [if_neg c46] at H
                exact absurd H (by simp)
            · rw [if_neg c45] at H
              exact absurd H (by simp)
          · rw [if_neg c42] at H
            have c42b0 : (t303 == 0) = false := beq_eq_false_iff_ne.mpr c42
            have c42b1 : (t303 != 0) = true := bne_iff_ne.mpr c42
            by_cases c70 : t303 = 1
            · rw [if_pos c70] at H
              have c70b0 : (t303 == 1) = true := beq_iff_eq.mpr c70
              have c70b1 : (t303 != 1) = false := bne_eq_false_iff_eq.mpr c70
              clear c70
              by_cases c71 : 1 ≤ (x284000_1.length : Int)
              · rw [if_pos c71] at H
                have c71b0 := eq_true c71
                have c71b1 : decide (1 ≤ (x284000_1.length : Int)) = true := decide_eq_true c71
                clear c71
                obtain ⟨y314, hy314⟩ : ∃ y_ : List Int, y_ = (x284000_1.drop (1 : Int).toNat) := ⟨_, rfl⟩
                replace H : (some (y314, t279, t299, t304)) = some (r1, r2, r3, r4) := by first | (rw [hy314]; with_reducible exact H) | (have H2_ := (Option.bind_some _ _).symm.trans H; rw [hy314]; with_reducible exact H2_) | (have H2_ := (Option.bind_some _ _).symm.trans H; with_reducible exact H2_) | with_reducible exact H | (rw [hy314]; exact H) | exact H
                have Ny314 := Aside0.mk hy314
                clear hy314
                simp only [Option.some.injEq, Prod.mk.injEq] at H
                obtain ⟨rfl, rfl, rfl, rfl⟩ := H
                have hnb72 := NB283_271.out
                have hnc72 := NB271_283.out
                have hnb73 := NB283_0.out
                have hnc73 := NB0_283.out
                have hcz74_0 : wr.cell? ⟨gb283, 0, none⟩ = some (u284000) := (blk_cell BK283.out 0).trans rfl
                have hcz74_1 : wr.cell? ⟨gb283, 1, none⟩ = some (.slice Ao15 t279.length co15) := (blk_cell BK283.out 1).trans rfl
                have hcz74_2 : wr.cell? ⟨gb283, 2, none⟩ = some (.int .i64 t282) := (blk_cell BK283.out 2).trans rfl
                have hfz74_0 := blk_frozen BK283.out 0
                have hfz74_1 := blk_frozen BK283.out 1
                have hfz74_2 := blk_frozen BK283.out 2
                go_wp2_with (first | ((with_reducible refine gate_callee (f := 67) rfl ?_); refine goesL_ (some 35) rfl rfl Try.func67 (by kernel_rfl) rfl #[.pointer (some ⟨g, 0, none⟩), .int .i64 (t279.length : Int)] rfl (by (try simp only [List.map_toArray, List.map_cons, List.map_nil]); first | done | rfl | (simp only [List.length_drop, List.length_take]; rfl)) ?_; (with_reducible refine (spec_l20Rd_pick.calls k1 g s0_0 x1001_1 (t279.length : Int) t299 t300 w0 _ ?side1 ?side2 A38.out).mono ?_); (case side1 => repeat (first | (with_reducible first | exact HI0.out | apply IsS109.alloc | apply IsS109.drewN | apply IsS109.drew | apply IsS109.set_1 | refine IsS109.far ?_ NB0_271.out _ | refine IsS109.far ?_ NB0_283.out _) | exact HI0.out)); (case side2 => repeat (first | (with_reducible first | exact HB.out | apply below_alloc | apply pw_below_drewN | apply below_drew1 | refine below_set ?_ (IsS109.ge HI0.out) | refine below_set ?_ GE271.out | refine below_set ?_ GE283.out) | exact HB.out)); rintro e w75 ⟨rfl, hi, hb, hk⟩; refine ⟨_, rfl, ?_⟩; have n0_ := Aside0.mk (Kd.Q_mono (Kd.Q_keep (IsS109.apartQ (show IsS109 w0 _ g s0_0 x1001_1 from by repeat (first | (with_reducible first | exact HI0.out | apply IsS109.alloc | apply IsS109.drewN | apply IsS109.drew | apply IsS109.set_1 | refine IsS109.far ?_ NB0_271.out _ | refine IsS109.far ?_ NB0_283.out _) | exact HI0.out)) (by (with_reducible repeat (first | apply Kd.Q_alloc | apply Kd.Q_drewN | apply Kd.Q_drew)); exact HO_284000.out) (by decide)) hk (fun _ h => h.2)) (fun _ h => h.1)); have n1_ := Aside0.mk (Kd.S_mono (Kd.S_keep (IsS109.apartS (show IsS109 w0 _ g s0_0 x1001_1 from by repeat (first | (with_reducible first | exact HI0.out | apply IsS109.alloc | apply IsS109.drewN | apply IsS109.drew | apply IsS109.set_1 | refine IsS109.far ?_ NB0_271.out _ | refine IsS109.far ?_ NB0_283.out _) | exact HI0.out)) (by (with_reducible repeat (first | apply Kd.S_alloc | apply Kd.S_drewN | apply Kd.S_drew)); exact HO_284001.out) (by decide)) hk (fun _ h => h.2)) (fun _ h => h.1)); have n2_ := Aside0.mk (KeepBut.blk hk (g' := gb271) (o := .cells #[.slice none 0 0, .slice none 0 0, .int .i64 0] 42 (0, 0)) (by (with_reducible repeat (first | refine blk_drewN ?_ _ | refine blk_drew ?_ | refine blk_alloc ?_ _)); exact BK271.out) NB271_0.out (by simp)); have n3_ := Aside0.mk (KeepBut.blk hk (g' := gb283) (o := .cells #[u284000, .slice Ao15 t279.length co15, .int .i64 t282] 42 (0, 0)) (by (with_reducible repeat (first | refine blk_drewN ?_ _ | refine blk_drew ?_ | refine blk_alloc ?_ _)); exact BK283.out) NB283_0.out (by simp)); have n4_ := Aside0.mk (KeepBut.trans (by repeat (first | (with_reducible first | exact HK.out | apply KeepBut.set_ | apply keep_drewN | apply keep_drew | apply keep_alloc | refine keep_far ?_ GW271.out _ | refine keep_far ?_ GW283.out _) | exact HK.out)) hk (.inl rfl)); have n5_ := Aside0.mk (hb); have n6_ := Aside0.mk (hi); clear HO_284000; clear HO_284001; clear BK271; clear BK283; clear HK; clear HB; clear HI0; have HO_284000 := n0_; have HO_284001 := n1_; have BK271 := n2_; have BK283 := n3_; have HK := n4_; have HB := n5_; have HI0 := n6_; clear n0_ n1_ n2_ n3_ n4_ n5_ n6_; (try clear hb); (try clear hb2); (try clear hk); (try clear hi); have hcz76_0 : w75.cell? ⟨gb283, 0, none⟩ = some (u284000) := (blk_cell BK283.out 0).trans rfl; have hcz76_1 : w75.cell? ⟨gb283, 1, none⟩ = some (.slice Ao15 t279.length co15) := (blk_cell BK283.out 1).trans rfl; have hcz76_2 : w75.cell? ⟨gb283, 2, none⟩ = some (.int .i64 t282) := (blk_cell BK283.out 2).trans rfl; have hfz76_0 := blk_frozen BK283.out 0; have hfz76_1 := blk_frozen BK283.out 1; have hfz76_2 := blk_frozen BK283.out 2) | ((with_reducible refine gate_callee (f := 86) rfl ?_); refine goesL_ (some 39) rfl rfl Try.func86 (by kernel_rfl) rfl #[.pointer (some ⟨g, 0, none⟩), .int .i64 a1] rfl (by (try simp only [List.map_toArray, List.map_cons, List.map_nil]); first | done | rfl | (simp only [List.length_drop, List.length_take]; rfl)) ?_; (with_reducible refine (spec_l20Rd_odd.calls k1 g s0_0 t300 a1 true t302 w0 _ ?side1 ?side2 A39.out).mono ?_); (case side1 => repeat (first | (with_reducible first | exact HI0.out | apply IsS109.alloc | apply IsS109.drewN | apply IsS109.drew | apply IsS109.set_1 | refine IsS109.far ?_ NB0_271.out _ | refine IsS109.far ?_ NB0_283.out _) | exact HI0.out)); (case side2 => repeat (first | (with_reducible first | exact HB.out | apply below_alloc | apply pw_below_drewN | apply below_drew1 | refine below_set ?_ (IsS109.ge HI0.out) | refine below_set ?_ GE271.out | refine below_set ?_ GE283.out) | exact HB.out)); rintro e w77 ⟨rfl, hi, hb, hk⟩; refine ⟨_, rfl, ?_⟩; have n0_ := Aside0.mk (Kd.Q_mono (Kd.Q_keep (IsS109.apartQ (show IsS109 w0 _ g s0_0 t300 from by repeat (first | (with_reducible first | exact HI0.out | apply IsS109.alloc | apply IsS109.drewN | apply IsS109.drew | apply IsS109.set_1 | refine IsS109.far ?_ NB0_271.out _ | refine IsS109.far ?_ NB0_283.out _) | exact HI0.out)) (by (with_reducible repeat (first | apply Kd.Q_alloc | apply Kd.Q_drewN | apply Kd.Q_drew)); exact (Kd.Q_mono (Kd.Q_far (p := ⟨gb283, 2, none⟩) (Kd.Q_types HO_284000.out BK283.out (by decide)) (fun _ hk => hk.2) (.int .i64 t299)) (fun _ h_ => h_.1))) (by decide)) hk (fun _ h => h.2)) (fun _ h => h.1)); have n1_ := Aside0.mk (Kd.S_mono (Kd.S_keep (IsS109.apartS (show IsS109 w0 _ g s0_0 t300 from by repeat (first | (with_reducible first | exact HI0.out | apply IsS109.alloc | apply IsS109.drewN | apply IsS109.drew | apply IsS109.set_1 | refine IsS109.far ?_ NB0_271.out _ | refine IsS109.far ?_ NB0_283.out _) | exact HI0.out)) (by (with_reducible repeat (first | apply Kd.S_alloc | apply Kd.S_drewN | apply Kd.S_drew)); exact (Kd.S_mono (Kd.S_far (p := ⟨gb283, 2, none⟩) (Kd.S_types HO_284001.out BK283.out (by decide)) (fun _ hk => hk.2) (.int .i64 t299)) (fun _ h_ => h_.1))) (by decide)) hk (fun _ h => h.2)) (fun _ h => h.1)); have n2_ := Aside0.mk (KeepBut.blk hk (g' := gb271) (o := .cells #[.slice none 0 0, .slice none 0 0, .int .i64 0] 42 (0, 0)) (by (with_reducible repeat (first | refine blk_drewN ?_ _ | refine blk_drew ?_ | refine blk_alloc ?_ _)); refine blk_far ?_ NB271_283.out _; (with_reducible repeat (first | refine blk_drewN ?_ _ | refine blk_drew ?_ | refine blk_alloc ?_ _)); exact BK271.out) NB271_0.out (by simp)); have n3_ := Aside0.mk (KeepBut.blk hk (g' := gb283) (o := .cells #[u284000, .slice Ao15 t279.length co15, .int .i64 t299] 42 (0, 0)) (by (with_reducible repeat (first | refine blk_drewN ?_ _ | refine blk_drew ?_ | refine blk_alloc ?_ _)); refine blk_put (cs := #[u284000, .slice Ao15 t279.length co15, .int .i64 t282]) ?_ 2 _ rfl; (with_reducible repeat (first | refine blk_drewN ?_ _ | refine blk_drew ?_ | refine blk_alloc ?_ _)); exact BK283.out) NB283_0.out (by simp)); have n4_ := Aside0.mk (KeepBut.trans (by repeat (first | (with_reducible first | exact HK.out | apply KeepBut.set_ | apply keep_drewN | apply keep_drew | apply keep_alloc | refine keep_far ?_ GW271.out _ | refine keep_far ?_ GW283.out _) | exact HK.out)) hk (.inl rfl)); have n5_ := Aside0.mk (hb); have n6_ := Aside0.mk (hi); clear HO_284000; clear HO_284001; clear BK271; clear BK283; clear HK; clear HB; clear HI0; have HO_284000 := n0_; have HO_284001 := n1_; have BK271 := n2_; have BK283 := n3_; have HK := n4_; have HB := n5_; have HI0 := n6_; clear n0_ n1_ n2_ n3_ n4_ n5_ n6_; (try clear hb); (try clear hb2); (try clear hk); (try clear hi)) | ((with_reducible refine gate_callee (f := 67) rfl ?_); refine goesL_ (some 41) rfl rfl Try.func67 (by kernel_rfl) rfl #[.pointer (some ⟨g, 0, none⟩), .int .i64 4] rfl (by (try simp only [List.map_toArray, List.map_cons, List.map_nil]); first | done | rfl | (simp only [List.length_drop, List.length_take]; rfl)) ?_; (with_reducible refine (spec_l20Rd_pick.calls k1 g s0_0 t302 4 t303 t304 w0 _ ?side1 ?side2 A41.out).mono ?_); (case side1 => repeat (first | (with_reducible first | exact HI0.out | apply IsS109.alloc | apply IsS109.drewN | apply IsS109.drew | apply IsS109.set_1 | refine IsS109.far ?_ NB0_271.out _ | refine IsS109.far ?_ NB0_283.out _) | exact HI0.out)); (case side2 => repeat (first | (with_reducible first | exact HB.out | apply below_alloc | apply pw_below_drewN | apply below_drew1 | refine below_set ?_ (IsS109.ge HI0.out) | refine below_set ?_ GE271.out | refine below_set ?_ GE283.out) | exact HB.out)); rintro e w78 ⟨rfl, hi, hb, hk⟩; refine ⟨_, rfl, ?_⟩; have n0_ := Aside0.mk (Kd.Q_mono (Kd.Q_keep (IsS109.apartQ (show IsS109 w0 _ g s0_0 t302 from by repeat (first | (with_reducible first | exact HI0.out | apply IsS109.alloc | apply IsS109.drewN | apply IsS109.drew | apply IsS109.set_1 | refine IsS109.far ?_ NB0_271.out _ | refine IsS109.far ?_ NB0_283.out _) | exact HI0.out)) (by (with_reducible repeat (first | apply Kd.Q_alloc | apply Kd.Q_drewN | apply Kd.Q_drew)); exact HO_284000.out) (by decide)) hk (fun _ h => h.2)) (fun _ h => h.1)); have n1_ := Aside0.mk (Kd.S_mono (Kd.S_keep (IsS109.apartS (show IsS109 w0 _ g s0_0 t302 from by repeat (first | (with_reducible first | exact HI0.out | apply IsS109.alloc | apply IsS109.drewN | apply IsS109.drew | apply IsS109.set_1 | refine IsS109.far ?_ NB0_271.out _ | refine IsS109.far ?_ NB0_283.out _) | exact HI0.out)) (by (with_reducible repeat (first | apply Kd.S_alloc | apply Kd.S_drewN | apply Kd.S_drew)); exact HO_284001.out) (by decide)) hk (fun _ h => h.2)) (fun _ h => h.1)); have n2_ := Aside0.mk (KeepBut.blk hk (g' := gb271) (o := .cells #[.slice none 0 0, .slice none 0 0, .int .i64 0] 42 (0, 0)) (by (with_reducible repeat (first | refine blk_drewN ?_ _ | refine blk_drew ?_ | refine blk_alloc ?_ _)); exact BK271.out) NB271_0.out (by simp)); have n3_ := Aside0.mk (KeepBut.blk hk (g' := gb283) (o := .cells #[u284000, .slice Ao15 t279.length co15, .int .i64 t299] 42 (0, 0)) (by (with_reducible repeat (first | refine blk_drewN ?_ _ | refine blk_drew ?_ | refine blk_alloc ?_ _)); exact BK283.out) NB283_0.out (by simp)); have n4_ := Aside0.mk (KeepBut.trans (by repeat (first | (with_reducible first | exact HK.out | apply KeepBut.set_ | apply keep_drewN | apply keep_drew | apply keep_alloc | refine keep_far ?_ GW271.out _ | refine keep_far ?_ GW283.out _) | exact HK.out)) hk (.inl rfl)); have n5_ := Aside0.mk (hb); have n6_ := Aside0.mk (hi); clear HO_284000; clear HO_284001; clear BK271; clear BK283; clear HK; clear HB; clear HI0; have HO_284000 := n0_; have HO_284001 := n1_; have BK271 := n2_; have BK283 := n3_; have HK := n4_; have HB := n5_; have HI0 := n6_; clear n0_ n1_ n2_ n3_ n4_ n5_ n6_; (try clear hb); (try clear hb2); (try clear hk); (try clear hi); have hcz79_0 : w78.cell? ⟨gb283, 0, none⟩ = some (u284000) := (blk_cell BK283.out 0).trans rfl; have hcz79_1 : w78.cell? ⟨gb283, 1, none⟩ = some (.slice Ao15 t279.length co15) := (blk_cell BK283.out 1).trans rfl; have hcz79_2 : w78.cell? ⟨gb283, 2, none⟩ = some (.int .i64 t299) := (blk_cell BK283.out 2).trans rfl; have hfz79_0 := blk_frozen BK283.out 0; have hfz79_1 := blk_frozen BK283.out 1; have hfz79_2 := blk_frozen BK283.out 2; obtain ⟨Ao80, co80, eo80, _⟩ := Kd.Q_slice HO_284000.out; subst eo80; have q81 : (1 : Int) ≤ ((x284000_1.length : Int) : Int) := of_decide_eq_true (by first | (with_reducible assumption) | assumption); obtain ⟨i081, hi081, _, hsz81, _⟩ := info_parts info3; have hcut81 := cut_from (P := Try.prog) 22 3 .i64 Try.underlying22 hi081 1 hsz81 Ao80 x284000_1.length co80 1 (by omega) q81; have hr81 := Kd.Q_drop (k := (1 : Int).toNat) HO_284000.out (by omega); obtain ⟨A81, hA81⟩ : ∃ A1, A1 = (if co80 = (1 : Int).toNat then Ao80 else (Ao80 : Option Addr).map (·.add ((1 : Int).toNat * 1))) := ⟨_, rfl⟩; obtain ⟨c81, hc81⟩ : ∃ c1, c1 = co80 - (1 : Int).toNat := ⟨_, rfl⟩; have hy81 : y314.length = x284000_1.length - (1 : Int).toNat := (by rw [Ny314.out, List.length_drop]); rw [← Ny314.out] at hr81; rw [← hy81, ← hA81, ← hc81] at hcut81; replace hr81 : Kd.Q (Kd.int .i64) 3 w78 w.heap.size (fun _ => True) (.slice A81 y314.length c81) y314 := (by rw [hA81, hc81, hy81]; exact hr81); have HE81 : Aside0 ((Value.slice A81 y314.length c81).ownBlock = (.slice Ao80 x284000_1.length co80 : Value).ownBlock) := ⟨by rw [hA81]; split <;> (cases (Ao80 : Option Addr) <;> rfl)⟩; clear hy81 hi081 hsz81 HO_284000 hA81 hc81; have HO316 := Aside0.mk hr81; clear hr81; replace q81 := eq_true q81; have n_ := Aside0.mk (Kd.S_mono (ok' := fun k_ => some k_ ≠ (.slice A81 y314.length c81 : Value).ownBlock) HO_284001.out (fun k_ hk => (by rw [HE81.out]; exact hk))); clear HO_284001; have HO_284001 := n_; clear n_; have hnb82 := NB271_0.out; have hnc82 := NB0_271.out; have hcz83_0 : w78.cell? ⟨gb271, 0, none⟩ = some (.slice none 0 0) := (blk_cell BK271.out 0).trans rfl; have hcz83_1 : w78.cell? ⟨gb271, 1, none⟩ = some (.slice none 0 0) := (blk_cell BK271.out 1).trans rfl; have hcz83_2 : w78.cell? ⟨gb271, 2, none⟩ = some (.int .i64 0) := (blk_cell BK271.out 2).trans rfl; have hfz83_0 := blk_frozen BK271.out 0; have hfz83_1 := blk_frozen BK271.out 1; have hfz83_2 := blk_frozen BK271.out 2))
                refine bodyPost_ret (results_cell_row rfl _ _ gb271 42 #[.slice A81 y314.length c81, .slice Ao15 t279.length co15, .int .i64 t299] (0, 0) _ rfl (by (with_reducible repeat (first | refine blk_drewN ?_ _ | refine blk_drew ?_ | refine blk_alloc ?_ _)); refine blk_put (cs := #[.slice A81 y314.length c81, .slice Ao15 t279.length co15, .int .i64 0]) ?_ 2 _ rfl; (with_reducible repeat (first | refine blk_drewN ?_ _ | refine blk_drew ?_ | refine blk_alloc ?_ _)); refine blk_put (cs := #[.slice A81 y314.length c81, .slice none 0 0, .int .i64 0]) ?_ 1 _ rfl; (with_reducible repeat (first | refine blk_drewN ?_ _ | refine blk_drew ?_ | refine blk_alloc ?_ _)); refine blk_put (cs := #[.slice none 0 0, .slice none 0 0, .int .i64 0]) ?_ 0 _ rfl; (with_reducible repeat (first | refine blk_drewN ?_ _ | refine blk_drew ?_ | refine blk_alloc ?_ _)); refine blk_far ?_ NB271_283.out _; (with_reducible repeat (first | refine blk_drewN ?_ _ | refine blk_drew ?_ | refine blk_alloc ?_ _)); exact BK271.out) Try.underlying42 rfl (by kernel_rfl)) rfl ?_
                exact ⟨_, _, by first | rfl | (simp [errW_none, errW_some] <;> rfl) | (simp [*, errW_none, errW_some] <;> rfl), by (with_reducible repeat (first | apply Kd.Q_alloc | apply Kd.Q_drewN | apply Kd.Q_drew)); exact Kd.Q_mono (Kd.Q_far (p := ⟨gb271, 2, none⟩) (Kd.Q_far (p := ⟨gb271, 1, none⟩) (Kd.Q_far (p := ⟨gb271, 0, none⟩) (Kd.Q_far (p := ⟨gb283, 0, none⟩) (Kd.Q_types (Kd.Q_types HO316.out BK283.out (by decide)) BK271.out (by decide)) (fun _ hk => hk.1.2) (.slice A81 y314.length c81)) (fun _ hk => hk.2) (.slice A81 y314.length c81)) (fun _ hk => hk.2) (.slice Ao15 t279.length co15)) (fun _ hk => hk.2) (.int .i64 t299)) (fun _ hk => trivial), by (with_reducible repeat (first | apply Kd.S_alloc | apply Kd.S_drewN | apply Kd.S_drew)); exact Kd.S_mono (Kd.S_far (p := ⟨gb271, 2, none⟩) (Kd.S_far (p := ⟨gb271, 1, none⟩) (Kd.S_far (p := ⟨gb271, 0, none⟩) (Kd.S_far (p := ⟨gb283, 0, none⟩) (Kd.S_types (Kd.S_types HO_284001.out BK283.out (by decide)) BK271.out (by decide)) (fun _ hk => hk.1.2) (.slice A81 y314.length c81)) (fun _ hk => hk.2) (.slice A81 y314.length c81)) (fun _ hk => hk.2) (.slice Ao15 t279.length co15)) (fun _ hk => hk.2) (.int .i64 t299)) (fun _ hk => hk.1.1), by repeat (first | (with_reducible first | exact HI0.out | apply IsS109.alloc | apply IsS109.drewN | apply IsS109.drew | apply IsS109.set_1 | refine IsS109.far ?_ NB0_271.out _ | refine IsS109.far ?_ NB0_283.out _) | exact HI0.out), by repeat (first | (with_reducible first | exact HB.out | apply below_alloc | apply pw_below_drewN | apply below_drew1 | refine below_set ?_ (IsS109.ge HI0.out) | refine below_set ?_ GE271.out | refine below_set ?_ GE283.out) | exact HB.out), by repeat (first | (with_reducible first | exact HK.out | apply KeepBut.set_ | apply keep_drewN | apply keep_drew | apply keep_alloc | refine keep_far ?_ GW271.out _ | refine keep_far ?_ GW283.out _) | exact HK.out)⟩
              · rw [if_neg c71] at H
                exact absurd H (by simp)
            · rw [if_neg c70] at H
              have c70b0 : (t303 == 1) = false := beq_eq_false_iff_ne.mpr c70
              have c70b1 : (t303 != 1) = true := bne_iff_ne.mpr c70
              by_cases c84 : t303 = 2
              · rw [if_pos c84] at H
                have c84b0 : (t303 == 2) = true := beq_iff_eq.mpr c84
                have c84b1 : (t303 != 2) = false := bne_eq_false_iff_eq.mpr c84
                clear c84
                simp only [Option.some.injEq, Prod.mk.injEq] at H
                obtain ⟨rfl, rfl, rfl, rfl⟩ := H
                have hnb85 := NB283_271.out
                have hnc85 := NB271_283.out
                have hnb86 := NB283_0.out
                have hnc86 := NB0_283.out
                have hcz87_0 : wr.cell? ⟨gb283, 0, none⟩ = some (u284000) := (blk_cell BK283.out 0).trans rfl
                have hcz87_1 : wr.cell? ⟨gb283, 1, none⟩ = some (.slice Ao15 t279.length co15) := (blk_cell BK283.out 1).trans rfl
                have hcz87_2 : wr.cell? ⟨gb283, 2, none⟩ = some (.int .i64 t282) := (blk_cell BK283.out 2).trans rfl
                have hfz87_0 := blk_frozen BK283.out 0
                have hfz87_1 := blk_frozen BK283.out 1
                have hfz87_2 := blk_frozen BK283.out 2
                go_wp2_with (first | ((with_reducible refine gate_callee (f := 67) rfl ?_); refine goesL_ (some 35) rfl rfl Try.func67 (by kernel_rfl) rfl #[.pointer (some ⟨g, 0, none⟩), .int .i64 (t279.length : Int)] rfl (by (try simp only [List.map_toArray, List.map_cons, List.map_nil]); first | done | rfl | (simp only [List.length_drop, List.length_take]; rfl)) ?_; (with_reducible refine (spec_l20Rd_pick.calls k1 g s0_0 x1001_1 (t279.length : Int) t299 t300 w0 _ ?side1 ?side2 A38.out).mono ?_); (case side1 => repeat (first | (with_reducible first | exact HI0.out | apply IsS109.alloc | apply IsS109.drewN | apply IsS109.drew | apply IsS109.set_1 | refine IsS109.far ?_ NB0_271.out _ | refine IsS109.far ?_ NB0_283.out _) | exact HI0.out)); (case side2 => repeat (first | (with_reducible first | exact HB.out | apply below_alloc | apply pw_below_drewN | apply below_drew1 | refine below_set ?_ (IsS109.ge HI0.out) | refine below_set ?_ GE271.out | refine below_set ?_ GE283.out) | exact HB.out)); rintro e w88 ⟨rfl, hi, hb, hk⟩; refine ⟨_, rfl, ?_⟩; have n0_ := Aside0.mk (Kd.Q_mono (Kd.Q_keep (IsS109.apartQ (show IsS109 w0 _ g s0_0 x1001_1 from by repeat (first | (with_reducible first | exact HI0.out | apply IsS109.alloc | apply IsS109.drewN | apply IsS109.drew | apply IsS109.set_1 | refine IsS109.far ?_ NB0_271.out _ | refine IsS109.far ?_ NB0_283.out _) | exact HI0.out)) (by (with_reducible repeat (first | apply Kd.Q_alloc | apply Kd.Q_drewN | apply Kd.Q_drew)); exact HO_284000.out) (by decide)) hk (fun _ h => h.2)) (fun _ h => h.1)); have n1_ := Aside0.mk (Kd.S_mono (Kd.S_keep (IsS109.apartS (show IsS109 w0 _ g s0_0 x1001_1 from by repeat (first | (with_reducible first | exact HI0.out | apply IsS109.alloc | apply IsS109.drewN | apply IsS109.drew | apply IsS109.set_1 | refine IsS109.far ?_ NB0_271.out _ | refine IsS109.far ?_ NB0_283.out _) | exact HI0.out)) (by (with_reducible repeat (first | apply Kd.S_alloc | apply Kd.S_drewN | apply Kd.S_drew)); exact HO_284001.out) (by decide)) hk (fun _ h => h.2)) (fun _ h => h.1)); have n2_ := Aside0.mk (KeepBut.blk hk (g' := gb271) (o := .cells #[.slice none 0 0, .slice none 0 0, .int .i64 0] 42 (0, 0)) (by (with_reducible repeat (first | refine blk_drewN ?_ _ | refine blk_drew ?_ | refine blk_alloc ?_ _)); exact BK271.out) NB271_0.out (by simp)); have n3_ := Aside0.mk (KeepBut.blk hk (g' := gb283) (o := .cells #[u284000, .slice Ao15 t279.length co15, .int .i64 t282] 42 (0, 0)) (by (with_reducible repeat (first | refine blk_drewN ?_ _ | refine blk_drew ?_ | refine blk_alloc ?_ _)); exact BK283.out) NB283_0.out (by simp)); have n4_ := Aside0.mk (KeepBut.trans (by repeat (first | (with_reducible first | exact HK.out | apply KeepBut.set_ | apply keep_drewN | apply keep_drew | apply keep_alloc | refine keep_far ?_ GW271.out _ | refine keep_far ?_ GW283.out _) | exact HK.out)) hk (.inl rfl)); have n5_ := Aside0.mk (hb); have n6_ := Aside0.mk (hi); clear HO_284000; clear HO_284001; clear BK271; clear BK283; clear HK; clear HB; clear HI0; have HO_284000 := n0_; have HO_284001 := n1_; have BK271 := n2_; have BK283 := n3_; have HK := n4_; have HB := n5_; have HI0 := n6_; clear n0_ n1_ n2_ n3_ n4_ n5_ n6_; (try clear hb); (try clear hb2); (try clear hk); (try clear hi); have hcz89_0 : w88.cell? ⟨gb283, 0, none⟩ = some (u284000) := (blk_cell BK283.out 0).trans rfl; have hcz89_1 : w88.cell? ⟨gb283, 1, none⟩ = some (.slice Ao15 t279.length co15) := (blk_cell BK283.out 1).trans rfl; have hcz89_2 : w88.cell? ⟨gb283, 2, none⟩ = some (.int .i64 t282) := (blk_cell BK283.out 2).trans rfl; have hfz89_0 := blk_frozen BK283.out 0; have hfz89_1 := blk_frozen BK283.out 1; have hfz89_2 := blk_frozen BK283.out 2) | ((with_reducible refine gate_callee (f := 86) rfl ?_); refine goesL_ (some 39) rfl rfl Try.func86 (by kernel_rfl) rfl #[.pointer (some ⟨g, 0, none⟩), .int .i64 a1] rfl (by (try simp only [List.map_toArray, List.map_cons, List.map_nil]); first | done | rfl | (simp only [List.length_drop, List.length_take]; rfl)) ?_; (with_reducible refine (spec_l20Rd_odd.calls k1 g s0_0 t300 a1 true t302 w0 _ ?side1 ?side2 A39.out).mono ?_); (case side1 => repeat (first | (with_reducible first | exact HI0.out | apply IsS109.alloc | apply IsS109.drewN | apply IsS109.drew | apply IsS109.set_1 | refine IsS109.far ?_ NB0_271.out _ | refine IsS109.far ?_ NB0_283.out _) | exact HI0.out)); (case side2 => repeat (first | (with_reducible first | exact HB.out | apply below_alloc | apply pw_below_drewN | apply below_drew1 | refine below_set ?_ (IsS109.ge HI0.out) | refine below_set ?_ GE271.out | refine below_set ?_ GE283.out) | exact HB.out)); rintro e w90 ⟨rfl, hi, hb, hk⟩; refine ⟨_, rfl, ?_⟩; have n0_ := Aside0.mk (Kd.Q_mono (Kd.Q_keep (IsS109.apartQ (show IsS109 w0 _ g s0_0 t300 from by repeat (first | (with_reducible first | exact HI0.out | apply IsS109.alloc | apply IsS109.drewN | apply IsS109.drew | apply IsS109.set_1 | refine IsS109.far ?_ NB0_271.out _ | refine IsS109.far ?_ NB0_283.out _) | exact HI0.out)) (by (with_reducible repeat (first | apply Kd.Q_alloc | apply Kd.Q_drewN | apply Kd.Q_drew)); exact (Kd.Q_mono (Kd.Q_far (p := ⟨gb283, 2, none⟩) (Kd.Q_types HO_284000.out BK283.out (by decide)) (fun _ hk => hk.2) (.int .i64 t299)) (fun _ h_ => h_.1))) (by decide)) hk (fun _ h => h.2)) (fun _ h => h.1)); have n1_ := Aside0.mk (Kd.S_mono (Kd.S_keep (IsS109.apartS (show IsS109 w0 _ g s0_0 t300 from by repeat (first | (with_reducible first | exact HI0.out | apply IsS109.alloc | apply IsS109.drewN | apply IsS109.drew | apply IsS109.set_1 | refine IsS109.far ?_ NB0_271.out _ | refine IsS109.far ?_ NB0_283.out _) | exact HI0.out)) (by (with_reducible repeat (first | apply Kd.S_alloc | apply Kd.S_drewN | apply Kd.S_drew)); exact (Kd.S_mono (Kd.S_far (p := ⟨gb283, 2, none⟩) (Kd.S_types HO_284001.out BK283.out (by decide)) (fun _ hk => hk.2) (.int .i64 t299)) (fun _ h_ => h_.1))) (by decide)) hk (fun _ h => h.2)) (fun _ h => h.1)); have n2_ := Aside0.mk (KeepBut.blk hk (g' := gb271) (o := .cells #[.slice none 0 0, .slice none 0 0, .int .i64 0] 42 (0, 0)) (by (with_reducible repeat (first | refine blk_drewN ?_ _ | refine blk_drew ?_ | refine blk_alloc ?_ _)); refine blk_far ?_ NB271_283.out _; (with_reducible repeat (first | refine blk_drewN ?_ _ | refine blk_drew ?_ | refine blk_alloc ?_ _)); exact BK271.out) NB271_0.out (by simp)); have n3_ := Aside0.mk (KeepBut.blk hk (g' := gb283) (o := .cells #[u284000, .slice Ao15 t279.length co15, .int .i64 t299] 42 (0, 0)) (by (with_reducible repeat (first | refine blk_drewN ?_ _ | refine blk_drew ?_ | refine blk_alloc ?_ _)); refine blk_put (cs := #[u284000, .slice Ao15 t279.length co15, .int .i64 t282]) ?_ 2 _ rfl; (with_reducible repeat (first | refine blk_drewN ?_ _ | refine blk_drew ?_ | refine blk_alloc ?_ _)); exact BK283.out) NB283_0.out (by simp)); have n4_ := Aside0.mk (KeepBut.trans (by repeat (first | (with_reducible first | exact HK.out | apply KeepBut.set_ | apply keep_drewN | apply keep_drew | apply keep_alloc | refine keep_far ?_ GW271.out _ | refine keep_far ?_ GW283.out _) | exact HK.out)) hk (.inl rfl)); have n5_ := Aside0.mk (hb); have n6_ := Aside0.mk (hi); clear HO_284000; clear HO_284001; clear BK271; clear BK283; clear HK; clear HB; clear HI0; have HO_284000 := n0_; have HO_284001 := n1_; have BK271 := n2_; have BK283 := n3_; have HK := n4_; have HB := n5_; have HI0 := n6_; clear n0_ n1_ n2_ n3_ n4_ n5_ n6_; (try clear hb); (try clear hb2); (try clear hk); (try clear hi)) | ((with_reducible refine gate_callee (f := 67) rfl ?_); refine goesL_ (some 41) rfl rfl Try.func67 (by kernel_rfl) rfl #[.pointer (some ⟨g, 0, none⟩), .int .i64 4] rfl (by (try simp only [List.map_toArray, List.map_cons, List.map_nil]); first | done | rfl | (simp only [List.length_drop, List.length_take]; rfl)) ?_; (with_reducible refine (spec_l20Rd_pick.calls k1 g s0_0 t302 4 t303 t304 w0 _ ?side1 ?side2 A41.out).mono ?_); (case side1 => repeat (first | (with_reducible first | exact HI0.out | apply IsS109.alloc | apply IsS109.drewN | apply IsS109.drew | apply IsS109.set_1 | refine IsS109.far ?_ NB0_271.out _ | refine IsS109.far ?_ NB0_283.out _) | exact HI0.out)); (case side2 => repeat (first | (with_reducible first | exact HB.out | apply below_alloc | apply pw_below_drewN | apply below_drew1 | refine below_set ?_ (IsS109.ge HI0.out) | refine below_set ?_ GE271.out | refine below_set ?_ GE283.out) | exact HB.out)); rintro e w91 ⟨rfl, hi, hb, hk⟩; refine ⟨_, rfl, ?_⟩; have n0_ := Aside0.mk (Kd.Q_mono (Kd.Q_keep (IsS109.apartQ (show IsS109 w0 _ g s0_0 t302 from by repeat (first | (with_reducible first | exact HI0.out | apply IsS109.alloc | apply IsS109.drewN | apply IsS109.drew | apply IsS109.set_1 | refine IsS109.far ?_ NB0_271.out _ | refine IsS109.far ?_ NB0_283.out _) | exact HI0.out)) (by (with_reducible repeat (first | apply Kd.Q_alloc | apply Kd.Q_drewN | apply Kd.Q_drew)); exact HO_284000.out) (by decide)) hk (fun _ h => h.2)) (fun _ h => h.1)); have n1_ := Aside0.mk (Kd.S_mono (Kd.S_keep (IsS109.apartS (show IsS109 w0 _ g s0_0 t302 from by repeat (first | (with_reducible first | exact HI0.out | apply IsS109.alloc | apply IsS109.drewN | apply IsS109.drew | apply IsS109.set_1 | refine IsS109.far ?_ NB0_271.out _ | refine IsS109.far ?_ NB0_283.out _) | exact HI0.out)) (by (with_reducible repeat (first | apply Kd.S_alloc | apply Kd.S_drewN | apply Kd.S_drew)); exact HO_284001.out) (by decide)) hk (fun _ h => h.2)) (fun _ h => h.1)); have n2_ := Aside0.mk (KeepBut.blk hk (g' := gb271) (o := .cells #[.slice none 0 0, .slice none 0 0, .int .i64 0] 42 (0, 0)) (by (with_reducible repeat (first | refine blk_drewN ?_ _ | refine blk_drew ?_ | refine blk_alloc ?_ _)); exact BK271.out) NB271_0.out (by simp)); have n3_ := Aside0.mk (KeepBut.blk hk (g' := gb283) (o := .cells #[u284000, .slice Ao15 t279.length co15, .int .i64 t299] 42 (0, 0)) (by (with_reducible repeat (first | refine blk_drewN ?_ _ | refine blk_drew ?_ | refine blk_alloc ?_ _)); exact BK283.out) NB283_0.out (by simp)); have n4_ := Aside0.mk (KeepBut.trans (by repeat (first | (with_reducible first | exact HK.out | apply KeepBut.set_ | apply keep_drewN | apply keep_drew | apply keep_alloc | refine keep_far ?_ GW271.out _ | refine keep_far ?_ GW283.out _) | exact HK.out)) hk (.inl rfl)); have n5_ := Aside0.mk (hb); have n6_ := Aside0.mk (hi); clear HO_284000; clear HO_284001; clear BK271; clear BK283; clear HK; clear HB; clear HI0; have HO_284000 := n0_; have HO_284001 := n1_; have BK271 := n2_; have BK283 := n3_; have HK := n4_; have HB := n5_; have HI0 := n6_; clear n0_ n1_ n2_ n3_ n4_ n5_ n6_; (try clear hb); (try clear hb2); (try clear hk); (try clear hi); have hcz92_0 : w91.cell? ⟨gb283, 0, none⟩ = some (u284000) := (blk_cell BK283.out 0).trans rfl; have hcz92_1 : w91.cell? ⟨gb283, 1, none⟩ = some (.slice Ao15 t279.length co15) := (blk_cell BK283.out 1).trans rfl; have hcz92_2 : w91.cell? ⟨gb283, 2, none⟩ = some (.int .i64 t299) := (blk_cell BK283.out 2).trans rfl; have hfz92_0 := blk_frozen BK283.out 0; have hfz92_1 := blk_frozen BK283.out 1; have hfz92_2 := blk_frozen BK283.out 2; obtain ⟨Ao93, co93, eo93, _⟩ := Kd.Q_slice HO_284000.out; subst eo93; have hnb94 := NB271_0.out; have hnc94 := NB0_271.out; have hcz95_0 : w91.cell? ⟨gb271, 0, none⟩ = some (.slice none 0 0) := (blk_cell BK271.out 0).trans rfl; have hcz95_1 : w91.cell? ⟨gb271, 1, none⟩ = some (.slice none 0 0) := (blk_cell BK271.out 1).trans rfl; have hcz95_2 : w91.cell? ⟨gb271, 2, none⟩ = some (.int .i64 0) := (blk_cell BK271.out 2).trans rfl; have hfz95_0 := blk_frozen BK271.out 0; have hfz95_1 := blk_frozen BK271.out 1; have hfz95_2 := blk_frozen BK271.out 2))
                refine bodyPost_ret (results_cell_row rfl _ _ gb271 42 #[.slice Ao93 x284000_1.length co93, .slice Ao15 t279.length co15, .int .i64 (t279.length : Int)] (0, 0) _ rfl (by (with_reducible repeat (first | refine blk_drewN ?_ _ | refine blk_drew ?_ | refine blk_alloc ?_ _)); refine blk_put (cs := #[.slice Ao93 x284000_1.length co93, .slice Ao15 t279.length co15, .int .i64 0]) ?_ 2 _ rfl; (with_reducible repeat (first | refine blk_drewN ?_ _ | refine blk_drew ?_ | refine blk_alloc ?_ _)); refine blk_put (cs := #[.slice Ao93 x284000_1.length co93, .slice none 0 0, .int .i64 0]) ?_ 1 _ rfl; (with_reducible repeat (first | refine blk_drewN ?_ _ | refine blk_drew ?_ | refine blk_alloc ?_ _)); refine blk_put (cs := #[.slice none 0 0, .slice none 0 0, .int .i64 0]) ?_ 0 _ rfl; (with_reducible repeat (first | refine blk_drewN ?_ _ | refine blk_drew ?_ | refine blk_alloc ?_ _)); refine blk_far ?_ NB271_283.out _; (with_reducible repeat (first | refine blk_drewN ?_ _ | refine blk_drew ?_ | refine blk_alloc ?_ _)); exact BK271.out) Try.underlying42 rfl (by kernel_rfl)) rfl ?_
                exact ⟨_, _, by first | rfl | (simp [errW_none, errW_some] <;> rfl) | (simp [*, errW_none, errW_some] <;> rfl), by (with_reducible repeat (first | apply Kd.Q_alloc | apply Kd.Q_drewN | apply Kd.Q_drew)); exact Kd.Q_mono (Kd.Q_far (p := ⟨gb271, 2, none⟩) (Kd.Q_far (p := ⟨gb271, 1, none⟩) (Kd.Q_far (p := ⟨gb271, 0, none⟩) (Kd.Q_far (p := ⟨gb283, 2, none⟩) (Kd.Q_types (Kd.Q_types HO_284000.out BK283.out (by decide)) BK271.out (by decide)) (fun _ hk => hk.1.2) (.int .i64 (t279.length : Int))) (fun _ hk => hk.2) (.slice Ao93 x284000_1.length co93)) (fun _ hk => hk.2) (.slice Ao15 t279.length co15)) (fun _ hk => hk.2) (.int .i64 (t279.length : Int))) (fun _ hk => trivial), by (with_reducible repeat (first | apply Kd.S_alloc | apply Kd.S_drewN | apply Kd.S_drew)); exact Kd.S_mono (Kd.S_far (p := ⟨gb271, 2, none⟩) (Kd.S_far (p := ⟨gb271, 1, none⟩) (Kd.S_far (p := ⟨gb271, 0, none⟩) (Kd.S_far (p := ⟨gb283, 2, none⟩) (Kd.S_types (Kd.S_types HO_284001.out BK283.out (by decide)) BK271.out (by decide)) (fun _ hk => hk.1.2) (.int .i64 (t279.length : Int))) (fun _ hk => hk.2) (.slice Ao93 x284000_1.length co93)) (fun _ hk => hk.2) (.slice Ao15 t279.length co15)) (fun _ hk => hk.2) (.int .i64 (t279.length : Int))) (fun _ hk => hk.1.1), by repeat (first | (with_reducible first | exact HI0.out | apply IsS109.alloc | apply IsS109.drewN | apply IsS109.drew | apply IsS109.set_1 | refine IsS109.far ?_ NB0_271.out _ | refine IsS109.far ?_ NB0_283.out _) | exact HI0.out), by repeat (first | (with_reducible first | exact HB.out | apply below_alloc | apply pw_below_drewN | apply below_drew1 | refine below_set ?_ (IsS109.ge HI0.out) | refine below_set ?_ GE271.out | refine below_set ?_ GE283.out) | exact HB.out), by repeat (first | (with_reducible first | exact HK.out | apply KeepBut.set_ | apply keep_drewN | apply keep_drew | apply keep_alloc | refine keep_far ?_ GW271.out _ | refine keep_far ?_ GW283.out _) | exact HK.out)⟩
              · rw [if_neg c84] at H
                have c84b0 : (t303 == 2) = false := beq_eq_false_iff_ne.mpr c84
                have c84b1 : (t303 != 2) = true := bne_iff_ne.mpr c84
                obtain ⟨y317, hy317⟩ : ∃ y_ : List (List Int), y_ = (([] : List (List Int))) := ⟨_, rfl⟩
                replace H : (some (x284000_1, y317, t299, t304)) = some (r1, r2, r3, r4) := by first | (rw [hy317]; with_reducible exact H) | (have H2_ := (Option.bind_some _ _).symm.trans H; rw [hy317]; with_reducible exact H2_) | (have H2_ := (Option.bind_some _ _).symm.trans H; with_reducible exact H2_) | with_reducible exact H | (rw [hy317]; exact H) | exact H
                have Ny317 := Aside0.mk hy317
                clear hy317
                simp only [Option.some.injEq, Prod.mk.injEq] at H
                obtain ⟨rfl, rfl, rfl, rfl⟩ := H
                have hnb96 := NB283_271.out
                have hnc96 := NB271_283.out
                have hnb97 := NB283_0.out
                have hnc97 := NB0_283.out
                have hcz98_0 : wr.cell? ⟨gb283, 0, none⟩ = some (u284000) := (blk_cell BK283.out 0).trans rfl
                have hcz98_1 : wr.cell? ⟨gb283, 1, none⟩ = some (.slice Ao15 t279.length co15) := (blk_cell BK283.out 1).trans rfl
                have hcz98_2 : wr.cell? ⟨gb283, 2, none⟩ = some (.int .i64 t282) := (blk_cell BK283.out 2).trans rfl
                have hfz98_0 := blk_frozen BK283.out 0
                have hfz98_1 := blk_frozen BK283.out 1
                have hfz98_2 := blk_frozen BK283.out 2
                go_wp2_with (first | ((with_reducible refine gate_callee (f := 67) rfl ?_); refine goesL_ (some 35) rfl rfl Try.func67 (by kernel_rfl) rfl #[.pointer (some ⟨g, 0, none⟩), .int .i64 (t279.length : Int)] rfl (by (try simp only [List.map_toArray, List.map_cons, List.map_nil]); first | done | rfl | (simp only [List.length_drop, List.length_take]; rfl)) ?_; (with_reducible refine (spec_l20Rd_pick.calls k1 g s0_0 x1001_1 (t279.length : Int) t299 t300 w0 _ ?side1 ?side2 A38.out).mono ?_); (case side1 => repeat (first | (with_reducible first | exact HI0.out | apply IsS109.alloc | apply IsS109.drewN | apply IsS109.drew | apply IsS109.set_1 | refine IsS109.far ?_ NB0_271.out _ | refine IsS109.far ?_ NB0_283.out _) | exact HI0.out)); (case side2 => repeat (first | (with_reducible first | exact HB.out | apply below_alloc | apply pw_below_drewN | apply below_drew1 | refine below_set ?_ (IsS109.ge HI0.out) | refine below_set ?_ GE271.out | refine below_set ?_ GE283.out) | exact HB.out)); rintro e w99 ⟨rfl, hi, hb, hk⟩; refine ⟨_, rfl, ?_⟩; have n0_ := Aside0.mk (Kd.Q_mono (Kd.Q_keep (IsS109.apartQ (show IsS109 w0 _ g s0_0 x1001_1 from by repeat (first | (with_reducible first | exact HI0.out | apply IsS109.alloc | apply IsS109.drewN | apply IsS109.drew | apply IsS109.set_1 | refine IsS109.far ?_ NB0_271.out _ | refine IsS109.far ?_ NB0_283.out _) | exact HI0.out)) (by (with_reducible repeat (first | apply Kd.Q_alloc | apply Kd.Q_drewN | apply Kd.Q_drew)); exact HO_284000.out) (by decide)) hk (fun _ h => h.2)) (fun _ h => h.1)); have n1_ := Aside0.mk (Kd.S_mono (Kd.S_keep (IsS109.apartS (show IsS109 w0 _ g s0_0 x1001_1 from by repeat (first | (with_reducible first | exact HI0.out | apply IsS109.alloc | apply IsS109.drewN | apply IsS109.drew | apply IsS109.set_1 | refine IsS109.far ?_ NB0_271.out _ | refine IsS109.far ?_ NB0_283.out _) | exact HI0.out)) (by (with_reducible repeat (first | apply Kd.S_alloc | apply Kd.S_drewN | apply Kd.S_drew)); exact HO_284001.out) (by decide)) hk (fun _ h => h.2)) (fun _ h => h.1)); have n2_ := Aside0.mk (KeepBut.blk hk (g' := gb271) (o := .cells #[.slice none 0 0, .slice none 0 0, .int .i64 0] 42 (0, 0)) (by (with_reducible repeat (first | refine blk_drewN ?_ _ | refine blk_drew ?_ | refine blk_alloc ?_ _)); exact BK271.out) NB271_0.out (by simp)); have n3_ := Aside0.mk (KeepBut.blk hk (g' := gb283) (o := .cells #[u284000, .slice Ao15 t279.length co15, .int .i64 t282] 42 (0, 0)) (by (with_reducible repeat (first | refine blk_drewN ?_ _ | refine blk_drew ?_ | refine blk_alloc ?_ _)); exact BK283.out) NB283_0.out (by simp)); have n4_ := Aside0.mk (KeepBut.trans (by repeat (first | (with_reducible first | exact HK.out | apply KeepBut.set_ | apply keep_drewN | apply keep_drew | apply keep_alloc | refine keep_far ?_ GW271.out _ | refine keep_far ?_ GW283.out _) | exact HK.out)) hk (.inl rfl)); have n5_ := Aside0.mk (hb); have n6_ := Aside0.mk (hi); clear HO_284000; clear HO_284001; clear BK271; clear BK283; clear HK; clear HB; clear HI0; have HO_284000 := n0_; have HO_284001 := n1_; have BK271 := n2_; have BK283 := n3_; have HK := n4_; have HB := n5_; have HI0 := n6_; clear n0_ n1_ n2_ n3_ n4_ n5_ n6_; (try clear hb); (try clear hb2); (try clear hk); (try clear hi); have hcz100_0 : w99.cell? ⟨gb283, 0, none⟩ = some (u284000) := (blk_cell BK283.out 0).trans rfl; have hcz100_1 : w99.cell? ⟨gb283, 1, none⟩ = some (.slice Ao15 t279.length co15) := (blk_cell BK283.out 1).trans rfl; have hcz100_2 : w99.cell? ⟨gb283, 2, none⟩ = some (.int .i64 t282) := (blk_cell BK283.out 2).trans rfl; have hfz100_0 := blk_frozen BK283.out 0; have hfz100_1 := blk_frozen BK283.out 1; have hfz100_2 := blk_frozen BK283.out 2) | ((with_reducible refine gate_callee (f := 86) rfl ?_); refine goesL_ (some 39) rfl rfl Try.func86 (by kernel_rfl) rfl #[.pointer (some ⟨g, 0, none⟩), .int .i64 a1] rfl (by (try simp only [List.map_toArray, List.map_cons, List.map_nil]); first | done | rfl | (simp only [List.length_drop, List.length_take]; rfl)) ?_; (with_reducible refine (spec_l20Rd_odd.calls k1 g s0_0 t300 a1 true t302 w0 _ ?side1 ?side2 A39.out).mono ?_); (case side1 => repeat (first | (with_reducible first | exact HI0.out | apply IsS109.alloc | apply IsS109.drewN | apply IsS109.drew | apply IsS109.set_1 | refine IsS109.far ?_ NB0_271.out _ | refine IsS109.far ?_ NB0_283.out _) | exact HI0.out)); (case side2 => repeat (first | (with_reducible first | exact HB.out | apply below_alloc | apply pw_below_drewN | apply below_drew1 | refine below_set ?_ (IsS109.ge HI0.out) | refine below_set ?_ GE271.out | refine below_set ?_ GE283.out) | exact HB.out)); rintro e w101 ⟨rfl, hi, hb, hk⟩; refine ⟨_, rfl, ?_⟩; have n0_ := Aside0.mk (Kd.Q_mono (Kd.Q_keep (IsS109.apartQ (show IsS109 w0 _ g s0_0 t300 from by repeat (first | (with_reducible first | exact HI0.out | apply IsS109.alloc | apply IsS109.drewN | apply IsS109.drew | apply IsS109.set_1 | refine IsS109.far ?_ NB0_271.out _ | refine IsS109.far ?_ NB0_283.out _) | exact HI0.out)) (by (with_reducible repeat (first | apply Kd.Q_alloc | apply Kd.Q_drewN | apply Kd.Q_drew)); exact (Kd.Q_mono (Kd.Q_far (p := ⟨gb283, 2, none⟩) (Kd.Q_types HO_284000.out BK283.out (by decide)) (fun _ hk => hk.2) (.int .i64 t299)) (fun _ h_ => h_.1))) (by decide)) hk (fun _ h => h.2)) (fun _ h => h.1)); have n1_ := Aside0.mk (Kd.S_mono (Kd.S_keep (IsS109.apartS (show IsS109 w0 _ g s0_0 t300 from by repeat (first | (with_reducible first | exact HI0.out | apply IsS109.alloc | apply IsS109.drewN | apply IsS109.drew | apply IsS109.set_1 | refine IsS109.far ?_ NB0_271.out _ | refine IsS109.far ?_ NB0_283.out _) | exact HI0.out)) (by (with_reducible repeat (first | apply Kd.S_alloc | apply Kd.S_drewN | apply Kd.S_drew)); exact (Kd.S_mono (Kd.S_far (p := ⟨gb283, 2, none⟩) (Kd.S_types HO_284001.out BK283.out (by decide)) (fun _ hk => hk.2) (.int .i64 t299)) (fun _ h_ => h_.1))) (by decide)) hk (fun _ h => h.2)) (fun _ h => h.1)); have n2_ := Aside0.mk (KeepBut.blk hk (g' := gb271) (o := .cells #[.slice none 0 0, .slice none 0 0, .int .i64 0] 42 (0, 0)) (by (with_reducible repeat (first | refine blk_drewN ?_ _ | refine blk_drew ?_ | refine blk_alloc ?_ _)); refine blk_far ?_ NB271_283.out _; (with_reducible repeat (first | refine blk_drewN ?_ _ | refine blk_drew ?_ | refine blk_alloc ?_ _)); exact BK271.out) NB271_0.out (by simp)); have n3_ := Aside0.mk (KeepBut.blk hk (g' := gb283) (o := .cells #[u284000, .slice Ao15 t279.length co15, .int .i64 t299] 42 (0, 0)) (by (with_reducible repeat (first | refine blk_drewN ?_ _ | refine blk_drew ?_ | refine blk_alloc ?_ _)); refine blk_put (cs := #[u284000, .slice Ao15 t279.length co15, .int .i64 t282]) ?_ 2 _ rfl; (with_reducible repeat (first | refine blk_drewN ?_ _ | refine blk_drew ?_ | refine blk_alloc ?_ _)); exact BK283.out) NB283_0.out (by simp)); have n4_ := Aside0.mk (KeepBut.trans (by repeat (first | (with_reducible first | exact HK.out | apply KeepBut.set_ | apply keep_drewN | apply keep_drew | apply keep_alloc | refine keep_far ?_ GW271.out _ | refine keep_far ?_ GW283.out _) | exact HK.out)) hk (.inl rfl)); have n5_ := Aside0.mk (hb); have n6_ := Aside0.mk (hi); clear HO_284000; clear HO_284001; clear BK271; clear BK283; clear HK; clear HB; clear HI0; have HO_284000 := n0_; have HO_284001 := n1_; have BK271 := n2_; have BK283 := n3_; have HK := n4_; have HB := n5_; have HI0 := n6_; clear n0_ n1_ n2_ n3_ n4_ n5_ n6_; (try clear hb); (try clear hb2); (try clear hk); (try clear hi)) | ((with_reducible refine gate_callee (f := 67) rfl ?_); refine goesL_ (some 41) rfl rfl Try.func67 (by kernel_rfl) rfl #[.pointer (some ⟨g, 0, none⟩), .int .i64 4] rfl (by (try simp only [List.map_toArray, List.map_cons, List.map_nil]); first | done | rfl | (simp only [List.length_drop, List.length_take]; rfl)) ?_; (with_reducible refine (spec_l20Rd_pick.calls k1 g s0_0 t302 4 t303 t304 w0 _ ?side1 ?side2 A41.out).mono ?_); (case side1 => repeat (first | (with_reducible first | exact HI0.out | apply IsS109.alloc | apply IsS109.drewN | apply IsS109.drew | apply IsS109.set_1 | refine IsS109.far ?_ NB0_271.out _ | refine IsS109.far ?_ NB0_283.out _) | exact HI0.out)); (case side2 => repeat (first | (with_reducible first | exact HB.out | apply below_alloc | apply pw_below_drewN | apply below_drew1 | refine below_set ?_ (IsS109.ge HI0.out) | refine below_set ?_ GE271.out | refine below_set ?_ GE283.out) | exact HB.out)); rintro e w102 ⟨rfl, hi, hb, hk⟩; refine ⟨_, rfl, ?_⟩; have n0_ := Aside0.mk (Kd.Q_mono (Kd.Q_keep (IsS109.apartQ (show IsS109 w0 _ g s0_0 t302 from by repeat (first | (with_reducible first | exact HI0.out | apply IsS109.alloc | apply IsS109.drewN | apply IsS109.drew | apply IsS109.set_1 | refine IsS109.far ?_ NB0_271.out _ | refine IsS109.far ?_ NB0_283.out _) | exact HI0.out)) (by (with_reducible repeat (first | apply Kd.Q_alloc | apply Kd.Q_drewN | apply Kd.Q_drew)); exact HO_284000.out) (by decide)) hk (fun _ h => h.2)) (fun _ h => h.1)); have n1_ := Aside0.mk (Kd.S_mono (Kd.S_keep (IsS109.apartS (show IsS109 w0 _ g s0_0 t302 from by repeat (first | (with_reducible first | exact HI0.out | apply IsS109.alloc | apply IsS109.drewN | apply IsS109.drew | apply IsS109.set_1 | refine IsS109.far ?_ NB0_271.out _ | refine IsS109.far ?_ NB0_283.out _) | exact HI0.out)) (by (with_reducible repeat (first | apply Kd.S_alloc | apply Kd.S_drewN | apply Kd.S_drew)); exact HO_284001.out) (by decide)) hk (fun _ h => h.2)) (fun _ h => h.1)); have n2_ := Aside0.mk (KeepBut.blk hk (g' := gb271) (o := .cells #[.slice none 0 0, .slice none 0 0, .int .i64 0] 42 (0, 0)) (by (with_reducible repeat (first | refine blk_drewN ?_ _ | refine blk_drew ?_ | refine blk_alloc ?_ _)); exact BK271.out) NB271_0.out (by simp)); have n3_ := Aside0.mk (KeepBut.blk hk (g' := gb283) (o := .cells #[u284000, .slice Ao15 t279.length co15, .int .i64 t299] 42 (0, 0)) (by (with_reducible repeat (first | refine blk_drewN ?_ _ | refine blk_drew ?_ | refine blk_alloc ?_ _)); exact BK283.out) NB283_0.out (by simp)); have n4_ := Aside0.mk (KeepBut.trans (by repeat (first | (with_reducible first | exact HK.out | apply KeepBut.set_ | apply keep_drewN | apply keep_drew | apply keep_alloc | refine keep_far ?_ GW271.out _ | refine keep_far ?_ GW283.out _) | exact HK.out)) hk (.inl rfl)); have n5_ := Aside0.mk (hb); have n6_ := Aside0.mk (hi); clear HO_284000; clear HO_284001; clear BK271; clear BK283; clear HK; clear HB; clear HI0; have HO_284000 := n0_; have HO_284001 := n1_; have BK271 := n2_; have BK283 := n3_; have HK := n4_; have HB := n5_; have HI0 := n6_; clear n0_ n1_ n2_ n3_ n4_ n5_ n6_; (try clear hb); (try clear hb2); (try clear hk); (try clear hi)) | ((with_reducible refine gate_dst (N := 42) rfl ?_); refine Kd.S_lit (Kd.slice 3 (Kd.int .i64)) _ 22 ?hg (N := 42) ?hd (xs := ([] : List (List Int))) (inner := []) (ok := fun _ => True) (okp := fun _ => True) ?hr ?hp (fun _ hk => hk) trivial (Below.refl _ _) (Nat.le_refl _) (by simp) ?_; (case hd => rfl); (case hg => rfl); (case hr => first | (go_simp; done) | (go_simp; rfl)); (case hp => exact (Reps.none _ _)); intro v318 w103 ho104 hb hg_ hnew_; clear hg_ hnew_; (first | rw [← Ny317.out] at ho104 | (simp only [Int.reduceToNat] at ho104; rw [← Ny317.out] at ho104)); have n0_ := Aside0.mk (Kd.Q_below (by (with_reducible repeat (first | apply Kd.Q_alloc | apply Kd.Q_drewN | apply Kd.Q_drew)); exact HO_284000.out) hb); have n1_ := Aside0.mk (Kd.S_elder' (by (with_reducible repeat (first | apply Kd.S_alloc | apply Kd.S_drewN | apply Kd.S_drew)); exact HO_284001.out) (Kd.S_base ho104) hb); have n2_ := Aside0.mk (Kd.S_lower (Kd.S_new' (Kd.S_new' ho104 (Kd.Q_lt (by (with_reducible repeat (first | apply Kd.Q_alloc | apply Kd.Q_drewN | apply Kd.Q_drew)); exact HO_284000.out))) (Kd.S_lt (by (with_reducible repeat (first | apply Kd.S_alloc | apply Kd.S_drewN | apply Kd.S_drew)); exact HO_284001.out))) (keep_size (w := w) (g := g) (row := none) (by repeat (first | (with_reducible first | exact HK.out | apply KeepBut.set_ | apply keep_drewN | apply keep_drew | apply keep_alloc | refine keep_far ?_ GW271.out _ | refine keep_far ?_ GW283.out _) | exact HK.out)))); have n3_ := Aside0.mk (blk_below (g := gb271) (o := .cells #[.slice none 0 0, .slice none 0 0, .int .i64 0] 42 (0, 0)) (by (with_reducible repeat (first | refine blk_drewN ?_ _ | refine blk_drew ?_ | refine blk_alloc ?_ _)); exact BK271.out) hb); have n4_ := Aside0.mk (blk_below (g := gb283) (o := .cells #[u284000, .slice Ao15 t279.length co15, .int .i64 t299] 42 (0, 0)) (by (with_reducible repeat (first | refine blk_drewN ?_ _ | refine blk_drew ?_ | refine blk_alloc ?_ _)); exact BK283.out) hb); have n5_ := Aside0.mk (IsS109.below (by repeat (first | (with_reducible first | exact HI0.out | apply IsS109.alloc | apply IsS109.drewN | apply IsS109.drew | apply IsS109.set_1 | refine IsS109.far ?_ NB0_271.out _ | refine IsS109.far ?_ NB0_283.out _) | exact HI0.out)) hb); have n6_ := Aside0.mk (KeepBut.trans (by repeat (first | (with_reducible first | exact HK.out | apply KeepBut.set_ | apply keep_drewN | apply keep_drew | apply keep_alloc | refine keep_far ?_ GW271.out _ | refine keep_far ?_ GW283.out _) | exact HK.out)) (KeepBut.of_below hb g none) (.inl rfl)); have n7_ := Aside0.mk (below_step (by repeat (first | (with_reducible first | exact HB.out | apply below_alloc | apply pw_below_drewN | apply below_drew1 | refine below_set ?_ (IsS109.ge HI0.out) | refine below_set ?_ GE271.out | refine below_set ?_ GE283.out) | exact HB.out)) hb); clear HO_284000; clear HO_284001; clear BK271; clear BK283; clear HI0; clear HK; clear HB; have HO_284000 := n0_; have HO_284001 := n1_; have HO319 := n2_; have BK271 := n3_; have BK283 := n4_; have HI0 := n5_; have HK := n6_; have HB := n7_; clear n0_ n1_ n2_ n3_ n4_ n5_ n6_ n7_; clear hb ho104; obtain ⟨Ao105, co105, eo105⟩ := Kd.S_slice HO319.out; subst eo105; have hcz106_0 : w103.cell? ⟨gb283, 0, none⟩ = some (u284000) := (blk_cell BK283.out 0).trans rfl; have hcz106_1 : w103.cell? ⟨gb283, 1, none⟩ = some (.slice Ao15 t279.length co15) := (blk_cell BK283.out 1).trans rfl; have hcz106_2 : w103.cell? ⟨gb283, 2, none⟩ = some (.int .i64 t299) := (blk_cell BK283.out 2).trans rfl; have hfz106_0 := blk_frozen BK283.out 0; have hfz106_1 := blk_frozen BK283.out 1; have hfz106_2 := blk_frozen BK283.out 2; obtain ⟨Ao107, co107, eo107, _⟩ := Kd.Q_slice HO_284000.out; subst eo107; have hnb108 := NB271_0.out; have hnc108 := NB0_271.out; have hcz109_0 : w103.cell? ⟨gb271, 0, none⟩ = some (.slice none 0 0) := (blk_cell BK271.out 0).trans rfl; have hcz109_1 : w103.cell? ⟨gb271, 1, none⟩ = some (.slice none 0 0) := (blk_cell BK271.out 1).trans rfl; have hcz109_2 : w103.cell? ⟨gb271, 2, none⟩ = some (.int .i64 0) := (blk_cell BK271.out 2).trans rfl; have hfz109_0 := blk_frozen BK271.out 0; have hfz109_1 := blk_frozen BK271.out 1; have hfz109_2 := blk_frozen BK271.out 2))
                refine bodyPost_ret (results_cell_row rfl _ _ gb271 42 #[.slice Ao107 x284000_1.length co107, .slice Ao105 y317.length co105, .int .i64 t299] (0, 0) _ rfl (by (with_reducible repeat (first | refine blk_drewN ?_ _ | refine blk_drew ?_ | refine blk_alloc ?_ _)); refine blk_put (cs := #[.slice Ao107 x284000_1.length co107, .slice Ao105 y317.length co105, .int .i64 0]) ?_ 2 _ rfl; (with_reducible repeat (first | refine blk_drewN ?_ _ | refine blk_drew ?_ | refine blk_alloc ?_ _)); refine blk_put (cs := #[.slice Ao107 x284000_1.length co107, .slice none 0 0, .int .i64 0]) ?_ 1 _ rfl; (with_reducible repeat (first | refine blk_drewN ?_ _ | refine blk_drew ?_ | refine blk_alloc ?_ _)); refine blk_put (cs := #[.slice none 0 0, .slice none 0 0, .int .i64 0]) ?_ 0 _ rfl; (with_reducible repeat (first | refine blk_drewN ?_ _ | refine blk_drew ?_ | refine blk_alloc ?_ _)); refine blk_far ?_ NB271_283.out _; (with_reducible repeat (first | refine blk_drewN ?_ _ | refine blk_drew ?_ | refine blk_alloc ?_ _)); exact BK271.out) Try.underlying42 rfl (by kernel_rfl)) rfl ?_
                exact ⟨_, _, by first | rfl | (simp [errW_none, errW_some] <;> rfl) | (simp [*, errW_none, errW_some] <;> rfl), by (with_reducible repeat (first | apply Kd.Q_alloc | apply Kd.Q_drewN | apply Kd.Q_drew)); exact Kd.Q_mono (Kd.Q_far (p := ⟨gb271, 2, none⟩) (Kd.Q_far (p := ⟨gb271, 1, none⟩) (Kd.Q_far (p := ⟨gb271, 0, none⟩) (Kd.Q_far (p := ⟨gb283, 1, none⟩) (Kd.Q_types (Kd.Q_types HO_284000.out BK283.out (by decide)) BK271.out (by decide)) (fun _ hk => hk.1.2) (.slice Ao105 y317.length co105)) (fun _ hk => hk.2) (.slice Ao107 x284000_1.length co107)) (fun _ hk => hk.2) (.slice Ao105 y317.length co105)) (fun _ hk => hk.2) (.int .i64 t299)) (fun _ hk => trivial), by (with_reducible repeat (first | apply Kd.S_alloc | apply Kd.S_drewN | apply Kd.S_drew)); exact Kd.S_mono (Kd.S_far (p := ⟨gb271, 2, none⟩) (Kd.S_far (p := ⟨gb271, 1, none⟩) (Kd.S_far (p := ⟨gb271, 0, none⟩) (Kd.S_far (p := ⟨gb283, 1, none⟩) (Kd.S_types (Kd.S_types HO319.out BK283.out (by decide)) BK271.out (by decide)) (fun _ hk => hk.1.2) (.slice Ao105 y317.length co105)) (fun _ hk => hk.2) (.slice Ao107 x284000_1.length co107)) (fun _ hk => hk.2) (.slice Ao105 y317.length co105)) (fun _ hk => hk.2) (.int .i64 t299)) (fun _ hk => hk.1.1.1.2), by repeat (first | (with_reducible first | exact HI0.out | apply IsS109.alloc | apply IsS109.drewN | apply IsS109.drew | apply IsS109.set_1 | refine IsS109.far ?_ NB0_271.out _ | refine IsS109.far ?_ NB0_283.out _) | exact HI0.out), by repeat (first | (with_reducible first | exact HB.out | apply below_alloc | apply pw_below_drewN | apply below_drew1 | refine below_set ?_ (IsS109.ge HI0.out) | refine below_set ?_ GE271.out | refine below_set ?_ GE283.out) | exact HB.out), by repeat (first | (with_reducible first | exact HK.out | apply KeepBut.set_ | apply keep_drewN | apply keep_drew | apply keep_alloc | refine keep_far ?_ GW271.out _ | refine keep_far ?_ GW283.out _) | exact HK.out)⟩
        · replace c40 := Bool.eq_false_iff.mpr c40
          subst c40
          have H1 : (some (x284000_1, t279, t299, t302)) = some (r1, r2, r3, r4) := by rw [if_neg (show ¬ (false = true) by decide)] at H; exact H
          clear H
          have H := H1
          clear H1
          simp only [Option.some.injEq, Prod.mk.injEq] at H
          obtain ⟨rfl, rfl, rfl, rfl⟩ := H
          have hnb110 := NB283_271.out
          have hnc110 := NB271_283.out
          have hnb111 := NB283_0.out
          have hnc111 := NB0_283.out
          have hcz112_0 : wr.cell? ⟨gb283, 0, none⟩ = some (u284000) := (blk_cell BK283.out 0).trans rfl
          have hcz112_1 : wr.cell? ⟨gb283, 1, none⟩ = some (.slice Ao15 t279.length co15) := (blk_cell BK283.out 1).trans rfl
          have hcz112_2 : wr.cell? ⟨gb283, 2, none⟩ = some (.int .i64 t282) := (blk_cell BK283.out 2).trans rfl
          have hfz112_0 := blk_frozen BK283.out 0
          have hfz112_1 := blk_frozen BK283.out 1
          have hfz112_2 := blk_frozen BK283.out 2
          go_wp2_with (first | ((with_reducible refine gate_callee (f := 67) rfl ?_); refine goesL_ (some 35) rfl rfl Try.func67 (by kernel_rfl) rfl #[.pointer (some ⟨g, 0, none⟩), .int .i64 (t279.length : Int)] rfl (by (try simp only [List.map_toArray, List.map_cons, List.map_nil]); first | done | rfl | (simp only [List.length_drop, List.length_take]; rfl)) ?_; (with_reducible refine (spec_l20Rd_pick.calls k1 g s0_0 x1001_1 (t279.length : Int) t299 t300 w0 _ ?side1 ?side2 A38.out).mono ?_); (case side1 => repeat (first | (with_reducible first | exact HI0.out | apply IsS109.alloc | apply IsS109.drewN | apply IsS109.drew | apply IsS109.set_1 | refine IsS109.far ?_ NB0_271.out _ | refine IsS109.far ?_ NB0_283.out _) | exact HI0.out)); (case side2 => repeat (first | (with_reducible first | exact HB.out | apply below_alloc | apply pw_below_drewN | apply below_drew1 | refine below_set ?_ (IsS109.ge HI0.out) | refine below_set ?_ GE271.out | refine below_set ?_ GE283.out) | exact HB.out)); rintro e w113 ⟨rfl, hi, hb, hk⟩; refine ⟨_, rfl, ?_⟩; have n0_ := Aside0.mk (Kd.Q_mono (Kd.Q_keep (IsS109.apartQ (show IsS109 w0 _ g s0_0 x1001_1 from by repeat (first | (with_reducible first | exact HI0.out | apply IsS109.alloc | apply IsS109.drewN | apply IsS109.drew | apply IsS109.set_1 | refine IsS109.far ?_ NB0_271.out _ | refine IsS109.far ?_ NB0_283.out _) | exact HI0.out)) (by (with_reducible repeat (first | apply Kd.Q_alloc | apply Kd.Q_drewN | apply Kd.Q_drew)); exact HO_284000.out) (by decide)) hk (fun _ h => h.2)) (fun _ h => h.1)); have n1_ := Aside0.mk (Kd.S_mono (Kd.S_keep (IsS109.apartS (show IsS109 w0 _ g s0_0 x1001_1 from by repeat (first | (with_reducible first | exact HI0.out | apply IsS109.alloc | apply IsS109.drewN | apply IsS109.drew | apply IsS109.set_1 | refine IsS109.far ?_ NB0_271.out _ | refine IsS109.far ?_ NB0_283.out _) | exact HI0.out)) (by (with_reducible repeat (first | apply Kd.S_alloc | apply Kd.S_drewN | apply Kd.S_drew)); exact HO_284001.out) (by decide)) hk (fun _ h => h.2)) (fun _ h => h.1)); have n2_ := Aside0.mk (KeepBut.blk hk (g' := gb271) (o := .cells #[.slice none 0 0, .slice none 0 0, .int .i64 0] 42 (0, 0)) (by (with_reducible repeat (first | refine blk_drewN ?_ _ | refine blk_drew ?_ | refine blk_alloc ?_ _)); exact BK271.out) NB271_0.out (by simp)); have n3_ := Aside0.mk (KeepBut.blk hk (g' := gb283) (o := .cells #[u284000, .slice Ao15 t279.length co15, .int .i64 t282] 42 (0, 0)) (by (with_reducible repeat (first | refine blk_drewN ?_ _ | refine blk_drew ?_ | refine blk_alloc ?_ _)); exact BK283.out) NB283_0.out (by simp)); have n4_ := Aside0.mk (KeepBut.trans (by repeat (first | (with_reducible first | exact HK.out | apply KeepBut.set_ | apply keep_drewN | apply keep_drew | apply keep_alloc | refine keep_far ?_ GW271.out _ | refine keep_far ?_ GW283.out _) | exact HK.out)) hk (.inl rfl)); have n5_ := Aside0.mk (hb); have n6_ := Aside0.mk (hi); clear HO_284000; clear HO_284001; clear BK271; clear BK283; clear HK; clear HB; clear HI0; have HO_284000 := n0_; have HO_284001 := n1_; have BK271 := n2_; have BK283 := n3_; have HK := n4_; have HB := n5_; have HI0 := n6_; clear n0_ n1_ n2_ n3_ n4_ n5_ n6_; (try clear hb); (try clear hb2); (try clear hk); (try clear hi); have hcz114_0 : w113.cell? ⟨gb283, 0, none⟩ = some (u284000) := (blk_cell BK283.out 0).trans rfl; have hcz114_1 : w113.cell? ⟨gb283, 1, none⟩ = some (.slice Ao15 t279.length co15) := (blk_cell BK283.out 1).trans rfl; have hcz114_2 : w113.cell? ⟨gb283, 2, none⟩ = some (.int .i64 t282) := (blk_cell BK283.out 2).trans rfl; have hfz114_0 := blk_frozen BK283.out 0; have hfz114_1 := blk_frozen BK283.out 1; have hfz114_2 := blk_frozen BK283.out 2) | ((with_reducible refine gate_callee (f := 86) rfl ?_); refine goesL_ (some 39) rfl rfl Try.func86 (by kernel_rfl) rfl #[.pointer (some ⟨g, 0, none⟩), .int .i64 a1] rfl (by (try simp only [List.map_toArray, List.map_cons, List.map_nil]); first | done | rfl | (simp only [List.length_drop, List.length_take]; rfl)) ?_; (with_reducible refine (spec_l20Rd_odd.calls k1 g s0_0 t300 a1 false t302 w0 _ ?side1 ?side2 A39.out).mono ?_); (case side1 => repeat (first | (with_reducible first | exact HI0.out | apply IsS109.alloc | apply IsS109.drewN | apply IsS109.drew | apply IsS109.set_1 | refine IsS109.far ?_ NB0_271.out _ | refine IsS109.far ?_ NB0_283.out _) | exact HI0.out)); (case side2 => repeat (first | (with_reducible first | exact HB.out | apply below_alloc | apply pw_below_drewN | apply below_drew1 | refine below_set ?_ (IsS109.ge HI0.out) | refine below_set ?_ GE271.out | refine below_set ?_ GE283.out) | exact HB.out)); rintro e w115 ⟨rfl, hi, hb, hk⟩; refine ⟨_, rfl, ?_⟩; have n0_ := Aside0.mk (Kd.Q_mono (Kd.Q_keep (IsS109.apartQ (show IsS109 w0 _ g s0_0 t300 from by repeat (first | (with_reducible first | exact HI0.out | apply IsS109.alloc | apply IsS109.drewN | apply IsS109.drew | apply IsS109.set_1 | refine IsS109.far ?_ NB0_271.out _ | refine IsS109.far ?_ NB0_283.out _) | exact HI0.out)) (by (with_reducible repeat (first | apply Kd.Q_alloc | apply Kd.Q_drewN | apply Kd.Q_drew)); exact (Kd.Q_mono (Kd.Q_far (p := ⟨gb283, 2, none⟩) (Kd.Q_types HO_284000.out BK283.out (by decide)) (fun _ hk => hk.2) (.int .i64 t299)) (fun _ h_ => h_.1))) (by decide)) hk (fun _ h => h.2)) (fun _ h => h.1)); have n1_ := Aside0.mk (Kd.S_mono (Kd.S_keep (IsS109.apartS (show IsS109 w0 _ g s0_0 t300 from by repeat (first | (with_reducible first | exact HI0.out | apply IsS109.alloc | apply IsS109.drewN | apply IsS109.drew | apply IsS109.set_1 | refine IsS109.far ?_ NB0_271.out _ | refine IsS109.far ?_ NB0_283.out _) | exact HI0.out)) (by (with_reducible repeat (first | apply Kd.S_alloc | apply Kd.S_drewN | apply Kd.S_drew)); exact (Kd.S_mono (Kd.S_far (p := ⟨gb283, 2, none⟩) (Kd.S_types HO_284001.out BK283.out (by decide)) (fun _ hk => hk.2) (.int .i64 t299)) (fun _ h_ => h_.1))) (by decide)) hk (fun _ h => h.2)) (fun _ h => h.1)); have n2_ := Aside0.mk (KeepBut.blk hk (g' := gb271) (o := .cells #[.slice none 0 0, .slice none 0 0, .int .i64 0] 42 (0, 0)) (by (with_reducible repeat (first | refine blk_drewN ?_ _ | refine blk_drew ?_ | refine blk_alloc ?_ _)); refine blk_far ?_ NB271_283.out _; (with_reducible repeat (first | refine blk_drewN ?_ _ | refine blk_drew ?_ | refine blk_alloc ?_ _)); exact BK271.out) NB271_0.out (by simp)); have n3_ := Aside0.mk (KeepBut.blk hk (g' := gb283) (o := .cells #[u284000, .slice Ao15 t279.length co15, .int .i64 t299] 42 (0, 0)) (by (with_reducible repeat (first | refine blk_drewN ?_ _ | refine blk_drew ?_ | refine blk_alloc ?_ _)); refine blk_put (cs := #[u284000, .slice Ao15 t279.length co15, .int .i64 t282]) ?_ 2 _ rfl; (with_reducible repeat (first | refine blk_drewN ?_ _ | refine blk_drew ?_ | refine blk_alloc ?_ _)); exact BK283.out) NB283_0.out (by simp)); have n4_ := Aside0.mk (KeepBut.trans (by repeat (first | (with_reducible first | exact HK.out | apply KeepBut.set_ | apply keep_drewN | apply keep_drew | apply keep_alloc | refine keep_far ?_ GW271.out _ | refine keep_far ?_ GW283.out _) | exact HK.out)) hk (.inl rfl)); have n5_ := Aside0.mk (hb); have n6_ := Aside0.mk (hi); clear HO_284000; clear HO_284001; clear BK271; clear BK283; clear HK; clear HB; clear HI0; have HO_284000 := n0_; have HO_284001 := n1_; have BK271 := n2_; have BK283 := n3_; have HK := n4_; have HB := n5_; have HI0 := n6_; clear n0_ n1_ n2_ n3_ n4_ n5_ n6_; (try clear hb); (try clear hb2); (try clear hk); (try clear hi); have hcz116_0 : w115.cell? ⟨gb283, 0, none⟩ = some (u284000) := (blk_cell BK283.out 0).trans rfl; have hcz116_1 : w115.cell? ⟨gb283, 1, none⟩ = some (.slice Ao15 t279.length co15) := (blk_cell BK283.out 1).trans rfl; have hcz116_2 : w115.cell? ⟨gb283, 2, none⟩ = some (.int .i64 t299) := (blk_cell BK283.out 2).trans rfl; have hfz116_0 := blk_frozen BK283.out 0; have hfz116_1 := blk_frozen BK283.out 1; have hfz116_2 := blk_frozen BK283.out 2; obtain ⟨Ao117, co117, eo117, _⟩ := Kd.Q_slice HO_284000.out; subst eo117; have hnb118 := NB271_0.out; have hnc118 := NB0_271.out; have hcz119_0 : w115.cell? ⟨gb271, 0, none⟩ = some (.slice none 0 0) := (blk_cell BK271.out 0).trans rfl; have hcz119_1 : w115.cell? ⟨gb271, 1, none⟩ = some (.slice none 0 0) := (blk_cell BK271.out 1).trans rfl; have hcz119_2 : w115.cell? ⟨gb271, 2, none⟩ = some (.int .i64 0) := (blk_cell BK271.out 2).trans rfl; have hfz119_0 := blk_frozen BK271.out 0; have hfz119_1 := blk_frozen BK271.out 1; have hfz119_2 := blk_frozen BK271.out 2))
          refine bodyPost_ret (results_cell_row rfl _ _ gb271 42 #[.slice Ao117 x284000_1.length co117, .slice Ao15 t279.length co15, .int .i64 t299] (0, 0) _ rfl (by (with_reducible repeat (first | refine blk_drewN ?_ _ | refine blk_drew ?_ | refine blk_alloc ?_ _)); refine blk_put (cs := #[.slice Ao117 x284000_1.length co117, .slice Ao15 t279.length co15, .int .i64 0]) ?_ 2 _ rfl; (with_reducible repeat (first | refine blk_drewN ?_ _ | refine blk_drew ?_ | refine blk_alloc ?_ _)); refine blk_put (cs := #[.slice Ao117 x284000_1.length co117, .slice none 0 0, .int .i64 0]) ?_ 1 _ rfl; (with_reducible repeat (first | refine blk_drewN ?_ _ | refine blk_drew ?_ | refine blk_alloc ?_ _)); refine blk_put (cs := #[.slice none 0 0, .slice none 0 0, .int .i64 0]) ?_ 0 _ rfl; (with_reducible repeat (first | refine blk_drewN ?_ _ | refine blk_drew ?_ | refine blk_alloc ?_ _)); exact BK271.out) Try.underlying42 rfl (by kernel_rfl)) rfl ?_
          exact ⟨_, _, by first | rfl | (simp [errW_none, errW_some] <;> rfl) | (simp [*, errW_none, errW_some] <;> rfl), by (with_reducible repeat (first | apply Kd.Q_alloc | apply Kd.Q_drewN | apply Kd.Q_drew)); exact Kd.Q_mono (Kd.Q_far (p := ⟨gb271, 2, none⟩) (Kd.Q_far (p := ⟨gb271, 1, none⟩) (Kd.Q_far (p := ⟨gb271, 0, none⟩) (Kd.Q_types HO_284000.out BK271.out (by decide)) (fun _ hk => hk.2) (.slice Ao117 x284000_1.length co117)) (fun _ hk => hk.2) (.slice Ao15 t279.length co15)) (fun _ hk => hk.2) (.int .i64 t299)) (fun _ hk => trivial), by (with_reducible repeat (first | apply Kd.S_alloc | apply Kd.S_drewN | apply Kd.S_drew)); exact Kd.S_mono (Kd.S_far (p := ⟨gb271, 2, none⟩) (Kd.S_far (p := ⟨gb271, 1, none⟩) (Kd.S_far (p := ⟨gb271, 0, none⟩) (Kd.S_types HO_284001.out BK271.out (by decide)) (fun _ hk => hk.2) (.slice Ao117 x284000_1.length co117)) (fun _ hk => hk.2) (.slice Ao15 t279.length co15)) (fun _ hk => hk.2) (.int .i64 t299)) (fun _ hk => hk.1), by repeat (first | (with_reducible first | exact HI0.out | apply IsS109.alloc | apply IsS109.drewN | apply IsS109.drew | apply IsS109.set_1 | refine IsS109.far ?_ NB0_271.out _ | refine IsS109.far ?_ NB0_283.out _) | exact HI0.out), by repeat (first | (with_reducible first | exact HB.out | apply below_alloc | apply pw_below_drewN | apply below_drew1 | refine below_set ?_ (IsS109.ge HI0.out) | refine below_set ?_ GE271.out | refine below_set ?_ GE283.out) | exact HB.out), by repeat (first | (with_reducible first | exact HK.out | apply KeepBut.set_ | apply keep_drewN | apply keep_drew | apply keep_alloc | refine keep_far ?_ GW271.out _ | refine keep_far ?_ GW283.out _) | exact HK.out)⟩

end Go.Proofs.Ytekbnloceifdmaa.PFnCheatsOrder
