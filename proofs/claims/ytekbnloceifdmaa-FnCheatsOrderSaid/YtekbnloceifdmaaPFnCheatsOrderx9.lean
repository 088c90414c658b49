-- Written by wip/tools/print_more.py (forms of the print, over contracts of this session).
import Derived.Test.YtekbnloceifdmaaPFnCheatsOrderx0
import Derived.Test.YtekbnloceifdmaaPFnCheatsOrderx3
import Derived.Test.YtekbnloceifdmaaPFnCheatsOrderx7
import Derived.Test.YtekbnloceifdmaaPFnCheatsOrderx8
namespace Go.Proofs.Ytekbnloceifdmaa.PFnCheatsOrder
open Go.RowKit Go.Proofs.YtekbnloceifdmaaW.PrintWords Go.Proofs.YtekbnloceifdmaaW.PrintLast Go.Proofs.YtekbnloceifdmaaW.PrintMore
attribute [local go_sem] max2_int min2_int max_two min_two max_three min_three max_four min_four   -- for this text's walks alone
set_option linter.unusedVariables false
set_option linter.unusedSimpArgs false

/-! ### spec_DrawReadCheated: function 41 -/
def spec_DrawReadCheated.f (k : Nat) (l0 : List Int) : Option (List Int × (List (List Int)) × Int × (List (S59)) × Int) := (spec_l20Open.f l0).bind fun bt405 => ((spec_l20Memory.f k bt405.1 bt405.2 14).bind fun bt408 => ((spec_l20Cheats.f k bt405.1 bt408.2.2.2 14).bind fun bt417 => ((spec_l20Rd_pick.f k bt405.1 bt417.2 6).bind fun bt421 => ((spec_l20Place.f k bt405.1 bt421.2 5).bind fun bt423 => ((some (([bt421.1, bt423.1] : List Int) : List Int)).bind fun y425 => ((spec_l20Rd_pick.f k bt405.1 bt423.2 4).bind fun bt428 => (if 0 ≤ (wrap64 (Int.tdiv bt428.1 3)) then (if (wrap64 (Int.tdiv bt428.1 3)) < (y425.length : Int) then (some (bt408.1, bt408.2.1, bt408.2.2.1, bt417.1, rd y425 (wrap64 (Int.tdiv bt428.1 3)))) else (none)) else (none))))))))
theorem spec_DrawReadCheated.mono : ∀ a0 k, LeO (spec_DrawReadCheated.f k a0) (spec_DrawReadCheated.f (k + 1) a0) := by
  intro a0 k
  unfold spec_DrawReadCheated.f
  repeat' first
      | (with_reducible exact spec_l20Cheats.mono _ _ _ _)
      | (with_reducible exact spec_l20Memory.mono _ _ _ _)
      | (with_reducible exact spec_l20Place.mono _ _ _ _)
      | (with_reducible exact spec_l20Rd_pick.mono _ _ _ _)
      | (with_reducible exact LeO.refl _)
      | (with_reducible exact LeO.none _)
      | (with_reducible refine LeO.ite ?_ ?_)
      | (with_reducible refine LeO.bind ?_ (fun _ => ?_))
      | exact spec_l20Cheats.mono _ _ _ _
      | exact spec_l20Memory.mono _ _ _ _
      | exact spec_l20Place.mono _ _ _ _
      | exact spec_l20Rd_pick.mono _ _ _ _
      | exact LeO.none _
      | refine LeO.ite ?_ ?_
      | refine LeO.bind ?_ (fun _ => ?_)
def spec_DrawReadCheated.T4 : Bool × List (List Nat × List Nat) := (true, [([], []), ([], []), ([], []), ([2], [2]), ([], []), ([4, 3], [4]), ([3, 5], [3, 5]), ([], []), ([7, 5], [7]), ([8], [8]), ([6, 9], [6, 9]), ([10], [10]), ([0, 8, 0], [0]), ([1, 12, 0, 1, 12], [1]), ([11, 13, 0, 1, 2, 3, 4, 5, 6, 7, 8, 9, 10, 11, 12, 13], [11])])
def spec_DrawReadCheated.B4 : List Nat := [0, 0, 0, 4, 0, 28, 60, 0, 188, 444, 1020, 2044, 445, 4543, 16383]
theorem spec_DrawReadCheated.tab4 : rtab .any (opsOf Try.f41 4) = spec_DrawReadCheated.T4 := by kernel_rfl
theorem spec_DrawReadCheated.bits4 : waitsOk spec_DrawReadCheated.T4.2 spec_DrawReadCheated.B4 = true := by kernel_rfl
set_option maxHeartbeats 8000000 in
set_option maxRecDepth 100000 in
theorem spec_DrawReadCheated.calls (k : Nat) (A0 : Option Addr) (c0 : Nat) (l0 : List Int) (r1 : List Int) (r2 : List (List Int)) (r3 : Int) (r4 : List (S59)) (r5 : Int) (w : World) (hr0 : Kd.C (Kd.int .u8) w A0 l0.length l0) (hc0 : l0.length ≤ c0) (h : spec_DrawReadCheated.f k l0 = some (r1, r2, r3, r4, r5)) :
    Calls Try.prog 41 #[.slice A0 l0.length c0] w fun e w' => ∃ v0_ v1_ v3_ : Value, e = .returned (.tuple #[.agg #[v0_, v1_, .int .i64 r3], v3_, .int .i64 r5]) ∧ Kd.Q (Kd.int .i64) 3 w' w.heap.size (fun _ => True) v0_ r1 ∧ Kd.S (Kd.slice 3 (Kd.int .i64)) 22 w' w.heap.size (fun k_ => some k_ ≠ (v0_ : Value).ownBlock) v1_ r2 ∧ Kd.R k59 59 w' w.heap.size (fun _ => True) v3_ r4 ∧ Below w.heap.size w w' := by
  have hu42 := Try.underlying42
  have HR0 := Aside0.mk hr0
  have HC0 := Aside0.mk hc0
  clear hr0 hc0
  have HB := Aside0.mk (Below.refl w.heap.size w)
  have H : ((spec_l20Open.f l0).bind fun bt405 => ((spec_l20Memory.f k bt405.1 bt405.2 14).bind fun bt408 => ((spec_l20Cheats.f k bt405.1 bt408.2.2.2 14).bind fun bt417 => ((spec_l20Rd_pick.f k bt405.1 bt417.2 6).bind fun bt421 => ((spec_l20Place.f k bt405.1 bt421.2 5).bind fun bt423 => ((some (([bt421.1, bt423.1] : List Int) : List Int)).bind fun y425 => ((spec_l20Rd_pick.f k bt405.1 bt423.2 4).bind fun bt428 => (if 0 ≤ (wrap64 (Int.tdiv bt428.1 3)) then (if (wrap64 (Int.tdiv bt428.1 3)) < (y425.length : Int) then (some (bt408.1, bt408.2.1, bt408.2.2.1, bt417.1, rd y425 (wrap64 (Int.tdiv bt428.1 3)))) else (none)) else (none))))))))) = some (r1, r2, r3, r4, r5) := h
  clear h
  replace H := Option.bind_eq_some_iff.mp H
  obtain ⟨⟨t405, t406⟩, A20, H⟩ := H
  replace H : ((spec_l20Memory.f k t405 t406 14).bind fun bt408 => ((spec_l20Cheats.f k t405 bt408.2.2.2 14).bind fun bt417 => ((spec_l20Rd_pick.f k t405 bt417.2 6).bind fun bt421 => ((spec_l20Place.f k t405 bt421.2 5).bind fun bt423 => ((some (([bt421.1, bt423.1] : List Int) : List Int)).bind fun y425 => ((spec_l20Rd_pick.f k t405 bt423.2 4).bind fun bt428 => (if 0 ≤ (wrap64 (Int.tdiv bt428.1 3)) then (if (wrap64 (Int.tdiv bt428.1 3)) < (y425.length : Int) then (some (bt408.1, bt408.2.1, bt408.2.2.1, bt417.1, rd y425 (wrap64 (Int.tdiv bt428.1 3)))) else (none)) else (none)))))))) = some (r1, r2, r3, r4, r5) := H
  have A2 := Aside0.mk A20
  clear A20
  replace H := Option.bind_eq_some_iff.mp H
  obtain ⟨⟨t408, t411, t414, t415⟩, A30, H⟩ := H
  replace H : ((spec_l20Cheats.f k t405 t415 14).bind fun bt417 => ((spec_l20Rd_pick.f k t405 bt417.2 6).bind fun bt421 => ((spec_l20Place.f k t405 bt421.2 5).bind fun bt423 => ((some (([bt421.1, bt423.1] : List Int) : List Int)).bind fun y425 => ((spec_l20Rd_pick.f k t405 bt423.2 4).bind fun bt428 => (if 0 ≤ (wrap64 (Int.tdiv bt428.1 3)) then (if (wrap64 (Int.tdiv bt428.1 3)) < (y425.length : Int) then (some (t408, t411, t414, bt417.1, rd y425 (wrap64 (Int.tdiv bt428.1 3)))) else (none)) else (none))))))) = some (r1, r2, r3, r4, r5) := H
  have A3 := Aside0.mk A30
  clear A30
  replace H := Option.bind_eq_some_iff.mp H
  obtain ⟨⟨t417, t420⟩, A40, H⟩ := H
  replace H : ((spec_l20Rd_pick.f k t405 t420 6).bind fun bt421 => ((spec_l20Place.f k t405 bt421.2 5).bind fun bt423 => ((some (([bt421.1, bt423.1] : List Int) : List Int)).bind fun y425 => ((spec_l20Rd_pick.f k t405 bt423.2 4).bind fun bt428 => (if 0 ≤ (wrap64 (Int.tdiv bt428.1 3)) then (if (wrap64 (Int.tdiv bt428.1 3)) < (y425.length : Int) then (some (t408, t411, t414, t417, rd y425 (wrap64 (Int.tdiv bt428.1 3)))) else (none)) else (none)))))) = some (r1, r2, r3, r4, r5) := H
  have A4 := Aside0.mk A40
  clear A40
  replace H := Option.bind_eq_some_iff.mp H
  obtain ⟨⟨t421, t422⟩, A50, H⟩ := H
  replace H : ((spec_l20Place.f k t405 t422 5).bind fun bt423 => ((some (([t421, bt423.1] : List Int) : List Int)).bind fun y425 => ((spec_l20Rd_pick.f k t405 bt423.2 4).bind fun bt428 => (if 0 ≤ (wrap64 (Int.tdiv bt428.1 3)) then (if (wrap64 (Int.tdiv bt428.1 3)) < (y425.length : Int) then (some (t408, t411, t414, t417, rd y425 (wrap64 (Int.tdiv bt428.1 3)))) else (none)) else (none))))) = some (r1, r2, r3, r4, r5) := H
  have A5 := Aside0.mk A50
  clear A50
  replace H := Option.bind_eq_some_iff.mp H
  obtain ⟨⟨t423, t424⟩, A60, H⟩ := H
  replace H : ((some (([t421, t423] : List Int) : List Int)).bind fun y425 => ((spec_l20Rd_pick.f k t405 t424 4).bind fun bt428 => (if 0 ≤ (wrap64 (Int.tdiv bt428.1 3)) then (if (wrap64 (Int.tdiv bt428.1 3)) < (y425.length : Int) then (some (t408, t411, t414, t417, rd y425 (wrap64 (Int.tdiv bt428.1 3)))) else (none)) else (none)))) = some (r1, r2, r3, r4, r5) := H
  have A6 := Aside0.mk A60
  clear A60
  obtain ⟨y425, hy425⟩ : ∃ y_ : List Int, y_ = (([t421, t423] : List Int)) := ⟨_, rfl⟩
  replace H : ((spec_l20Rd_pick.f k t405 t424 4).bind fun bt428 => (if 0 ≤ (wrap64 (Int.tdiv bt428.1 3)) then (if (wrap64 (Int.tdiv bt428.1 3)) < (y425.length : Int) then (some (t408, t411, t414, t417, rd y425 (wrap64 (Int.tdiv bt428.1 3)))) else (none)) else (none))) = some (r1, r2, r3, r4, r5) := by first | (rw [hy425]; with_reducible exact H) | (have H2_ := (Option.bind_some _ _).symm.trans H; rw [hy425]; with_reducible exact H2_) | (have H2_ := (Option.bind_some _ _).symm.trans H; with_reducible exact H2_) | with_reducible exact H | (rw [hy425]; exact H) | exact H
  have Ny425 := Aside0.mk hy425
  clear hy425
  replace H := Option.bind_eq_some_iff.mp H
  obtain ⟨⟨t428, t429⟩, A70, H⟩ := H
  replace H : (if 0 ≤ (wrap64 (Int.tdiv t428 3)) then (if (wrap64 (Int.tdiv t428 3)) < (y425.length : Int) then (some (t408, t411, t414, t417, rd y425 (wrap64 (Int.tdiv t428 3)))) else (none)) else (none)) = some (r1, r2, r3, r4, r5) := H
  have A7 := Aside0.mk A70
  clear A70
  obtain ⟨ji8, hji8⟩ : ∃ j_ : Int, (wrap64 (Int.tdiv t428 3)) = j_ := ⟨_, rfl⟩
  replace H : (if 0 ≤ (ji8) then (if (ji8) < (y425.length : Int) then (some (t408, t411, t414, t417, rd y425 (ji8))) else (none)) else (none)) = some (r1, r2, r3, r4, r5) := by first | (rw [hji8] at H; exact H) | (simp only [hji8] at H ⊢; exact H)
  (try rw [hji8] at A2)
  (try rw [hji8] at A3)
  (try rw [hji8] at A4)
  (try rw [hji8] at A5)
  (try rw [hji8] at A6)
  (try rw [hji8] at A7)
  have hji8w : (IntKind.i64.wrap (Int.tdiv t428 3)) = ji8 := (i64_w _).trans hji8
  by_cases c9 : 0 ≤ (ji8)
  · rw [if_pos c9] at H
    have c9b0 : decide (0 ≤ (ji8)) = true := decide_eq_true c9
    clear c9
    by_cases c10 : (ji8) < (y425.length : Int)
    · rw [if_pos c10] at H
      have c10b0 : decide ((ji8) < (y425.length : Int)) = true := decide_eq_true c10
      clear c10
      simp only [Option.some.injEq, Prod.mk.injEq] at H
      obtain ⟨rfl, rfl, rfl, rfl, rfl⟩ := H
      go_enter Try.func41, Try.ntmps41
      try go_wp2_with (first | ((with_reducible refine gate_dst (N := 2) rfl ?_); refine box_event ?hg (N := 2) ?hd (cs := #[.slice none 0 0, .slice none 0 0, .int .i64 0]) (t := 42) ?hr ?_; (case hd => rfl); (case hg => rfl); (case hr => first | (go_simp; done) | (go_simp; rfl)); intro gb404 hg w11 hbox hb; have n0_ := Aside0.mk (below_step (by repeat (first | (with_reducible first | exact HB.out | apply below_alloc | apply pw_below_drewN | apply below_drew1) | exact HB.out)) hb); have n1_ := Aside0.mk (hbox); have n2_ := Aside0.mk ((by rw [hg]; exact (below_size (by repeat (first | (with_reducible first | exact HB.out | apply below_alloc | apply pw_below_drewN | apply below_drew1) | exact HB.out))) : w.heap.size ≤ gb404)); have n3_ := Aside0.mk ((by rw [hg]; exact (below_size (by repeat (first | (with_reducible first | exact HB.out | apply below_alloc | apply pw_below_drewN | apply below_drew1) | exact HB.out))) : w.heap.size ≤ gb404)); clear HB; have HB := n0_; have BK404 := n1_; have GW404 := n2_; have GE404 := n3_; clear n0_ n1_ n2_ n3_; clear hb hbox hg) | ((with_reducible refine gate_callee (f := 65) rfl ?_); refine goesL_ (some 9) rfl rfl Try.func65 (by kernel_rfl) rfl #[.slice A0 l0.length c0] rfl (by (try simp only [List.map_toArray, List.map_cons, List.map_nil]); first | done | rfl | (simp only [List.length_drop, List.length_take]; rfl)) ?_; (with_reducible refine (spec_l20Open.calls _ _ l0 t405 t406 w _ ?side1 ?side2 ?side3 A2.out).mono ?_); (case side1 => repeat (first | (with_reducible first | exact HB.out | apply below_alloc | apply pw_below_drewN | apply below_drew1 | refine below_set ?_ GE404.out) | exact HB.out)); (case side2 => exact HR0.out); (case side3 => exact HC0.out); rintro e w12 ⟨g407, rfl, hi, hb, hb2⟩; refine ⟨_, rfl, ?_⟩; have n0_ := Aside0.mk (blk_below (g := gb404) (o := .cells #[.slice none 0 0, .slice none 0 0, .int .i64 0] 42 (0, 0)) (by (with_reducible repeat (first | refine blk_drewN ?_ _ | refine blk_drew ?_ | refine blk_alloc ?_ _)); exact BK404.out) hb2); have n1_ := Aside0.mk (hb); have n2_ := Aside0.mk (hi); have n3_ := Aside0.mk (IsS109.ne_blk hi (blk_below (g := gb404) (o := .cells #[.slice none 0 0, .slice none 0 0, .int .i64 0] 42 (0, 0)) (by (with_reducible repeat (first | refine blk_drewN ?_ _ | refine blk_drew ?_ | refine blk_alloc ?_ _)); exact BK404.out) hb2) (by decide)); have n4_ := Aside0.mk (Ne.symm (IsS109.ne_blk hi (blk_below (g := gb404) (o := .cells #[.slice none 0 0, .slice none 0 0, .int .i64 0] 42 (0, 0)) (by (with_reducible repeat (first | refine blk_drewN ?_ _ | refine blk_drew ?_ | refine blk_alloc ?_ _)); exact BK404.out) hb2) (by decide))); clear BK404; clear HB; have BK404 := n0_; have HB := n1_; have HI407 := n2_; have NB407_404 := n3_; have NB404_407 := n4_; clear n0_ n1_ n2_ n3_ n4_; (try clear hb); (try clear hb2); (try clear hk); (try clear hi)) | ((with_reducible refine gate_callee (f := 78) rfl ?_); refine goesL_ (some 11) rfl rfl Try.func78 (by kernel_rfl) rfl #[.pointer (some ⟨g407, 0, none⟩), .int .i64 14] rfl (by (try simp only [List.map_toArray, List.map_cons, List.map_nil]); first | done | rfl | (simp only [List.length_drop, List.length_take]; rfl)) ?_; (with_reducible refine (spec_l20Memory.calls k g407 t405 t406 14 t408 t411 t414 t415 w _ ?side1 ?side2 A3.out).mono ?_); (case side1 => repeat (first | (with_reducible first | exact HI407.out | apply IsS109.alloc | apply IsS109.drewN | apply IsS109.drew | apply IsS109.set_1 | refine IsS109.far ?_ NB407_404.out _) | exact HI407.out)); (case side2 => repeat (first | (with_reducible first | exact HB.out | apply below_alloc | apply pw_below_drewN | apply below_drew1 | refine below_set ?_ (IsS109.ge HI407.out) | refine below_set ?_ GE404.out) | exact HB.out)); rintro e w13 ⟨v409, v412, rfl, ho0, ho1, hi, hb, hk⟩; refine ⟨_, rfl, ?_⟩; have n0_ := Aside0.mk (KeepBut.blk hk (g' := gb404) (o := .cells #[.slice none 0 0, .slice none 0 0, .int .i64 0] 42 (0, 0)) (by (with_reducible repeat (first | refine blk_drewN ?_ _ | refine blk_drew ?_ | refine blk_alloc ?_ _)); exact BK404.out) NB404_407.out (by simp)); have n1_ := Aside0.mk (Kd.Q_lower ho0 (below_size (by repeat (first | (with_reducible first | exact HB.out | apply below_alloc | apply pw_below_drewN | apply below_drew1 | refine below_set ?_ (IsS109.ge HI407.out) | refine below_set ?_ GE404.out) | exact HB.out)))); have n2_ := Aside0.mk (Kd.S_lower ho1 (below_size (by repeat (first | (with_reducible first | exact HB.out | apply below_alloc | apply pw_below_drewN | apply below_drew1 | refine below_set ?_ (IsS109.ge HI407.out) | refine below_set ?_ GE404.out) | exact HB.out)))); have n3_ := Aside0.mk (hb); have n4_ := Aside0.mk (hi); clear BK404; clear HB; clear HI407; have BK404 := n0_; have HO410 := n1_; have HO413 := n2_; have HB := n3_; have HI407 := n4_; clear n0_ n1_ n2_ n3_ n4_; (try clear hb); (try clear hb2); (try clear hk); (try clear hi); (try clear ho0); (try clear ho1)) | ((with_reducible refine gate_dst (N := 6) rfl ?_); refine box_event ?hg (N := 6) ?hd (cs := #[.slice none 0 0, .slice none 0 0, .int .i64 0]) (t := 42) ?hr ?_; (case hd => rfl); (case hg => rfl); (case hr => first | (go_simp; done) | (go_simp; rfl)); intro gb416 hg w14 hbox hb; have n0_ := Aside0.mk (Kd.Q_below (by (with_reducible repeat (first | apply Kd.Q_alloc | apply Kd.Q_drewN | apply Kd.Q_drew)); exact HO410.out) hb); have n1_ := Aside0.mk (Kd.S_below (by (with_reducible repeat (first | apply Kd.S_alloc | apply Kd.S_drewN | apply Kd.S_drew)); exact HO413.out) hb); have n2_ := Aside0.mk (blk_below (g := gb404) (o := .cells #[.slice none 0 0, .slice none 0 0, .int .i64 0] 42 (0, 0)) (by (with_reducible repeat (first | refine blk_drewN ?_ _ | refine blk_drew ?_ | refine blk_alloc ?_ _)); exact BK404.out) hb); have n3_ := Aside0.mk (IsS109.below (by repeat (first | (with_reducible first | exact HI407.out | apply IsS109.alloc | apply IsS109.drewN | apply IsS109.drew | apply IsS109.set_1 | refine IsS109.far ?_ NB407_404.out _) | exact HI407.out)) hb); have n4_ := Aside0.mk (below_step (by repeat (first | (with_reducible first | exact HB.out | apply below_alloc | apply pw_below_drewN | apply below_drew1 | refine below_set ?_ (IsS109.ge HI407.out) | refine below_set ?_ GE404.out) | exact HB.out)) hb); have n5_ := Aside0.mk (hbox); have n6_ := Aside0.mk ((by rw [hg]; exact (below_size (by repeat (first | (with_reducible first | exact HB.out | apply below_alloc | apply pw_below_drewN | apply below_drew1 | refine below_set ?_ (IsS109.ge HI407.out) | refine below_set ?_ GE404.out) | exact HB.out))) : w.heap.size ≤ gb416)); have n7_ := Aside0.mk ((by rw [hg]; exact (below_size (by repeat (first | (with_reducible first | exact HB.out | apply below_alloc | apply pw_below_drewN | apply below_drew1 | refine below_set ?_ (IsS109.ge HI407.out) | refine below_set ?_ GE404.out) | exact HB.out))) : w.heap.size ≤ gb416)); have n8_ := Aside0.mk ((by rw [hg]; exact Nat.ne_of_lt (blk_lt (g := gb404) (o := .cells #[.slice none 0 0, .slice none 0 0, .int .i64 0] 42 (0, 0)) (by (with_reducible repeat (first | refine blk_drewN ?_ _ | refine blk_drew ?_ | refine blk_alloc ?_ _)); exact BK404.out)) : gb404 ≠ gb416)); have n9_ := Aside0.mk ((by rw [hg]; exact Nat.ne_of_gt (blk_lt (g := gb404) (o := .cells #[.slice none 0 0, .slice none 0 0, .int .i64 0] 42 (0, 0)) (by (with_reducible repeat (first | refine blk_drewN ?_ _ | refine blk_drew ?_ | refine blk_alloc ?_ _)); exact BK404.out)) : gb416 ≠ gb404)); have n10_ := Aside0.mk ((by rw [hg]; exact Nat.ne_of_lt (IsS109.lt (show IsS109 w _ g407 t405 t415 from by repeat (first | (with_reducible first | exact HI407.out | apply IsS109.alloc | apply IsS109.drewN | apply IsS109.drew | apply IsS109.set_1 | refine IsS109.far ?_ NB407_404.out _) | exact HI407.out))) : g407 ≠ gb416)); have n11_ := Aside0.mk ((by rw [hg]; exact Nat.ne_of_gt (IsS109.lt (show IsS109 w _ g407 t405 t415 from by repeat (first | (with_reducible first | exact HI407.out | apply IsS109.alloc | apply IsS109.drewN | apply IsS109.drew | apply IsS109.set_1 | refine IsS109.far ?_ NB407_404.out _) | exact HI407.out))) : gb416 ≠ g407)); clear HO410; clear HO413; clear BK404; clear HI407; clear HB; have HO410 := n0_; have HO413 := n1_; have BK404 := n2_; have HI407 := n3_; have HB := n4_; have BK416 := n5_; have GW416 := n6_; have GE416 := n7_; have NB404_416 := n8_; have NB416_404 := n9_; have NB407_416 := n10_; have NB416_407 := n11_; clear n0_ n1_ n2_ n3_ n4_ n5_ n6_ n7_ n8_ n9_ n10_ n11_; clear hb hbox hg; obtain ⟨Ao15, co15, eo15, _⟩ := Kd.Q_slice HO410.out; subst eo15; have hnb16 := NB416_404.out; have hnc16 := NB404_416.out; have hnb17 := NB416_407.out; have hnc17 := NB407_416.out; have hcz18_0 : w14.cell? ⟨gb416, 0, none⟩ = some (.slice none 0 0) := (blk_cell BK416.out 0).trans rfl; have hcz18_1 : w14.cell? ⟨gb416, 1, none⟩ = some (.slice none 0 0) := (blk_cell BK416.out 1).trans rfl; have hcz18_2 : w14.cell? ⟨gb416, 2, none⟩ = some (.int .i64 0) := (blk_cell BK416.out 2).trans rfl; have hfz18_0 := blk_frozen BK416.out 0; have hfz18_1 := blk_frozen BK416.out 1; have hfz18_2 := blk_frozen BK416.out 2; obtain ⟨Ao19, co19, eo19⟩ := Kd.S_slice HO413.out; subst eo19) | ((with_reducible refine gate_callee (f := 79) rfl ?_); refine goesL_ (some 13) rfl rfl Try.func79 (by kernel_rfl) rfl #[.pointer (some ⟨g407, 0, none⟩), .int .i64 14] rfl (by (try simp only [List.map_toArray, List.map_cons, List.map_nil]); first | done | rfl | (simp only [List.length_drop, List.length_take]; rfl)) ?_; (with_reducible refine (spec_l20Cheats.calls k g407 t405 t415 14 t417 t420 w _ ?side1 ?side2 A4.out).mono ?_); (case side1 => repeat (first | (with_reducible first | exact HI407.out | apply IsS109.alloc | apply IsS109.drewN | apply IsS109.drew | apply IsS109.set_1 | refine IsS109.far ?_ NB407_404.out _ | refine IsS109.far ?_ NB407_416.out _) | exact HI407.out)); (case side2 => repeat (first | (with_reducible first | exact HB.out | apply below_alloc | apply pw_below_drewN | apply below_drew1 | refine below_set ?_ (IsS109.ge HI407.out) | refine below_set ?_ GE404.out | refine below_set ?_ GE416.out) | exact HB.out)); rintro e w20 ⟨v418, rfl, ho0, hi, hb, hk⟩; refine ⟨_, rfl, ?_⟩; have n0_ := Aside0.mk (KeepBut.blk hk (g' := gb404) (o := .cells #[.slice none 0 0, .slice none 0 0, .int .i64 0] 42 (0, 0)) (by (with_reducible repeat (first | refine blk_drewN ?_ _ | refine blk_drew ?_ | refine blk_alloc ?_ _)); refine blk_far ?_ NB404_416.out _; (with_reducible repeat (first | refine blk_drewN ?_ _ | refine blk_drew ?_ | refine blk_alloc ?_ _)); refine blk_far ?_ NB404_416.out _; (with_reducible repeat (first | refine blk_drewN ?_ _ | refine blk_drew ?_ | refine blk_alloc ?_ _)); refine blk_far ?_ NB404_416.out _; (with_reducible repeat (first | refine blk_drewN ?_ _ | refine blk_drew ?_ | refine blk_alloc ?_ _)); exact BK404.out) NB404_407.out (by simp)); have n1_ := Aside0.mk (Kd.Q_mono (Kd.Q_keep (IsS109.apartQ (show IsS109 w _ g407 t405 t415 from by repeat (first | (with_reducible first | exact HI407.out | apply IsS109.alloc | apply IsS109.drewN | apply IsS109.drew | apply IsS109.set_1 | refine IsS109.far ?_ NB407_404.out _ | refine IsS109.far ?_ NB407_416.out _) | exact HI407.out)) (by (with_reducible repeat (first | apply Kd.Q_alloc | apply Kd.Q_drewN | apply Kd.Q_drew)); exact (Kd.Q_mono (Kd.Q_far (p := ⟨gb416, 2, none⟩) (Kd.Q_far (p := ⟨gb416, 1, none⟩) (Kd.Q_far (p := ⟨gb416, 0, none⟩) (Kd.Q_types HO410.out BK416.out (by decide)) (fun _ hk => hk.2) (.slice Ao15 t408.length co15)) (fun _ hk => hk.2) (.slice Ao19 t411.length co19)) (fun _ hk => hk.2) (.int .i64 t414)) (fun _ h_ => h_.1))) (by decide)) hk (fun _ h => h.2)) (fun _ h => h.1)); have n2_ := Aside0.mk (Kd.S_mono (Kd.S_keep (IsS109.apartS (show IsS109 w _ g407 t405 t415 from by repeat (first | (with_reducible first | exact HI407.out | apply IsS109.alloc | apply IsS109.drewN | apply IsS109.drew | apply IsS109.set_1 | refine IsS109.far ?_ NB407_404.out _ | refine IsS109.far ?_ NB407_416.out _) | exact HI407.out)) (by (with_reducible repeat (first | apply Kd.S_alloc | apply Kd.S_drewN | apply Kd.S_drew)); exact (Kd.S_mono (Kd.S_far (p := ⟨gb416, 2, none⟩) (Kd.S_far (p := ⟨gb416, 1, none⟩) (Kd.S_far (p := ⟨gb416, 0, none⟩) (Kd.S_types HO413.out BK416.out (by decide)) (fun _ hk => hk.2) (.slice Ao15 t408.length co15)) (fun _ hk => hk.2) (.slice Ao19 t411.length co19)) (fun _ hk => hk.2) (.int .i64 t414)) (fun _ h_ => h_.1))) (by decide)) hk (fun _ h => h.2)) (fun _ h => h.1)); have n3_ := Aside0.mk (KeepBut.blk hk (g' := gb416) (o := .cells #[.slice Ao15 t408.length co15, .slice Ao19 t411.length co19, .int .i64 t414] 42 (0, 0)) (by (with_reducible repeat (first | refine blk_drewN ?_ _ | refine blk_drew ?_ | refine blk_alloc ?_ _)); refine blk_put (cs := #[.slice Ao15 t408.length co15, .slice Ao19 t411.length co19, .int .i64 0]) ?_ 2 _ rfl; (with_reducible repeat (first | refine blk_drewN ?_ _ | refine blk_drew ?_ | refine blk_alloc ?_ _)); refine blk_put (cs := #[.slice Ao15 t408.length co15, .slice none 0 0, .int .i64 0]) ?_ 1 _ rfl; (with_reducible repeat (first | refine blk_drewN ?_ _ | refine blk_drew ?_ | refine blk_alloc ?_ _)); refine blk_put (cs := #[.slice none 0 0, .slice none 0 0, .int .i64 0]) ?_ 0 _ rfl; (with_reducible repeat (first | refine blk_drewN ?_ _ | refine blk_drew ?_ | refine blk_alloc ?_ _)); exact BK416.out) NB416_407.out (by simp)); have n4_ := Aside0.mk (Kd.R_lower ho0 (below_size (by repeat (first | (with_reducible first | exact HB.out | apply below_alloc | apply pw_below_drewN | apply below_drew1 | refine below_set ?_ (IsS109.ge HI407.out) | refine below_set ?_ GE404.out | refine below_set ?_ GE416.out) | exact HB.out)))); have n5_ := Aside0.mk (hb); have n6_ := Aside0.mk (hi); clear BK404; clear HO410; clear HO413; clear BK416; clear HB; clear HI407; have BK404 := n0_; have HO410 := n1_; have HO413 := n2_; have BK416 := n3_; have HO419 := n4_; have HB := n5_; have HI407 := n6_; clear n0_ n1_ n2_ n3_ n4_ n5_ n6_; (try clear hb); (try clear hb2); (try clear hk); (try clear hi); (try clear ho0)))
      have pi430 : (0 ≤ ((ji8) : Int)) = True := eq_true (of_decide_eq_true (by first | (with_reducible assumption) | assumption))
      have qi430 : ((ji8) < (y425.length : Int)) = True := eq_true (of_decide_eq_true (by first | (with_reducible assumption) | assumption))
      have n0_ := Aside0.mk (Kd.Q_drew HO410.out)
      have n1_ := Aside0.mk (Kd.S_drew HO413.out)
      have n2_ := Aside0.mk (Kd.R_drew HO419.out)
      have n3_ := Aside0.mk (blk_drew BK404.out)
      have n4_ := Aside0.mk (blk_drew BK416.out)
      have n5_ := Aside0.mk (IsS109.drew HI407.out)
      have n6_ := Aside0.mk (below_drew1 HB.out)
      clear HO410
      clear HO413
      clear HO419
      clear BK404
      clear BK416
      clear HI407
      clear HB
      have HO410 := n0_
      have HO413 := n1_
      have HO419 := n2_
      have BK404 := n3_
      have BK416 := n4_
      have HI407 := n5_
      have HB := n6_
      clear n0_ n1_ n2_ n3_ n4_ n5_ n6_
      refine start_ (n := 15) (S := fun w' => True) (ds := []) #[false, false, false, false, false, false, false, false, false, false, false, false, false, false, false] (by kernel_rfl) rfl rfl trivial (fun hHeld => ?_); refine with_tabW spec_DrawReadCheated.tab4 spec_DrawReadCheated.bits4 (fun HT_ HW_ => ?_)
      generalize w20.drew = w21 at HO410 HO413 HO419 BK404 BK416 HI407 HB hHeld ⊢
      refine pure_ (i := 1) (N := some 15) (v := ?_) (a' := ?_) #[false, true, false, false, false, false, false, false, false, false, false, false, false, false, false] rfl rfl (any_of HT_.out (by kernel_rfl)) (fun _ _ _ h => h) (Or.inl ⟨by rfl, ?_⟩) ?_ ?_
      rotate_left
      · intro w'
        go_simp
        with_reducible rfl
      rotate_left
      · simp only [Act.put, List.setIfInBounds_toArray, List.set_cons_zero, List.set_cons_succ, i64_w, i32_w]
        rfl
      refine pure_ (i := 2) (N := some 16) (v := ?_) (a' := ?_) #[false, true, true, false, false, false, false, false, false, false, false, false, false, false, false] rfl rfl (any_of HT_.out (by kernel_rfl)) (fun _ _ _ h => h) (Or.inl ⟨by rfl, ?_⟩) ?_ ?_
      rotate_left
      · intro w'
        go_simp
        with_reducible rfl
      rotate_left
      · simp only [Act.put, List.setIfInBounds_toArray, List.set_cons_zero, List.set_cons_succ, i64_w, i32_w]
        rfl
      refine pure_ (i := 4) (N := some 18) (v := ?_) (a' := ?_) #[false, true, true, false, true, false, false, false, false, false, false, false, false, false, false] rfl rfl (any_of HT_.out (by kernel_rfl)) (fun _ _ _ h => h) (Or.inl ⟨by rfl, ?_⟩) ?_ ?_
      rotate_left
      · intro w'
        go_simp
        with_reducible rfl
      rotate_left
      · simp only [Act.put, List.setIfInBounds_toArray, List.set_cons_zero, List.set_cons_succ, i64_w, i32_w]
        rfl
      refine pure_ (i := 7) (N := some 21) (v := ?_) (a' := ?_) #[false, true, true, false, true, false, false, true, false, false, false, false, false, false, false] rfl rfl (any_of HT_.out (by kernel_rfl)) (fun _ _ _ h => h) (Or.inl ⟨by rfl, ?_⟩) ?_ ?_
      rotate_left
      · intro w'
        go_simp
        with_reducible rfl
      rotate_left
      · simp only [Act.put, List.setIfInBounds_toArray, List.set_cons_zero, List.set_cons_succ, i64_w, i32_w]
        rfl
      refine inv_at [0, 3, 5, 6, 8, 9, 10, 11, 12, 13, 14] (fun a0_ b a w' => ∃ (v426 : Value) (adz_v426 : Addr) (m10_ : Value), a = putSel a0_ b [(0, 14, .agg #[.slice Ao15 t408.length co15, .slice Ao19 t411.length co19, .int .i64 t414]), (3, 17, .int .i64 t421), (5, 19, .int .i64 t423), (6, 20, v426), (8, 22, .int .i64 t428), (9, 23, .int .i64 ji8), (10, 24, m10_), (11, 25, .int .i64 (rd y425 (ji8))), (13, 3, v418), (14, 4, .int .i64 (rd y425 (ji8)))] ∧ (Kd.Q (Kd.int .i64) 3 w' w.heap.size (fun _ => True) (.slice Ao15 t408.length co15) t408) ∧ (Kd.S (Kd.slice 3 (Kd.int .i64)) 22 w' w.heap.size (fun k_ => some k_ ≠ (.slice Ao15 t408.length co15 : Value).ownBlock) (.slice Ao19 t411.length co19) t411) ∧ (Kd.R k59 59 w' w.heap.size (fun _ => True) v418 t417) ∧ (b 12 = false → w'.heap[gb404]? = some (.cells #[.slice none 0 0, .slice none 0 0, .int .i64 0] 42 (0, 0))) ∧ (w'.heap[gb416]? = some (.cells #[.slice Ao15 t408.length co15, .slice Ao19 t411.length co19, .int .i64 t414] 42 (0, 0))) ∧ (b 3 = false → IsS109 w w' g407 t405 t420) ∧ (Below w.heap.size w w') ∧ (b 3 = true → b 5 = false → IsS109 w w' g407 t405 t422) ∧ (b 5 = true → b 8 = false → IsS109 w w' g407 t405 t424) ∧ (b 6 = true → Kd.R (Kd.int .i64) 3 w' w.heap.size (fun k_ => some k_ ≠ (.slice Ao15 t408.length co15 : Value).ownBlock) v426 y425) ∧ (b 6 = true → ∃ c_, (v426 : Value) = .slice (some adz_v426) y425.length c_) ∧ (b 8 = true → IsS109 w w' g407 t405 t429) ∧ (b 12 = true → w'.heap[gb404]? = some (.cells #[.slice Ao15 t408.length co15, .slice Ao19 t411.length co19, .int .i64 t414] 42 (0, 0))) ∧ (b 10 = true → (m10_ : Value) = .pointer (some (adz_v426.add ((ji8)).toNat)))) HT_.out HW_.out (by kernel_rfl) (by kernel_rfl) ?_ ?_ ?_
      · exact ⟨.bool false, ⟨0, 0, none⟩, .bool false, by simp only [putSel, Bool.false_eq_true, if_false], HO410.out, HO413.out, HO419.out, fun _ => BK404.out, BK416.out, fun _ => HI407.out, HB.out, fun h_ => absurd h_ (by decide), fun h_ => absurd h_ (by decide), fun h_ => absurd h_ (by decide), fun h_ => absurd h_ (by decide), fun h_ => absurd h_ (by decide), fun h_ => absurd h_ (by decide), fun h_ => absurd h_ (by decide)⟩
      · skip
        clear BK404 BK416 HB HI407 HO410 HO413 HO419
        refine steps_cons ?_ ?_
        · rintro b a w' ⟨v426, adz_v426, m10_, ha, Q_HO410, Q_HO413, Q_HO419, Q_BK404, Q_BK416, Q_HI407, Q_HB, Q_HI407_e3, Q_HI407_e5, Q_HO427, Q_HA_HO427, Q_HI407_e8, Q_BK404_e12, Q_X10_⟩ hb_ hon hoff
          refine ⟨_, rfl, fun K hK => ?_⟩
          have e6 : a.tmps[6]? = some (.pointer (some ⟨gb416, 0, none⟩)) := by rw [ha]; exact (putSel_off rfl).trans rfl
          replace ha := Aside0.mk ha
          have HO410 := Aside0.mk Q_HO410
          have HO413 := Aside0.mk Q_HO413
          have HO419 := Aside0.mk Q_HO419
          have BK404 := Aside0.mk (Q_BK404 (hoff 12 (by kernel_rfl)))
          have BK416 := Aside0.mk Q_BK416
          have HB := Aside0.mk Q_HB
          have hc0_ : w'.cell? ⟨gb416, 0, none⟩ = some (.slice Ao15 t408.length co15) := (blk_cell BK416.out 0).trans rfl
          have hc1_ : w'.cell? ⟨gb416, 1, none⟩ = some (.slice Ao19 t411.length co19) := (blk_cell BK416.out 1).trans rfl
          have hc2_ : w'.cell? ⟨gb416, 2, none⟩ = some (.int .i64 t414) := (blk_cell BK416.out 2).trans rfl
          refine value_ (w1 := w') (v := .agg #[.slice Ao15 t408.length co15, .slice Ao19 t411.length co19, .int .i64 t414]) (by rfl) rfl ?_ ?_
          · go_simp
            (try simp only [i64_w])
            try rfl
          refine hK.out _ _ ⟨v426, adz_v426, m10_, (by rw [ha.out]; exact putSel_upk 0 hb_ rfl rfl rfl), Q_HO410, Q_HO413, Q_HO419, Q_BK404, Q_BK416, Q_HI407, Q_HB, Q_HI407_e3, Q_HI407_e5, Q_HO427, Q_HA_HO427, Q_HI407_e8, fun h0_ => absurd ((hoff 12 (by kernel_rfl)).symm.trans h0_) (by decide), Q_X10_⟩
        refine steps_cons ?_ ?_
        · rintro b a w' ⟨v426, adz_v426, m10_, ha, Q_HO410, Q_HO413, Q_HO419, Q_BK404, Q_BK416, Q_HI407, Q_HB, Q_HI407_e3, Q_HI407_e5, Q_HO427, Q_HA_HO427, Q_HI407_e8, Q_BK404_e12, Q_X10_⟩ hb_ hon hoff
          refine ⟨_, rfl, fun K hK => ?_⟩
          have e16 : a.tmps[16]? = some (.pointer (some ⟨g407, 0, none⟩)) := by rw [ha]; exact (putSel_off rfl).trans rfl
          replace ha := Aside0.mk ha
          have HO410 := Aside0.mk Q_HO410
          have HO413 := Aside0.mk Q_HO413
          have HO419 := Aside0.mk Q_HO419
          have BK404 := Aside0.mk (Q_BK404 (hoff 12 (by kernel_rfl)))
          have BK416 := Aside0.mk Q_BK416
          have HI407 := Aside0.mk (Q_HI407 hb_)
          have HB := Aside0.mk Q_HB
          refine goes_ Try.func67 (by kernel_rfl) rfl #[.pointer (some ⟨g407, 0, none⟩), .int .i64 6] (by rfl) rfl rfl (by first | (simp only [List.map_toArray, List.map_cons, List.map_nil, Act.eval, Array.getD_eq_getD_getElem?, Option.getD_some, e16]; done) | (simp only [List.map_toArray, List.map_cons, List.map_nil, Act.eval, Array.getD_eq_getD_getElem?, Option.getD_some, e16]; rfl)) ?_
          with_reducible refine (spec_l20Rd_pick.calls k g407 t405 t420 6 t421 t422 w _ ?side1 ?side2 A5.out).mono ?_
          (case side1 => repeat (first | (with_reducible first | exact HI407.out | apply IsS109.alloc | apply IsS109.drewN | apply IsS109.drew | apply IsS109.set_1 | refine IsS109.far ?_ NB407_404.out _ | refine IsS109.far ?_ NB407_416.out _) | exact HI407.out))
          (case side2 => repeat (first | (with_reducible first | exact HB.out | apply below_alloc | apply pw_below_drewN | apply below_drew1 | refine below_set ?_ (IsS109.ge HI407.out) | refine below_set ?_ GE404.out | refine below_set ?_ GE416.out) | exact HB.out))
          rintro e w22 ⟨rfl, hi, hb, hk⟩
          refine ⟨_, rfl, ?_⟩
          have n0_ := Aside0.mk (KeepBut.blk hk (g' := gb404) (o := .cells #[.slice none 0 0, .slice none 0 0, .int .i64 0] 42 (0, 0)) (by (with_reducible repeat (first | refine blk_drewN ?_ _ | refine blk_drew ?_ | refine blk_alloc ?_ _)); exact BK404.out) NB404_407.out (by simp))
          have n1_ := Aside0.mk (Kd.Q_mono (Kd.Q_keep (IsS109.apartQ (show IsS109 w _ g407 t405 t420 from by repeat (first | (with_reducible first | exact HI407.out | apply IsS109.alloc | apply IsS109.drewN | apply IsS109.drew | apply IsS109.set_1 | refine IsS109.far ?_ NB407_404.out _ | refine IsS109.far ?_ NB407_416.out _) | exact HI407.out)) (by (with_reducible repeat (first | apply Kd.Q_alloc | apply Kd.Q_drewN | apply Kd.Q_drew)); exact HO410.out) (by decide)) hk (fun _ h => h.2)) (fun _ h => h.1))
          have n2_ := Aside0.mk (Kd.S_mono (Kd.S_keep (IsS109.apartS (show IsS109 w _ g407 t405 t420 from by repeat (first | (with_reducible first | exact HI407.out | apply IsS109.alloc | apply IsS109.drewN | apply IsS109.drew | apply IsS109.set_1 | refine IsS109.far ?_ NB407_404.out _ | refine IsS109.far ?_ NB407_416.out _) | exact HI407.out)) (by (with_reducible repeat (first | apply Kd.S_alloc | apply Kd.S_drewN | apply Kd.S_drew)); exact HO413.out) (by decide)) hk (fun _ h => h.2)) (fun _ h => h.1))
          have n3_ := Aside0.mk (KeepBut.blk hk (g' := gb416) (o := .cells #[.slice Ao15 t408.length co15, .slice Ao19 t411.length co19, .int .i64 t414] 42 (0, 0)) (by (with_reducible repeat (first | refine blk_drewN ?_ _ | refine blk_drew ?_ | refine blk_alloc ?_ _)); exact BK416.out) NB416_407.out (by simp))
          have n4_ := Aside0.mk (Kd.R_mono (Kd.R_keep (IsS109.apart (show IsS109 w _ g407 t405 t420 from by repeat (first | (with_reducible first | exact HI407.out | apply IsS109.alloc | apply IsS109.drewN | apply IsS109.drew | apply IsS109.set_1 | refine IsS109.far ?_ NB407_404.out _ | refine IsS109.far ?_ NB407_416.out _) | exact HI407.out)) (by (with_reducible repeat (first | apply Kd.R_alloc | apply Kd.R_drewN | apply Kd.R_drew)); exact HO419.out) (by decide)) hk (fun _ h => h.2)) (fun _ h => h.1))
          have n5_ := Aside0.mk (hb)
          have n6_ := Aside0.mk (hi)
          clear BK404
          clear HO410
          clear HO413
          clear BK416
          clear HO419
          clear HB
          clear HI407
          have BK404 := n0_
          have HO410 := n1_
          have HO413 := n2_
          have BK416 := n3_
          have HO419 := n4_
          have HB := n5_
          have HI407 := n6_
          clear n0_ n1_ n2_ n3_ n4_ n5_ n6_
          (try clear hb)
          (try clear hb2)
          (try clear hk)
          (try clear hi)
          refine hK.out _ _ ⟨v426, adz_v426, m10_, (by rw [ha.out]; exact putSel_upk 1 hb_ rfl rfl rfl), (by (with_reducible repeat (first | apply Kd.Q_alloc | apply Kd.Q_drewN | apply Kd.Q_drew)); exact HO410.out), (by (with_reducible repeat (first | apply Kd.S_alloc | apply Kd.S_drewN | apply Kd.S_drew)); exact HO413.out), (by (with_reducible repeat (first | apply Kd.R_alloc | apply Kd.R_drewN | apply Kd.R_drew)); exact HO419.out), fun _ => (by (with_reducible repeat (first | refine blk_drewN ?_ _ | refine blk_drew ?_ | refine blk_alloc ?_ _)); exact BK404.out), (by (with_reducible repeat (first | refine blk_drewN ?_ _ | refine blk_drew ?_ | refine blk_alloc ?_ _)); exact BK416.out), fun h0_ => absurd ((up_self b 3).symm.trans h0_) (by decide), (by repeat (first | (with_reducible first | exact HB.out | apply below_alloc | apply pw_below_drewN | apply below_drew1 | refine below_set ?_ (IsS109.ge HI407.out) | refine below_set ?_ GE404.out | refine below_set ?_ GE416.out) | exact HB.out)), fun _ _ => (by repeat (first | (with_reducible first | exact HI407.out | apply IsS109.alloc | apply IsS109.drewN | apply IsS109.drew | apply IsS109.set_1 | refine IsS109.far ?_ NB407_404.out _ | refine IsS109.far ?_ NB407_416.out _) | exact HI407.out)), fun h0_ _ => absurd ((hoff 5 (by kernel_rfl)).symm.trans h0_) (by decide), fun h0_ => absurd ((hoff 6 (by kernel_rfl)).symm.trans h0_) (by decide), fun h0_ => absurd ((hoff 6 (by kernel_rfl)).symm.trans h0_) (by decide), fun h0_ => absurd ((hoff 8 (by kernel_rfl)).symm.trans h0_) (by decide), fun h0_ => absurd ((hoff 12 (by kernel_rfl)).symm.trans h0_) (by decide), fun h0_ => absurd ((hoff 10 (by kernel_rfl)).symm.trans h0_) (by decide)⟩
        refine steps_cons ?_ ?_
        · rintro b a w' ⟨v426, adz_v426, m10_, ha, Q_HO410, Q_HO413, Q_HO419, Q_BK404, Q_BK416, Q_HI407, Q_HB, Q_HI407_e3, Q_HI407_e5, Q_HO427, Q_HA_HO427, Q_HI407_e8, Q_BK404_e12, Q_X10_⟩ hb_ hon hoff
          refine ⟨_, rfl, fun K hK => ?_⟩
          have e18 : a.tmps[18]? = some (.pointer (some ⟨g407, 0, none⟩)) := by rw [ha]; exact (putSel_off rfl).trans rfl
          replace ha := Aside0.mk ha
          have HO410 := Aside0.mk Q_HO410
          have HO413 := Aside0.mk Q_HO413
          have HO419 := Aside0.mk Q_HO419
          have BK404 := Aside0.mk (Q_BK404 (hoff 12 (by kernel_rfl)))
          have BK416 := Aside0.mk Q_BK416
          have HB := Aside0.mk Q_HB
          have HI407 := Aside0.mk (Q_HI407_e3 (hon 3 (by kernel_rfl)) hb_)
          refine goes_ Try.func80 (by kernel_rfl) rfl #[.pointer (some ⟨g407, 0, none⟩), .int .i64 5] (by rfl) rfl rfl (by first | (simp only [List.map_toArray, List.map_cons, List.map_nil, Act.eval, Array.getD_eq_getD_getElem?, Option.getD_some, e18]; done) | (simp only [List.map_toArray, List.map_cons, List.map_nil, Act.eval, Array.getD_eq_getD_getElem?, Option.getD_some, e18]; rfl)) ?_
          with_reducible refine (spec_l20Place.calls k g407 t405 t422 5 t423 t424 w _ ?side1 ?side2 A6.out).mono ?_
          (case side1 => repeat (first | (with_reducible first | exact HI407.out | apply IsS109.alloc | apply IsS109.drewN | apply IsS109.drew | apply IsS109.set_1 | refine IsS109.far ?_ NB407_404.out _ | refine IsS109.far ?_ NB407_416.out _) | exact HI407.out))
          (case side2 => repeat (first | (with_reducible first | exact HB.out | apply below_alloc | apply pw_below_drewN | apply below_drew1 | refine below_set ?_ (IsS109.ge HI407.out) | refine below_set ?_ GE404.out | refine below_set ?_ GE416.out) | exact HB.out))
          rintro e w24 ⟨rfl, hi, hb, hk⟩
          refine ⟨_, rfl, ?_⟩
          have n0_ := Aside0.mk (KeepBut.blk hk (g' := gb404) (o := .cells #[.slice none 0 0, .slice none 0 0, .int .i64 0] 42 (0, 0)) (by (with_reducible repeat (first | refine blk_drewN ?_ _ | refine blk_drew ?_ | refine blk_alloc ?_ _)); exact BK404.out) NB404_407.out (by simp))
          have n1_ := Aside0.mk (Kd.Q_mono (Kd.Q_keep (IsS109.apartQ (show IsS109 w _ g407 t405 t422 from by repeat (first | (with_reducible first | exact HI407.out | apply IsS109.alloc | apply IsS109.drewN | apply IsS109.drew | apply IsS109.set_1 | refine IsS109.far ?_ NB407_404.out _ | refine IsS109.far ?_ NB407_416.out _) | exact HI407.out)) (by (with_reducible repeat (first | apply Kd.Q_alloc | apply Kd.Q_drewN | apply Kd.Q_drew)); exact HO410.out) (by decide)) hk (fun _ h => h.2)) (fun _ h => h.1))
          have n2_ := Aside0.mk (Kd.S_mono (Kd.S_keep (IsS109.apartS (show IsS109 w _ g407 t405 t422 from by repeat (first | (with_reducible first | exact HI407.out | apply IsS109.alloc | apply IsS109.drewN | apply IsS109.drew | apply IsS109.set_1 | refine IsS109.far ?_ NB407_404.out _ | refine IsS109.far ?_ NB407_416.out _) | exact HI407.out)) (by (with_reducible repeat (first | apply Kd.S_alloc | apply Kd.S_drewN | apply Kd.S_drew)); exact HO413.out) (by decide)) hk (fun _ h => h.2)) (fun _ h => h.1))
          have n3_ := Aside0.mk (KeepBut.blk hk (g' := gb416) (o := .cells #[.slice Ao15 t408.length co15, .slice Ao19 t411.length co19, .int .i64 t414] 42 (0, 0)) (by (with_reducible repeat (first | refine blk_drewN ?_ _ | refine blk_drew ?_ | refine blk_alloc ?_ _)); exact BK416.out) NB416_407.out (by simp))
          have n4_ := Aside0.mk (Kd.R_mono (Kd.R_keep (IsS109.apart (show IsS109 w _ g407 t405 t422 from by repeat (first | (with_reducible first | exact HI407.out | apply IsS109.alloc | apply IsS109.drewN | apply IsS109.drew | apply IsS109.set_1 | refine IsS109.far ?_ NB407_404.out _ | refine IsS109.far ?_ NB407_416.out _) | exact HI407.out)) (by (with_reducible repeat (first | apply Kd.R_alloc | apply Kd.R_drewN | apply Kd.R_drew)); exact HO419.out) (by decide)) hk (fun _ h => h.2)) (fun _ h => h.1))
          have n5_ := Aside0.mk (hb)
          have n6_ := Aside0.mk (hi)
          clear BK404
          clear HO410
          clear HO413
          clear BK416
          clear HO419
          clear HB
          clear HI407
          have BK404 := n0_
          have HO410 := n1_
          have HO413 := n2_
          have BK416 := n3_
          have HO419 := n4_
          have HB := n5_
          have HI407 := n6_
          clear n0_ n1_ n2_ n3_ n4_ n5_ n6_
          (try clear hb)
          (try clear hb2)
          (try clear hk)
          (try clear hi)
          refine hK.out _ _ ⟨v426, adz_v426, m10_, (by rw [ha.out]; exact putSel_upk 2 hb_ rfl rfl rfl), (by (with_reducible repeat (first | apply Kd.Q_alloc | apply Kd.Q_drewN | apply Kd.Q_drew)); exact HO410.out), (by (with_reducible repeat (first | apply Kd.S_alloc | apply Kd.S_drewN | apply Kd.S_drew)); exact HO413.out), (by (with_reducible repeat (first | apply Kd.R_alloc | apply Kd.R_drewN | apply Kd.R_drew)); exact HO419.out), fun _ => (by (with_reducible repeat (first | refine blk_drewN ?_ _ | refine blk_drew ?_ | refine blk_alloc ?_ _)); exact BK404.out), (by (with_reducible repeat (first | refine blk_drewN ?_ _ | refine blk_drew ?_ | refine blk_alloc ?_ _)); exact BK416.out), fun h0_ => absurd ((hon 3 (by kernel_rfl)).symm.trans h0_) (by decide), (by repeat (first | (with_reducible first | exact HB.out | apply below_alloc | apply pw_below_drewN | apply below_drew1 | refine below_set ?_ (IsS109.ge HI407.out) | refine below_set ?_ GE404.out | refine below_set ?_ GE416.out) | exact HB.out)), fun _ h1_ => absurd ((up_self b 5).symm.trans h1_) (by decide), fun _ _ => (by repeat (first | (with_reducible first | exact HI407.out | apply IsS109.alloc | apply IsS109.drewN | apply IsS109.drew | apply IsS109.set_1 | refine IsS109.far ?_ NB407_404.out _ | refine IsS109.far ?_ NB407_416.out _) | exact HI407.out)), fun h0_ => absurd ((hoff 6 (by kernel_rfl)).symm.trans h0_) (by decide), fun h0_ => absurd ((hoff 6 (by kernel_rfl)).symm.trans h0_) (by decide), fun h0_ => absurd ((hoff 8 (by kernel_rfl)).symm.trans h0_) (by decide), fun h0_ => absurd ((hoff 12 (by kernel_rfl)).symm.trans h0_) (by decide), fun h0_ => absurd ((hoff 10 (by kernel_rfl)).symm.trans h0_) (by decide)⟩
        refine steps_cons ?_ ?_
        · rintro b a w' ⟨v426, adz_v426, m10_, ha, Q_HO410, Q_HO413, Q_HO419, Q_BK404, Q_BK416, Q_HI407, Q_HB, Q_HI407_e3, Q_HI407_e5, Q_HO427, Q_HA_HO427, Q_HI407_e8, Q_BK404_e12, Q_X10_⟩ hb_ hon hoff
          refine ⟨_, rfl, fun K hK => ?_⟩
          have e17 : a.tmps[17]? = some (.int .i64 t421) := by rw [ha]; exact putSel_on (e := (3, 17, .int .i64 t421)) 1 rfl rfl (hon 3 (by kernel_rfl)) rfl
          have e19 : a.tmps[19]? = some (.int .i64 t423) := by rw [ha]; exact putSel_on (e := (5, 19, .int .i64 t423)) 2 rfl rfl (hon 5 (by kernel_rfl)) rfl
          replace ha := Aside0.mk ha
          have HO410 := Aside0.mk Q_HO410
          have HO413 := Aside0.mk Q_HO413
          have HO419 := Aside0.mk Q_HO419
          have BK416 := Aside0.mk Q_BK416
          have HB := Aside0.mk Q_HB
          refine Kd.R_lit_step (Kd.int .i64) _ 3 ?hg (N := 20) ?hd (xs := ([t421, t423] : List Int)) (inner := [.int .i64 t421, .int .i64 t423]) (ok := fun _ => True) (okp := fun _ => True) ?hr ?hp (fun _ hk => hk) trivial (Below.refl _ _) (Nat.le_refl _) (by simp) ?_; (case hd => rfl); (case hg => rfl); (case hr => first | (go_simp; done) | (go_simp; rfl)); (case hp => exact (Reps.one (show Kd.M (Kd.int .i64) _ _ _ t421 [.int .i64 t421] from rfl) (Reps.one (show Kd.M (Kd.int .i64) _ _ _ t423 [.int .i64 t423] from rfl) (Reps.none _ _))))
          intro v426 w25 ho26 hb hg_ hnew_
          clear hg_ hnew_
          (first | rw [← Ny425.out] at ho26 | (simp only [Int.reduceToNat] at ho26; rw [← Ny425.out] at ho26))
          have n0_ := Aside0.mk (Kd.Q_elder' (by (with_reducible repeat (first | apply Kd.Q_alloc | apply Kd.Q_drewN | apply Kd.Q_drew)); exact HO410.out) (Kd.R_base ho26) hb)
          have n1_ := Aside0.mk (Kd.S_elder' (by (with_reducible repeat (first | apply Kd.S_alloc | apply Kd.S_drewN | apply Kd.S_drew)); exact HO413.out) (Kd.R_base ho26) hb)
          have n2_ := Aside0.mk (Kd.R_below (by (with_reducible repeat (first | apply Kd.R_alloc | apply Kd.R_drewN | apply Kd.R_drew)); exact HO419.out) hb)
          have n3_ := Aside0.mk (Kd.R_lower (Kd.R_new' ho26 (Kd.Q_lt (by (with_reducible repeat (first | apply Kd.Q_alloc | apply Kd.Q_drewN | apply Kd.Q_drew)); exact HO410.out))) (below_size (by repeat (first | (with_reducible first | exact HB.out | apply below_alloc | apply pw_below_drewN | apply below_drew1 | refine below_set ?_ GE404.out | refine below_set ?_ GE416.out) | exact HB.out))))
          have n6_ := Aside0.mk (blk_below (g := gb416) (o := .cells #[.slice Ao15 t408.length co15, .slice Ao19 t411.length co19, .int .i64 t414] 42 (0, 0)) (by (with_reducible repeat (first | refine blk_drewN ?_ _ | refine blk_drew ?_ | refine blk_alloc ?_ _)); exact BK416.out) hb)
          have n7_ := Aside0.mk (below_step (by repeat (first | (with_reducible first | exact HB.out | apply below_alloc | apply pw_below_drewN | apply below_drew1 | refine below_set ?_ GE404.out | refine below_set ?_ GE416.out) | exact HB.out)) hb)
          have z_BK404 := fun (h0_ : b 12 = false) => (show w25.heap[gb404]? = some (.cells #[.slice none 0 0, .slice none 0 0, .int .i64 0] 42 (0, 0)) from by first | exact (blk_below (g := gb404) (o := .cells #[.slice none 0 0, .slice none 0 0, .int .i64 0] 42 (0, 0)) (by (with_reducible repeat (first | refine blk_drewN ?_ _ | refine blk_drew ?_ | refine blk_alloc ?_ _)); exact (Q_BK404 h0_)) hb))
          have z_HI407_e5 := fun (h0_ : b 5 = true) (h1_ : b 8 = false) => (show IsS109 w w25 g407 t405 t424 from by first | exact (IsS109.below (by repeat (first | (with_reducible first | exact (Q_HI407_e5 h0_ h1_) | apply IsS109.alloc | apply IsS109.drewN | apply IsS109.drew | apply IsS109.set_1 | refine IsS109.far ?_ NB407_404.out _ | refine IsS109.far ?_ NB407_416.out _) | exact (Q_HI407_e5 h0_ h1_))) hb))
          have z_HI407_e8 := fun (h0_ : b 8 = true) => (show IsS109 w w25 g407 t405 t429 from by first | exact (IsS109.below (by repeat (first | (with_reducible first | exact (Q_HI407_e8 h0_) | apply IsS109.alloc | apply IsS109.drewN | apply IsS109.drew | apply IsS109.set_1 | refine IsS109.far ?_ NB407_404.out _ | refine IsS109.far ?_ NB407_416.out _) | exact (Q_HI407_e8 h0_))) hb))
          have z_BK404_e12 := fun (h0_ : b 12 = true) => (show w25.heap[gb404]? = some (.cells #[.slice Ao15 t408.length co15, .slice Ao19 t411.length co19, .int .i64 t414] 42 (0, 0)) from by first | exact (blk_below (g := gb404) (o := .cells #[.slice Ao15 t408.length co15, .slice Ao19 t411.length co19, .int .i64 t414] 42 (0, 0)) (by (with_reducible repeat (first | refine blk_drewN ?_ _ | refine blk_drew ?_ | refine blk_alloc ?_ _)); exact (Q_BK404_e12 h0_)) hb))
          clear HO410
          clear HO413
          clear HO419
          clear BK416
          clear HB
          have HO410 := n0_
          have HO413 := n1_
          have HO419 := n2_
          have HO427 := n3_
          have BK416 := n6_
          have HB := n7_
          clear n0_ n1_ n2_ n3_ n6_ n7_
          clear hb ho26
          obtain ⟨Ao27, co27, eo27⟩ := Kd.R_slice HO427.out
          subst eo27
          obtain ⟨ado27, fo27, _⟩ := Kd.at_int (Kd.R_reads' HO427.out).2.2 0 (by decide) (by rw [Ny425.out]; simp)
          cases fo27
          refine hK.out _ _ ⟨.slice (some ado27) y425.length co27, ado27, m10_, (by rw [ha.out]; exact putSel_upk 3 hb_ rfl rfl rfl), (by (with_reducible repeat (first | apply Kd.Q_alloc | apply Kd.Q_drewN | apply Kd.Q_drew)); exact Kd.Q_mono HO410.out (by intro _ hk_; first | exact hk_.2 | exact hk_.1 | exact trivial)), (by (with_reducible repeat (first | apply Kd.S_alloc | apply Kd.S_drewN | apply Kd.S_drew)); first | exact HO413.out | exact Kd.S_mono HO413.out (by intro _ hk_; exact hk_.1)), (by (with_reducible repeat (first | apply Kd.R_alloc | apply Kd.R_drewN | apply Kd.R_drew)); exact HO419.out), z_BK404, (by (with_reducible repeat (first | refine blk_drewN ?_ _ | refine blk_drew ?_ | refine blk_alloc ?_ _)); exact BK416.out), fun h0_ => absurd ((hon 3 (by kernel_rfl)).symm.trans h0_) (by decide), (by repeat (first | (with_reducible first | exact HB.out | apply below_alloc | apply pw_below_drewN | apply below_drew1 | refine below_set ?_ GE404.out | refine below_set ?_ GE416.out) | exact HB.out)), fun _ h1_ => absurd ((hon 5 (by kernel_rfl)).symm.trans h1_) (by decide), z_HI407_e5, fun _ => (by (with_reducible repeat (first | apply Kd.R_alloc | apply Kd.R_drewN | apply Kd.R_drew)); exact Kd.R_mono HO427.out (fun _ hk => hk.2)), fun _ => ⟨_, rfl⟩, z_HI407_e8, z_BK404_e12, fun h0_ => absurd ((hoff 10 (by kernel_rfl)).symm.trans h0_) (by decide)⟩
        refine steps_cons ?_ ?_
        · rintro b a w' ⟨v426, adz_v426, m10_, ha, Q_HO410, Q_HO413, Q_HO419, Q_BK404, Q_BK416, Q_HI407, Q_HB, Q_HI407_e3, Q_HI407_e5, Q_HO427, Q_HA_HO427, Q_HI407_e8, Q_BK404_e12, Q_X10_⟩ hb_ hon hoff
          refine ⟨_, rfl, fun K hK => ?_⟩
          have e21 : a.tmps[21]? = some (.pointer (some ⟨g407, 0, none⟩)) := by rw [ha]; exact (putSel_off rfl).trans rfl
          replace ha := Aside0.mk ha
          have HO410 := Aside0.mk Q_HO410
          have HO413 := Aside0.mk Q_HO413
          have HO419 := Aside0.mk Q_HO419
          have BK404 := Aside0.mk (Q_BK404 (hoff 12 (by kernel_rfl)))
          have BK416 := Aside0.mk Q_BK416
          have HB := Aside0.mk Q_HB
          have HI407 := Aside0.mk (Q_HI407_e5 (hon 5 (by kernel_rfl)) hb_)
          refine goes_ Try.func67 (by kernel_rfl) rfl #[.pointer (some ⟨g407, 0, none⟩), .int .i64 4] (by rfl) rfl rfl (by first | (simp only [List.map_toArray, List.map_cons, List.map_nil, Act.eval, Array.getD_eq_getD_getElem?, Option.getD_some, e21]; done) | (simp only [List.map_toArray, List.map_cons, List.map_nil, Act.eval, Array.getD_eq_getD_getElem?, Option.getD_some, e21]; rfl)) ?_
          with_reducible refine (spec_l20Rd_pick.calls k g407 t405 t424 4 t428 t429 w _ ?side1 ?side2 A7.out).mono ?_
          (case side1 => repeat (first | (with_reducible first | exact HI407.out | apply IsS109.alloc | apply IsS109.drewN | apply IsS109.drew | apply IsS109.set_1 | refine IsS109.far ?_ NB407_404.out _ | refine IsS109.far ?_ NB407_416.out _) | exact HI407.out))
          (case side2 => repeat (first | (with_reducible first | exact HB.out | apply below_alloc | apply pw_below_drewN | apply below_drew1 | refine below_set ?_ (IsS109.ge HI407.out) | refine below_set ?_ GE404.out | refine below_set ?_ GE416.out) | exact HB.out))
          rintro e w25 ⟨rfl, hi, hb, hk⟩
          refine ⟨_, rfl, ?_⟩
          have n0_ := Aside0.mk (KeepBut.blk hk (g' := gb404) (o := .cells #[.slice none 0 0, .slice none 0 0, .int .i64 0] 42 (0, 0)) (by (with_reducible repeat (first | refine blk_drewN ?_ _ | refine blk_drew ?_ | refine blk_alloc ?_ _)); exact BK404.out) NB404_407.out (by simp))
          have n1_ := Aside0.mk (Kd.Q_mono (Kd.Q_keep (IsS109.apartQ (show IsS109 w _ g407 t405 t424 from by repeat (first | (with_reducible first | exact HI407.out | apply IsS109.alloc | apply IsS109.drewN | apply IsS109.drew | apply IsS109.set_1 | refine IsS109.far ?_ NB407_404.out _ | refine IsS109.far ?_ NB407_416.out _) | exact HI407.out)) (by (with_reducible repeat (first | apply Kd.Q_alloc | apply Kd.Q_drewN | apply Kd.Q_drew)); exact HO410.out) (by decide)) hk (fun _ h => h.2)) (fun _ h => h.1))
          have n2_ := Aside0.mk (Kd.S_mono (Kd.S_keep (IsS109.apartS (show IsS109 w _ g407 t405 t424 from by repeat (first | (with_reducible first | exact HI407.out | apply IsS109.alloc | apply IsS109.drewN | apply IsS109.drew | apply IsS109.set_1 | refine IsS109.far ?_ NB407_404.out _ | refine IsS109.far ?_ NB407_416.out _) | exact HI407.out)) (by (with_reducible repeat (first | apply Kd.S_alloc | apply Kd.S_drewN | apply Kd.S_drew)); exact HO413.out) (by decide)) hk (fun _ h => h.2)) (fun _ h => h.1))
          have n3_ := Aside0.mk (KeepBut.blk hk (g' := gb416) (o := .cells #[.slice Ao15 t408.length co15, .slice Ao19 t411.length co19, .int .i64 t414] 42 (0, 0)) (by (with_reducible repeat (first | refine blk_drewN ?_ _ | refine blk_drew ?_ | refine blk_alloc ?_ _)); exact BK416.out) NB416_407.out (by simp))
          have n4_ := Aside0.mk (Kd.R_mono (Kd.R_keep (IsS109.apart (show IsS109 w _ g407 t405 t424 from by repeat (first | (with_reducible first | exact HI407.out | apply IsS109.alloc | apply IsS109.drewN | apply IsS109.drew | apply IsS109.set_1 | refine IsS109.far ?_ NB407_404.out _ | refine IsS109.far ?_ NB407_416.out _) | exact HI407.out)) (by (with_reducible repeat (first | apply Kd.R_alloc | apply Kd.R_drewN | apply Kd.R_drew)); exact HO419.out) (by decide)) hk (fun _ h => h.2)) (fun _ h => h.1))
          have n5_ := Aside0.mk (hb)
          have n6_ := Aside0.mk (hi)
          have z_HO427 := fun (h0_ : b 6 = true) => (show Kd.R (Kd.int .i64) 3 w25 w.heap.size (fun k_ => some k_ ≠ (.slice Ao15 t408.length co15 : Value).ownBlock) v426 y425 from by first | exact (Kd.R_mono (Kd.R_keep (IsS109.apart (show IsS109 w _ g407 t405 t424 from by repeat (first | (with_reducible first | exact HI407.out | apply IsS109.alloc | apply IsS109.drewN | apply IsS109.drew | apply IsS109.set_1 | refine IsS109.far ?_ NB407_404.out _ | refine IsS109.far ?_ NB407_416.out _) | exact HI407.out)) (by (with_reducible repeat (first | apply Kd.R_alloc | apply Kd.R_drewN | apply Kd.R_drew)); exact (Q_HO427 h0_)) (by decide)) hk (fun _ h => h.2)) (fun _ h => h.1)) | exact Kd.R_mono (Kd.R_mono (Kd.R_keep (IsS109.apart (show IsS109 w _ g407 t405 t424 from by repeat (first | (with_reducible first | exact HI407.out | apply IsS109.alloc | apply IsS109.drewN | apply IsS109.drew | apply IsS109.set_1 | refine IsS109.far ?_ NB407_404.out _ | refine IsS109.far ?_ NB407_416.out _) | exact HI407.out)) (by (with_reducible repeat (first | apply Kd.R_alloc | apply Kd.R_drewN | apply Kd.R_drew)); exact (Q_HO427 h0_)) (by decide)) hk (fun _ h => h.2)) (fun _ h => h.1)) (fun _ h_ => by first | trivial | exact h_ | exact h_.1))
          clear BK404
          clear HO410
          clear HO413
          clear BK416
          clear HO419
          clear HB
          clear HI407
          have BK404 := n0_
          have HO410 := n1_
          have HO413 := n2_
          have BK416 := n3_
          have HO419 := n4_
          have HB := n5_
          have HI407 := n6_
          clear n0_ n1_ n2_ n3_ n4_ n5_ n6_
          (try clear hb)
          (try clear hb2)
          (try clear hk)
          (try clear hi)
          refine hK.out _ _ ⟨v426, adz_v426, m10_, (by rw [ha.out]; exact putSel_upk 4 hb_ rfl rfl rfl), (by (with_reducible repeat (first | apply Kd.Q_alloc | apply Kd.Q_drewN | apply Kd.Q_drew)); exact HO410.out), (by (with_reducible repeat (first | apply Kd.S_alloc | apply Kd.S_drewN | apply Kd.S_drew)); exact HO413.out), (by (with_reducible repeat (first | apply Kd.R_alloc | apply Kd.R_drewN | apply Kd.R_drew)); exact HO419.out), fun _ => (by (with_reducible repeat (first | refine blk_drewN ?_ _ | refine blk_drew ?_ | refine blk_alloc ?_ _)); exact BK404.out), (by (with_reducible repeat (first | refine blk_drewN ?_ _ | refine blk_drew ?_ | refine blk_alloc ?_ _)); exact BK416.out), fun h0_ => absurd ((hon 3 (by kernel_rfl)).symm.trans h0_) (by decide), (by repeat (first | (with_reducible first | exact HB.out | apply below_alloc | apply pw_below_drewN | apply below_drew1 | refine below_set ?_ (IsS109.ge HI407.out) | refine below_set ?_ GE404.out | refine below_set ?_ GE416.out) | exact HB.out)), fun _ h1_ => absurd ((hon 5 (by kernel_rfl)).symm.trans h1_) (by decide), fun _ h1_ => absurd ((up_self b 8).symm.trans h1_) (by decide), z_HO427, Q_HA_HO427, fun _ => (by repeat (first | (with_reducible first | exact HI407.out | apply IsS109.alloc | apply IsS109.drewN | apply IsS109.drew | apply IsS109.set_1 | refine IsS109.far ?_ NB407_404.out _ | refine IsS109.far ?_ NB407_416.out _) | exact HI407.out)), fun h0_ => absurd ((hoff 12 (by kernel_rfl)).symm.trans h0_) (by decide), fun h0_ => absurd ((hoff 10 (by kernel_rfl)).symm.trans h0_) (by decide)⟩
        refine steps_cons ?_ ?_
        · rintro b a w' ⟨v426, adz_v426, m10_, ha, Q_HO410, Q_HO413, Q_HO419, Q_BK404, Q_BK416, Q_HI407, Q_HB, Q_HI407_e3, Q_HI407_e5, Q_HO427, Q_HA_HO427, Q_HI407_e8, Q_BK404_e12, Q_X10_⟩ hb_ hon hoff
          refine ⟨_, rfl, fun K hK => ?_⟩
          have e22 : a.tmps[22]? = some (.int .i64 t428) := by rw [ha]; exact putSel_on (e := (8, 22, .int .i64 t428)) 4 rfl rfl (hon 8 (by kernel_rfl)) rfl
          replace ha := Aside0.mk ha
          have HO410 := Aside0.mk Q_HO410
          have HO413 := Aside0.mk Q_HO413
          have HO419 := Aside0.mk Q_HO419
          have BK416 := Aside0.mk Q_BK416
          have HB := Aside0.mk Q_HB
          have HI407 := Aside0.mk (Q_HI407_e8 (hon 8 (by kernel_rfl)))
          refine value_ (w1 := w') (v := .int .i64 ji8) (by rfl) rfl ?_ ?_
          · go_simp
            (try simp only [i64_w])
            try rfl
          refine hK.out _ _ ⟨v426, adz_v426, m10_, (by rw [ha.out]; exact putSel_upk 5 hb_ rfl rfl rfl), Q_HO410, Q_HO413, Q_HO419, Q_BK404, Q_BK416, fun h0_ => absurd ((hon 3 (by kernel_rfl)).symm.trans h0_) (by decide), Q_HB, fun _ h1_ => absurd ((hon 5 (by kernel_rfl)).symm.trans h1_) (by decide), fun _ h1_ => absurd ((hon 8 (by kernel_rfl)).symm.trans h1_) (by decide), Q_HO427, Q_HA_HO427, Q_HI407_e8, Q_BK404_e12, fun h0_ => absurd ((hoff 10 (by kernel_rfl)).symm.trans h0_) (by decide)⟩
        refine steps_cons ?_ ?_
        · rintro b a w' ⟨v426, adz_v426, m10_, ha, Q_HO410, Q_HO413, Q_HO419, Q_BK404, Q_BK416, Q_HI407, Q_HB, Q_HI407_e3, Q_HI407_e5, Q_HO427, Q_HA_HO427, Q_HI407_e8, Q_BK404_e12, Q_X10_⟩ hb_ hon hoff
          refine ⟨_, rfl, fun K hK => ?_⟩
          have e20 : a.tmps[20]? = some (v426) := by rw [ha]; exact putSel_on (e := (6, 20, v426)) 3 rfl rfl (hon 6 (by kernel_rfl)) rfl
          have e23 : a.tmps[23]? = some (.int .i64 ji8) := by rw [ha]; exact putSel_on (e := (9, 23, .int .i64 ji8)) 5 rfl rfl (hon 9 (by kernel_rfl)) rfl
          replace ha := Aside0.mk ha
          have HO410 := Aside0.mk Q_HO410
          have HO413 := Aside0.mk Q_HO413
          have HO419 := Aside0.mk Q_HO419
          have BK416 := Aside0.mk Q_BK416
          have HB := Aside0.mk Q_HB
          have HO427 := Aside0.mk (Q_HO427 (hon 6 (by kernel_rfl)))
          have HA_HO427 := Aside0.mk (Q_HA_HO427 (hon 6 (by kernel_rfl)))
          have HI407 := Aside0.mk (Q_HI407_e8 (hon 8 (by kernel_rfl)))
          obtain ⟨c_, hv_⟩ := HA_HO427.out
          rw [hv_] at e20
          refine value_ (w1 := w') (v := .pointer (some (adz_v426.add ((ji8)).toNat))) (by rfl) rfl ?_ ?_
          · go_simp
            (try simp only [i64_w])
            try rfl
          refine hK.out _ _ ⟨v426, adz_v426, (.pointer (some (adz_v426.add ((ji8)).toNat))), (by rw [ha.out]; exact putSel_upk 6 hb_ rfl rfl rfl), Q_HO410, Q_HO413, Q_HO419, Q_BK404, Q_BK416, fun h0_ => absurd ((hon 3 (by kernel_rfl)).symm.trans h0_) (by decide), Q_HB, fun _ h1_ => absurd ((hon 5 (by kernel_rfl)).symm.trans h1_) (by decide), fun _ h1_ => absurd ((hon 8 (by kernel_rfl)).symm.trans h1_) (by decide), Q_HO427, Q_HA_HO427, Q_HI407_e8, Q_BK404_e12, fun _ => rfl⟩
        refine steps_cons ?_ ?_
        · rintro b a w' ⟨v426, adz_v426, m10_, ha, Q_HO410, Q_HO413, Q_HO419, Q_BK404, Q_BK416, Q_HI407, Q_HB, Q_HI407_e3, Q_HI407_e5, Q_HO427, Q_HA_HO427, Q_HI407_e8, Q_BK404_e12, Q_X10_⟩ hb_ hon hoff
          refine ⟨_, rfl, fun K hK => ?_⟩
          have e24 : a.tmps[24]? = some (m10_) := by rw [ha]; exact putSel_on (e := (10, 24, m10_)) 6 rfl rfl (hon 10 (by kernel_rfl)) rfl
          rw [Q_X10_ (hon 10 (by kernel_rfl))] at e24
          replace ha := Aside0.mk ha
          have HO410 := Aside0.mk Q_HO410
          have HO413 := Aside0.mk Q_HO413
          have HO419 := Aside0.mk Q_HO419
          have BK416 := Aside0.mk Q_BK416
          have HB := Aside0.mk Q_HB
          have HO427 := Aside0.mk (Q_HO427 (hon 6 (by kernel_rfl)))
          have HA_HO427 := Aside0.mk (Q_HA_HO427 (hon 6 (by kernel_rfl)))
          have HI407 := Aside0.mk (Q_HI407_e8 (hon 8 (by kernel_rfl)))
          obtain ⟨c_, hv_⟩ := HA_HO427.out
          have hF_ := HO427.out
          rw [hv_] at hF_
          obtain ⟨ad_, ea_, hx_⟩ := Kd.at_int (Kd.R_reads' hF_).2.2 (ji8) (of_eq_true pi430) (of_eq_true qi430)
          cases ea_
          refine value_ (w1 := w') (v := .int .i64 (rd y425 (ji8))) (by rfl) rfl ?_ ?_
          · go_simp
            (try simp only [i64_w])
            try rfl
          refine hK.out _ _ ⟨v426, adz_v426, m10_, (by rw [ha.out]; exact putSel_upk 7 hb_ rfl rfl rfl), Q_HO410, Q_HO413, Q_HO419, Q_BK404, Q_BK416, fun h0_ => absurd ((hon 3 (by kernel_rfl)).symm.trans h0_) (by decide), Q_HB, fun _ h1_ => absurd ((hon 5 (by kernel_rfl)).symm.trans h1_) (by decide), fun _ h1_ => absurd ((hon 8 (by kernel_rfl)).symm.trans h1_) (by decide), Q_HO427, Q_HA_HO427, Q_HI407_e8, Q_BK404_e12, Q_X10_⟩
        refine steps_cons ?_ ?_
        · rintro b a w' ⟨v426, adz_v426, m10_, ha, Q_HO410, Q_HO413, Q_HO419, Q_BK404, Q_BK416, Q_HI407, Q_HB, Q_HI407_e3, Q_HI407_e5, Q_HO427, Q_HA_HO427, Q_HI407_e8, Q_BK404_e12, Q_X10_⟩ hb_ hon hoff
          refine ⟨_, rfl, fun K hK => ?_⟩
          have e2 : a.tmps[2]? = some (.pointer (some ⟨gb404, 0, none⟩)) := by rw [ha]; exact (putSel_off rfl).trans rfl
          have e14 : a.tmps[14]? = some (.agg #[.slice Ao15 t408.length co15, .slice Ao19 t411.length co19, .int .i64 t414]) := by rw [ha]; exact putSel_on (e := (0, 14, .agg #[.slice Ao15 t408.length co15, .slice Ao19 t411.length co19, .int .i64 t414])) 0 rfl rfl (hon 0 (by kernel_rfl)) rfl
          replace ha := Aside0.mk ha
          have HO410 := Aside0.mk Q_HO410
          have HO413 := Aside0.mk Q_HO413
          have HO419 := Aside0.mk Q_HO419
          have BK404 := Aside0.mk (Q_BK404 hb_)
          have BK416 := Aside0.mk Q_BK416
          have HB := Aside0.mk Q_HB
          have HI407 := Aside0.mk (Q_HI407_e8 (hon 8 (by kernel_rfl)))
          have hs26 : w'.cell? ⟨gb404, 0, none⟩ = some (.slice none 0 0) := (blk_cell BK404.out 0).trans rfl
          have hfs26 := blk_frozen BK404.out 0
          have hns26_1 := NB416_404.out
          have hms26_1 := NB404_416.out
          have hs27 : w'.cell? ⟨gb404, 1, none⟩ = some (.slice none 0 0) := (blk_cell BK404.out 1).trans rfl
          have hfs27 := blk_frozen BK404.out 1
          have hns27_1 := NB416_404.out
          have hms27_1 := NB404_416.out
          have hs28 : w'.cell? ⟨gb404, 2, none⟩ = some (.int .i64 0) := (blk_cell BK404.out 2).trans rfl
          have hfs28 := blk_frozen BK404.out 2
          have hns28_1 := NB416_404.out
          have hms28_1 := NB404_416.out
          refine skip_ (w1 := ?_) (by rfl) rfl ?_ ?_
          rotate_left
          · go_simp
            rfl
          refine hK.out _ _ ⟨v426, adz_v426, m10_, (by rw [ha.out]; exact putSel_none (v := undef) rfl), (by (with_reducible repeat (first | apply Kd.Q_alloc | apply Kd.Q_drewN | apply Kd.Q_drew)); exact Kd.Q_mono (Kd.Q_far (p := ⟨gb404, 2, none⟩) (Kd.Q_far (p := ⟨gb404, 1, none⟩) (Kd.Q_far (p := ⟨gb404, 0, none⟩) (Kd.Q_types HO410.out BK404.out (by decide)) (fun _ hk => hk.2) (.slice Ao15 t408.length co15)) (fun _ hk => hk.2) (.slice Ao19 t411.length co19)) (fun _ hk => hk.2) (.int .i64 t414)) (fun _ hk => trivial)), (by (with_reducible repeat (first | apply Kd.S_alloc | apply Kd.S_drewN | apply Kd.S_drew)); exact Kd.S_mono (Kd.S_far (p := ⟨gb404, 2, none⟩) (Kd.S_far (p := ⟨gb404, 1, none⟩) (Kd.S_far (p := ⟨gb404, 0, none⟩) (Kd.S_types HO413.out BK404.out (by decide)) (fun _ hk => hk.2) (.slice Ao15 t408.length co15)) (fun _ hk => hk.2) (.slice Ao19 t411.length co19)) (fun _ hk => hk.2) (.int .i64 t414)) (fun _ hk => hk.1)), (by (with_reducible repeat (first | apply Kd.R_alloc | apply Kd.R_drewN | apply Kd.R_drew)); exact Kd.R_mono (Kd.R_far (p := ⟨gb404, 2, none⟩) (Kd.R_far (p := ⟨gb404, 1, none⟩) (Kd.R_far (p := ⟨gb404, 0, none⟩) (Kd.R_types HO419.out BK404.out (by decide)) (fun _ hk => hk.2) (.slice Ao15 t408.length co15)) (fun _ hk => hk.2) (.slice Ao19 t411.length co19)) (fun _ hk => hk.2) (.int .i64 t414)) (fun _ hk => trivial)), fun h0_ => absurd ((up_self b 12).symm.trans h0_) (by decide), (by (with_reducible repeat (first | refine blk_drewN ?_ _ | refine blk_drew ?_ | refine blk_alloc ?_ _)); refine blk_far ?_ NB416_404.out _; (with_reducible repeat (first | refine blk_drewN ?_ _ | refine blk_drew ?_ | refine blk_alloc ?_ _)); refine blk_far ?_ NB416_404.out _; (with_reducible repeat (first | refine blk_drewN ?_ _ | refine blk_drew ?_ | refine blk_alloc ?_ _)); refine blk_far ?_ NB416_404.out _; (with_reducible repeat (first | refine blk_drewN ?_ _ | refine blk_drew ?_ | refine blk_alloc ?_ _)); exact BK416.out), fun h0_ => absurd ((hon 3 (by kernel_rfl)).symm.trans h0_) (by decide), (by repeat (first | (with_reducible first | exact HB.out | apply below_alloc | apply pw_below_drewN | apply below_drew1 | refine below_set ?_ (IsS109.ge HI407.out) | refine below_set ?_ GE404.out | refine below_set ?_ GE416.out) | exact HB.out)), fun _ h1_ => absurd ((hon 5 (by kernel_rfl)).symm.trans h1_) (by decide), fun _ h1_ => absurd ((hon 8 (by kernel_rfl)).symm.trans h1_) (by decide), fun h0_ => (by (with_reducible repeat (first | apply Kd.R_alloc | apply Kd.R_drewN | apply Kd.R_drew)); exact Kd.R_mono (Kd.R_far (p := ⟨gb404, 2, none⟩) (Kd.R_far (p := ⟨gb404, 1, none⟩) (Kd.R_far (p := ⟨gb404, 0, none⟩) (Kd.R_types (Q_HO427 h0_) BK404.out (by decide)) (fun _ hk => hk.2) (.slice Ao15 t408.length co15)) (fun _ hk => hk.2) (.slice Ao19 t411.length co19)) (fun _ hk => hk.2) (.int .i64 t414)) (fun _ hk => hk.1)), Q_HA_HO427, fun _ => (by repeat (first | (with_reducible first | exact HI407.out | apply IsS109.alloc | apply IsS109.drewN | apply IsS109.drew | apply IsS109.set_1 | refine IsS109.far ?_ NB407_404.out _ | refine IsS109.far ?_ NB407_416.out _) | exact HI407.out)), fun _ => (by (with_reducible repeat (first | refine blk_drewN ?_ _ | refine blk_drew ?_ | refine blk_alloc ?_ _)); refine blk_put (cs := #[.slice Ao15 t408.length co15, .slice Ao19 t411.length co19, .int .i64 0]) ?_ 2 _ rfl; (with_reducible repeat (first | refine blk_drewN ?_ _ | refine blk_drew ?_ | refine blk_alloc ?_ _)); refine blk_put (cs := #[.slice Ao15 t408.length co15, .slice none 0 0, .int .i64 0]) ?_ 1 _ rfl; (with_reducible repeat (first | refine blk_drewN ?_ _ | refine blk_drew ?_ | refine blk_alloc ?_ _)); refine blk_put (cs := #[.slice none 0 0, .slice none 0 0, .int .i64 0]) ?_ 0 _ rfl; (with_reducible repeat (first | refine blk_drewN ?_ _ | refine blk_drew ?_ | refine blk_alloc ?_ _)); exact BK404.out), Q_X10_⟩
        refine steps_cons ?_ ?_
        · rintro b a w' ⟨v426, adz_v426, m10_, ha, Q_HO410, Q_HO413, Q_HO419, Q_BK404, Q_BK416, Q_HI407, Q_HB, Q_HI407_e3, Q_HI407_e5, Q_HO427, Q_HA_HO427, Q_HI407_e8, Q_BK404_e12, Q_X10_⟩ hb_ hon hoff
          refine ⟨_, rfl, fun K hK => ?_⟩
          have e15 : a.tmps[15]? = some (v418) := by rw [ha]; exact (putSel_off rfl).trans rfl
          replace ha := Aside0.mk ha
          have HO410 := Aside0.mk Q_HO410
          have HO413 := Aside0.mk Q_HO413
          have HO419 := Aside0.mk Q_HO419
          have BK416 := Aside0.mk Q_BK416
          have HB := Aside0.mk Q_HB
          have HI407 := Aside0.mk (Q_HI407_e8 (hon 8 (by kernel_rfl)))
          have BK404 := Aside0.mk (Q_BK404_e12 (hon 12 (by kernel_rfl)))
          refine value_ (w1 := w') (v := v418) (by rfl) rfl ?_ ?_
          · go_simp
            (try simp only [i64_w])
            try rfl
          refine hK.out _ _ ⟨v426, adz_v426, m10_, (by rw [ha.out]; exact putSel_upk 8 hb_ rfl rfl rfl), Q_HO410, Q_HO413, Q_HO419, fun h0_ => absurd ((hon 12 (by kernel_rfl)).symm.trans h0_) (by decide), Q_BK416, fun h0_ => absurd ((hon 3 (by kernel_rfl)).symm.trans h0_) (by decide), Q_HB, fun _ h1_ => absurd ((hon 5 (by kernel_rfl)).symm.trans h1_) (by decide), fun _ h1_ => absurd ((hon 8 (by kernel_rfl)).symm.trans h1_) (by decide), Q_HO427, Q_HA_HO427, Q_HI407_e8, Q_BK404_e12, Q_X10_⟩
        refine steps_cons ?_ ?_
        · rintro b a w' ⟨v426, adz_v426, m10_, ha, Q_HO410, Q_HO413, Q_HO419, Q_BK404, Q_BK416, Q_HI407, Q_HB, Q_HI407_e3, Q_HI407_e5, Q_HO427, Q_HA_HO427, Q_HI407_e8, Q_BK404_e12, Q_X10_⟩ hb_ hon hoff
          refine ⟨_, rfl, fun K hK => ?_⟩
          have e25 : a.tmps[25]? = some (.int .i64 (rd y425 (ji8))) := by rw [ha]; exact putSel_on (e := (11, 25, .int .i64 (rd y425 (ji8)))) 7 rfl rfl (hon 11 (by kernel_rfl)) rfl
          replace ha := Aside0.mk ha
          have HO410 := Aside0.mk Q_HO410
          have HO413 := Aside0.mk Q_HO413
          have HO419 := Aside0.mk Q_HO419
          have BK416 := Aside0.mk Q_BK416
          have HB := Aside0.mk Q_HB
          have HO427 := Aside0.mk (Q_HO427 (hon 6 (by kernel_rfl)))
          have HA_HO427 := Aside0.mk (Q_HA_HO427 (hon 6 (by kernel_rfl)))
          have HI407 := Aside0.mk (Q_HI407_e8 (hon 8 (by kernel_rfl)))
          have BK404 := Aside0.mk (Q_BK404_e12 (hon 12 (by kernel_rfl)))
          refine value_ (w1 := w') (v := .int .i64 (rd y425 (ji8))) (by rfl) rfl ?_ ?_
          · go_simp
            (try simp only [i64_w])
            try rfl
          refine hK.out _ _ ⟨v426, adz_v426, m10_, (by rw [ha.out]; exact putSel_upk 9 hb_ rfl rfl rfl), Q_HO410, Q_HO413, Q_HO419, fun h0_ => absurd ((hon 12 (by kernel_rfl)).symm.trans h0_) (by decide), Q_BK416, fun h0_ => absurd ((hon 3 (by kernel_rfl)).symm.trans h0_) (by decide), Q_HB, fun _ h1_ => absurd ((hon 5 (by kernel_rfl)).symm.trans h1_) (by decide), fun _ h1_ => absurd ((hon 8 (by kernel_rfl)).symm.trans h1_) (by decide), Q_HO427, Q_HA_HO427, Q_HI407_e8, Q_BK404_e12, Q_X10_⟩
        exact steps_nil
      rintro b a w31 hall ⟨v426, adz_v426, m10_, ha, Q_HO410, Q_HO413, Q_HO419, Q_BK404, Q_BK416, Q_HI407, Q_HB, Q_HI407_e3, Q_HI407_e5, Q_HO427, Q_HA_HO427, Q_HI407_e8, Q_BK404_e12, Q_X10_⟩
      clear BK404 BK416 HB HI407 HO410 HO413 HO419
      have hb0_ := hall 0 (by kernel_rfl)
      have hb3_ := hall 3 (by kernel_rfl)
      have hb5_ := hall 5 (by kernel_rfl)
      have hb6_ := hall 6 (by kernel_rfl)
      have hb8_ := hall 8 (by kernel_rfl)
      have hb9_ := hall 9 (by kernel_rfl)
      have hb10_ := hall 10 (by kernel_rfl)
      have hb11_ := hall 11 (by kernel_rfl)
      have hb12_ := hall 12 (by kernel_rfl)
      have hb13_ := hall 13 (by kernel_rfl)
      have hb14_ := hall 14 (by kernel_rfl)
      subst ha
      obtain rfl := Q_X10_ hb10_
      simp only [putSel, hb0_, hb3_, hb5_, hb6_, hb8_, hb9_, hb10_, hb11_, hb12_, hb13_, hb14_, if_true, Act.put, List.setIfInBounds_toArray, List.set_cons_zero, List.set_cons_succ]
      have HO410 := Aside0.mk Q_HO410
      clear Q_HO410
      have HO413 := Aside0.mk Q_HO413
      clear Q_HO413
      have HO419 := Aside0.mk Q_HO419
      clear Q_HO419
      clear Q_BK404
      have BK416 := Aside0.mk Q_BK416
      clear Q_BK416
      clear Q_HI407
      have HB := Aside0.mk Q_HB
      clear Q_HB
      clear Q_HI407_e3
      clear Q_HI407_e5
      have HO427 := Aside0.mk (Q_HO427 hb6_)
      clear Q_HO427
      have HA_HO427 := Aside0.mk (Q_HA_HO427 hb6_)
      clear Q_HA_HO427
      have HI407 := Aside0.mk (Q_HI407_e8 hb8_)
      clear Q_HI407_e8
      have BK404 := Aside0.mk (Q_BK404_e12 hb12_)
      clear Q_BK404_e12
      clear hall hb0_ hb3_ hb5_ hb6_ hb8_ hb9_ hb10_ hb11_ hb12_ hb13_ hb14_
      obtain ⟨co32, eo32⟩ := HA_HO427.out
      clear HA_HO427
      subst eo32
      try go_wp2
      refine bodyPost_ret (results_ctt rfl _ _ gb404 42 #[.slice Ao15 t408.length co15, .slice Ao19 t411.length co19, .int .i64 t414] (0, 0) _ rfl (by (with_reducible repeat (first | refine blk_drewN ?_ _ | refine blk_drew ?_ | refine blk_alloc ?_ _)); exact BK404.out) Try.underlying42 rfl (by kernel_rfl)) rfl ?_
      exact ⟨_, _, _, by first | rfl | (simp [errW_none, errW_some] <;> rfl) | (simp only [← hji8]; first | rfl | (simp [errW_none, errW_some] <;> rfl)) | (simp [*, errW_none, errW_some] <;> rfl), by (with_reducible repeat (first | apply Kd.Q_alloc | apply Kd.Q_drewN | apply Kd.Q_drew)); exact Kd.Q_mono HO410.out (fun _ hk => trivial), by (with_reducible repeat (first | apply Kd.S_alloc | apply Kd.S_drewN | apply Kd.S_drew)); exact Kd.S_mono HO413.out (by intro _ hk_; first | exact hk_.1 | exact hk_), by (with_reducible repeat (first | apply Kd.R_alloc | apply Kd.R_drewN | apply Kd.R_drew)); exact HO419.out, by repeat (first | (with_reducible first | exact HB.out | apply below_alloc | apply pw_below_drewN | apply below_drew1 | refine below_set ?_ (IsS109.ge HI407.out) | refine below_set ?_ GE404.out | refine below_set ?_ GE416.out) | exact HB.out)⟩
    · rw [if_neg c10] at H
      exact absurd H (by simp)
  · rw [if_neg c9] at H
    exact absurd H (by simp)

end Go.Proofs.Ytekbnloceifdmaa.PFnCheatsOrder
