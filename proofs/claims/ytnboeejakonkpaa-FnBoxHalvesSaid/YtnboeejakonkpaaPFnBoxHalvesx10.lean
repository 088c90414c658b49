-- Written by wip/tools/print_more.py (forms of the print, over contracts of this session).
import Derived.Test.YtnboeejakonkpaaPFnBoxHalvesx0
import Derived.Test.YtnboeejakonkpaaPFnBoxHalvesx1
import Derived.Test.YtnboeejakonkpaaPFnBoxHalvesx3
import Derived.Test.YtnboeejakonkpaaPFnBoxHalvesx4
import Derived.Test.YtnboeejakonkpaaPFnBoxHalvesx6
import Derived.Test.YtnboeejakonkpaaPFnBoxHalvesx7
import Derived.Test.YtnboeejakonkpaaPFnBoxHalvesx9
namespace Go.Proofs.Ytnboeejakonkpaa.PFnBoxHalves
open Go.RowKit Go.Proofs.YtnboeejakonkpaaW.PrintWords Go.Proofs.YtnboeejakonkpaaW.PrintLast Go.Proofs.YtnboeejakonkpaaW.PrintMore
attribute [local go_sem] max2_int min2_int max_two min_two max_three min_three max_four min_four   -- for this text's walks alone
set_option linter.unusedVariables false
set_option linter.unusedSimpArgs false

attribute [local go_sem high] eqA28
/-! ### laws_FnBoxHalves: function 7 -/
def laws_FnBoxHalves.j0 : Nat → List (List Bool) → Int → Bool → Int → Int → Int → Int → Int → Int → Int → Int → Option (Bool)
  | 0, _, _, _, _, _, _, _, _, _, _, _ => none
  | k + 1, x3, x5, x35, x305000, x305001, x305002, x305003, x310000, x310001, x310002, x310003 => if x35 = true then (if (x310000 == 0 && (x310001 == 0 && (x310002 == 0 && (x310003 == 0)))) = true then ((laws_alive.f).bind fun t316 => (some t316)) else (some false)) else ((impl_MoveBox.f k x3 x305000 x305001 x305002 x305003 (wrap64 (Int.tdiv x5 2)) 0).bind fun bt317 => ((impl_MoveBox.f k x3 bt317.1 bt317.2.1 bt317.2.2.1 bt317.2.2.2 (wrap64 (x5 - (wrap64 (Int.tdiv x5 2)))) 0).bind fun bt321 => (some (bt321.1 == x310000 && (bt321.2.1 == x310001 && (bt321.2.2.1 == x310002 && (bt321.2.2.2 == x310003)))))))
def laws_FnBoxHalves.f (k : Nat) (l0 : List Int) : Option (Bool) := if (l0.length : Int) > 1048576 then (some true) else ((spec_DrawMoveBox.f k l0).bind fun bt295 => ((impl_MoveBox.f k bt295.1 bt295.2.1 bt295.2.2.1 bt295.2.2.2.1 bt295.2.2.2.2.1 bt295.2.2.2.2.2.1 0).bind fun bt305 => ((spec_MoveBox.f k bt295.1 bt295.2.1 bt295.2.2.1 bt295.2.2.2.1 bt295.2.2.2.2.1 bt295.2.2.2.2.2.1 0).bind fun bt310 => (if (!(bt305.1 == bt310.1) || (!(bt305.2.1 == bt310.2.1) || (!(bt305.2.2.1 == bt310.2.2.1) || (!(bt305.2.2.2 == bt310.2.2.2))))) = true then (some false) else ((impl_BoxBlocked.f k bt295.1 bt295.2.1 bt295.2.2.1 bt295.2.2.2.1 bt295.2.2.2.2.1).bind fun t314 => (if t314 = true then (laws_FnBoxHalves.j0 k bt295.1 bt295.2.2.2.2.2.1 true bt295.2.1 bt295.2.2.1 bt295.2.2.2.1 bt295.2.2.2.2.1 bt305.1 bt305.2.1 bt305.2.2.1 bt305.2.2.2) else ((laws_abs.f bt295.2.2.2.2.2.1).bind fun t315 => (laws_FnBoxHalves.j0 k bt295.1 bt295.2.2.2.2.2.1 (decide (t315 > 64)) bt295.2.1 bt295.2.2.1 bt295.2.2.2.1 bt295.2.2.2.2.1 bt305.1 bt305.2.1 bt305.2.2.1 bt305.2.2.2))))))))
theorem laws_FnBoxHalves.mono_l : ∀ k, (∀ y0 y1 y2 y3 y4 y5 y6 y7 y8 y9 y10, LeO (laws_FnBoxHalves.j0 k y0 y1 y2 y3 y4 y5 y6 y7 y8 y9 y10) (laws_FnBoxHalves.j0 (k + 1) y0 y1 y2 y3 y4 y5 y6 y7 y8 y9 y10))
  | 0 => fun _ _ _ _ _ _ _ _ _ _ _ r h => by simp [laws_FnBoxHalves.j0] at h
  | k + 1 => by
    have ih0 := laws_FnBoxHalves.mono_l k
    · intro y0 y1 y2 y3 y4 y5 y6 y7 y8 y9 y10
      unfold laws_FnBoxHalves.j0
      repeat' first
      | (with_reducible exact ih0 _ _ _ _ _ _ _ _ _ _ _)
      | (with_reducible exact impl_BoxBlocked.mono _ _ _ _ _ _)
      | (with_reducible exact impl_MoveBox.mono _ _ _ _ _ _ _ _)
      | (with_reducible exact spec_DrawMoveBox.mono _ _)
      | (with_reducible exact spec_MoveBox.mono _ _ _ _ _ _ _ _)
      | (with_reducible exact LeO.refl _)
      | (with_reducible exact LeO.none _)
      | (with_reducible refine LeO.ite ?_ ?_)
      | (with_reducible refine LeO.bind ?_ (fun _ => ?_))
      | exact ih0 _ _ _ _ _ _ _ _ _ _ _
      | exact impl_BoxBlocked.mono _ _ _ _ _ _
      | exact impl_MoveBox.mono _ _ _ _ _ _ _ _
      | exact spec_DrawMoveBox.mono _ _
      | exact spec_MoveBox.mono _ _ _ _ _ _ _ _
      | exact LeO.none _
      | refine LeO.ite ?_ ?_
      | refine LeO.bind ?_ (fun _ => ?_)
theorem laws_FnBoxHalves.mono : ∀ a0 k, LeO (laws_FnBoxHalves.f k a0) (laws_FnBoxHalves.f (k + 1) a0) := by
  intro a0 k
  have ih0 := laws_FnBoxHalves.mono_l k
  unfold laws_FnBoxHalves.f
  repeat' first
      | (with_reducible exact ih0 _ _ _ _ _ _ _ _ _ _ _)
      | (with_reducible exact impl_BoxBlocked.mono _ _ _ _ _ _)
      | (with_reducible exact impl_MoveBox.mono _ _ _ _ _ _ _ _)
      | (with_reducible exact spec_DrawMoveBox.mono _ _)
      | (with_reducible exact spec_MoveBox.mono _ _ _ _ _ _ _ _)
      | (with_reducible exact LeO.refl _)
      | (with_reducible exact LeO.none _)
      | (with_reducible refine LeO.ite ?_ ?_)
      | (with_reducible refine LeO.bind ?_ (fun _ => ?_))
      | exact ih0 _ _ _ _ _ _ _ _ _ _ _
      | exact impl_BoxBlocked.mono _ _ _ _ _ _
      | exact impl_MoveBox.mono _ _ _ _ _ _ _ _
      | exact spec_DrawMoveBox.mono _ _
      | exact spec_MoveBox.mono _ _ _ _ _ _ _ _
      | exact LeO.none _
      | refine LeO.ite ?_ ?_
      | refine LeO.bind ?_ (fun _ => ?_)
def laws_FnBoxHalves.T9 : Bool × List (List Nat × List Nat) := (true, [([], []), ([], []), ([], []), ([], []), ([3], [3]), ([1, 2, 4], [1, 2, 4]), ([], []), ([], []), ([7], [7]), ([6, 8], [6, 8]), ([0, 5, 9, 5], [0, 5, 9]), ([], []), ([10, 11], [10, 11]), ([12, 10, 0, 1, 2, 3, 4, 5, 6, 7, 8, 9, 10, 11, 12], [12])])
def laws_FnBoxHalves.B9 : List Nat := [0, 0, 0, 0, 8, 30, 0, 0, 128, 448, 1023, 0, 4095, 8191]
theorem laws_FnBoxHalves.tab9 : rtab .any (opsOf Try.f7 9) = laws_FnBoxHalves.T9 := by kernel_rfl
theorem laws_FnBoxHalves.bits9 : waitsOk laws_FnBoxHalves.T9.2 laws_FnBoxHalves.B9 = true := by kernel_rfl
set_option maxHeartbeats 8000000 in
set_option maxRecDepth 100000 in
theorem laws_FnBoxHalves.calls (k : Nat) (A0 : Option Addr) (c0 : Nat) (l0 : List Int) (r : Bool) (w : World) (hr0 : Kd.C (Kd.int .u8) w A0 l0.length l0) (hc0 : l0.length ≤ c0) (h : laws_FnBoxHalves.f k l0 = some r) :
    Calls Try.prog 7 #[.slice A0 l0.length c0] w fun e w' => e = .returned (.bool r) ∧ Below w.heap.size w w' := by
  have hu28 := Try.underlying28
  have HR0 := Aside0.mk hr0
  have HC0 := Aside0.mk hc0
  clear hr0 hc0
  have HB := Aside0.mk (Below.refl w.heap.size w)
  have H : (if (l0.length : Int) > 1048576 then (some true) else ((spec_DrawMoveBox.f k l0).bind fun bt295 => ((impl_MoveBox.f k bt295.1 bt295.2.1 bt295.2.2.1 bt295.2.2.2.1 bt295.2.2.2.2.1 bt295.2.2.2.2.2.1 0).bind fun bt305 => ((spec_MoveBox.f k bt295.1 bt295.2.1 bt295.2.2.1 bt295.2.2.2.1 bt295.2.2.2.2.1 bt295.2.2.2.2.2.1 0).bind fun bt310 => (if (!(bt305.1 == bt310.1) || (!(bt305.2.1 == bt310.2.1) || (!(bt305.2.2.1 == bt310.2.2.1) || (!(bt305.2.2.2 == bt310.2.2.2))))) = true then (some false) else ((impl_BoxBlocked.f k bt295.1 bt295.2.1 bt295.2.2.1 bt295.2.2.2.1 bt295.2.2.2.2.1).bind fun t314 => (if t314 = true then (laws_FnBoxHalves.j0 k bt295.1 bt295.2.2.2.2.2.1 true bt295.2.1 bt295.2.2.1 bt295.2.2.2.1 bt295.2.2.2.2.1 bt305.1 bt305.2.1 bt305.2.2.1 bt305.2.2.2) else ((laws_abs.f bt295.2.2.2.2.2.1).bind fun t315 => (laws_FnBoxHalves.j0 k bt295.1 bt295.2.2.2.2.2.1 (decide (t315 > 64)) bt295.2.1 bt295.2.2.1 bt295.2.2.2.1 bt295.2.2.2.2.1 bt305.1 bt305.2.1 bt305.2.2.1 bt305.2.2.2))))))))) = some r := h
  clear h
  by_cases c2 : (l0.length : Int) > 1048576
  · rw [if_pos c2] at H
    have c2b0 : decide (1048576 < (l0.length : Int)) = true := decide_eq_true c2
    have c2b1 : decide (1048576 < l0.length) = true := decide_eq_true (by omega)
    clear c2
    obtain rfl := Option.some.inj H
    go_enter Try.func7, Try.ntmps7
    go_wp2
    go_ret
    exact ⟨by first | rfl | (simp [errW_none, errW_some] <;> rfl) | (simp [*, errW_none, errW_some] <;> rfl), by repeat (first | (with_reducible first | exact HB.out | apply below_alloc | apply pw_below_drewN | apply below_drew1) | exact HB.out)⟩
  · rw [if_neg c2] at H
    have c2b0 : decide (1048576 < (l0.length : Int)) = false := decide_eq_false c2
    have c2b1 : decide (1048576 < l0.length) = false := decide_eq_false (by omega)
    clear c2
    replace H := Option.bind_eq_some_iff.mp H
    obtain ⟨⟨t295, t298, t299, t300, t301, t302, t303⟩, A30, H⟩ := H
    replace H : ((impl_MoveBox.f k t295 t298 t299 t300 t301 t302 0).bind fun bt305 => ((spec_MoveBox.f k t295 t298 t299 t300 t301 t302 0).bind fun bt310 => (if (!(bt305.1 == bt310.1) || (!(bt305.2.1 == bt310.2.1) || (!(bt305.2.2.1 == bt310.2.2.1) || (!(bt305.2.2.2 == bt310.2.2.2))))) = true then (some false) else ((impl_BoxBlocked.f k t295 t298 t299 t300 t301).bind fun t314 => (if t314 = true then (laws_FnBoxHalves.j0 k t295 t302 true t298 t299 t300 t301 bt305.1 bt305.2.1 bt305.2.2.1 bt305.2.2.2) else ((laws_abs.f t302).bind fun t315 => (laws_FnBoxHalves.j0 k t295 t302 (decide (t315 > 64)) t298 t299 t300 t301 bt305.1 bt305.2.1 bt305.2.2.1 bt305.2.2.2))))))) = some r := H
    have A3 := Aside0.mk A30
    clear A30
    replace H := Option.bind_eq_some_iff.mp H
    obtain ⟨⟨t305, t306, t307, t308⟩, A40, H⟩ := H
    replace H : ((spec_MoveBox.f k t295 t298 t299 t300 t301 t302 0).bind fun bt310 => (if (!(t305 == bt310.1) || (!(t306 == bt310.2.1) || (!(t307 == bt310.2.2.1) || (!(t308 == bt310.2.2.2))))) = true then (some false) else ((impl_BoxBlocked.f k t295 t298 t299 t300 t301).bind fun t314 => (if t314 = true then (laws_FnBoxHalves.j0 k t295 t302 true t298 t299 t300 t301 t305 t306 t307 t308) else ((laws_abs.f t302).bind fun t315 => (laws_FnBoxHalves.j0 k t295 t302 (decide (t315 > 64)) t298 t299 t300 t301 t305 t306 t307 t308)))))) = some r := H
    have A4 := Aside0.mk A40
    clear A40
    replace H := Option.bind_eq_some_iff.mp H
    obtain ⟨⟨t310, t311, t312, t313⟩, A50, H⟩ := H
    replace H : (if (!(t305 == t310) || (!(t306 == t311) || (!(t307 == t312) || (!(t308 == t313))))) = true then (some false) else ((impl_BoxBlocked.f k t295 t298 t299 t300 t301).bind fun t314 => (if t314 = true then (laws_FnBoxHalves.j0 k t295 t302 true t298 t299 t300 t301 t305 t306 t307 t308) else ((laws_abs.f t302).bind fun t315 => (laws_FnBoxHalves.j0 k t295 t302 (decide (t315 > 64)) t298 t299 t300 t301 t305 t306 t307 t308))))) = some r := H
    have A5 := Aside0.mk A50
    clear A50
    by_cases c6 : (!(t305 == t310) || (!(t306 == t311) || (!(t307 == t312) || (!(t308 == t313))))) = true
    · rw [if_pos c6] at H
      have c6b0 : (!(t305 == t310) || (!(t306 == t311) || (!(t307 == t312) || (!(t308 == t313))))) = true := c6
      clear c6
      obtain rfl := Option.some.inj H
      go_enter Try.func7, Try.ntmps7
      try go_wp2_with (first | ((with_reducible refine gate_callee (f := 27) rfl ?_); refine goesL_ (some 13) rfl rfl Try.func27 (by kernel_rfl) rfl #[.slice A0 l0.length c0] rfl (by (try simp only [List.map_toArray, List.map_cons, List.map_nil]); first | done | rfl | (simp only [List.length_drop, List.length_take]; rfl)) ?_; (with_reducible refine (spec_DrawMoveBox.calls k _ _ l0 t295 t298 t299 t300 t301 t302 t303 _ ?side1 ?side2 A3.out).mono ?_); (case side1 => repeat (first | exact HR0.out | (with_reducible refine Kd.C_alloc ?_ _) | (with_reducible refine Kd.C_drewN ?_ _) | (with_reducible refine Kd.C_drew ?_))); (case side2 => exact HC0.out); rintro e w7 ⟨v296, rfl, ho0, hb⟩; refine ⟨_, rfl, ?_⟩; have n0_ := Aside0.mk (Kd.S_lower ho0 (below_size (by repeat (first | (with_reducible first | exact HB.out | apply below_alloc | apply pw_below_drewN | apply below_drew1) | exact HB.out)))); have n1_ := Aside0.mk (below_step (by repeat (first | (with_reducible first | exact HB.out | apply below_alloc | apply pw_below_drewN | apply below_drew1) | exact HB.out)) hb); clear HB; have HO297 := n0_; have HB := n1_; clear n0_ n1_; (try clear hb); (try clear hb2); (try clear hk); (try clear hi); (try clear ho0)) | ((with_reducible refine gate_dst (N := 4) rfl ?_); refine box_event ?hg (N := 4) ?hd (cs := #[.int .i64 0, .int .i64 0, .int .i64 0, .int .i64 0]) (t := 28) ?hr ?_; (case hd => rfl); (case hg => rfl); (case hr => first | (go_simp; done) | (go_simp; rfl)); intro gb304 hg w8 hbox hb; have n0_ := Aside0.mk (Kd.S_below (by (with_reducible repeat (first | apply Kd.S_alloc | apply Kd.S_drewN | apply Kd.S_drew)); exact HO297.out) hb); have n1_ := Aside0.mk (below_step (by repeat (first | (with_reducible first | exact HB.out | apply below_alloc | apply pw_below_drewN | apply below_drew1) | exact HB.out)) hb); have n2_ := Aside0.mk (hbox); have n3_ := Aside0.mk ((by rw [hg]; exact (below_size (by repeat (first | (with_reducible first | exact HB.out | apply below_alloc | apply pw_below_drewN | apply below_drew1) | exact HB.out))) : w.heap.size ≤ gb304)); have n4_ := Aside0.mk ((by rw [hg]; exact (below_size (by repeat (first | (with_reducible first | exact HB.out | apply below_alloc | apply pw_below_drewN | apply below_drew1) | exact HB.out))) : w.heap.size ≤ gb304)); clear HO297; clear HB; have HO297 := n0_; have HB := n1_; have BK304 := n2_; have GW304 := n3_; have GE304 := n4_; clear n0_ n1_ n2_ n3_ n4_; clear hb hbox hg; have hcz9_0 : w8.cell? ⟨gb304, 0, none⟩ = some (.int .i64 0) := (blk_cell BK304.out 0).trans rfl; have hcz9_1 : w8.cell? ⟨gb304, 1, none⟩ = some (.int .i64 0) := (blk_cell BK304.out 1).trans rfl; have hcz9_2 : w8.cell? ⟨gb304, 2, none⟩ = some (.int .i64 0) := (blk_cell BK304.out 2).trans rfl; have hcz9_3 : w8.cell? ⟨gb304, 3, none⟩ = some (.int .i64 0) := (blk_cell BK304.out 3).trans rfl; have hfz9_0 := blk_frozen BK304.out 0; have hfz9_1 := blk_frozen BK304.out 1; have hfz9_2 := blk_frozen BK304.out 2; have hfz9_3 := blk_frozen BK304.out 3; obtain ⟨Ao10, co10, eo10⟩ := Kd.S_slice HO297.out; subst eo10) | ((with_reducible refine gate_callee (f := 25) rfl ?_); refine goesL_ (some 21) rfl rfl Try.func25 (by kernel_rfl) rfl #[.slice Ao10 t295.length co10, .agg #[.int .i64 t298, .int .i64 t299, .int .i64 t300, .int .i64 t301], .int .i64 t302, .int .i64 0] rfl (by (try simp only [List.map_toArray, List.map_cons, List.map_nil]); first | done | rfl | (simp only [List.length_drop, List.length_take]; rfl)) ?_; (with_reducible refine (impl_MoveBox.calls k _ _ t295 t298 t299 t300 t301 t302 0 t305 t306 t307 t308 _ ?side1 ?side2 A4.out).mono ?_); (case side1 => refine (Kd.S_reads' (e := 36) (base := w.heap.size) (ok := fun k_ => True) (n := t295.length) (c := co10) ?_).2.2; exact (by (with_reducible repeat (first | apply Kd.S_alloc | apply Kd.S_drewN | apply Kd.S_drew)); exact (Kd.S_mono (Kd.S_far (p := ⟨gb304, 3, none⟩) (Kd.S_far (p := ⟨gb304, 2, none⟩) (Kd.S_far (p := ⟨gb304, 1, none⟩) (Kd.S_far (p := ⟨gb304, 0, none⟩) (Kd.S_types HO297.out BK304.out (by decide)) (fun _ hk => hk.2) (.int .i64 t298)) (fun _ hk => hk.2) (.int .i64 t299)) (fun _ hk => hk.2) (.int .i64 t300)) (fun _ hk => hk.2) (.int .i64 t301)) (fun _ h_ => h_.1)))); (case side2 => exact (Kd.S_reads' HO297.out).2.1); rintro e w11 ⟨rfl, hb⟩; refine ⟨_, rfl, ?_⟩; have n0_ := Aside0.mk (Kd.S_below (by (with_reducible repeat (first | apply Kd.S_alloc | apply Kd.S_drewN | apply Kd.S_drew)); exact (Kd.S_mono (Kd.S_far (p := ⟨gb304, 3, none⟩) (Kd.S_far (p := ⟨gb304, 2, none⟩) (Kd.S_far (p := ⟨gb304, 1, none⟩) (Kd.S_far (p := ⟨gb304, 0, none⟩) (Kd.S_types HO297.out BK304.out (by decide)) (fun _ hk => hk.2) (.int .i64 t298)) (fun _ hk => hk.2) (.int .i64 t299)) (fun _ hk => hk.2) (.int .i64 t300)) (fun _ hk => hk.2) (.int .i64 t301)) (fun _ h_ => h_.1))) hb); have n1_ := Aside0.mk (blk_below (g := gb304) (o := .cells #[.int .i64 t298, .int .i64 t299, .int .i64 t300, .int .i64 t301] 28 (0, 0)) (by (with_reducible repeat (first | refine blk_drewN ?_ _ | refine blk_drew ?_ | refine blk_alloc ?_ _)); refine blk_put (cs := #[.int .i64 t298, .int .i64 t299, .int .i64 t300, .int .i64 0]) ?_ 3 _ rfl; (with_reducible repeat (first | refine blk_drewN ?_ _ | refine blk_drew ?_ | refine blk_alloc ?_ _)); refine blk_put (cs := #[.int .i64 t298, .int .i64 t299, .int .i64 0, .int .i64 0]) ?_ 2 _ rfl; (with_reducible repeat (first | refine blk_drewN ?_ _ | refine blk_drew ?_ | refine blk_alloc ?_ _)); refine blk_put (cs := #[.int .i64 t298, .int .i64 0, .int .i64 0, .int .i64 0]) ?_ 1 _ rfl; (with_reducible repeat (first | refine blk_drewN ?_ _ | refine blk_drew ?_ | refine blk_alloc ?_ _)); refine blk_put (cs := #[.int .i64 0, .int .i64 0, .int .i64 0, .int .i64 0]) ?_ 0 _ rfl; (with_reducible repeat (first | refine blk_drewN ?_ _ | refine blk_drew ?_ | refine blk_alloc ?_ _)); exact BK304.out) hb); have n2_ := Aside0.mk (below_step (by repeat (first | (with_reducible first | exact HB.out | apply below_alloc | apply pw_below_drewN | apply below_drew1 | refine below_set ?_ GE304.out) | exact HB.out)) hb); clear HO297; clear BK304; clear HB; have HO297 := n0_; have BK304 := n1_; have HB := n2_; clear n0_ n1_ n2_; (try clear hb); (try clear hb2); (try clear hk); (try clear hi)) | ((with_reducible refine gate_dst (N := 7) rfl ?_); refine box_event ?hg (N := 7) ?hd (cs := #[.int .i64 0, .int .i64 0, .int .i64 0, .int .i64 0]) (t := 28) ?hr ?_; (case hd => rfl); (case hg => rfl); (case hr => first | (go_simp; done) | (go_simp; rfl)); intro gb309 hg w12 hbox hb; have n0_ := Aside0.mk (Kd.S_below (by (with_reducible repeat (first | apply Kd.S_alloc | apply Kd.S_drewN | apply Kd.S_drew)); exact HO297.out) hb); have n1_ := Aside0.mk (blk_below (g := gb304) (o := .cells #[.int .i64 t298, .int .i64 t299, .int .i64 t300, .int .i64 t301] 28 (0, 0)) (by (with_reducible repeat (first | refine blk_drewN ?_ _ | refine blk_drew ?_ | refine blk_alloc ?_ _)); exact BK304.out) hb); have n2_ := Aside0.mk (below_step (by repeat (first | (with_reducible first | exact HB.out | apply below_alloc | apply pw_below_drewN | apply below_drew1 | refine below_set ?_ GE304.out) | exact HB.out)) hb); have n3_ := Aside0.mk (hbox); have n4_ := Aside0.mk ((by rw [hg]; exact (below_size (by repeat (first | (with_reducible first | exact HB.out | apply below_alloc | apply pw_below_drewN | apply below_drew1 | refine below_set ?_ GE304.out) | exact HB.out))) : w.heap.size ≤ gb309)); have n5_ := Aside0.mk ((by rw [hg]; exact (below_size (by repeat (first | (with_reducible first | exact HB.out | apply below_alloc | apply pw_below_drewN | apply below_drew1 | refine below_set ?_ GE304.out) | exact HB.out))) : w.heap.size ≤ gb309)); have n6_ := Aside0.mk ((by rw [hg]; exact Nat.ne_of_lt (blk_lt (g := gb304) (o := .cells #[.int .i64 t298, .int .i64 t299, .int .i64 t300, .int .i64 t301] 28 (0, 0)) (by (with_reducible repeat (first | refine blk_drewN ?_ _ | refine blk_drew ?_ | refine blk_alloc ?_ _)); exact BK304.out)) : gb304 ≠ gb309)); have n7_ := Aside0.mk ((by rw [hg]; exact Nat.ne_of_gt (blk_lt (g := gb304) (o := .cells #[.int .i64 t298, .int .i64 t299, .int .i64 t300, .int .i64 t301] 28 (0, 0)) (by (with_reducible repeat (first | refine blk_drewN ?_ _ | refine blk_drew ?_ | refine blk_alloc ?_ _)); exact BK304.out)) : gb309 ≠ gb304)); clear HO297; clear BK304; clear HB; have HO297 := n0_; have BK304 := n1_; have HB := n2_; have BK309 := n3_; have GW309 := n4_; have GE309 := n5_; have NB304_309 := n6_; have NB309_304 := n7_; clear n0_ n1_ n2_ n3_ n4_ n5_ n6_ n7_; clear hb hbox hg; have hnb13 := NB309_304.out; have hnc13 := NB304_309.out; have hcz14_0 : w12.cell? ⟨gb309, 0, none⟩ = some (.int .i64 0) := (blk_cell BK309.out 0).trans rfl; have hcz14_1 : w12.cell? ⟨gb309, 1, none⟩ = some (.int .i64 0) := (blk_cell BK309.out 1).trans rfl; have hcz14_2 : w12.cell? ⟨gb309, 2, none⟩ = some (.int .i64 0) := (blk_cell BK309.out 2).trans rfl; have hcz14_3 : w12.cell? ⟨gb309, 3, none⟩ = some (.int .i64 0) := (blk_cell BK309.out 3).trans rfl; have hfz14_0 := blk_frozen BK309.out 0; have hfz14_1 := blk_frozen BK309.out 1; have hfz14_2 := blk_frozen BK309.out 2; have hfz14_3 := blk_frozen BK309.out 3))
      have n0_ : Aside0 (Kd.S (Kd.slice 4 Kd.bool) 36 ((((w12.setCell ⟨gb309, 0, none⟩ (.int .i64 t305)).setCell ⟨gb309, 1, none⟩ (.int .i64 t306)).setCell ⟨gb309, 2, none⟩ (.int .i64 t307)).setCell ⟨gb309, 3, none⟩ (.int .i64 t308)) w.heap.size (fun _ => True) (.slice Ao10 t295.length co10) t295) := ⟨by (with_reducible repeat (first | apply Kd.S_alloc | apply Kd.S_drewN | apply Kd.S_drew)); exact Kd.S_mono (Kd.S_far (p := ⟨gb309, 3, none⟩) (Kd.S_far (p := ⟨gb309, 2, none⟩) (Kd.S_far (p := ⟨gb309, 1, none⟩) (Kd.S_far (p := ⟨gb309, 0, none⟩) (Kd.S_types HO297.out BK309.out (by decide)) (fun _ hk => hk.2) (.int .i64 t305)) (fun _ hk => hk.2) (.int .i64 t306)) (fun _ hk => hk.2) (.int .i64 t307)) (fun _ hk => hk.2) (.int .i64 t308)) (fun _ hk => trivial)⟩
      have n1_ : Aside0 (((((w12.setCell ⟨gb309, 0, none⟩ (.int .i64 t305)).setCell ⟨gb309, 1, none⟩ (.int .i64 t306)).setCell ⟨gb309, 2, none⟩ (.int .i64 t307)).setCell ⟨gb309, 3, none⟩ (.int .i64 t308)).heap[gb304]? = some (.cells #[.int .i64 t298, .int .i64 t299, .int .i64 t300, .int .i64 t301] 28 (0, 0))) := ⟨by (with_reducible repeat (first | refine blk_drewN ?_ _ | refine blk_drew ?_ | refine blk_alloc ?_ _)); refine blk_far ?_ NB304_309.out _; (with_reducible repeat (first | refine blk_drewN ?_ _ | refine blk_drew ?_ | refine blk_alloc ?_ _)); refine blk_far ?_ NB304_309.out _; (with_reducible repeat (first | refine blk_drewN ?_ _ | refine blk_drew ?_ | refine blk_alloc ?_ _)); refine blk_far ?_ NB304_309.out _; (with_reducible repeat (first | refine blk_drewN ?_ _ | refine blk_drew ?_ | refine blk_alloc ?_ _)); refine blk_far ?_ NB304_309.out _; (with_reducible repeat (first | refine blk_drewN ?_ _ | refine blk_drew ?_ | refine blk_alloc ?_ _)); exact BK304.out⟩
      have n2_ : Aside0 (((((w12.setCell ⟨gb309, 0, none⟩ (.int .i64 t305)).setCell ⟨gb309, 1, none⟩ (.int .i64 t306)).setCell ⟨gb309, 2, none⟩ (.int .i64 t307)).setCell ⟨gb309, 3, none⟩ (.int .i64 t308)).heap[gb309]? = some (.cells #[.int .i64 t305, .int .i64 t306, .int .i64 t307, .int .i64 t308] 28 (0, 0))) := ⟨by (with_reducible repeat (first | refine blk_drewN ?_ _ | refine blk_drew ?_ | refine blk_alloc ?_ _)); refine blk_put (cs := #[.int .i64 t305, .int .i64 t306, .int .i64 t307, .int .i64 0]) ?_ 3 _ rfl; (with_reducible repeat (first | refine blk_drewN ?_ _ | refine blk_drew ?_ | refine blk_alloc ?_ _)); refine blk_put (cs := #[.int .i64 t305, .int .i64 t306, .int .i64 0, .int .i64 0]) ?_ 2 _ rfl; (with_reducible repeat (first | refine blk_drewN ?_ _ | refine blk_drew ?_ | refine blk_alloc ?_ _)); refine blk_put (cs := #[.int .i64 t305, .int .i64 0, .int .i64 0, .int .i64 0]) ?_ 1 _ rfl; (with_reducible repeat (first | refine blk_drewN ?_ _ | refine blk_drew ?_ | refine blk_alloc ?_ _)); refine blk_put (cs := #[.int .i64 0, .int .i64 0, .int .i64 0, .int .i64 0]) ?_ 0 _ rfl; (with_reducible repeat (first | refine blk_drewN ?_ _ | refine blk_drew ?_ | refine blk_alloc ?_ _)); exact BK309.out⟩
      have n3_ : Aside0 (Below w.heap.size w ((((w12.setCell ⟨gb309, 0, none⟩ (.int .i64 t305)).setCell ⟨gb309, 1, none⟩ (.int .i64 t306)).setCell ⟨gb309, 2, none⟩ (.int .i64 t307)).setCell ⟨gb309, 3, none⟩ (.int .i64 t308))) := ⟨by repeat (first | (with_reducible first | exact HB.out | apply below_alloc | apply pw_below_drewN | apply below_drew1 | refine below_set ?_ GE304.out | refine below_set ?_ GE309.out) | exact HB.out)⟩
      (try clear HO297)
      (try clear BK304)
      (try clear BK309)
      (try clear HB)
      generalize ((((w12.setCell ⟨gb309, 0, none⟩ (.int .i64 t305)).setCell ⟨gb309, 1, none⟩ (.int .i64 t306)).setCell ⟨gb309, 2, none⟩ (.int .i64 t307)).setCell ⟨gb309, 3, none⟩ (.int .i64 t308)) = w15 at n0_ n1_ n2_ n3_ ⊢
      have HO297 := n0_
      have BK304 := n1_
      have BK309 := n2_
      have HB := n3_
      clear n0_ n1_ n2_ n3_
      have n0_ := Aside0.mk (Kd.S_drew HO297.out)
      have n1_ := Aside0.mk (blk_drew BK304.out)
      have n2_ := Aside0.mk (blk_drew BK309.out)
      have n3_ := Aside0.mk (below_drew1 HB.out)
      clear HO297
      clear BK304
      clear BK309
      clear HB
      have HO297 := n0_
      have BK304 := n1_
      have BK309 := n2_
      have HB := n3_
      clear n0_ n1_ n2_ n3_
      refine start_ (n := 6) (S := fun w' => w'.cell? ⟨gb309, 0, none⟩ = some (.int .i64 t305) ∧ w'.cell? ⟨gb309, 1, none⟩ = some (.int .i64 t306) ∧ w'.cell? ⟨gb309, 2, none⟩ = some (.int .i64 t307) ∧ w'.cell? ⟨gb309, 3, none⟩ = some (.int .i64 t308) ∧ w'.cell? ⟨gb304, 0, none⟩ = some (.int .i64 t298) ∧ w'.cell? ⟨gb304, 1, none⟩ = some (.int .i64 t299) ∧ w'.cell? ⟨gb304, 2, none⟩ = some (.int .i64 t300) ∧ w'.cell? ⟨gb304, 3, none⟩ = some (.int .i64 t301)) (ds := []) #[false, false, false, false, false, false] (by kernel_rfl) rfl rfl ⟨(blk_cell BK309.out 0).trans rfl, (blk_cell BK309.out 1).trans rfl, (blk_cell BK309.out 2).trans rfl, (blk_cell BK309.out 3).trans rfl, (blk_cell BK304.out 0).trans rfl, (blk_cell BK304.out 1).trans rfl, (blk_cell BK304.out 2).trans rfl, (blk_cell BK304.out 3).trans rfl⟩ (fun hHeld => ?_)
      generalize w15.drew = w16 at HO297 BK304 BK309 HB hHeld ⊢
      refine pure_ (i := 1) (N := some 23) (v := ?_) (a' := ?_) #[false, true, false, false, false, false] rfl rfl (by kernel_rfl) (fun _ _ _ h => h) (Or.inl ⟨by rfl, ?_⟩) ?_ ?_
      rotate_left
      · intro w'
        go_simp
        with_reducible rfl
      rotate_left
      · simp only [Act.put, List.setIfInBounds_toArray, List.set_cons_zero, List.set_cons_succ, i64_w, i32_w]
        rfl
      refine pure_ (i := 3) (N := some 25) (v := ?_) (a' := ?_) #[false, true, false, true, false, false] rfl rfl (by kernel_rfl) (fun _ _ _ h => h) (Or.inl ⟨by rfl, ?_⟩) ?_ ?_
      rotate_left
      · intro w'
        go_simp
        with_reducible rfl
      rotate_left
      · simp only [Act.put, List.setIfInBounds_toArray, List.set_cons_zero, List.set_cons_succ, i64_w, i32_w]
        rfl
      refine take_ (i := 0) (N := some 22) (v := ?_) (a' := ?_) #[true, true, false, true, false, false] rfl rfl (by kernel_rfl) (fun _ _ _ h => h) (Or.inl ⟨by rfl, ?_⟩) hHeld ?_ ?_
      rotate_left
      · rintro w' ⟨s0, s1, s2, s3, s4, s5, s6, s7⟩
        go_simp
        with_reducible rfl
      rotate_left
      · simp only [Act.put, List.setIfInBounds_toArray, List.set_cons_zero, List.set_cons_succ, i64_w, i32_w]
        rfl
      refine take_ (i := 2) (N := some 24) (v := ?_) (a' := ?_) #[true, true, true, true, false, false] rfl rfl (by kernel_rfl) (fun _ _ _ h => h) (Or.inl ⟨by rfl, ?_⟩) hHeld ?_ ?_
      rotate_left
      · rintro w' ⟨s0, s1, s2, s3, s4, s5, s6, s7⟩
        go_simp
        with_reducible rfl
      rotate_left
      · simp only [Act.put, List.setIfInBounds_toArray, List.set_cons_zero, List.set_cons_succ, i64_w, i32_w]
        rfl
      refine one_ (i := 4) (N := some 26) #[true, true, true, true, true, false] rfl rfl (by kernel_rfl) (by decide) (fun K hK => ?_)
      refine goes_ Try.func24 (by kernel_rfl) rfl #[.slice Ao10 t295.length co10, .agg #[.int .i64 t298, .int .i64 t299, .int .i64 t300, .int .i64 t301], .int .i64 t302, .int .i64 0] (by rfl) rfl rfl (by (try simp only [List.map_toArray, List.map_cons, List.map_nil]); first | done | rfl | (simp only [List.length_drop, List.length_take]; rfl)) ?_
      with_reducible refine (spec_MoveBox.calls k _ _ t295 t298 t299 t300 t301 t302 0 t310 t311 t312 t313 _ ?side1 ?side2 A5.out).mono ?_
      (case side1 => repeat (first | exact (Kd.S_reads' HO297.out).2.2 | (with_reducible refine Kd.C_alloc ?_ _) | (with_reducible refine Kd.C_drewN ?_ _) | (with_reducible refine Kd.C_drew ?_)))
      (case side2 => exact (Kd.S_reads' HO297.out).2.1)
      rintro e w17 ⟨rfl, hb⟩
      refine ⟨_, rfl, ?_⟩
      have n0_ := Aside0.mk (Kd.S_below (by (with_reducible repeat (first | apply Kd.S_alloc | apply Kd.S_drewN | apply Kd.S_drew)); exact HO297.out) hb)
      have n1_ := Aside0.mk (blk_below (g := gb304) (o := .cells #[.int .i64 t298, .int .i64 t299, .int .i64 t300, .int .i64 t301] 28 (0, 0)) (by (with_reducible repeat (first | refine blk_drewN ?_ _ | refine blk_drew ?_ | refine blk_alloc ?_ _)); exact BK304.out) hb)
      have n2_ := Aside0.mk (blk_below (g := gb309) (o := .cells #[.int .i64 t305, .int .i64 t306, .int .i64 t307, .int .i64 t308] 28 (0, 0)) (by (with_reducible repeat (first | refine blk_drewN ?_ _ | refine blk_drew ?_ | refine blk_alloc ?_ _)); exact BK309.out) hb)
      have n3_ := Aside0.mk (below_step (by repeat (first | (with_reducible first | exact HB.out | apply below_alloc | apply pw_below_drewN | apply below_drew1 | refine below_set ?_ GE304.out | refine below_set ?_ GE309.out) | exact HB.out)) hb)
      clear HO297
      clear BK304
      clear BK309
      clear HB
      have HO297 := n0_
      have BK304 := n1_
      have BK309 := n2_
      have HB := n3_
      clear n0_ n1_ n2_ n3_
      (try clear hb)
      (try clear hb2)
      (try clear hk)
      (try clear hi)
      refine hK.out _ _ ⟨(blk_cell BK309.out 0).trans rfl, (blk_cell BK309.out 1).trans rfl, (blk_cell BK309.out 2).trans rfl, (blk_cell BK309.out 3).trans rfl, (blk_cell BK304.out 0).trans rfl, (blk_cell BK304.out 1).trans rfl, (blk_cell BK304.out 2).trans rfl, (blk_cell BK304.out 3).trans rfl⟩ (fun hHeld => ?_)
      clear hK K
      refine norm_ (a' := ?_) ?_ ?_
      rotate_left
      · show Act.put _ (some 26) _ = _
        simp only [Act.put, List.setIfInBounds_toArray, List.set_cons_zero, List.set_cons_succ, i64_w, i32_w]
        rfl
      refine pure_ (i := 5) (N := some 27) (v := ?_) (a' := ?_) #[true, true, true, true, true, true] rfl rfl (by kernel_rfl) (fun _ _ _ h => h) (Or.inl ⟨by rfl, ?_⟩) ?_ ?_
      rotate_left
      · intro w'
        go_simp
        with_reducible rfl
      rotate_left
      · simp only [Act.put, List.setIfInBounds_toArray, List.set_cons_zero, List.set_cons_succ, i64_w, i32_w]
        rfl
      refine done_ (by kernel_rfl) ?_
      try go_wp2
      go_ret
      exact ⟨by first | rfl | (simp [errW_none, errW_some] <;> rfl) | (simp [*, errW_none, errW_some] <;> rfl), by repeat (first | (with_reducible first | exact HB.out | apply below_alloc | apply pw_below_drewN | apply below_drew1 | refine below_set ?_ GE304.out | refine below_set ?_ GE309.out) | exact HB.out)⟩
    · rw [if_neg c6] at H
      have c6b0 : (!(t305 == t310) || (!(t306 == t311) || (!(t307 == t312) || (!(t308 == t313))))) = false := by simpa using c6
      clear c6
      have HC18 := Aside0.mk H
      clear H
      go_enter Try.func7, Try.ntmps7
      try go_wp2_with (first | ((with_reducible refine gate_callee (f := 27) rfl ?_); refine goesL_ (some 13) rfl rfl Try.func27 (by kernel_rfl) rfl #[.slice A0 l0.length c0] rfl (by (try simp only [List.map_toArray, List.map_cons, List.map_nil]); first | done | rfl | (simp only [List.length_drop, List.length_take]; rfl)) ?_; (with_reducible refine (spec_DrawMoveBox.calls k _ _ l0 t295 t298 t299 t300 t301 t302 t303 _ ?side1 ?side2 A3.out).mono ?_); (case side1 => repeat (first | exact HR0.out | (with_reducible refine Kd.C_alloc ?_ _) | (with_reducible refine Kd.C_drewN ?_ _) | (with_reducible refine Kd.C_drew ?_))); (case side2 => exact HC0.out); rintro e w19 ⟨v296, rfl, ho0, hb⟩; refine ⟨_, rfl, ?_⟩; have n0_ := Aside0.mk (Kd.S_lower ho0 (below_size (by repeat (first | (with_reducible first | exact HB.out | apply below_alloc | apply pw_below_drewN | apply below_drew1) | exact HB.out)))); have n1_ := Aside0.mk (below_step (by repeat (first | (with_reducible first | exact HB.out | apply below_alloc | apply pw_below_drewN | apply below_drew1) | exact HB.out)) hb); clear HB; have HO297 := n0_; have HB := n1_; clear n0_ n1_; (try clear hb); (try clear hb2); (try clear hk); (try clear hi); (try clear ho0)) | ((with_reducible refine gate_dst (N := 4) rfl ?_); refine box_event ?hg (N := 4) ?hd (cs := #[.int .i64 0, .int .i64 0, .int .i64 0, .int .i64 0]) (t := 28) ?hr ?_; (case hd => rfl); (case hg => rfl); (case hr => first | (go_simp; done) | (go_simp; rfl)); intro gb304 hg w20 hbox hb; have n0_ := Aside0.mk (Kd.S_below (by (with_reducible repeat (first | apply Kd.S_alloc | apply Kd.S_drewN | apply Kd.S_drew)); exact HO297.out) hb); have n1_ := Aside0.mk (below_step (by repeat (first | (with_reducible first | exact HB.out | apply below_alloc | apply pw_below_drewN | apply below_drew1) | exact HB.out)) hb); have n2_ := Aside0.mk (hbox); have n3_ := Aside0.mk ((by rw [hg]; exact (below_size (by repeat (first | (with_reducible first | exact HB.out | apply below_alloc | apply pw_below_drewN | apply below_drew1) | exact HB.out))) : w.heap.size ≤ gb304)); have n4_ := Aside0.mk ((by rw [hg]; exact (below_size (by repeat (first | (with_reducible first | exact HB.out | apply below_alloc | apply pw_below_drewN | apply below_drew1) | exact HB.out))) : w.heap.size ≤ gb304)); clear HO297; clear HB; have HO297 := n0_; have HB := n1_; have BK304 := n2_; have GW304 := n3_; have GE304 := n4_; clear n0_ n1_ n2_ n3_ n4_; clear hb hbox hg; have hcz21_0 : w20.cell? ⟨gb304, 0, none⟩ = some (.int .i64 0) := (blk_cell BK304.out 0).trans rfl; have hcz21_1 : w20.cell? ⟨gb304, 1, none⟩ = some (.int .i64 0) := (blk_cell BK304.out 1).trans rfl; have hcz21_2 : w20.cell? ⟨gb304, 2, none⟩ = some (.int .i64 0) := (blk_cell BK304.out 2).trans rfl; have hcz21_3 : w20.cell? ⟨gb304, 3, none⟩ = some (.int .i64 0) := (blk_cell BK304.out 3).trans rfl; have hfz21_0 := blk_frozen BK304.out 0; have hfz21_1 := blk_frozen BK304.out 1; have hfz21_2 := blk_frozen BK304.out 2; have hfz21_3 := blk_frozen BK304.out 3; obtain ⟨Ao22, co22, eo22⟩ := Kd.S_slice HO297.out; subst eo22) | ((with_reducible refine gate_callee (f := 25) rfl ?_); refine goesL_ (some 21) rfl rfl Try.func25 (by kernel_rfl) rfl #[.slice Ao22 t295.length co22, .agg #[.int .i64 t298, .int .i64 t299, .int .i64 t300, .int .i64 t301], .int .i64 t302, .int .i64 0] rfl (by (try simp only [List.map_toArray, List.map_cons, List.map_nil]); first | done | rfl | (simp only [List.length_drop, List.length_take]; rfl)) ?_; (with_reducible refine (impl_MoveBox.calls k _ _ t295 t298 t299 t300 t301 t302 0 t305 t306 t307 t308 _ ?side1 ?side2 A4.out).mono ?_); (case side1 => refine (Kd.S_reads' (e := 36) (base := w.heap.size) (ok := fun k_ => True) (n := t295.length) (c := co22) ?_).2.2; exact (by (with_reducible repeat (first | apply Kd.S_alloc | apply Kd.S_drewN | apply Kd.S_drew)); exact (Kd.S_mono (Kd.S_far (p := ⟨gb304, 3, none⟩) (Kd.S_far (p := ⟨gb304, 2, none⟩) (Kd.S_far (p := ⟨gb304, 1, none⟩) (Kd.S_far (p := ⟨gb304, 0, none⟩) (Kd.S_types HO297.out BK304.out (by decide)) (fun _ hk => hk.2) (.int .i64 t298)) (fun _ hk => hk.2) (.int .i64 t299)) (fun _ hk => hk.2) (.int .i64 t300)) (fun _ hk => hk.2) (.int .i64 t301)) (fun _ h_ => h_.1)))); (case side2 => exact (Kd.S_reads' HO297.out).2.1); rintro e w23 ⟨rfl, hb⟩; refine ⟨_, rfl, ?_⟩; have n0_ := Aside0.mk (Kd.S_below (by (with_reducible repeat (first | apply Kd.S_alloc | apply Kd.S_drewN | apply Kd.S_drew)); exact (Kd.S_mono (Kd.S_far (p := ⟨gb304, 3, none⟩) (Kd.S_far (p := ⟨gb304, 2, none⟩) (Kd.S_far (p := ⟨gb304, 1, none⟩) (Kd.S_far (p := ⟨gb304, 0, none⟩) (Kd.S_types HO297.out BK304.out (by decide)) (fun _ hk => hk.2) (.int .i64 t298)) (fun _ hk => hk.2) (.int .i64 t299)) (fun _ hk => hk.2) (.int .i64 t300)) (fun _ hk => hk.2) (.int .i64 t301)) (fun _ h_ => h_.1))) hb); have n1_ := Aside0.mk (blk_below (g := gb304) (o := .cells #[.int .i64 t298, .int .i64 t299, .int .i64 t300, .int .i64 t301] 28 (0, 0)) (by (with_reducible repeat (first | refine blk_drewN ?_ _ | refine blk_drew ?_ | refine blk_alloc ?_ _)); refine blk_put (cs := #[.int .i64 t298, .int .i64 t299, .int .i64 t300, .int .i64 0]) ?_ 3 _ rfl; (with_reducible repeat (first | refine blk_drewN ?_ _ | refine blk_drew ?_ | refine blk_alloc ?_ _)); refine blk_put (cs := #[.int .i64 t298, .int .i64 t299, .int .i64 0, .int .i64 0]) ?_ 2 _ rfl; (with_reducible repeat (first | refine blk_drewN ?_ _ | refine blk_drew ?_ | refine blk_alloc ?_ _)); refine blk_put (cs := #[.int .i64 t298, .int .i64 0, .int .i64 0, .int .i64 0]) ?_ 1 _ rfl; (with_reducible repeat (first | refine blk_drewN ?_ _ | refine blk_drew ?_ | refine blk_alloc ?_ _)); refine blk_put (cs := #[.int .i64 0, .int .i64 0, .int .i64 0, .int .i64 0]) ?_ 0 _ rfl; (with_reducible repeat (first | refine blk_drewN ?_ _ | refine blk_drew ?_ | refine blk_alloc ?_ _)); exact BK304.out) hb); have n2_ := Aside0.mk (below_step (by repeat (first | (with_reducible first | exact HB.out | apply below_alloc | apply pw_below_drewN | apply below_drew1 | refine below_set ?_ GE304.out) | exact HB.out)) hb); clear HO297; clear BK304; clear HB; have HO297 := n0_; have BK304 := n1_; have HB := n2_; clear n0_ n1_ n2_; (try clear hb); (try clear hb2); (try clear hk); (try clear hi)) | ((with_reducible refine gate_dst (N := 7) rfl ?_); refine box_event ?hg (N := 7) ?hd (cs := #[.int .i64 0, .int .i64 0, .int .i64 0, .int .i64 0]) (t := 28) ?hr ?_; (case hd => rfl); (case hg => rfl); (case hr => first | (go_simp; done) | (go_simp; rfl)); intro gb309 hg w24 hbox hb; have n0_ := Aside0.mk (Kd.S_below (by (with_reducible repeat (first | apply Kd.S_alloc | apply Kd.S_drewN | apply Kd.S_drew)); exact HO297.out) hb); have n1_ := Aside0.mk (blk_below (g := gb304) (o := .cells #[.int .i64 t298, .int .i64 t299, .int .i64 t300, .int .i64 t301] 28 (0, 0)) (by (with_reducible repeat (first | refine blk_drewN ?_ _ | refine blk_drew ?_ | refine blk_alloc ?_ _)); exact BK304.out) hb); have n2_ := Aside0.mk (below_step (by repeat (first | (with_reducible first | exact HB.out | apply below_alloc | apply pw_below_drewN | apply below_drew1 | refine below_set ?_ GE304.out) | exact HB.out)) hb); have n3_ := Aside0.mk (hbox); have n4_ := Aside0.mk ((by rw [hg]; exact (below_size (by repeat (first | (with_reducible first | exact HB.out | apply below_alloc | apply pw_below_drewN | apply below_drew1 | refine below_set ?_ GE304.out) | exact HB.out))) : w.heap.size ≤ gb309)); have n5_ := Aside0.mk ((by rw [hg]; exact (below_size (by repeat (first | (with_reducible first | exact HB.out | apply below_alloc | apply pw_below_drewN | apply below_drew1 | refine below_set ?_ GE304.out) | exact HB.out))) : w.heap.size ≤ gb309)); have n6_ := Aside0.mk ((by rw [hg]; exact Nat.ne_of_lt (blk_lt (g := gb304) (o := .cells #[.int .i64 t298, .int .i64 t299, .int .i64 t300, .int .i64 t301] 28 (0, 0)) (by (with_reducible repeat (first | refine blk_drewN ?_ _ | refine blk_drew ?_ | refine blk_alloc ?_ _)); exact BK304.out)) : gb304 ≠ gb309)); have n7_ := Aside0.mk ((by rw [hg]; exact Nat.ne_of_gt (blk_lt (g := gb304) (o := .cells #[.int .i64 t298, .int .i64 t299, .int .i64 t300, .int .i64 t301] 28 (0, 0)) (by (with_reducible repeat (first | refine blk_drewN ?_ _ | refine blk_drew ?_ | refine blk_alloc ?_ _)); exact BK304.out)) : gb309 ≠ gb304)); clear HO297; clear BK304; clear HB; have HO297 := n0_; have BK304 := n1_; have HB := n2_; have BK309 := n3_; have GW309 := n4_; have GE309 := n5_; have NB304_309 := n6_; have NB309_304 := n7_; clear n0_ n1_ n2_ n3_ n4_ n5_ n6_ n7_; clear hb hbox hg; have hnb25 := NB309_304.out; have hnc25 := NB304_309.out; have hcz26_0 : w24.cell? ⟨gb309, 0, none⟩ = some (.int .i64 0) := (blk_cell BK309.out 0).trans rfl; have hcz26_1 : w24.cell? ⟨gb309, 1, none⟩ = some (.int .i64 0) := (blk_cell BK309.out 1).trans rfl; have hcz26_2 : w24.cell? ⟨gb309, 2, none⟩ = some (.int .i64 0) := (blk_cell BK309.out 2).trans rfl; have hcz26_3 : w24.cell? ⟨gb309, 3, none⟩ = some (.int .i64 0) := (blk_cell BK309.out 3).trans rfl; have hfz26_0 := blk_frozen BK309.out 0; have hfz26_1 := blk_frozen BK309.out 1; have hfz26_2 := blk_frozen BK309.out 2; have hfz26_3 := blk_frozen BK309.out 3))
      have n0_ : Aside0 (Kd.S (Kd.slice 4 Kd.bool) 36 ((((w24.setCell ⟨gb309, 0, none⟩ (.int .i64 t305)).setCell ⟨gb309, 1, none⟩ (.int .i64 t306)).setCell ⟨gb309, 2, none⟩ (.int .i64 t307)).setCell ⟨gb309, 3, none⟩ (.int .i64 t308)) w.heap.size (fun _ => True) (.slice Ao22 t295.length co22) t295) := ⟨by (with_reducible repeat (first | apply Kd.S_alloc | apply Kd.S_drewN | apply Kd.S_drew)); exact Kd.S_mono (Kd.S_far (p := ⟨gb309, 3, none⟩) (Kd.S_far (p := ⟨gb309, 2, none⟩) (Kd.S_far (p := ⟨gb309, 1, none⟩) (Kd.S_far (p := ⟨gb309, 0, none⟩) (Kd.S_types HO297.out BK309.out (by decide)) (fun _ hk => hk.2) (.int .i64 t305)) (fun _ hk => hk.2) (.int .i64 t306)) (fun _ hk => hk.2) (.int .i64 t307)) (fun _ hk => hk.2) (.int .i64 t308)) (fun _ hk => trivial)⟩
      have n1_ : Aside0 (((((w24.setCell ⟨gb309, 0, none⟩ (.int .i64 t305)).setCell ⟨gb309, 1, none⟩ (.int .i64 t306)).setCell ⟨gb309, 2, none⟩ (.int .i64 t307)).setCell ⟨gb309, 3, none⟩ (.int .i64 t308)).heap[gb304]? = some (.cells #[.int .i64 t298, .int .i64 t299, .int .i64 t300, .int .i64 t301] 28 (0, 0))) := ⟨by (with_reducible repeat (first | refine blk_drewN ?_ _ | refine blk_drew ?_ | refine blk_alloc ?_ _)); refine blk_far ?_ NB304_309.out _; (with_reducible repeat (first | refine blk_drewN ?_ _ | refine blk_drew ?_ | refine blk_alloc ?_ _)); refine blk_far ?_ NB304_309.out _; (with_reducible repeat (first | refine blk_drewN ?_ _ | refine blk_drew ?_ | refine blk_alloc ?_ _)); refine blk_far ?_ NB304_309.out _; (with_reducible repeat (first | refine blk_drewN ?_ _ | refine blk_drew ?_ | refine blk_alloc ?_ _)); refine blk_far ?_ NB304_309.out _; (with_reducible repeat (first | refine blk_drewN ?_ _ | refine blk_drew ?_ | refine blk_alloc ?_ _)); exact BK304.out⟩
      have n2_ : Aside0 (((((w24.setCell ⟨gb309, 0, none⟩ (.int .i64 t305)).setCell ⟨gb309, 1, none⟩ (.int .i64 t306)).setCell ⟨gb309, 2, none⟩ (.int .i64 t307)).setCell ⟨gb309, 3, none⟩ (.int .i64 t308)).heap[gb309]? = some (.cells #[.int .i64 t305, .int .i64 t306, .int .i64 t307, .int .i64 t308] 28 (0, 0))) := ⟨by (with_reducible repeat (first | refine blk_drewN ?_ _ | refine blk_drew ?_ | refine blk_alloc ?_ _)); refine blk_put (cs := #[.int .i64 t305, .int .i64 t306, .int .i64 t307, .int .i64 0]) ?_ 3 _ rfl; (with_reducible repeat (first | refine blk_drewN ?_ _ | refine blk_drew ?_ | refine blk_alloc ?_ _)); refine blk_put (cs := #[.int .i64 t305, .int .i64 t306, .int .i64 0, .int .i64 0]) ?_ 2 _ rfl; (with_reducible repeat (first | refine blk_drewN ?_ _ | refine blk_drew ?_ | refine blk_alloc ?_ _)); refine blk_put (cs := #[.int .i64 t305, .int .i64 0, .int .i64 0, .int .i64 0]) ?_ 1 _ rfl; (with_reducible repeat (first | refine blk_drewN ?_ _ | refine blk_drew ?_ | refine blk_alloc ?_ _)); refine blk_put (cs := #[.int .i64 0, .int .i64 0, .int .i64 0, .int .i64 0]) ?_ 0 _ rfl; (with_reducible repeat (first | refine blk_drewN ?_ _ | refine blk_drew ?_ | refine blk_alloc ?_ _)); exact BK309.out⟩
      have n3_ : Aside0 (Below w.heap.size w ((((w24.setCell ⟨gb309, 0, none⟩ (.int .i64 t305)).setCell ⟨gb309, 1, none⟩ (.int .i64 t306)).setCell ⟨gb309, 2, none⟩ (.int .i64 t307)).setCell ⟨gb309, 3, none⟩ (.int .i64 t308))) := ⟨by repeat (first | (with_reducible first | exact HB.out | apply below_alloc | apply pw_below_drewN | apply below_drew1 | refine below_set ?_ GE304.out | refine below_set ?_ GE309.out) | exact HB.out)⟩
      (try clear HO297)
      (try clear BK304)
      (try clear BK309)
      (try clear HB)
      generalize ((((w24.setCell ⟨gb309, 0, none⟩ (.int .i64 t305)).setCell ⟨gb309, 1, none⟩ (.int .i64 t306)).setCell ⟨gb309, 2, none⟩ (.int .i64 t307)).setCell ⟨gb309, 3, none⟩ (.int .i64 t308)) = w27 at n0_ n1_ n2_ n3_ ⊢
      have HO297 := n0_
      have BK304 := n1_
      have BK309 := n2_
      have HB := n3_
      clear n0_ n1_ n2_ n3_
      have n0_ := Aside0.mk (Kd.S_drew HO297.out)
      have n1_ := Aside0.mk (blk_drew BK304.out)
      have n2_ := Aside0.mk (blk_drew BK309.out)
      have n3_ := Aside0.mk (below_drew1 HB.out)
      clear HO297
      clear BK304
      clear BK309
      clear HB
      have HO297 := n0_
      have BK304 := n1_
      have BK309 := n2_
      have HB := n3_
      clear n0_ n1_ n2_ n3_
      refine start_ (n := 6) (S := fun w' => w'.cell? ⟨gb309, 0, none⟩ = some (.int .i64 t305) ∧ w'.cell? ⟨gb309, 1, none⟩ = some (.int .i64 t306) ∧ w'.cell? ⟨gb309, 2, none⟩ = some (.int .i64 t307) ∧ w'.cell? ⟨gb309, 3, none⟩ = some (.int .i64 t308) ∧ w'.cell? ⟨gb304, 0, none⟩ = some (.int .i64 t298) ∧ w'.cell? ⟨gb304, 1, none⟩ = some (.int .i64 t299) ∧ w'.cell? ⟨gb304, 2, none⟩ = some (.int .i64 t300) ∧ w'.cell? ⟨gb304, 3, none⟩ = some (.int .i64 t301)) (ds := []) #[false, false, false, false, false, false] (by kernel_rfl) rfl rfl ⟨(blk_cell BK309.out 0).trans rfl, (blk_cell BK309.out 1).trans rfl, (blk_cell BK309.out 2).trans rfl, (blk_cell BK309.out 3).trans rfl, (blk_cell BK304.out 0).trans rfl, (blk_cell BK304.out 1).trans rfl, (blk_cell BK304.out 2).trans rfl, (blk_cell BK304.out 3).trans rfl⟩ (fun hHeld => ?_)
      generalize w27.drew = w28 at HO297 BK304 BK309 HB hHeld ⊢
      refine pure_ (i := 1) (N := some 23) (v := ?_) (a' := ?_) #[false, true, false, false, false, false] rfl rfl (by kernel_rfl) (fun _ _ _ h => h) (Or.inl ⟨by rfl, ?_⟩) ?_ ?_
      rotate_left
      · intro w'
        go_simp
        with_reducible rfl
      rotate_left
      · simp only [Act.put, List.setIfInBounds_toArray, List.set_cons_zero, List.set_cons_succ, i64_w, i32_w]
        rfl
      refine pure_ (i := 3) (N := some 25) (v := ?_) (a' := ?_) #[false, true, false, true, false, false] rfl rfl (by kernel_rfl) (fun _ _ _ h => h) (Or.inl ⟨by rfl, ?_⟩) ?_ ?_
      rotate_left
      · intro w'
        go_simp
        with_reducible rfl
      rotate_left
      · simp only [Act.put, List.setIfInBounds_toArray, List.set_cons_zero, List.set_cons_succ, i64_w, i32_w]
        rfl
      refine take_ (i := 0) (N := some 22) (v := ?_) (a' := ?_) #[true, true, false, true, false, false] rfl rfl (by kernel_rfl) (fun _ _ _ h => h) (Or.inl ⟨by rfl, ?_⟩) hHeld ?_ ?_
      rotate_left
      · rintro w' ⟨s0, s1, s2, s3, s4, s5, s6, s7⟩
        go_simp
        with_reducible rfl
      rotate_left
      · simp only [Act.put, List.setIfInBounds_toArray, List.set_cons_zero, List.set_cons_succ, i64_w, i32_w]
        rfl
      refine take_ (i := 2) (N := some 24) (v := ?_) (a' := ?_) #[true, true, true, true, false, false] rfl rfl (by kernel_rfl) (fun _ _ _ h => h) (Or.inl ⟨by rfl, ?_⟩) hHeld ?_ ?_
      rotate_left
      · rintro w' ⟨s0, s1, s2, s3, s4, s5, s6, s7⟩
        go_simp
        with_reducible rfl
      rotate_left
      · simp only [Act.put, List.setIfInBounds_toArray, List.set_cons_zero, List.set_cons_succ, i64_w, i32_w]
        rfl
      refine one_ (i := 4) (N := some 26) #[true, true, true, true, true, false] rfl rfl (by kernel_rfl) (by decide) (fun K hK => ?_)
      refine goes_ Try.func24 (by kernel_rfl) rfl #[.slice Ao22 t295.length co22, .agg #[.int .i64 t298, .int .i64 t299, .int .i64 t300, .int .i64 t301], .int .i64 t302, .int .i64 0] (by rfl) rfl rfl (by (try simp only [List.map_toArray, List.map_cons, List.map_nil]); first | done | rfl | (simp only [List.length_drop, List.length_take]; rfl)) ?_
      with_reducible refine (spec_MoveBox.calls k _ _ t295 t298 t299 t300 t301 t302 0 t310 t311 t312 t313 _ ?side1 ?side2 A5.out).mono ?_
      (case side1 => repeat (first | exact (Kd.S_reads' HO297.out).2.2 | (with_reducible refine Kd.C_alloc ?_ _) | (with_reducible refine Kd.C_drewN ?_ _) | (with_reducible refine Kd.C_drew ?_)))
      (case side2 => exact (Kd.S_reads' HO297.out).2.1)
      rintro e w29 ⟨rfl, hb⟩
      refine ⟨_, rfl, ?_⟩
      have n0_ := Aside0.mk (Kd.S_below (by (with_reducible repeat (first | apply Kd.S_alloc | apply Kd.S_drewN | apply Kd.S_drew)); exact HO297.out) hb)
      have n1_ := Aside0.mk (blk_below (g := gb304) (o := .cells #[.int .i64 t298, .int .i64 t299, .int .i64 t300, .int .i64 t301] 28 (0, 0)) (by (with_reducible repeat (first | refine blk_drewN ?_ _ | refine blk_drew ?_ | refine blk_alloc ?_ _)); exact BK304.out) hb)
      have n2_ := Aside0.mk (blk_below (g := gb309) (o := .cells #[.int .i64 t305, .int .i64 t306, .int .i64 t307, .int .i64 t308] 28 (0, 0)) (by (with_reducible repeat (first | refine blk_drewN ?_ _ | refine blk_drew ?_ | refine blk_alloc ?_ _)); exact BK309.out) hb)
      have n3_ := Aside0.mk (below_step (by repeat (first | (with_reducible first | exact HB.out | apply below_alloc | apply pw_below_drewN | apply below_drew1 | refine below_set ?_ GE304.out | refine below_set ?_ GE309.out) | exact HB.out)) hb)
      clear HO297
      clear BK304
      clear BK309
      clear HB
      have HO297 := n0_
      have BK304 := n1_
      have BK309 := n2_
      have HB := n3_
      clear n0_ n1_ n2_ n3_
      (try clear hb)
      (try clear hb2)
      (try clear hk)
      (try clear hi)
      refine hK.out _ _ ⟨(blk_cell BK309.out 0).trans rfl, (blk_cell BK309.out 1).trans rfl, (blk_cell BK309.out 2).trans rfl, (blk_cell BK309.out 3).trans rfl, (blk_cell BK304.out 0).trans rfl, (blk_cell BK304.out 1).trans rfl, (blk_cell BK304.out 2).trans rfl, (blk_cell BK304.out 3).trans rfl⟩ (fun hHeld => ?_)
      clear hK K
      refine norm_ (a' := ?_) ?_ ?_
      rotate_left
      · show Act.put _ (some 26) _ = _
        simp only [Act.put, List.setIfInBounds_toArray, List.set_cons_zero, List.set_cons_succ, i64_w, i32_w]
        rfl
      refine pure_ (i := 5) (N := some 27) (v := ?_) (a' := ?_) #[true, true, true, true, true, true] rfl rfl (by kernel_rfl) (fun _ _ _ h => h) (Or.inl ⟨by rfl, ?_⟩) ?_ ?_
      rotate_left
      · intro w'
        go_simp
        with_reducible rfl
      rotate_left
      · simp only [Act.put, List.setIfInBounds_toArray, List.set_cons_zero, List.set_cons_succ, i64_w, i32_w]
        rfl
      refine done_ (by kernel_rfl) ?_
      go_upto_region 7 with (fail)
      go_cut [35] (fun v35 wc => ∃ (kq : Nat) (x35_17 : Bool), v35 = .bool x35_17 ∧ Aside0 (laws_FnBoxHalves.j0 kq t295 t302 x35_17 t298 t299 t300 t301 t305 t306 t307 t308 = some r) ∧ Aside0 (kq ≤ k) ∧ Aside0 (Kd.S (Kd.slice 4 Kd.bool) 36 wc w.heap.size (fun _ => True) (.slice Ao22 t295.length co22) t295) ∧ Aside0 (wc.heap[gb304]? = some (.cells #[.int .i64 t298, .int .i64 t299, .int .i64 t300, .int .i64 t301] 28 (0, 0))) ∧ Aside0 (wc.heap[gb309]? = some (.cells #[.int .i64 t305, .int .i64 t306, .int .i64 t307, .int .i64 t308] 28 (0, 0))) ∧ Aside0 (Below w.heap.size w wc))
      case first =>
        have H := HC18.out
        clear HC18
        replace H := Option.bind_eq_some_iff.mp H
        obtain ⟨t314, A300, H⟩ := H
        replace H : (if t314 = true then (laws_FnBoxHalves.j0 k t295 t302 true t298 t299 t300 t301 t305 t306 t307 t308) else ((laws_abs.f t302).bind fun t315 => (laws_FnBoxHalves.j0 k t295 t302 (decide (t315 > 64)) t298 t299 t300 t301 t305 t306 t307 t308))) = some r := H
        have A30 := Aside0.mk A300
        clear A300
        by_cases c31 : t314 = true
        · subst c31
          have H1 : (laws_FnBoxHalves.j0 k t295 t302 true t298 t299 t300 t301 t305 t306 t307 t308) = some r := by rw [if_pos rfl] at H; exact H
          clear H
          have H := H1
          clear H1
          have H' := Aside0.mk H
          clear H
          have hnb32 := NB304_309.out
          have hnc32 := NB309_304.out
          have hcz33_0 : w29.cell? ⟨gb304, 0, none⟩ = some (.int .i64 t298) := (blk_cell BK304.out 0).trans rfl
          have hcz33_1 : w29.cell? ⟨gb304, 1, none⟩ = some (.int .i64 t299) := (blk_cell BK304.out 1).trans rfl
          have hcz33_2 : w29.cell? ⟨gb304, 2, none⟩ = some (.int .i64 t300) := (blk_cell BK304.out 2).trans rfl
          have hcz33_3 : w29.cell? ⟨gb304, 3, none⟩ = some (.int .i64 t301) := (blk_cell BK304.out 3).trans rfl
          have hfz33_0 := blk_frozen BK304.out 0
          have hfz33_1 := blk_frozen BK304.out 1
          have hfz33_2 := blk_frozen BK304.out 2
          have hfz33_3 := blk_frozen BK304.out 3
          go_wp2_with (first | ((with_reducible refine gate_callee (f := 18) rfl ?_); refine goesL_ (some 30) rfl rfl Try.func18 (by kernel_rfl) rfl #[.slice Ao22 t295.length co22, .agg #[.int .i64 t298, .int .i64 t299, .int .i64 t300, .int .i64 t301]] rfl (by (try simp only [List.map_toArray, List.map_cons, List.map_nil]); first | done | rfl | (simp only [List.length_drop, List.length_take]; rfl)) ?_; (with_reducible refine (impl_BoxBlocked.calls k _ _ t295 t298 t299 t300 t301 true _ ?side1 ?side2 A30.out).mono ?_); (case side1 => repeat (first | exact (Kd.S_reads' HO297.out).2.2 | (with_reducible refine Kd.C_alloc ?_ _) | (with_reducible refine Kd.C_drewN ?_ _) | (with_reducible refine Kd.C_drew ?_))); (case side2 => exact (Kd.S_reads' HO297.out).2.1); rintro e w34 ⟨rfl, hb⟩; refine ⟨_, rfl, ?_⟩; have n0_ := Aside0.mk (Kd.S_below (by (with_reducible repeat (first | apply Kd.S_alloc | apply Kd.S_drewN | apply Kd.S_drew)); exact HO297.out) hb); have n1_ := Aside0.mk (blk_below (g := gb304) (o := .cells #[.int .i64 t298, .int .i64 t299, .int .i64 t300, .int .i64 t301] 28 (0, 0)) (by (with_reducible repeat (first | refine blk_drewN ?_ _ | refine blk_drew ?_ | refine blk_alloc ?_ _)); exact BK304.out) hb); have n2_ := Aside0.mk (blk_below (g := gb309) (o := .cells #[.int .i64 t305, .int .i64 t306, .int .i64 t307, .int .i64 t308] 28 (0, 0)) (by (with_reducible repeat (first | refine blk_drewN ?_ _ | refine blk_drew ?_ | refine blk_alloc ?_ _)); exact BK309.out) hb); have n3_ := Aside0.mk (below_step (by repeat (first | (with_reducible first | exact HB.out | apply below_alloc | apply pw_below_drewN | apply below_drew1 | refine below_set ?_ GE304.out | refine below_set ?_ GE309.out) | exact HB.out)) hb); clear HO297; clear BK304; clear BK309; clear HB; have HO297 := n0_; have BK304 := n1_; have BK309 := n2_; have HB := n3_; clear n0_ n1_ n2_ n3_; (try clear hb); (try clear hb2); (try clear hk); (try clear hi)))
          go_meet
          case rel => exact ⟨_, (true), (by first | rfl | (simp; done) | (simp [*]; done)), H', ⟨by first | omega | exact Nat.le_refl _⟩, ⟨by (with_reducible repeat (first | apply Kd.S_alloc | apply Kd.S_drewN | apply Kd.S_drew)); exact HO297.out⟩, ⟨by (with_reducible repeat (first | refine blk_drewN ?_ _ | refine blk_drew ?_ | refine blk_alloc ?_ _)); exact BK304.out⟩, ⟨by (with_reducible repeat (first | refine blk_drewN ?_ _ | refine blk_drew ?_ | refine blk_alloc ?_ _)); exact BK309.out⟩, ⟨by repeat (first | (with_reducible first | exact HB.out | apply below_alloc | apply pw_below_drewN | apply below_drew1 | refine below_set ?_ GE304.out | refine below_set ?_ GE309.out) | exact HB.out)⟩⟩
        · replace c31 := Bool.eq_false_iff.mpr c31
          subst c31
          have H1 : ((laws_abs.f t302).bind fun t315 => (laws_FnBoxHalves.j0 k t295 t302 (decide (t315 > 64)) t298 t299 t300 t301 t305 t306 t307 t308)) = some r := by rw [if_neg (show ¬ (false = true) by decide)] at H; exact H
          clear H
          have H := H1
          clear H1
          replace H := Option.bind_eq_some_iff.mp H
          obtain ⟨t315, A350, H⟩ := H
          replace H : (laws_FnBoxHalves.j0 k t295 t302 (decide (t315 > 64)) t298 t299 t300 t301 t305 t306 t307 t308) = some r := H
          have A35 := Aside0.mk A350
          clear A350
          have H' := Aside0.mk H
          clear H
          have hnb36 := NB304_309.out
          have hnc36 := NB309_304.out
          have hcz37_0 : w29.cell? ⟨gb304, 0, none⟩ = some (.int .i64 t298) := (blk_cell BK304.out 0).trans rfl
          have hcz37_1 : w29.cell? ⟨gb304, 1, none⟩ = some (.int .i64 t299) := (blk_cell BK304.out 1).trans rfl
          have hcz37_2 : w29.cell? ⟨gb304, 2, none⟩ = some (.int .i64 t300) := (blk_cell BK304.out 2).trans rfl
          have hcz37_3 : w29.cell? ⟨gb304, 3, none⟩ = some (.int .i64 t301) := (blk_cell BK304.out 3).trans rfl
          have hfz37_0 := blk_frozen BK304.out 0
          have hfz37_1 := blk_frozen BK304.out 1
          have hfz37_2 := blk_frozen BK304.out 2
          have hfz37_3 := blk_frozen BK304.out 3
          go_wp2_with (first | ((with_reducible refine gate_callee (f := 18) rfl ?_); refine goesL_ (some 30) rfl rfl Try.func18 (by kernel_rfl) rfl #[.slice Ao22 t295.length co22, .agg #[.int .i64 t298, .int .i64 t299, .int .i64 t300, .int .i64 t301]] rfl (by (try simp only [List.map_toArray, List.map_cons, List.map_nil]); first | done | rfl | (simp only [List.length_drop, List.length_take]; rfl)) ?_; (with_reducible refine (impl_BoxBlocked.calls k _ _ t295 t298 t299 t300 t301 false _ ?side1 ?side2 A30.out).mono ?_); (case side1 => repeat (first | exact (Kd.S_reads' HO297.out).2.2 | (with_reducible refine Kd.C_alloc ?_ _) | (with_reducible refine Kd.C_drewN ?_ _) | (with_reducible refine Kd.C_drew ?_))); (case side2 => exact (Kd.S_reads' HO297.out).2.1); rintro e w38 ⟨rfl, hb⟩; refine ⟨_, rfl, ?_⟩; have n0_ := Aside0.mk (Kd.S_below (by (with_reducible repeat (first | apply Kd.S_alloc | apply Kd.S_drewN | apply Kd.S_drew)); exact HO297.out) hb); have n1_ := Aside0.mk (blk_below (g := gb304) (o := .cells #[.int .i64 t298, .int .i64 t299, .int .i64 t300, .int .i64 t301] 28 (0, 0)) (by (with_reducible repeat (first | refine blk_drewN ?_ _ | refine blk_drew ?_ | refine blk_alloc ?_ _)); exact BK304.out) hb); have n2_ := Aside0.mk (blk_below (g := gb309) (o := .cells #[.int .i64 t305, .int .i64 t306, .int .i64 t307, .int .i64 t308] 28 (0, 0)) (by (with_reducible repeat (first | refine blk_drewN ?_ _ | refine blk_drew ?_ | refine blk_alloc ?_ _)); exact BK309.out) hb); have n3_ := Aside0.mk (below_step (by repeat (first | (with_reducible first | exact HB.out | apply below_alloc | apply pw_below_drewN | apply below_drew1 | refine below_set ?_ GE304.out | refine below_set ?_ GE309.out) | exact HB.out)) hb); clear HO297; clear BK304; clear BK309; clear HB; have HO297 := n0_; have BK304 := n1_; have BK309 := n2_; have HB := n3_; clear n0_ n1_ n2_ n3_; (try clear hb); (try clear hb2); (try clear hk); (try clear hi)) | (go_at_call 28; (with_reducible refine (laws_abs.calls t302 t315 _ A35.out).mono ?_); rintro e w39 ⟨rfl, hb⟩; have n0_ := Aside0.mk (Kd.S_below (by (with_reducible repeat (first | apply Kd.S_alloc | apply Kd.S_drewN | apply Kd.S_drew)); exact HO297.out) hb); have n1_ := Aside0.mk (blk_below (g := gb304) (o := .cells #[.int .i64 t298, .int .i64 t299, .int .i64 t300, .int .i64 t301] 28 (0, 0)) (by (with_reducible repeat (first | refine blk_drewN ?_ _ | refine blk_drew ?_ | refine blk_alloc ?_ _)); exact BK304.out) hb); have n2_ := Aside0.mk (blk_below (g := gb309) (o := .cells #[.int .i64 t305, .int .i64 t306, .int .i64 t307, .int .i64 t308] 28 (0, 0)) (by (with_reducible repeat (first | refine blk_drewN ?_ _ | refine blk_drew ?_ | refine blk_alloc ?_ _)); exact BK309.out) hb); have n3_ := Aside0.mk (below_step (by repeat (first | (with_reducible first | exact HB.out | apply below_alloc | apply pw_below_drewN | apply below_drew1 | refine below_set ?_ GE304.out | refine below_set ?_ GE309.out) | exact HB.out)) hb); clear HO297; clear BK304; clear BK309; clear HB; have HO297 := n0_; have BK304 := n1_; have BK309 := n2_; have HB := n3_; clear n0_ n1_ n2_ n3_; (try clear hb); (try clear hb2); (try clear hk); (try clear hi)))
          go_meet
          case rel => exact ⟨_, (decide (t315 > 64)), (by first | rfl | (simp; done) | (simp [*]; done)), H', ⟨by first | omega | exact Nat.le_refl _⟩, ⟨by (with_reducible repeat (first | apply Kd.S_alloc | apply Kd.S_drewN | apply Kd.S_drew)); exact HO297.out⟩, ⟨by (with_reducible repeat (first | refine blk_drewN ?_ _ | refine blk_drew ?_ | refine blk_alloc ?_ _)); exact BK304.out⟩, ⟨by (with_reducible repeat (first | refine blk_drewN ?_ _ | refine blk_drew ?_ | refine blk_alloc ?_ _)); exact BK309.out⟩, ⟨by repeat (first | (with_reducible first | exact HB.out | apply below_alloc | apply pw_below_drewN | apply below_drew1 | refine below_set ?_ GE304.out | refine below_set ?_ GE309.out) | exact HB.out)⟩⟩
      case rest =>
        clear HC18
        try clear c1
        try clear c2
        try clear c2b0
        try clear c2b1
        try clear p2
        try clear c3
        try clear c6
        try clear c6b0
        try clear c7
        try clear c13
        try clear c18
        try clear c24
        try clear c25
        try clear c27
        try clear c31
        try clear c32
        try clear c36
        try clear hcz14_0
        try clear hcz14_1
        try clear hcz14_2
        try clear hcz14_3
        try clear hcz21_0
        try clear hcz21_1
        try clear hcz21_2
        try clear hcz21_3
        try clear hcz26_0
        try clear hcz26_1
        try clear hcz26_2
        try clear hcz26_3
        try clear hcz33_0
        try clear hcz33_1
        try clear hcz33_2
        try clear hcz33_3
        try clear hcz37_0
        try clear hcz37_1
        try clear hcz37_2
        try clear hcz37_3
        try clear hcz9_0
        try clear hcz9_1
        try clear hcz9_2
        try clear hcz9_3
        try clear hfz14_0
        try clear hfz14_1
        try clear hfz14_2
        try clear hfz14_3
        try clear hfz21_0
        try clear hfz21_1
        try clear hfz21_2
        try clear hfz21_3
        try clear hfz26_0
        try clear hfz26_1
        try clear hfz26_2
        try clear hfz26_3
        try clear hfz33_0
        try clear hfz33_1
        try clear hfz33_2
        try clear hfz33_3
        try clear hfz37_0
        try clear hfz37_1
        try clear hfz37_2
        try clear hfz37_3
        try clear hfz9_0
        try clear hfz9_1
        try clear hfz9_2
        try clear hfz9_3
        obtain ⟨kq, x35_17, rfl, HA, HJ17, HO_3, BK304, BK309, HB⟩ := hcut
        cases kq with
        | zero => exact absurd HA.out (by simp [laws_FnBoxHalves.j0])
        | succ kj17 =>
          have H := HA.out
          clear HA
          simp only [laws_FnBoxHalves.j0] at H
          by_cases c40 : x35_17 = true
          · subst c40
            have H1 : (if (t305 == 0 && (t306 == 0 && (t307 == 0 && (t308 == 0)))) = true then ((laws_alive.f).bind fun t316 => (some t316)) else (some false)) = some r := by rw [if_pos rfl] at H; exact H
            clear H
            have H := H1
            clear H1
            by_cases c41 : (t305 == 0 && (t306 == 0 && (t307 == 0 && (t308 == 0)))) = true
            · rw [if_pos c41] at H
              have c41b0 : (t305 == 0 && (t306 == 0 && (t307 == 0 && (t308 == 0)))) = true := c41
              (try (have c41b1 : decide (t305 = 0 && (t306 == 0 && (t307 == 0 && (t308 == 0)))) = true := by simpa using c41))
              (try (have c41b2 : (t305 == 0 && (t306 == 0 && (t307 == 0 && (t308 == 0)))) = true := by simpa using c41))
              clear c41
              replace H := Option.bind_eq_some_iff.mp H
              obtain ⟨t316, A420, H⟩ := H
              replace H : (some t316) = some r := H
              have A42 := Aside0.mk A420
              clear A420
              obtain rfl := Option.some.inj H
              have hnb43 := NB309_304.out
              have hnc43 := NB304_309.out
              have hcz44_0 : wc.cell? ⟨gb309, 0, none⟩ = some (.int .i64 t305) := (blk_cell BK309.out 0).trans rfl
              have hcz44_1 : wc.cell? ⟨gb309, 1, none⟩ = some (.int .i64 t306) := (blk_cell BK309.out 1).trans rfl
              have hcz44_2 : wc.cell? ⟨gb309, 2, none⟩ = some (.int .i64 t307) := (blk_cell BK309.out 2).trans rfl
              have hcz44_3 : wc.cell? ⟨gb309, 3, none⟩ = some (.int .i64 t308) := (blk_cell BK309.out 3).trans rfl
              have hfz44_0 := blk_frozen BK309.out 0
              have hfz44_1 := blk_frozen BK309.out 1
              have hfz44_2 := blk_frozen BK309.out 2
              have hfz44_3 := blk_frozen BK309.out 3
              go_wp2_with (first | (go_at_call 23; (with_reducible refine (laws_alive.calls  t316 _ A42.out).mono ?_); rintro e w' ⟨rfl, ⟨nd, rfl⟩⟩))
              go_ret
              exact ⟨by first | rfl | (simp [errW_none, errW_some] <;> rfl) | (simp [*, errW_none, errW_some] <;> rfl), by repeat (first | (with_reducible first | exact HB.out | apply below_alloc | apply pw_below_drewN | apply below_drew1 | refine below_set ?_ GE304.out | refine below_set ?_ GE309.out) | exact HB.out)⟩
            · rw [if_neg c41] at H
              have c41b0 : (t305 == 0 && (t306 == 0 && (t307 == 0 && (t308 == 0)))) = false := by simpa using c41
              (try (have c41b1 : decide (t305 = 0 && (t306 == 0 && (t307 == 0 && (t308 == 0)))) = false := by simpa using c41))
              (try (have c41b2 : (t305 == 0 && (t306 == 0 && (t307 == 0 && (t308 == 0)))) = false := by simpa using c41))
              (try (have c41b3 : ¬ (t305 = 0 && (t306 == 0 && (t307 == 0 && (t308 == 0)))) := by simpa using c41))
              clear c41
              obtain rfl := Option.some.inj H
              have hnb45 := NB309_304.out
              have hnc45 := NB304_309.out
              have hcz46_0 : wc.cell? ⟨gb309, 0, none⟩ = some (.int .i64 t305) := (blk_cell BK309.out 0).trans rfl
              have hcz46_1 : wc.cell? ⟨gb309, 1, none⟩ = some (.int .i64 t306) := (blk_cell BK309.out 1).trans rfl
              have hcz46_2 : wc.cell? ⟨gb309, 2, none⟩ = some (.int .i64 t307) := (blk_cell BK309.out 2).trans rfl
              have hcz46_3 : wc.cell? ⟨gb309, 3, none⟩ = some (.int .i64 t308) := (blk_cell BK309.out 3).trans rfl
              have hfz46_0 := blk_frozen BK309.out 0
              have hfz46_1 := blk_frozen BK309.out 1
              have hfz46_2 := blk_frozen BK309.out 2
              have hfz46_3 := blk_frozen BK309.out 3
              go_wp2
              go_ret
              exact ⟨by first | rfl | (simp [errW_none, errW_some] <;> rfl) | (simp [*, errW_none, errW_some] <;> rfl), by repeat (first | (with_reducible first | exact HB.out | apply below_alloc | apply pw_below_drewN | apply below_drew1 | refine below_set ?_ GE304.out | refine below_set ?_ GE309.out) | exact HB.out)⟩
          · replace c40 := Bool.eq_false_iff.mpr c40
            subst c40
            have H1 : ((impl_MoveBox.f kj17 t295 t298 t299 t300 t301 (wrap64 (Int.tdiv t302 2)) 0).bind fun bt317 => ((impl_MoveBox.f kj17 t295 bt317.1 bt317.2.1 bt317.2.2.1 bt317.2.2.2 (wrap64 (t302 - (wrap64 (Int.tdiv t302 2)))) 0).bind fun bt321 => (some (bt321.1 == t305 && (bt321.2.1 == t306 && (bt321.2.2.1 == t307 && (bt321.2.2.2 == t308))))))) = some r := by rw [if_neg (show ¬ (false = true) by decide)] at H; exact H
            clear H
            have H := H1
            clear H1
            replace H := Option.bind_eq_some_iff.mp H
            obtain ⟨⟨t317, t318, t319, t320⟩, A470, H⟩ := H
            replace H : ((impl_MoveBox.f kj17 t295 t317 t318 t319 t320 (wrap64 (t302 - (wrap64 (Int.tdiv t302 2)))) 0).bind fun bt321 => (some (bt321.1 == t305 && (bt321.2.1 == t306 && (bt321.2.2.1 == t307 && (bt321.2.2.2 == t308)))))) = some r := H
            have A47 := Aside0.mk A470
            clear A470
            replace H := Option.bind_eq_some_iff.mp H
            obtain ⟨⟨t321, t322, t323, t324⟩, A480, H⟩ := H
            replace H : (some (t321 == t305 && (t322 == t306 && (t323 == t307 && (t324 == t308))))) = some r := H
            have A48 := Aside0.mk A480
            clear A480
            obtain rfl := Option.some.inj H
            try go_wp2
            have n0_ := Aside0.mk (Kd.S_drew HO_3.out)
            have n1_ := Aside0.mk (blk_drew BK304.out)
            have n2_ := Aside0.mk (blk_drew BK309.out)
            have n3_ := Aside0.mk (below_drew1 HB.out)
            clear HO_3
            clear BK304
            clear BK309
            clear HB
            have HO_3 := n0_
            have BK304 := n1_
            have BK309 := n2_
            have HB := n3_
            clear n0_ n1_ n2_ n3_
            refine start_ (n := 14) (S := fun w' => w'.cell? ⟨gb304, 0, none⟩ = some (.int .i64 t298) ∧ w'.cell? ⟨gb304, 1, none⟩ = some (.int .i64 t299) ∧ w'.cell? ⟨gb304, 2, none⟩ = some (.int .i64 t300) ∧ w'.cell? ⟨gb304, 3, none⟩ = some (.int .i64 t301) ∧ w'.cell? ⟨gb309, 0, none⟩ = some (.int .i64 t305) ∧ w'.cell? ⟨gb309, 1, none⟩ = some (.int .i64 t306) ∧ w'.cell? ⟨gb309, 2, none⟩ = some (.int .i64 t307) ∧ w'.cell? ⟨gb309, 3, none⟩ = some (.int .i64 t308)) (ds := []) #[false, false, false, false, false, false, false, false, false, false, false, false, false, false] (by kernel_rfl) rfl rfl ⟨(blk_cell BK304.out 0).trans rfl, (blk_cell BK304.out 1).trans rfl, (blk_cell BK304.out 2).trans rfl, (blk_cell BK304.out 3).trans rfl, (blk_cell BK309.out 0).trans rfl, (blk_cell BK309.out 1).trans rfl, (blk_cell BK309.out 2).trans rfl, (blk_cell BK309.out 3).trans rfl⟩ (fun hHeld => ?_); refine with_tabW laws_FnBoxHalves.tab9 laws_FnBoxHalves.bits9 (fun HT_ HW_ => ?_)
            generalize wc.drew = w49 at HO_3 BK304 BK309 HB hHeld ⊢
            refine pure_ (i := 0) (N := some 42) (v := ?_) (a' := ?_) #[true, false, false, false, false, false, false, false, false, false, false, false, false, false] rfl rfl (any_of HT_.out (by kernel_rfl)) (fun _ _ _ h => h) (Or.inl ⟨by rfl, ?_⟩) ?_ ?_
            rotate_left
            · intro w'
              go_simp
              with_reducible rfl
            rotate_left
            · simp only [Act.put, List.setIfInBounds_toArray, List.set_cons_zero, List.set_cons_succ, i64_w, i32_w]
              rfl
            refine pure_ (i := 1) (N := some 43) (v := ?_) (a' := ?_) #[true, true, false, false, false, false, false, false, false, false, false, false, false, false] rfl rfl (any_of HT_.out (by kernel_rfl)) (fun _ _ _ h => h) (Or.inl ⟨by rfl, ?_⟩) ?_ ?_
            rotate_left
            · intro w'
              go_simp
              with_reducible rfl
            rotate_left
            · simp only [Act.put, List.setIfInBounds_toArray, List.set_cons_zero, List.set_cons_succ, i64_w, i32_w]
              rfl
            refine pure_ (i := 3) (N := some 45) (v := ?_) (a' := ?_) #[true, true, false, true, false, false, false, false, false, false, false, false, false, false] rfl rfl (any_of HT_.out (by kernel_rfl)) (fun _ _ _ h => h) (Or.inl ⟨by rfl, ?_⟩) ?_ ?_
            rotate_left
            · intro w'
              go_simp
              with_reducible rfl
            rotate_left
            · simp only [Act.put, List.setIfInBounds_toArray, List.set_cons_zero, List.set_cons_succ, i64_w, i32_w]
              rfl
            refine pure_ (i := 4) (N := some 46) (v := ?_) (a' := ?_) #[true, true, false, true, true, false, false, false, false, false, false, false, false, false] rfl rfl (any_of HT_.out (by kernel_rfl)) (fun _ _ _ h => h) (Or.inl ⟨by rfl, ?_⟩) ?_ ?_
            rotate_left
            · intro w'
              go_simp
              with_reducible rfl
            rotate_left
            · simp only [Act.put, List.setIfInBounds_toArray, List.set_cons_zero, List.set_cons_succ, i64_w, i32_w]
              rfl
            refine pure_ (i := 6) (N := some 48) (v := ?_) (a' := ?_) #[true, true, false, true, true, false, true, false, false, false, false, false, false, false] rfl rfl (any_of HT_.out (by kernel_rfl)) (fun _ _ _ h => h) (Or.inl ⟨by rfl, ?_⟩) ?_ ?_
            rotate_left
            · intro w'
              go_simp
              with_reducible rfl
            rotate_left
            · simp only [Act.put, List.setIfInBounds_toArray, List.set_cons_zero, List.set_cons_succ, i64_w, i32_w]
              rfl
            refine pure_ (i := 7) (N := some 49) (v := ?_) (a' := ?_) #[true, true, false, true, true, false, true, true, false, false, false, false, false, false] rfl rfl (any_of HT_.out (by kernel_rfl)) (fun _ _ _ h => h) (Or.inl ⟨by rfl, ?_⟩) ?_ ?_
            rotate_left
            · intro w'
              go_simp
              with_reducible rfl
            rotate_left
            · simp only [Act.put, List.setIfInBounds_toArray, List.set_cons_zero, List.set_cons_succ, i64_w, i32_w]
              rfl
            refine pure_ (i := 8) (N := some 50) (v := ?_) (a' := ?_) #[true, true, false, true, true, false, true, true, true, false, false, false, false, false] rfl rfl (any_of HT_.out (by kernel_rfl)) (fun _ _ _ h => h) (Or.inl ⟨by rfl, ?_⟩) ?_ ?_
            rotate_left
            · intro w'
              go_simp
              with_reducible rfl
            rotate_left
            · simp only [Act.put, List.setIfInBounds_toArray, List.set_cons_zero, List.set_cons_succ, i64_w, i32_w]
              rfl
            refine pure_ (i := 9) (N := some 51) (v := ?_) (a' := ?_) #[true, true, false, true, true, false, true, true, true, true, false, false, false, false] rfl rfl (any_of HT_.out (by kernel_rfl)) (fun _ _ _ h => h) (Or.inl ⟨by rfl, ?_⟩) ?_ ?_
            rotate_left
            · intro w'
              go_simp
              with_reducible rfl
            rotate_left
            · simp only [Act.put, List.setIfInBounds_toArray, List.set_cons_zero, List.set_cons_succ, i64_w, i32_w]
              rfl
            refine take_ (i := 2) (N := some 44) (v := ?_) (a' := ?_) #[true, true, true, true, true, false, true, true, true, true, false, false, false, false] rfl rfl (take_ofW HT_.out HW_.out (by kernel_rfl)) (fun _ _ _ h => h) (Or.inl ⟨by rfl, ?_⟩) hHeld ?_ ?_
            rotate_left
            · rintro w' ⟨s0, s1, s2, s3, s4, s5, s6, s7⟩
              go_simp
              with_reducible rfl
            rotate_left
            · simp only [Act.put, List.setIfInBounds_toArray, List.set_cons_zero, List.set_cons_succ, i64_w, i32_w]
              rfl
            refine take_ (i := 11) (N := some 53) (v := ?_) (a' := ?_) #[true, true, true, true, true, false, true, true, true, true, false, true, false, false] rfl rfl (take_ofW HT_.out HW_.out (by kernel_rfl)) (fun _ _ _ h => h) (Or.inl ⟨by rfl, ?_⟩) hHeld ?_ ?_
            rotate_left
            · rintro w' ⟨s0, s1, s2, s3, s4, s5, s6, s7⟩
              go_simp
              with_reducible rfl
            rotate_left
            · simp only [Act.put, List.setIfInBounds_toArray, List.set_cons_zero, List.set_cons_succ, i64_w, i32_w]
              rfl
            refine one_ (i := 5) (N := some 47) #[true, true, true, true, true, true, true, true, true, true, false, true, false, false] rfl rfl (one_of HT_.out (by kernel_rfl)) (by decide) (fun K hK => ?_)
            refine goes_ Try.func25 (by kernel_rfl) rfl #[.slice Ao22 t295.length co22, .agg #[.int .i64 t298, .int .i64 t299, .int .i64 t300, .int .i64 t301], .int .i64 (wrap64 (Int.tdiv t302 2)), .int .i64 0] (by rfl) rfl rfl (by (try simp only [List.map_toArray, List.map_cons, List.map_nil]); first | done | rfl | (simp only [List.length_drop, List.length_take]; rfl)) ?_
            with_reducible refine (impl_MoveBox.calls kj17 _ _ t295 t298 t299 t300 t301 (wrap64 (Int.tdiv t302 2)) 0 t317 t318 t319 t320 _ ?side1 ?side2 A47.out).mono ?_
            (case side1 => repeat (first | exact (Kd.S_reads' HO_3.out).2.2 | (with_reducible refine Kd.C_alloc ?_ _) | (with_reducible refine Kd.C_drewN ?_ _) | (with_reducible refine Kd.C_drew ?_)))
            (case side2 => exact (Kd.S_reads' HO_3.out).2.1)
            rintro e w50 ⟨rfl, hb⟩
            refine ⟨_, rfl, ?_⟩
            have n0_ := Aside0.mk (Kd.S_below (by (with_reducible repeat (first | apply Kd.S_alloc | apply Kd.S_drewN | apply Kd.S_drew)); exact HO_3.out) hb)
            have n1_ := Aside0.mk (blk_below (g := gb304) (o := .cells #[.int .i64 t298, .int .i64 t299, .int .i64 t300, .int .i64 t301] 28 (0, 0)) (by (with_reducible repeat (first | refine blk_drewN ?_ _ | refine blk_drew ?_ | refine blk_alloc ?_ _)); exact BK304.out) hb)
            have n2_ := Aside0.mk (blk_below (g := gb309) (o := .cells #[.int .i64 t305, .int .i64 t306, .int .i64 t307, .int .i64 t308] 28 (0, 0)) (by (with_reducible repeat (first | refine blk_drewN ?_ _ | refine blk_drew ?_ | refine blk_alloc ?_ _)); exact BK309.out) hb)
            have n3_ := Aside0.mk (below_step (by repeat (first | (with_reducible first | exact HB.out | apply below_alloc | apply pw_below_drewN | apply below_drew1 | refine below_set ?_ GE304.out | refine below_set ?_ GE309.out) | exact HB.out)) hb)
            clear HO_3
            clear BK304
            clear BK309
            clear HB
            have HO_3 := n0_
            have BK304 := n1_
            have BK309 := n2_
            have HB := n3_
            clear n0_ n1_ n2_ n3_
            (try clear hb)
            (try clear hb2)
            (try clear hk)
            (try clear hi)
            refine hK.out _ _ ⟨(blk_cell BK304.out 0).trans rfl, (blk_cell BK304.out 1).trans rfl, (blk_cell BK304.out 2).trans rfl, (blk_cell BK304.out 3).trans rfl, (blk_cell BK309.out 0).trans rfl, (blk_cell BK309.out 1).trans rfl, (blk_cell BK309.out 2).trans rfl, (blk_cell BK309.out 3).trans rfl⟩ (fun hHeld => ?_)
            clear hK K
            refine norm_ (a' := ?_) ?_ ?_
            rotate_left
            · show Act.put _ (some 47) _ = _
              simp only [Act.put, List.setIfInBounds_toArray, List.set_cons_zero, List.set_cons_succ, i64_w, i32_w]
              rfl
            refine one_ (i := 10) (N := some 52) #[true, true, true, true, true, true, true, true, true, true, true, true, false, false] rfl rfl (one_of HT_.out (by kernel_rfl)) (by decide) (fun K hK => ?_)
            refine goes_ Try.func25 (by kernel_rfl) rfl #[.slice Ao22 t295.length co22, .agg #[.int .i64 t317, .int .i64 t318, .int .i64 t319, .int .i64 t320], .int .i64 (wrap64 (t302 - (wrap64 (Int.tdiv t302 2)))), .int .i64 0] (by rfl) rfl rfl (by (try simp only [List.map_toArray, List.map_cons, List.map_nil]); first | done | rfl | (simp only [List.length_drop, List.length_take]; rfl)) ?_
            with_reducible refine (impl_MoveBox.calls kj17 _ _ t295 t317 t318 t319 t320 (wrap64 (t302 - (wrap64 (Int.tdiv t302 2)))) 0 t321 t322 t323 t324 _ ?side1 ?side2 A48.out).mono ?_
            (case side1 => repeat (first | exact (Kd.S_reads' HO_3.out).2.2 | (with_reducible refine Kd.C_alloc ?_ _) | (with_reducible refine Kd.C_drewN ?_ _) | (with_reducible refine Kd.C_drew ?_)))
            (case side2 => exact (Kd.S_reads' HO_3.out).2.1)
            rintro e w51 ⟨rfl, hb⟩
            refine ⟨_, rfl, ?_⟩
            have n0_ := Aside0.mk (Kd.S_below (by (with_reducible repeat (first | apply Kd.S_alloc | apply Kd.S_drewN | apply Kd.S_drew)); exact HO_3.out) hb)
            have n1_ := Aside0.mk (blk_below (g := gb304) (o := .cells #[.int .i64 t298, .int .i64 t299, .int .i64 t300, .int .i64 t301] 28 (0, 0)) (by (with_reducible repeat (first | refine blk_drewN ?_ _ | refine blk_drew ?_ | refine blk_alloc ?_ _)); exact BK304.out) hb)
            have n2_ := Aside0.mk (blk_below (g := gb309) (o := .cells #[.int .i64 t305, .int .i64 t306, .int .i64 t307, .int .i64 t308] 28 (0, 0)) (by (with_reducible repeat (first | refine blk_drewN ?_ _ | refine blk_drew ?_ | refine blk_alloc ?_ _)); exact BK309.out) hb)
            have n3_ := Aside0.mk (below_step (by repeat (first | (with_reducible first | exact HB.out | apply below_alloc | apply pw_below_drewN | apply below_drew1 | refine below_set ?_ GE304.out | refine below_set ?_ GE309.out) | exact HB.out)) hb)
            clear HO_3
            clear BK304
            clear BK309
            clear HB
            have HO_3 := n0_
            have BK304 := n1_
            have BK309 := n2_
            have HB := n3_
            clear n0_ n1_ n2_ n3_
            (try clear hb)
            (try clear hb2)
            (try clear hk)
            (try clear hi)
            refine hK.out _ _ ⟨(blk_cell BK304.out 0).trans rfl, (blk_cell BK304.out 1).trans rfl, (blk_cell BK304.out 2).trans rfl, (blk_cell BK304.out 3).trans rfl, (blk_cell BK309.out 0).trans rfl, (blk_cell BK309.out 1).trans rfl, (blk_cell BK309.out 2).trans rfl, (blk_cell BK309.out 3).trans rfl⟩ (fun hHeld => ?_)
            clear hK K
            refine norm_ (a' := ?_) ?_ ?_
            rotate_left
            · show Act.put _ (some 52) _ = _
              simp only [Act.put, List.setIfInBounds_toArray, List.set_cons_zero, List.set_cons_succ, i64_w, i32_w]
              rfl
            refine pure_ (i := 12) (N := some 54) (v := ?_) (a' := ?_) #[true, true, true, true, true, true, true, true, true, true, true, true, true, false] rfl rfl (any_of HT_.out (by kernel_rfl)) (fun _ _ _ h => h) (Or.inl ⟨by rfl, ?_⟩) ?_ ?_
            rotate_left
            · intro w'
              go_simp
              with_reducible rfl
            rotate_left
            · simp only [Act.put, List.setIfInBounds_toArray, List.set_cons_zero, List.set_cons_succ, i64_w, i32_w]
              rfl
            refine pure_ (i := 13) (N := some 2) (v := ?_) (a' := ?_) #[true, true, true, true, true, true, true, true, true, true, true, true, true, true] rfl rfl (any_of HT_.out (by kernel_rfl)) (fun _ _ _ h => h) (Or.inl ⟨by rfl, ?_⟩) ?_ ?_
            rotate_left
            · intro w'
              go_simp
              with_reducible rfl
            rotate_left
            · simp only [Act.put, List.setIfInBounds_toArray, List.set_cons_zero, List.set_cons_succ, i64_w, i32_w]
              rfl
            refine done_ (done_of HT_.out (by kernel_rfl)) ?_
            try go_wp2
            go_ret
            exact ⟨by first | rfl | (simp [errW_none, errW_some] <;> rfl) | (simp [*, errW_none, errW_some] <;> rfl), by repeat (first | (with_reducible first | exact HB.out | apply below_alloc | apply pw_below_drewN | apply below_drew1 | refine below_set ?_ GE304.out | refine below_set ?_ GE309.out) | exact HB.out)⟩

/-- THE ONE PURE STATEMENT of laws_FnBoxHalves: yours. -/
def laws_FnBoxHalves.Pure : Prop := ∀ (l0 : List Int), l0.length ≤ maxLen → l0.length * 1 ≤ 140737488351232 → (∀ x ∈ l0, (Lit.int .u8 x).wf = true) → ∃ k, laws_FnBoxHalves.f k l0 = some true
theorem laws_FnBoxHalves.walk (P : laws_FnBoxHalves.Pure) (a0 : Option Addr) (len0 cap0 : Nat) (z0 : List Int) (w : World) (w0 : (a0 = none ∧ len0 = 0 ∧ cap0 = 0 ∧ z0 = []) ∨ ∃ x, a0 = some x ∧ len0 ≤ cap0 ∧ cap0 ≤ maxLen ∧ z0.length = cap0 ∧ (∀ i, i < z0.length → w.cell? (x.add i) = some (.int .u8 (z0.getD i 0))) ∧ ∀ n ∈ z0, (Lit.int .u8 n).wf = true) (y0 : len0 * 1 ≤ 140737488351232) :
    Calls Try.prog 7 #[.slice a0 len0 cap0] w fun e w' => e = .returned (.bool true) ∧ Below w.heap.size w w' := by
  obtain ⟨l0, rfl, hr0, hm0, hw0, hc0⟩ := ReadsInt.ofRowC w0
  obtain ⟨k, h⟩ := P l0 hm0 y0 hw0
  refine (laws_FnBoxHalves.calls k _ _ l0 true w (Kd.C_of_reads (d := (0 : Int)) (h1 := fun _ => rfl) hr0) hc0 h).mono ?_
  rintro e w' ⟨rfl, hd⟩
  exact ⟨rfl, hd⟩

end Go.Proofs.Ytnboeejakonkpaa.PFnBoxHalves
