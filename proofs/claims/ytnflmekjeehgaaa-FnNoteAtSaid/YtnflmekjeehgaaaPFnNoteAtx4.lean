-- Written by wip/tools/print_more.py (forms of the print, over contracts of this session).
import Derived.Test.YtnflmekjeehgaaaPFnNoteAtx0
import Derived.Test.YtnflmekjeehgaaaPFnNoteAtx1
import Derived.Test.YtnflmekjeehgaaaPFnNoteAtx2
import Derived.Test.YtnflmekjeehgaaaPFnNoteAtx3
namespace Go.Proofs.Ytnflmekjeehgaaa.PFnNoteAt
open Go.RowKit Go.Proofs.YtnflmekjeehgaaaW.PrintWords Go.Proofs.YtnflmekjeehgaaaW.PrintLast Go.Proofs.YtnflmekjeehgaaaW.PrintMore
attribute [local go_sem] max2_int min2_int max_two min_two max_three min_three max_four min_four   -- for this text's walks alone
set_option linter.unusedVariables false
set_option linter.unusedSimpArgs false

/-! ### spec_DrawNoteAt: function 21 -/
def spec_DrawNoteAt.f (k : Nat) (l0 : List Int) : Option ((List (S43)) × Int) := (spec_l20Open.f l0).bind fun bt159 => ((spec_l20Song.f k bt159.1 bt159.2 12).bind fun bt162 => ((spec_l20Rd_pick.f k bt159.1 bt162.2 80).bind fun bt166 => ((spec_l20Rd_pick.f k bt159.1 bt166.2 256).bind fun bt168 => ((some (([bt166.1, wrap64 (bt168.1 * 390), (-1), 100001] : List Int) : List Int)).bind fun y170 => ((some (([0, 0, 0, 1, 2, 3] : List Int) : List Int)).bind fun y173 => ((spec_l20Rd_pick.f k bt159.1 bt168.2 6).bind fun bt176 => (if 0 ≤ bt176.1 then (if bt176.1 < (y173.length : Int) then (if 0 ≤ (rd y173 bt176.1) then (if (rd y173 bt176.1) < (y170.length : Int) then (some (bt162.1, rd y170 (rd y173 bt176.1))) else (none)) else (none)) else (none)) else (none))))))))
theorem spec_DrawNoteAt.mono : ∀ a0 k, LeO (spec_DrawNoteAt.f k a0) (spec_DrawNoteAt.f (k + 1) a0) := by
  intro a0 k
  unfold spec_DrawNoteAt.f
  repeat' first
      | (with_reducible exact spec_l20Rd_pick.mono _ _ _ _)
      | (with_reducible exact spec_l20Song.mono _ _ _ _)
      | (with_reducible exact LeO.refl _)
      | (with_reducible exact LeO.none _)
      | (with_reducible refine LeO.ite ?_ ?_)
      | (with_reducible refine LeO.bind ?_ (fun _ => ?_))
      | exact spec_l20Rd_pick.mono _ _ _ _
      | exact spec_l20Song.mono _ _ _ _
      | exact LeO.none _
      | refine LeO.ite ?_ ?_
      | refine LeO.bind ?_ (fun _ => ?_)
def spec_DrawNoteAt.T3 : Bool × List (List Nat × List Nat) := (true, [([], []), ([], []), ([1], [1]), ([], []), ([3, 2], [3]), ([4], [4]), ([2, 5], [2, 5]), ([], []), ([], []), ([8, 4], [8]), ([7, 9], [7, 9]), ([10], [10]), ([6, 11], [6, 11]), ([12], [12]), ([0, 9, 0], [0]), ([13, 14, 0, 1, 2, 3, 4, 5, 6, 7, 8, 9, 10, 11, 12, 13, 14], [13])])
def spec_DrawNoteAt.B3 : List Nat := [0, 0, 2, 0, 14, 30, 62, 0, 0, 286, 926, 1950, 4094, 8190, 799, 32767]
theorem spec_DrawNoteAt.tab3 : rtab .any (opsOf Try.f21 3) = spec_DrawNoteAt.T3 := by kernel_rfl
theorem spec_DrawNoteAt.bits3 : waitsOk spec_DrawNoteAt.T3.2 spec_DrawNoteAt.B3 = true := by kernel_rfl
set_option maxHeartbeats 8000000 in
set_option maxRecDepth 100000 in
theorem spec_DrawNoteAt.calls (k : Nat) (A0 : Option Addr) (c0 : Nat) (l0 : List Int) (r1 : List (S43)) (r2 : Int) (w : World) (hr0 : Kd.C (Kd.int .u8) w A0 l0.length l0) (hc0 : l0.length ≤ c0) (h : spec_DrawNoteAt.f k l0 = some (r1, r2)) :
    Calls Try.prog 21 #[.slice A0 l0.length c0] w fun e w' => ∃ v0_ : Value, e = .returned (.tuple #[v0_, .int .i64 r2]) ∧ Kd.R k43 43 w' w.heap.size (fun _ => True) v0_ r1 ∧ Below w.heap.size w w' := by
  have HR0 := Aside0.mk hr0
  have HC0 := Aside0.mk hc0
  clear hr0 hc0
  have HB := Aside0.mk (Below.refl w.heap.size w)
  have H : ((spec_l20Open.f l0).bind fun bt159 => ((spec_l20Song.f k bt159.1 bt159.2 12).bind fun bt162 => ((spec_l20Rd_pick.f k bt159.1 bt162.2 80).bind fun bt166 => ((spec_l20Rd_pick.f k bt159.1 bt166.2 256).bind fun bt168 => ((some (([bt166.1, wrap64 (bt168.1 * 390), (-1), 100001] : List Int) : List Int)).bind fun y170 => ((some (([0, 0, 0, 1, 2, 3] : List Int) : List Int)).bind fun y173 => ((spec_l20Rd_pick.f k bt159.1 bt168.2 6).bind fun bt176 => (if 0 ≤ bt176.1 then (if bt176.1 < (y173.length : Int) then (if 0 ≤ (rd y173 bt176.1) then (if (rd y173 bt176.1) < (y170.length : Int) then (some (bt162.1, rd y170 (rd y173 bt176.1))) else (none)) else (none)) else (none)) else (none))))))))) = some (r1, r2) := h
  clear h
  replace H := Option.bind_eq_some_iff.mp H
  obtain ⟨⟨t159, t160⟩, A20, H⟩ := H
  replace H : ((spec_l20Song.f k t159 t160 12).bind fun bt162 => ((spec_l20Rd_pick.f k t159 bt162.2 80).bind fun bt166 => ((spec_l20Rd_pick.f k t159 bt166.2 256).bind fun bt168 => ((some (([bt166.1, wrap64 (bt168.1 * 390), (-1), 100001] : List Int) : List Int)).bind fun y170 => ((some (([0, 0, 0, 1, 2, 3] : List Int) : List Int)).bind fun y173 => ((spec_l20Rd_pick.f k t159 bt168.2 6).bind fun bt176 => (if 0 ≤ bt176.1 then (if bt176.1 < (y173.length : Int) then (if 0 ≤ (rd y173 bt176.1) then (if (rd y173 bt176.1) < (y170.length : Int) then (some (bt162.1, rd y170 (rd y173 bt176.1))) else (none)) else (none)) else (none)) else (none)))))))) = some (r1, r2) := H
  have A2 := Aside0.mk A20
  clear A20
  replace H := Option.bind_eq_some_iff.mp H
  obtain ⟨⟨t162, t165⟩, A30, H⟩ := H
  replace H : ((spec_l20Rd_pick.f k t159 t165 80).bind fun bt166 => ((spec_l20Rd_pick.f k t159 bt166.2 256).bind fun bt168 => ((some (([bt166.1, wrap64 (bt168.1 * 390), (-1), 100001] : List Int) : List Int)).bind fun y170 => ((some (([0, 0, 0, 1, 2, 3] : List Int) : List Int)).bind fun y173 => ((spec_l20Rd_pick.f k t159 bt168.2 6).bind fun bt176 => (if 0 ≤ bt176.1 then (if bt176.1 < (y173.length : Int) then (if 0 ≤ (rd y173 bt176.1) then (if (rd y173 bt176.1) < (y170.length : Int) then (some (t162, rd y170 (rd y173 bt176.1))) else (none)) else (none)) else (none)) else (none))))))) = some (r1, r2) := H
  have A3 := Aside0.mk A30
  clear A30
  replace H := Option.bind_eq_some_iff.mp H
  obtain ⟨⟨t166, t167⟩, A40, H⟩ := H
  replace H : ((spec_l20Rd_pick.f k t159 t167 256).bind fun bt168 => ((some (([t166, wrap64 (bt168.1 * 390), (-1), 100001] : List Int) : List Int)).bind fun y170 => ((some (([0, 0, 0, 1, 2, 3] : List Int) : List Int)).bind fun y173 => ((spec_l20Rd_pick.f k t159 bt168.2 6).bind fun bt176 => (if 0 ≤ bt176.1 then (if bt176.1 < (y173.length : Int) then (if 0 ≤ (rd y173 bt176.1) then (if (rd y173 bt176.1) < (y170.length : Int) then (some (t162, rd y170 (rd y173 bt176.1))) else (none)) else (none)) else (none)) else (none)))))) = some (r1, r2) := H
  have A4 := Aside0.mk A40
  clear A40
  replace H := Option.bind_eq_some_iff.mp H
  obtain ⟨⟨t168, t169⟩, A50, H⟩ := H
  replace H : ((some (([t166, wrap64 (t168 * 390), (-1), 100001] : List Int) : List Int)).bind fun y170 => ((some (([0, 0, 0, 1, 2, 3] : List Int) : List Int)).bind fun y173 => ((spec_l20Rd_pick.f k t159 t169 6).bind fun bt176 => (if 0 ≤ bt176.1 then (if bt176.1 < (y173.length : Int) then (if 0 ≤ (rd y173 bt176.1) then (if (rd y173 bt176.1) < (y170.length : Int) then (some (t162, rd y170 (rd y173 bt176.1))) else (none)) else (none)) else (none)) else (none))))) = some (r1, r2) := H
  have A5 := Aside0.mk A50
  clear A50
  obtain ⟨y170, hy170⟩ : ∃ y_ : List Int, y_ = (([t166, wrap64 (t168 * 390), (-1), 100001] : List Int)) := ⟨_, rfl⟩
  replace H : ((some (([0, 0, 0, 1, 2, 3] : List Int) : List Int)).bind fun y173 => ((spec_l20Rd_pick.f k t159 t169 6).bind fun bt176 => (if 0 ≤ bt176.1 then (if bt176.1 < (y173.length : Int) then (if 0 ≤ (rd y173 bt176.1) then (if (rd y173 bt176.1) < (y170.length : Int) then (some (t162, rd y170 (rd y173 bt176.1))) else (none)) else (none)) else (none)) else (none)))) = some (r1, r2) := by first | (rw [hy170]; with_reducible exact H) | (have H2_ := (Option.bind_some _ _).symm.trans H; rw [hy170]; with_reducible exact H2_) | (have H2_ := (Option.bind_some _ _).symm.trans H; with_reducible exact H2_) | with_reducible exact H | (rw [hy170]; exact H) | exact H
  have Ny170 := Aside0.mk hy170
  clear hy170
  obtain ⟨y173, hy173⟩ : ∃ y_ : List Int, y_ = (([0, 0, 0, 1, 2, 3] : List Int)) := ⟨_, rfl⟩
  replace H : ((spec_l20Rd_pick.f k t159 t169 6).bind fun bt176 => (if 0 ≤ bt176.1 then (if bt176.1 < (y173.length : Int) then (if 0 ≤ (rd y173 bt176.1) then (if (rd y173 bt176.1) < (y170.length : Int) then (some (t162, rd y170 (rd y173 bt176.1))) else (none)) else (none)) else (none)) else (none))) = some (r1, r2) := by first | (rw [hy173]; with_reducible exact H) | (have H2_ := (Option.bind_some _ _).symm.trans H; rw [hy173]; with_reducible exact H2_) | (have H2_ := (Option.bind_some _ _).symm.trans H; with_reducible exact H2_) | with_reducible exact H | (rw [hy173]; exact H) | exact H
  have Ny173 := Aside0.mk hy173
  clear hy173
  replace H := Option.bind_eq_some_iff.mp H
  obtain ⟨⟨t176, t177⟩, A60, H⟩ := H
  replace H : (if 0 ≤ t176 then (if t176 < (y173.length : Int) then (if 0 ≤ (rd y173 t176) then (if (rd y173 t176) < (y170.length : Int) then (some (t162, rd y170 (rd y173 t176))) else (none)) else (none)) else (none)) else (none)) = some (r1, r2) := H
  have A6 := Aside0.mk A60
  clear A60
  by_cases c7 : 0 ≤ t176
  · rw [if_pos c7] at H
    have c7b0 : decide (0 ≤ t176) = true := decide_eq_true c7
    clear c7
    by_cases c8 : t176 < (y173.length : Int)
    · rw [if_pos c8] at H
      have c8b0 : decide (t176 < (y173.length : Int)) = true := decide_eq_true c8
      clear c8
      by_cases c9 : 0 ≤ (rd y173 t176)
      · rw [if_pos c9] at H
        have c9b0 : decide (0 ≤ (rd y173 t176)) = true := decide_eq_true c9
        clear c9
        by_cases c10 : (rd y173 t176) < (y170.length : Int)
        · rw [if_pos c10] at H
          have c10b0 : decide ((rd y173 t176) < (y170.length : Int)) = true := decide_eq_true c10
          clear c10
          simp only [Option.some.injEq, Prod.mk.injEq] at H
          obtain ⟨rfl, rfl⟩ := H
          go_enter Try.func21, Try.ntmps21
          try go_wp2_with (first | ((with_reducible refine gate_callee (f := 37) rfl ?_); refine goesL_ (some 7) rfl rfl Try.func37 (by kernel_rfl) rfl #[.slice A0 l0.length c0] rfl (by (try simp only [List.map_toArray, List.map_cons, List.map_nil]); first | done | rfl | (simp only [List.length_drop, List.length_take]; rfl)) ?_; (with_reducible refine (spec_l20Open.calls _ _ l0 t159 t160 w _ ?side1 ?side2 ?side3 A2.out).mono ?_); (case side1 => repeat (first | (with_reducible first | exact HB.out | apply below_alloc | apply pw_below_drewN | apply below_drew1) | exact HB.out)); (case side2 => exact HR0.out); (case side3 => exact HC0.out); rintro e w11 ⟨g161, rfl, hi, hb, hb2⟩; refine ⟨_, rfl, ?_⟩; have n0_ := Aside0.mk (hb); have n1_ := Aside0.mk (hi); clear HB; have HB := n0_; have HI161 := n1_; clear n0_ n1_; (try clear hb); (try clear hb2); (try clear hk); (try clear hi)) | ((with_reducible refine gate_callee (f := 51) rfl ?_); refine goesL_ (some 9) rfl rfl Try.func51 (by kernel_rfl) rfl #[.pointer (some ⟨g161, 0, none⟩), .int .i64 12] rfl (by (try simp only [List.map_toArray, List.map_cons, List.map_nil]); first | done | rfl | (simp only [List.length_drop, List.length_take]; rfl)) ?_; (with_reducible refine (spec_l20Song.calls k g161 t159 t160 12 t162 t165 w _ ?side1 ?side2 A3.out).mono ?_); (case side1 => repeat (first | (with_reducible first | exact HI161.out | apply IsS75.alloc | apply IsS75.drewN | apply IsS75.drew | apply IsS75.set_1) | exact HI161.out)); (case side2 => repeat (first | (with_reducible first | exact HB.out | apply below_alloc | apply pw_below_drewN | apply below_drew1 | refine below_set ?_ (IsS75.ge HI161.out)) | exact HB.out)); rintro e w12 ⟨v163, rfl, ho0, hi, hb, hk⟩; refine ⟨_, rfl, ?_⟩; have n0_ := Aside0.mk (Kd.R_lower ho0 (below_size (by repeat (first | (with_reducible first | exact HB.out | apply below_alloc | apply pw_below_drewN | apply below_drew1 | refine below_set ?_ (IsS75.ge HI161.out)) | exact HB.out)))); have n1_ := Aside0.mk (hb); have n2_ := Aside0.mk (hi); clear HB; clear HI161; have HO164 := n0_; have HB := n1_; have HI161 := n2_; clear n0_ n1_ n2_; (try clear hb); (try clear hb2); (try clear hk); (try clear hi); (try clear ho0)))
          have pi178 : (0 ≤ (t176 : Int)) = True := eq_true (of_decide_eq_true (by first | (with_reducible assumption) | assumption))
          have qi178 : (t176 < (y173.length : Int)) = True := eq_true (of_decide_eq_true (by first | (with_reducible assumption) | assumption))
          have pi179 : (0 ≤ ((rd y173 t176) : Int)) = True := eq_true (of_decide_eq_true (by first | (with_reducible assumption) | assumption))
          have qi179 : ((rd y173 t176) < (y170.length : Int)) = True := eq_true (of_decide_eq_true (by first | (with_reducible assumption) | assumption))
          have n0_ := Aside0.mk (Kd.R_drew HO164.out)
          have n1_ := Aside0.mk (IsS75.drew HI161.out)
          have n2_ := Aside0.mk (below_drew1 HB.out)
          clear HO164
          clear HI161
          clear HB
          have HO164 := n0_
          have HI161 := n1_
          have HB := n2_
          clear n0_ n1_ n2_
          refine start_ (n := 16) (S := fun w' => True) (ds := []) #[false, false, false, false, false, false, false, false, false, false, false, false, false, false, false, false] (by kernel_rfl) rfl rfl trivial (fun hHeld => ?_); refine with_tabW spec_DrawNoteAt.tab3 spec_DrawNoteAt.bits3 (fun HT_ HW_ => ?_)
          generalize w12.drew = w13 at HO164 HI161 HB hHeld ⊢
          refine pure_ (i := 0) (N := some 10) (v := ?_) (a' := ?_) #[true, false, false, false, false, false, false, false, false, false, false, false, false, false, false, false] rfl rfl (any_of HT_.out (by kernel_rfl)) (fun _ _ _ h => h) (Or.inl ⟨by rfl, ?_⟩) ?_ ?_
          rotate_left
          · intro w'
            go_simp
            with_reducible rfl
          rotate_left
          · simp only [Act.put, List.setIfInBounds_toArray, List.set_cons_zero, List.set_cons_succ, i64_w, i32_w]
            rfl
          refine pure_ (i := 1) (N := some 11) (v := ?_) (a' := ?_) #[true, true, false, false, false, false, false, false, false, false, false, false, false, false, false, false] rfl rfl (any_of HT_.out (by kernel_rfl)) (fun _ _ _ h => h) (Or.inl ⟨by rfl, ?_⟩) ?_ ?_
          rotate_left
          · intro w'
            go_simp
            with_reducible rfl
          rotate_left
          · simp only [Act.put, List.setIfInBounds_toArray, List.set_cons_zero, List.set_cons_succ, i64_w, i32_w]
            rfl
          refine pure_ (i := 3) (N := some 13) (v := ?_) (a' := ?_) #[true, true, false, true, false, false, false, false, false, false, false, false, false, false, false, false] rfl rfl (any_of HT_.out (by kernel_rfl)) (fun _ _ _ h => h) (Or.inl ⟨by rfl, ?_⟩) ?_ ?_
          rotate_left
          · intro w'
            go_simp
            with_reducible rfl
          rotate_left
          · simp only [Act.put, List.setIfInBounds_toArray, List.set_cons_zero, List.set_cons_succ, i64_w, i32_w]
            rfl
          refine pure_ (i := 8) (N := some 18) (v := ?_) (a' := ?_) #[true, true, false, true, false, false, false, false, true, false, false, false, false, false, false, false] rfl rfl (any_of HT_.out (by kernel_rfl)) (fun _ _ _ h => h) (Or.inl ⟨by rfl, ?_⟩) ?_ ?_
          rotate_left
          · intro w'
            go_simp
            with_reducible rfl
          rotate_left
          · simp only [Act.put, List.setIfInBounds_toArray, List.set_cons_zero, List.set_cons_succ, i64_w, i32_w]
            rfl
          refine inv_at [2, 4, 5, 6, 7, 9, 10, 11, 12, 13, 14, 15] (fun a0_ b a w' => ∃ (v171 : Value) (adz_v171 : Addr) (v174 : Value) (adz_v174 : Addr) (m10_ : Value) (m12_ : Value), a = putSel a0_ b [(2, 12, .int .i64 t166), (4, 14, .int .i64 t168), (5, 15, .int .i64 (wrap64 (t168 * 390))), (6, 16, v171), (7, 17, v174), (9, 19, .int .i64 t176), (10, 20, m10_), (11, 21, .int .i64 (rd y173 t176)), (12, 22, m12_), (13, 23, .int .i64 (rd y170 (rd y173 t176))), (14, 2, v163), (15, 3, .int .i64 (rd y170 (rd y173 t176)))] ∧ (Kd.R k43 43 w' w.heap.size (fun _ => True) v163 t162) ∧ (b 2 = false → IsS75 w w' g161 t159 t165) ∧ (Below w.heap.size w w') ∧ (b 2 = true → b 4 = false → IsS75 w w' g161 t159 t167) ∧ (b 4 = true → b 9 = false → IsS75 w w' g161 t159 t169) ∧ (b 6 = true → Kd.R (Kd.int .i64) 3 w' w.heap.size (fun _ => True) v171 y170) ∧ (b 6 = true → ∃ c_, (v171 : Value) = .slice (some adz_v171) y170.length c_) ∧ (b 7 = true → Kd.R (Kd.int .i64) 3 w' w.heap.size (fun _ => True) v174 y173) ∧ (b 7 = true → ∃ c_, (v174 : Value) = .slice (some adz_v174) y173.length c_) ∧ (b 9 = true → IsS75 w w' g161 t159 t177) ∧ (b 10 = true → (m10_ : Value) = .pointer (some (adz_v174.add (t176).toNat))) ∧ (b 12 = true → (m12_ : Value) = .pointer (some (adz_v171.add ((rd y173 t176)).toNat)))) HT_.out HW_.out (by kernel_rfl) (by kernel_rfl) ?_ ?_ ?_
          · exact ⟨.bool false, ⟨0, 0, none⟩, .bool false, ⟨0, 0, none⟩, .bool false, .bool false, by simp only [putSel, Bool.false_eq_true, if_false], HO164.out, fun _ => HI161.out, HB.out, fun h_ => absurd h_ (by decide), fun h_ => absurd h_ (by decide), fun h_ => absurd h_ (by decide), fun h_ => absurd h_ (by decide), fun h_ => absurd h_ (by decide), fun h_ => absurd h_ (by decide), fun h_ => absurd h_ (by decide), fun h_ => absurd h_ (by decide), fun h_ => absurd h_ (by decide)⟩
          · skip
            clear HB HI161 HO164
            refine steps_cons ?_ ?_
            · rintro b a w' ⟨v171, adz_v171, v174, adz_v174, m10_, m12_, ha, Q_HO164, Q_HI161, Q_HB, Q_HI161_e2, Q_HI161_e4, Q_HO172, Q_HA_HO172, Q_HO175, Q_HA_HO175, Q_HI161_e9, Q_X10_, Q_X12_⟩ hb_ hon hoff
              refine ⟨_, rfl, fun K hK => ?_⟩
              have e11 : a.tmps[11]? = some (.pointer (some ⟨g161, 0, none⟩)) := by rw [ha]; exact (putSel_off rfl).trans rfl
              replace ha := Aside0.mk ha
              have HO164 := Aside0.mk Q_HO164
              have HI161 := Aside0.mk (Q_HI161 hb_)
              have HB := Aside0.mk Q_HB
              refine goes_ Try.func40 (by kernel_rfl) rfl #[.pointer (some ⟨g161, 0, none⟩), .int .i64 80] (by rfl) rfl rfl (by first | (simp only [List.map_toArray, List.map_cons, List.map_nil, Act.eval, Array.getD_eq_getD_getElem?, Option.getD_some, e11]; done) | (simp only [List.map_toArray, List.map_cons, List.map_nil, Act.eval, Array.getD_eq_getD_getElem?, Option.getD_some, e11]; rfl)) ?_
              with_reducible refine (spec_l20Rd_pick.calls k g161 t159 t165 80 t166 t167 w _ ?side1 ?side2 A4.out).mono ?_
              (case side1 => repeat (first | (with_reducible first | exact HI161.out | apply IsS75.alloc | apply IsS75.drewN | apply IsS75.drew | apply IsS75.set_1) | exact HI161.out))
              (case side2 => repeat (first | (with_reducible first | exact HB.out | apply below_alloc | apply pw_below_drewN | apply below_drew1 | refine below_set ?_ (IsS75.ge HI161.out)) | exact HB.out))
              rintro e w14 ⟨rfl, hi, hb, hk⟩
              refine ⟨_, rfl, ?_⟩
              have n0_ := Aside0.mk (Kd.R_mono (Kd.R_keep (IsS75.apart (show IsS75 w _ g161 t159 t165 from by repeat (first | (with_reducible first | exact HI161.out | apply IsS75.alloc | apply IsS75.drewN | apply IsS75.drew | apply IsS75.set_1) | exact HI161.out)) (by (with_reducible repeat (first | apply Kd.R_alloc | apply Kd.R_drewN | apply Kd.R_drew)); exact HO164.out) (by decide)) hk (fun _ h => h.2)) (fun _ h => h.1))
              have n1_ := Aside0.mk (hb)
              have n2_ := Aside0.mk (hi)
              have z_HO175 := fun (h0_ : b 7 = true) => (show Kd.R (Kd.int .i64) 3 w14 w.heap.size (fun _ => True) v174 y173 from by first | exact (Kd.R_mono (Kd.R_keep (IsS75.apart (show IsS75 w _ g161 t159 t165 from by repeat (first | (with_reducible first | exact HI161.out | apply IsS75.alloc | apply IsS75.drewN | apply IsS75.drew | apply IsS75.set_1) | exact HI161.out)) (by (with_reducible repeat (first | apply Kd.R_alloc | apply Kd.R_drewN | apply Kd.R_drew)); exact (Q_HO175 h0_)) (by decide)) hk (fun _ h => h.2)) (fun _ h => h.1)) | exact Kd.R_mono (Kd.R_mono (Kd.R_keep (IsS75.apart (show IsS75 w _ g161 t159 t165 from by repeat (first | (with_reducible first | exact HI161.out | apply IsS75.alloc | apply IsS75.drewN | apply IsS75.drew | apply IsS75.set_1) | exact HI161.out)) (by (with_reducible repeat (first | apply Kd.R_alloc | apply Kd.R_drewN | apply Kd.R_drew)); exact (Q_HO175 h0_)) (by decide)) hk (fun _ h => h.2)) (fun _ h => h.1)) (fun _ h_ => by first | trivial | exact h_ | exact h_.1))
              clear HO164
              clear HB
              clear HI161
              have HO164 := n0_
              have HB := n1_
              have HI161 := n2_
              clear n0_ n1_ n2_
              (try clear hb)
              (try clear hb2)
              (try clear hk)
              (try clear hi)
              refine hK.out _ _ ⟨v171, adz_v171, v174, adz_v174, m10_, m12_, (by rw [ha.out]; exact putSel_upk 0 hb_ rfl rfl rfl), (by (with_reducible repeat (first | apply Kd.R_alloc | apply Kd.R_drewN | apply Kd.R_drew)); exact HO164.out), fun h0_ => absurd ((up_self b 2).symm.trans h0_) (by decide), (by repeat (first | (with_reducible first | exact HB.out | apply below_alloc | apply pw_below_drewN | apply below_drew1 | refine below_set ?_ (IsS75.ge HI161.out)) | exact HB.out)), fun _ _ => (by repeat (first | (with_reducible first | exact HI161.out | apply IsS75.alloc | apply IsS75.drewN | apply IsS75.drew | apply IsS75.set_1) | exact HI161.out)), fun h0_ _ => absurd ((hoff 4 (by kernel_rfl)).symm.trans h0_) (by decide), fun h0_ => absurd ((hoff 6 (by kernel_rfl)).symm.trans h0_) (by decide), fun h0_ => absurd ((hoff 6 (by kernel_rfl)).symm.trans h0_) (by decide), z_HO175, Q_HA_HO175, fun h0_ => absurd ((hoff 9 (by kernel_rfl)).symm.trans h0_) (by decide), fun h0_ => absurd ((hoff 10 (by kernel_rfl)).symm.trans h0_) (by decide), fun h0_ => absurd ((hoff 12 (by kernel_rfl)).symm.trans h0_) (by decide)⟩
            refine steps_cons ?_ ?_
            · rintro b a w' ⟨v171, adz_v171, v174, adz_v174, m10_, m12_, ha, Q_HO164, Q_HI161, Q_HB, Q_HI161_e2, Q_HI161_e4, Q_HO172, Q_HA_HO172, Q_HO175, Q_HA_HO175, Q_HI161_e9, Q_X10_, Q_X12_⟩ hb_ hon hoff
              refine ⟨_, rfl, fun K hK => ?_⟩
              have e13 : a.tmps[13]? = some (.pointer (some ⟨g161, 0, none⟩)) := by rw [ha]; exact (putSel_off rfl).trans rfl
              replace ha := Aside0.mk ha
              have HO164 := Aside0.mk Q_HO164
              have HB := Aside0.mk Q_HB
              have HI161 := Aside0.mk (Q_HI161_e2 (hon 2 (by kernel_rfl)) hb_)
              refine goes_ Try.func40 (by kernel_rfl) rfl #[.pointer (some ⟨g161, 0, none⟩), .int .i64 256] (by rfl) rfl rfl (by first | (simp only [List.map_toArray, List.map_cons, List.map_nil, Act.eval, Array.getD_eq_getD_getElem?, Option.getD_some, e13]; done) | (simp only [List.map_toArray, List.map_cons, List.map_nil, Act.eval, Array.getD_eq_getD_getElem?, Option.getD_some, e13]; rfl)) ?_
              with_reducible refine (spec_l20Rd_pick.calls k g161 t159 t167 256 t168 t169 w _ ?side1 ?side2 A5.out).mono ?_
              (case side1 => repeat (first | (with_reducible first | exact HI161.out | apply IsS75.alloc | apply IsS75.drewN | apply IsS75.drew | apply IsS75.set_1) | exact HI161.out))
              (case side2 => repeat (first | (with_reducible first | exact HB.out | apply below_alloc | apply pw_below_drewN | apply below_drew1 | refine below_set ?_ (IsS75.ge HI161.out)) | exact HB.out))
              rintro e w16 ⟨rfl, hi, hb, hk⟩
              refine ⟨_, rfl, ?_⟩
              have n0_ := Aside0.mk (Kd.R_mono (Kd.R_keep (IsS75.apart (show IsS75 w _ g161 t159 t167 from by repeat (first | (with_reducible first | exact HI161.out | apply IsS75.alloc | apply IsS75.drewN | apply IsS75.drew | apply IsS75.set_1) | exact HI161.out)) (by (with_reducible repeat (first | apply Kd.R_alloc | apply Kd.R_drewN | apply Kd.R_drew)); exact HO164.out) (by decide)) hk (fun _ h => h.2)) (fun _ h => h.1))
              have n1_ := Aside0.mk (hb)
              have n2_ := Aside0.mk (hi)
              have z_HO175 := fun (h0_ : b 7 = true) => (show Kd.R (Kd.int .i64) 3 w16 w.heap.size (fun _ => True) v174 y173 from by first | exact (Kd.R_mono (Kd.R_keep (IsS75.apart (show IsS75 w _ g161 t159 t167 from by repeat (first | (with_reducible first | exact HI161.out | apply IsS75.alloc | apply IsS75.drewN | apply IsS75.drew | apply IsS75.set_1) | exact HI161.out)) (by (with_reducible repeat (first | apply Kd.R_alloc | apply Kd.R_drewN | apply Kd.R_drew)); exact (Q_HO175 h0_)) (by decide)) hk (fun _ h => h.2)) (fun _ h => h.1)) | exact Kd.R_mono (Kd.R_mono (Kd.R_keep (IsS75.apart (show IsS75 w _ g161 t159 t167 from by repeat (first | (with_reducible first | exact HI161.out | apply IsS75.alloc | apply IsS75.drewN | apply IsS75.drew | apply IsS75.set_1) | exact HI161.out)) (by (with_reducible repeat (first | apply Kd.R_alloc | apply Kd.R_drewN | apply Kd.R_drew)); exact (Q_HO175 h0_)) (by decide)) hk (fun _ h => h.2)) (fun _ h => h.1)) (fun _ h_ => by first | trivial | exact h_ | exact h_.1))
              clear HO164
              clear HB
              clear HI161
              have HO164 := n0_
              have HB := n1_
              have HI161 := n2_
              clear n0_ n1_ n2_
              (try clear hb)
              (try clear hb2)
              (try clear hk)
              (try clear hi)
              refine hK.out _ _ ⟨v171, adz_v171, v174, adz_v174, m10_, m12_, (by rw [ha.out]; exact putSel_upk 1 hb_ rfl rfl rfl), (by (with_reducible repeat (first | apply Kd.R_alloc | apply Kd.R_drewN | apply Kd.R_drew)); exact HO164.out), fun h0_ => absurd ((hon 2 (by kernel_rfl)).symm.trans h0_) (by decide), (by repeat (first | (with_reducible first | exact HB.out | apply below_alloc | apply pw_below_drewN | apply below_drew1 | refine below_set ?_ (IsS75.ge HI161.out)) | exact HB.out)), fun _ h1_ => absurd ((up_self b 4).symm.trans h1_) (by decide), fun _ _ => (by repeat (first | (with_reducible first | exact HI161.out | apply IsS75.alloc | apply IsS75.drewN | apply IsS75.drew | apply IsS75.set_1) | exact HI161.out)), fun h0_ => absurd ((hoff 6 (by kernel_rfl)).symm.trans h0_) (by decide), fun h0_ => absurd ((hoff 6 (by kernel_rfl)).symm.trans h0_) (by decide), z_HO175, Q_HA_HO175, fun h0_ => absurd ((hoff 9 (by kernel_rfl)).symm.trans h0_) (by decide), fun h0_ => absurd ((hoff 10 (by kernel_rfl)).symm.trans h0_) (by decide), fun h0_ => absurd ((hoff 12 (by kernel_rfl)).symm.trans h0_) (by decide)⟩
            refine steps_cons ?_ ?_
            · rintro b a w' ⟨v171, adz_v171, v174, adz_v174, m10_, m12_, ha, Q_HO164, Q_HI161, Q_HB, Q_HI161_e2, Q_HI161_e4, Q_HO172, Q_HA_HO172, Q_HO175, Q_HA_HO175, Q_HI161_e9, Q_X10_, Q_X12_⟩ hb_ hon hoff
              refine ⟨_, rfl, fun K hK => ?_⟩
              have e14 : a.tmps[14]? = some (.int .i64 t168) := by rw [ha]; exact putSel_on (e := (4, 14, .int .i64 t168)) 1 rfl rfl (hon 4 (by kernel_rfl)) rfl
              replace ha := Aside0.mk ha
              have HO164 := Aside0.mk Q_HO164
              have HB := Aside0.mk Q_HB
              refine value_ (w1 := w') (v := .int .i64 (wrap64 (t168 * 390))) (by rfl) rfl ?_ ?_
              · go_simp
                (try simp only [i64_w])
                try rfl
              refine hK.out _ _ ⟨v171, adz_v171, v174, adz_v174, m10_, m12_, (by rw [ha.out]; exact putSel_upk 2 hb_ rfl rfl rfl), Q_HO164, fun h0_ => absurd ((hon 2 (by kernel_rfl)).symm.trans h0_) (by decide), Q_HB, fun _ h1_ => absurd ((hon 4 (by kernel_rfl)).symm.trans h1_) (by decide), Q_HI161_e4, fun h0_ => absurd ((hoff 6 (by kernel_rfl)).symm.trans h0_) (by decide), fun h0_ => absurd ((hoff 6 (by kernel_rfl)).symm.trans h0_) (by decide), Q_HO175, Q_HA_HO175, Q_HI161_e9, Q_X10_, fun h0_ => absurd ((hoff 12 (by kernel_rfl)).symm.trans h0_) (by decide)⟩
            refine steps_cons ?_ ?_
            · rintro b a w' ⟨v171, adz_v171, v174, adz_v174, m10_, m12_, ha, Q_HO164, Q_HI161, Q_HB, Q_HI161_e2, Q_HI161_e4, Q_HO172, Q_HA_HO172, Q_HO175, Q_HA_HO175, Q_HI161_e9, Q_X10_, Q_X12_⟩ hb_ hon hoff
              refine ⟨_, rfl, fun K hK => ?_⟩
              have e12 : a.tmps[12]? = some (.int .i64 t166) := by rw [ha]; exact putSel_on (e := (2, 12, .int .i64 t166)) 0 rfl rfl (hon 2 (by kernel_rfl)) rfl
              have e15 : a.tmps[15]? = some (.int .i64 (wrap64 (t168 * 390))) := by rw [ha]; exact putSel_on (e := (5, 15, .int .i64 (wrap64 (t168 * 390)))) 2 rfl rfl (hon 5 (by kernel_rfl)) rfl
              replace ha := Aside0.mk ha
              have HO164 := Aside0.mk Q_HO164
              have HB := Aside0.mk Q_HB
              refine Kd.R_lit_step (Kd.int .i64) _ 3 ?hg (N := 16) ?hd (xs := ([t166, wrap64 (t168 * 390), (-1), 100001] : List Int)) (inner := [.int .i64 t166, .int .i64 (wrap64 (t168 * 390)), .int .i64 (-1), .int .i64 100001]) (ok := fun _ => True) (okp := fun _ => True) ?hr ?hp (fun _ hk => hk) trivial (Below.refl _ _) (Nat.le_refl _) (by simp) ?_; (case hd => rfl); (case hg => rfl); (case hr => first | (go_simp; done) | (go_simp; rfl)); (case hp => exact (Reps.one (show Kd.M (Kd.int .i64) _ _ _ t166 [.int .i64 t166] from rfl) (Reps.one (show Kd.M (Kd.int .i64) _ _ _ (wrap64 (t168 * 390)) [.int .i64 (wrap64 (t168 * 390))] from rfl) (Reps.one (show Kd.M (Kd.int .i64) _ _ _ (-1) [.int .i64 (-1)] from rfl) (Reps.one (show Kd.M (Kd.int .i64) _ _ _ 100001 [.int .i64 100001] from rfl) (Reps.none _ _))))))
              intro v171 w17 ho18 hb hg_ hnew_
              clear hg_ hnew_
              (first | rw [← Ny170.out] at ho18 | (simp only [Int.reduceToNat] at ho18; rw [← Ny170.out] at ho18))
              have n0_ := Aside0.mk (Kd.R_below (by (with_reducible repeat (first | apply Kd.R_alloc | apply Kd.R_drewN | apply Kd.R_drew)); exact HO164.out) hb)
              have n1_ := Aside0.mk (Kd.R_lower ho18 (below_size (by repeat (first | (with_reducible first | exact HB.out | apply below_alloc | apply pw_below_drewN | apply below_drew1) | exact HB.out))))
              have n3_ := Aside0.mk (below_step (by repeat (first | (with_reducible first | exact HB.out | apply below_alloc | apply pw_below_drewN | apply below_drew1) | exact HB.out)) hb)
              have z_HI161_e4 := fun (h0_ : b 4 = true) (h1_ : b 9 = false) => (show IsS75 w w17 g161 t159 t169 from by first | exact (IsS75.below (by repeat (first | (with_reducible first | exact (Q_HI161_e4 h0_ h1_) | apply IsS75.alloc | apply IsS75.drewN | apply IsS75.drew | apply IsS75.set_1) | exact (Q_HI161_e4 h0_ h1_))) hb))
              have z_HO175 := fun (h0_ : b 7 = true) => (show Kd.R (Kd.int .i64) 3 w17 w.heap.size (fun _ => True) v174 y173 from by first | exact (Kd.R_elder' (by (with_reducible repeat (first | apply Kd.R_alloc | apply Kd.R_drewN | apply Kd.R_drew)); exact (Q_HO175 h0_)) (Kd.R_base ho18) hb) | exact Kd.R_mono (Kd.R_elder' (by (with_reducible repeat (first | apply Kd.R_alloc | apply Kd.R_drewN | apply Kd.R_drew)); exact (Q_HO175 h0_)) (Kd.R_base ho18) hb) (fun _ h_ => by first | trivial | exact h_ | exact h_.1))
              have z_HI161_e9 := fun (h0_ : b 9 = true) => (show IsS75 w w17 g161 t159 t177 from by first | exact (IsS75.below (by repeat (first | (with_reducible first | exact (Q_HI161_e9 h0_) | apply IsS75.alloc | apply IsS75.drewN | apply IsS75.drew | apply IsS75.set_1) | exact (Q_HI161_e9 h0_))) hb))
              clear HO164
              clear HB
              have HO164 := n0_
              have HO172 := n1_
              have HB := n3_
              clear n0_ n1_ n3_
              clear hb ho18
              obtain ⟨Ao19, co19, eo19⟩ := Kd.R_slice HO172.out
              subst eo19
              obtain ⟨ado19, fo19, _⟩ := Kd.at_int (Kd.R_reads' HO172.out).2.2 0 (by decide) (by rw [Ny170.out]; simp)
              cases fo19
              refine hK.out _ _ ⟨.slice (some ado19) y170.length co19, ado19, v174, adz_v174, m10_, m12_, (by rw [ha.out]; exact putSel_upk 3 hb_ rfl rfl rfl), (by (with_reducible repeat (first | apply Kd.R_alloc | apply Kd.R_drewN | apply Kd.R_drew)); exact HO164.out), fun h0_ => absurd ((hon 2 (by kernel_rfl)).symm.trans h0_) (by decide), (by repeat (first | (with_reducible first | exact HB.out | apply below_alloc | apply pw_below_drewN | apply below_drew1) | exact HB.out)), fun _ h1_ => absurd ((hon 4 (by kernel_rfl)).symm.trans h1_) (by decide), z_HI161_e4, fun _ => (by (with_reducible repeat (first | apply Kd.R_alloc | apply Kd.R_drewN | apply Kd.R_drew)); exact HO172.out), fun _ => ⟨_, rfl⟩, z_HO175, Q_HA_HO175, z_HI161_e9, Q_X10_, fun h0_ => absurd ((hoff 12 (by kernel_rfl)).symm.trans h0_) (by decide)⟩
            refine steps_cons ?_ ?_
            · rintro b a w' ⟨v171, adz_v171, v174, adz_v174, m10_, m12_, ha, Q_HO164, Q_HI161, Q_HB, Q_HI161_e2, Q_HI161_e4, Q_HO172, Q_HA_HO172, Q_HO175, Q_HA_HO175, Q_HI161_e9, Q_X10_, Q_X12_⟩ hb_ hon hoff
              refine ⟨_, rfl, fun K hK => ?_⟩
              replace ha := Aside0.mk ha
              have HO164 := Aside0.mk Q_HO164
              have HB := Aside0.mk Q_HB
              refine Kd.R_lit_step (Kd.int .i64) _ 3 ?hg (N := 17) ?hd (xs := ([0, 0, 0, 1, 2, 3] : List Int)) (inner := [.int .i64 0, .int .i64 0, .int .i64 0, .int .i64 1, .int .i64 2, .int .i64 3]) (ok := fun _ => True) (okp := fun _ => True) ?hr ?hp (fun _ hk => hk) trivial (Below.refl _ _) (Nat.le_refl _) (by simp) ?_; (case hd => rfl); (case hg => rfl); (case hr => first | (go_simp; done) | (go_simp; rfl)); (case hp => exact (Reps.one (show Kd.M (Kd.int .i64) _ _ _ 0 [.int .i64 0] from rfl) (Reps.one (show Kd.M (Kd.int .i64) _ _ _ 0 [.int .i64 0] from rfl) (Reps.one (show Kd.M (Kd.int .i64) _ _ _ 0 [.int .i64 0] from rfl) (Reps.one (show Kd.M (Kd.int .i64) _ _ _ 1 [.int .i64 1] from rfl) (Reps.one (show Kd.M (Kd.int .i64) _ _ _ 2 [.int .i64 2] from rfl) (Reps.one (show Kd.M (Kd.int .i64) _ _ _ 3 [.int .i64 3] from rfl) (Reps.none _ _))))))))
              intro v174 w14 ho15 hb hg_ hnew_
              clear hg_ hnew_
              (first | rw [← Ny173.out] at ho15 | (simp only [Int.reduceToNat] at ho15; rw [← Ny173.out] at ho15))
              have n0_ := Aside0.mk (Kd.R_below (by (with_reducible repeat (first | apply Kd.R_alloc | apply Kd.R_drewN | apply Kd.R_drew)); exact HO164.out) hb)
              have n1_ := Aside0.mk (Kd.R_lower ho15 (below_size (by repeat (first | (with_reducible first | exact HB.out | apply below_alloc | apply pw_below_drewN | apply below_drew1) | exact HB.out))))
              have n3_ := Aside0.mk (below_step (by repeat (first | (with_reducible first | exact HB.out | apply below_alloc | apply pw_below_drewN | apply below_drew1) | exact HB.out)) hb)
              have z_HI161 := fun (h0_ : b 2 = false) => (show IsS75 w w14 g161 t159 t165 from by first | exact (IsS75.below (by repeat (first | (with_reducible first | exact (Q_HI161 h0_) | apply IsS75.alloc | apply IsS75.drewN | apply IsS75.drew | apply IsS75.set_1) | exact (Q_HI161 h0_))) hb))
              have z_HI161_e2 := fun (h0_ : b 2 = true) (h1_ : b 4 = false) => (show IsS75 w w14 g161 t159 t167 from by first | exact (IsS75.below (by repeat (first | (with_reducible first | exact (Q_HI161_e2 h0_ h1_) | apply IsS75.alloc | apply IsS75.drewN | apply IsS75.drew | apply IsS75.set_1) | exact (Q_HI161_e2 h0_ h1_))) hb))
              have z_HI161_e4 := fun (h0_ : b 4 = true) (h1_ : b 9 = false) => (show IsS75 w w14 g161 t159 t169 from by first | exact (IsS75.below (by repeat (first | (with_reducible first | exact (Q_HI161_e4 h0_ h1_) | apply IsS75.alloc | apply IsS75.drewN | apply IsS75.drew | apply IsS75.set_1) | exact (Q_HI161_e4 h0_ h1_))) hb))
              have z_HO172 := fun (h0_ : b 6 = true) => (show Kd.R (Kd.int .i64) 3 w14 w.heap.size (fun _ => True) v171 y170 from by first | exact (Kd.R_elder' (by (with_reducible repeat (first | apply Kd.R_alloc | apply Kd.R_drewN | apply Kd.R_drew)); exact (Q_HO172 h0_)) (Kd.R_base ho15) hb) | exact Kd.R_mono (Kd.R_elder' (by (with_reducible repeat (first | apply Kd.R_alloc | apply Kd.R_drewN | apply Kd.R_drew)); exact (Q_HO172 h0_)) (Kd.R_base ho15) hb) (fun _ h_ => by first | trivial | exact h_ | exact h_.1))
              have z_HI161_e9 := fun (h0_ : b 9 = true) => (show IsS75 w w14 g161 t159 t177 from by first | exact (IsS75.below (by repeat (first | (with_reducible first | exact (Q_HI161_e9 h0_) | apply IsS75.alloc | apply IsS75.drewN | apply IsS75.drew | apply IsS75.set_1) | exact (Q_HI161_e9 h0_))) hb))
              clear HO164
              clear HB
              have HO164 := n0_
              have HO175 := n1_
              have HB := n3_
              clear n0_ n1_ n3_
              clear hb ho15
              obtain ⟨Ao16, co16, eo16⟩ := Kd.R_slice HO175.out
              subst eo16
              obtain ⟨ado16, fo16, _⟩ := Kd.at_int (Kd.R_reads' HO175.out).2.2 0 (by decide) (by rw [Ny173.out]; simp)
              cases fo16
              refine hK.out _ _ ⟨v171, adz_v171, .slice (some ado16) y173.length co16, ado16, m10_, m12_, (by rw [ha.out]; exact putSel_upk 4 hb_ rfl rfl rfl), (by (with_reducible repeat (first | apply Kd.R_alloc | apply Kd.R_drewN | apply Kd.R_drew)); exact HO164.out), z_HI161, (by repeat (first | (with_reducible first | exact HB.out | apply below_alloc | apply pw_below_drewN | apply below_drew1) | exact HB.out)), z_HI161_e2, z_HI161_e4, z_HO172, Q_HA_HO172, fun _ => (by (with_reducible repeat (first | apply Kd.R_alloc | apply Kd.R_drewN | apply Kd.R_drew)); exact HO175.out), fun _ => ⟨_, rfl⟩, z_HI161_e9, fun h0_ => absurd ((hoff 10 (by kernel_rfl)).symm.trans h0_) (by decide), fun h0_ => absurd ((hoff 12 (by kernel_rfl)).symm.trans h0_) (by decide)⟩
            refine steps_cons ?_ ?_
            · rintro b a w' ⟨v171, adz_v171, v174, adz_v174, m10_, m12_, ha, Q_HO164, Q_HI161, Q_HB, Q_HI161_e2, Q_HI161_e4, Q_HO172, Q_HA_HO172, Q_HO175, Q_HA_HO175, Q_HI161_e9, Q_X10_, Q_X12_⟩ hb_ hon hoff
              refine ⟨_, rfl, fun K hK => ?_⟩
              have e18 : a.tmps[18]? = some (.pointer (some ⟨g161, 0, none⟩)) := by rw [ha]; exact (putSel_off rfl).trans rfl
              replace ha := Aside0.mk ha
              have HO164 := Aside0.mk Q_HO164
              have HB := Aside0.mk Q_HB
              have HI161 := Aside0.mk (Q_HI161_e4 (hon 4 (by kernel_rfl)) hb_)
              refine goes_ Try.func40 (by kernel_rfl) rfl #[.pointer (some ⟨g161, 0, none⟩), .int .i64 6] (by rfl) rfl rfl (by first | (simp only [List.map_toArray, List.map_cons, List.map_nil, Act.eval, Array.getD_eq_getD_getElem?, Option.getD_some, e18]; done) | (simp only [List.map_toArray, List.map_cons, List.map_nil, Act.eval, Array.getD_eq_getD_getElem?, Option.getD_some, e18]; rfl)) ?_
              with_reducible refine (spec_l20Rd_pick.calls k g161 t159 t169 6 t176 t177 w _ ?side1 ?side2 A6.out).mono ?_
              (case side1 => repeat (first | (with_reducible first | exact HI161.out | apply IsS75.alloc | apply IsS75.drewN | apply IsS75.drew | apply IsS75.set_1) | exact HI161.out))
              (case side2 => repeat (first | (with_reducible first | exact HB.out | apply below_alloc | apply pw_below_drewN | apply below_drew1 | refine below_set ?_ (IsS75.ge HI161.out)) | exact HB.out))
              rintro e w17 ⟨rfl, hi, hb, hk⟩
              refine ⟨_, rfl, ?_⟩
              have n0_ := Aside0.mk (Kd.R_mono (Kd.R_keep (IsS75.apart (show IsS75 w _ g161 t159 t169 from by repeat (first | (with_reducible first | exact HI161.out | apply IsS75.alloc | apply IsS75.drewN | apply IsS75.drew | apply IsS75.set_1) | exact HI161.out)) (by (with_reducible repeat (first | apply Kd.R_alloc | apply Kd.R_drewN | apply Kd.R_drew)); exact HO164.out) (by decide)) hk (fun _ h => h.2)) (fun _ h => h.1))
              have n1_ := Aside0.mk (hb)
              have n2_ := Aside0.mk (hi)
              have z_HO172 := fun (h0_ : b 6 = true) => (show Kd.R (Kd.int .i64) 3 w17 w.heap.size (fun _ => True) v171 y170 from by first | exact (Kd.R_mono (Kd.R_keep (IsS75.apart (show IsS75 w _ g161 t159 t169 from by repeat (first | (with_reducible first | exact HI161.out | apply IsS75.alloc | apply IsS75.drewN | apply IsS75.drew | apply IsS75.set_1) | exact HI161.out)) (by (with_reducible repeat (first | apply Kd.R_alloc | apply Kd.R_drewN | apply Kd.R_drew)); exact (Q_HO172 h0_)) (by decide)) hk (fun _ h => h.2)) (fun _ h => h.1)) | exact Kd.R_mono (Kd.R_mono (Kd.R_keep (IsS75.apart (show IsS75 w _ g161 t159 t169 from by repeat (first | (with_reducible first | exact HI161.out | apply IsS75.alloc | apply IsS75.drewN | apply IsS75.drew | apply IsS75.set_1) | exact HI161.out)) (by (with_reducible repeat (first | apply Kd.R_alloc | apply Kd.R_drewN | apply Kd.R_drew)); exact (Q_HO172 h0_)) (by decide)) hk (fun _ h => h.2)) (fun _ h => h.1)) (fun _ h_ => by first | trivial | exact h_ | exact h_.1))
              have z_HO175 := fun (h0_ : b 7 = true) => (show Kd.R (Kd.int .i64) 3 w17 w.heap.size (fun _ => True) v174 y173 from by first | exact (Kd.R_mono (Kd.R_keep (IsS75.apart (show IsS75 w _ g161 t159 t169 from by repeat (first | (with_reducible first | exact HI161.out | apply IsS75.alloc | apply IsS75.drewN | apply IsS75.drew | apply IsS75.set_1) | exact HI161.out)) (by (with_reducible repeat (first | apply Kd.R_alloc | apply Kd.R_drewN | apply Kd.R_drew)); exact (Q_HO175 h0_)) (by decide)) hk (fun _ h => h.2)) (fun _ h => h.1)) | exact Kd.R_mono (Kd.R_mono (Kd.R_keep (IsS75.apart (show IsS75 w _ g161 t159 t169 from by repeat (first | (with_reducible first | exact HI161.out | apply IsS75.alloc | apply IsS75.drewN | apply IsS75.drew | apply IsS75.set_1) | exact HI161.out)) (by (with_reducible repeat (first | apply Kd.R_alloc | apply Kd.R_drewN | apply Kd.R_drew)); exact (Q_HO175 h0_)) (by decide)) hk (fun _ h => h.2)) (fun _ h => h.1)) (fun _ h_ => by first | trivial | exact h_ | exact h_.1))
              clear HO164
              clear HB
              clear HI161
              have HO164 := n0_
              have HB := n1_
              have HI161 := n2_
              clear n0_ n1_ n2_
              (try clear hb)
              (try clear hb2)
              (try clear hk)
              (try clear hi)
              refine hK.out _ _ ⟨v171, adz_v171, v174, adz_v174, m10_, m12_, (by rw [ha.out]; exact putSel_upk 5 hb_ rfl rfl rfl), (by (with_reducible repeat (first | apply Kd.R_alloc | apply Kd.R_drewN | apply Kd.R_drew)); exact HO164.out), fun h0_ => absurd ((hon 2 (by kernel_rfl)).symm.trans h0_) (by decide), (by repeat (first | (with_reducible first | exact HB.out | apply below_alloc | apply pw_below_drewN | apply below_drew1 | refine below_set ?_ (IsS75.ge HI161.out)) | exact HB.out)), fun _ h1_ => absurd ((hon 4 (by kernel_rfl)).symm.trans h1_) (by decide), fun _ h1_ => absurd ((up_self b 9).symm.trans h1_) (by decide), z_HO172, Q_HA_HO172, z_HO175, Q_HA_HO175, fun _ => (by repeat (first | (with_reducible first | exact HI161.out | apply IsS75.alloc | apply IsS75.drewN | apply IsS75.drew | apply IsS75.set_1) | exact HI161.out)), fun h0_ => absurd ((hoff 10 (by kernel_rfl)).symm.trans h0_) (by decide), fun h0_ => absurd ((hoff 12 (by kernel_rfl)).symm.trans h0_) (by decide)⟩
            refine steps_cons ?_ ?_
            · rintro b a w' ⟨v171, adz_v171, v174, adz_v174, m10_, m12_, ha, Q_HO164, Q_HI161, Q_HB, Q_HI161_e2, Q_HI161_e4, Q_HO172, Q_HA_HO172, Q_HO175, Q_HA_HO175, Q_HI161_e9, Q_X10_, Q_X12_⟩ hb_ hon hoff
              refine ⟨_, rfl, fun K hK => ?_⟩
              have e17 : a.tmps[17]? = some (v174) := by rw [ha]; exact putSel_on (e := (7, 17, v174)) 4 rfl rfl (hon 7 (by kernel_rfl)) rfl
              have e19 : a.tmps[19]? = some (.int .i64 t176) := by rw [ha]; exact putSel_on (e := (9, 19, .int .i64 t176)) 5 rfl rfl (hon 9 (by kernel_rfl)) rfl
              replace ha := Aside0.mk ha
              have HO164 := Aside0.mk Q_HO164
              have HB := Aside0.mk Q_HB
              have HO175 := Aside0.mk (Q_HO175 (hon 7 (by kernel_rfl)))
              have HA_HO175 := Aside0.mk (Q_HA_HO175 (hon 7 (by kernel_rfl)))
              have HI161 := Aside0.mk (Q_HI161_e9 (hon 9 (by kernel_rfl)))
              obtain ⟨c_, hv_⟩ := HA_HO175.out
              rw [hv_] at e17
              refine value_ (w1 := w') (v := .pointer (some (adz_v174.add (t176).toNat))) (by rfl) rfl ?_ ?_
              · go_simp
                (try simp only [i64_w])
                try rfl
              refine hK.out _ _ ⟨v171, adz_v171, v174, adz_v174, (.pointer (some (adz_v174.add (t176).toNat))), m12_, (by rw [ha.out]; exact putSel_upk 6 hb_ rfl rfl rfl), Q_HO164, fun h0_ => absurd ((hon 2 (by kernel_rfl)).symm.trans h0_) (by decide), Q_HB, fun _ h1_ => absurd ((hon 4 (by kernel_rfl)).symm.trans h1_) (by decide), fun _ h1_ => absurd ((hon 9 (by kernel_rfl)).symm.trans h1_) (by decide), Q_HO172, Q_HA_HO172, Q_HO175, Q_HA_HO175, Q_HI161_e9, fun _ => rfl, fun h0_ => absurd ((hoff 12 (by kernel_rfl)).symm.trans h0_) (by decide)⟩
            refine steps_cons ?_ ?_
            · rintro b a w' ⟨v171, adz_v171, v174, adz_v174, m10_, m12_, ha, Q_HO164, Q_HI161, Q_HB, Q_HI161_e2, Q_HI161_e4, Q_HO172, Q_HA_HO172, Q_HO175, Q_HA_HO175, Q_HI161_e9, Q_X10_, Q_X12_⟩ hb_ hon hoff
              refine ⟨_, rfl, fun K hK => ?_⟩
              have e20 : a.tmps[20]? = some (m10_) := by rw [ha]; exact putSel_on (e := (10, 20, m10_)) 6 rfl rfl (hon 10 (by kernel_rfl)) rfl
              rw [Q_X10_ (hon 10 (by kernel_rfl))] at e20
              replace ha := Aside0.mk ha
              have HO164 := Aside0.mk Q_HO164
              have HB := Aside0.mk Q_HB
              have HO175 := Aside0.mk (Q_HO175 (hon 7 (by kernel_rfl)))
              have HA_HO175 := Aside0.mk (Q_HA_HO175 (hon 7 (by kernel_rfl)))
              have HI161 := Aside0.mk (Q_HI161_e9 (hon 9 (by kernel_rfl)))
              obtain ⟨c_, hv_⟩ := HA_HO175.out
              have hF_ := HO175.out
              rw [hv_] at hF_
              obtain ⟨ad_, ea_, hx_⟩ := Kd.at_int (Kd.R_reads' hF_).2.2 t176 (of_eq_true pi178) (of_eq_true qi178)
              cases ea_
              refine value_ (w1 := w') (v := .int .i64 (rd y173 t176)) (by rfl) rfl ?_ ?_
              · go_simp
                (try simp only [i64_w])
                try rfl
              refine hK.out _ _ ⟨v171, adz_v171, v174, adz_v174, m10_, m12_, (by rw [ha.out]; exact putSel_upk 7 hb_ rfl rfl rfl), Q_HO164, fun h0_ => absurd ((hon 2 (by kernel_rfl)).symm.trans h0_) (by decide), Q_HB, fun _ h1_ => absurd ((hon 4 (by kernel_rfl)).symm.trans h1_) (by decide), fun _ h1_ => absurd ((hon 9 (by kernel_rfl)).symm.trans h1_) (by decide), Q_HO172, Q_HA_HO172, Q_HO175, Q_HA_HO175, Q_HI161_e9, Q_X10_, fun h0_ => absurd ((hoff 12 (by kernel_rfl)).symm.trans h0_) (by decide)⟩
            refine steps_cons ?_ ?_
            · rintro b a w' ⟨v171, adz_v171, v174, adz_v174, m10_, m12_, ha, Q_HO164, Q_HI161, Q_HB, Q_HI161_e2, Q_HI161_e4, Q_HO172, Q_HA_HO172, Q_HO175, Q_HA_HO175, Q_HI161_e9, Q_X10_, Q_X12_⟩ hb_ hon hoff
              refine ⟨_, rfl, fun K hK => ?_⟩
              have e16 : a.tmps[16]? = some (v171) := by rw [ha]; exact putSel_on (e := (6, 16, v171)) 3 rfl rfl (hon 6 (by kernel_rfl)) rfl
              have e21 : a.tmps[21]? = some (.int .i64 (rd y173 t176)) := by rw [ha]; exact putSel_on (e := (11, 21, .int .i64 (rd y173 t176))) 7 rfl rfl (hon 11 (by kernel_rfl)) rfl
              replace ha := Aside0.mk ha
              have HO164 := Aside0.mk Q_HO164
              have HB := Aside0.mk Q_HB
              have HO172 := Aside0.mk (Q_HO172 (hon 6 (by kernel_rfl)))
              have HA_HO172 := Aside0.mk (Q_HA_HO172 (hon 6 (by kernel_rfl)))
              have HO175 := Aside0.mk (Q_HO175 (hon 7 (by kernel_rfl)))
              have HA_HO175 := Aside0.mk (Q_HA_HO175 (hon 7 (by kernel_rfl)))
              have HI161 := Aside0.mk (Q_HI161_e9 (hon 9 (by kernel_rfl)))
              obtain ⟨c_, hv_⟩ := HA_HO172.out
              rw [hv_] at e16
              refine value_ (w1 := w') (v := .pointer (some (adz_v171.add ((rd y173 t176)).toNat))) (by rfl) rfl ?_ ?_
              · go_simp
                (try simp only [i64_w])
                try rfl
              refine hK.out _ _ ⟨v171, adz_v171, v174, adz_v174, m10_, (.pointer (some (adz_v171.add ((rd y173 t176)).toNat))), (by rw [ha.out]; exact putSel_upk 8 hb_ rfl rfl rfl), Q_HO164, fun h0_ => absurd ((hon 2 (by kernel_rfl)).symm.trans h0_) (by decide), Q_HB, fun _ h1_ => absurd ((hon 4 (by kernel_rfl)).symm.trans h1_) (by decide), fun _ h1_ => absurd ((hon 9 (by kernel_rfl)).symm.trans h1_) (by decide), Q_HO172, Q_HA_HO172, Q_HO175, Q_HA_HO175, Q_HI161_e9, Q_X10_, fun _ => rfl⟩
            refine steps_cons ?_ ?_
            · rintro b a w' ⟨v171, adz_v171, v174, adz_v174, m10_, m12_, ha, Q_HO164, Q_HI161, Q_HB, Q_HI161_e2, Q_HI161_e4, Q_HO172, Q_HA_HO172, Q_HO175, Q_HA_HO175, Q_HI161_e9, Q_X10_, Q_X12_⟩ hb_ hon hoff
              refine ⟨_, rfl, fun K hK => ?_⟩
              have e22 : a.tmps[22]? = some (m12_) := by rw [ha]; exact putSel_on (e := (12, 22, m12_)) 8 rfl rfl (hon 12 (by kernel_rfl)) rfl
              rw [Q_X12_ (hon 12 (by kernel_rfl))] at e22
              replace ha := Aside0.mk ha
              have HO164 := Aside0.mk Q_HO164
              have HB := Aside0.mk Q_HB
              have HO172 := Aside0.mk (Q_HO172 (hon 6 (by kernel_rfl)))
              have HA_HO172 := Aside0.mk (Q_HA_HO172 (hon 6 (by kernel_rfl)))
              have HO175 := Aside0.mk (Q_HO175 (hon 7 (by kernel_rfl)))
              have HA_HO175 := Aside0.mk (Q_HA_HO175 (hon 7 (by kernel_rfl)))
              have HI161 := Aside0.mk (Q_HI161_e9 (hon 9 (by kernel_rfl)))
              obtain ⟨c_, hv_⟩ := HA_HO172.out
              have hF_ := HO172.out
              rw [hv_] at hF_
              obtain ⟨ad_, ea_, hx_⟩ := Kd.at_int (Kd.R_reads' hF_).2.2 (rd y173 t176) (of_eq_true pi179) (of_eq_true qi179)
              cases ea_
              refine value_ (w1 := w') (v := .int .i64 (rd y170 (rd y173 t176))) (by rfl) rfl ?_ ?_
              · go_simp
                (try simp only [i64_w])
                try rfl
              refine hK.out _ _ ⟨v171, adz_v171, v174, adz_v174, m10_, m12_, (by rw [ha.out]; exact putSel_upk 9 hb_ rfl rfl rfl), Q_HO164, fun h0_ => absurd ((hon 2 (by kernel_rfl)).symm.trans h0_) (by decide), Q_HB, fun _ h1_ => absurd ((hon 4 (by kernel_rfl)).symm.trans h1_) (by decide), fun _ h1_ => absurd ((hon 9 (by kernel_rfl)).symm.trans h1_) (by decide), Q_HO172, Q_HA_HO172, Q_HO175, Q_HA_HO175, Q_HI161_e9, Q_X10_, Q_X12_⟩
            refine steps_cons ?_ ?_
            · rintro b a w' ⟨v171, adz_v171, v174, adz_v174, m10_, m12_, ha, Q_HO164, Q_HI161, Q_HB, Q_HI161_e2, Q_HI161_e4, Q_HO172, Q_HA_HO172, Q_HO175, Q_HA_HO175, Q_HI161_e9, Q_X10_, Q_X12_⟩ hb_ hon hoff
              refine ⟨_, rfl, fun K hK => ?_⟩
              have e10 : a.tmps[10]? = some (v163) := by rw [ha]; exact (putSel_off rfl).trans rfl
              replace ha := Aside0.mk ha
              have HO164 := Aside0.mk Q_HO164
              have HB := Aside0.mk Q_HB
              have HI161 := Aside0.mk (Q_HI161_e9 (hon 9 (by kernel_rfl)))
              refine value_ (w1 := w') (v := v163) (by rfl) rfl ?_ ?_
              · go_simp
                (try simp only [i64_w])
                try rfl
              refine hK.out _ _ ⟨v171, adz_v171, v174, adz_v174, m10_, m12_, (by rw [ha.out]; exact putSel_upk 10 hb_ rfl rfl rfl), Q_HO164, fun h0_ => absurd ((hon 2 (by kernel_rfl)).symm.trans h0_) (by decide), Q_HB, fun _ h1_ => absurd ((hon 4 (by kernel_rfl)).symm.trans h1_) (by decide), fun _ h1_ => absurd ((hon 9 (by kernel_rfl)).symm.trans h1_) (by decide), Q_HO172, Q_HA_HO172, Q_HO175, Q_HA_HO175, Q_HI161_e9, Q_X10_, Q_X12_⟩
            refine steps_cons ?_ ?_
            · rintro b a w' ⟨v171, adz_v171, v174, adz_v174, m10_, m12_, ha, Q_HO164, Q_HI161, Q_HB, Q_HI161_e2, Q_HI161_e4, Q_HO172, Q_HA_HO172, Q_HO175, Q_HA_HO175, Q_HI161_e9, Q_X10_, Q_X12_⟩ hb_ hon hoff
              refine ⟨_, rfl, fun K hK => ?_⟩
              have e23 : a.tmps[23]? = some (.int .i64 (rd y170 (rd y173 t176))) := by rw [ha]; exact putSel_on (e := (13, 23, .int .i64 (rd y170 (rd y173 t176)))) 9 rfl rfl (hon 13 (by kernel_rfl)) rfl
              replace ha := Aside0.mk ha
              have HO164 := Aside0.mk Q_HO164
              have HB := Aside0.mk Q_HB
              have HO172 := Aside0.mk (Q_HO172 (hon 6 (by kernel_rfl)))
              have HA_HO172 := Aside0.mk (Q_HA_HO172 (hon 6 (by kernel_rfl)))
              have HO175 := Aside0.mk (Q_HO175 (hon 7 (by kernel_rfl)))
              have HA_HO175 := Aside0.mk (Q_HA_HO175 (hon 7 (by kernel_rfl)))
              have HI161 := Aside0.mk (Q_HI161_e9 (hon 9 (by kernel_rfl)))
              refine value_ (w1 := w') (v := .int .i64 (rd y170 (rd y173 t176))) (by rfl) rfl ?_ ?_
              · go_simp
                (try simp only [i64_w])
                try rfl
              refine hK.out _ _ ⟨v171, adz_v171, v174, adz_v174, m10_, m12_, (by rw [ha.out]; exact putSel_upk 11 hb_ rfl rfl rfl), Q_HO164, fun h0_ => absurd ((hon 2 (by kernel_rfl)).symm.trans h0_) (by decide), Q_HB, fun _ h1_ => absurd ((hon 4 (by kernel_rfl)).symm.trans h1_) (by decide), fun _ h1_ => absurd ((hon 9 (by kernel_rfl)).symm.trans h1_) (by decide), Q_HO172, Q_HA_HO172, Q_HO175, Q_HA_HO175, Q_HI161_e9, Q_X10_, Q_X12_⟩
            exact steps_nil
          rintro b a w23 hall ⟨v171, adz_v171, v174, adz_v174, m10_, m12_, ha, Q_HO164, Q_HI161, Q_HB, Q_HI161_e2, Q_HI161_e4, Q_HO172, Q_HA_HO172, Q_HO175, Q_HA_HO175, Q_HI161_e9, Q_X10_, Q_X12_⟩
          clear HB HI161 HO164
          have hb2_ := hall 2 (by kernel_rfl)
          have hb4_ := hall 4 (by kernel_rfl)
          have hb5_ := hall 5 (by kernel_rfl)
          have hb6_ := hall 6 (by kernel_rfl)
          have hb7_ := hall 7 (by kernel_rfl)
          have hb9_ := hall 9 (by kernel_rfl)
          have hb10_ := hall 10 (by kernel_rfl)
          have hb11_ := hall 11 (by kernel_rfl)
          have hb12_ := hall 12 (by kernel_rfl)
          have hb13_ := hall 13 (by kernel_rfl)
          have hb14_ := hall 14 (by kernel_rfl)
          have hb15_ := hall 15 (by kernel_rfl)
          subst ha
          obtain rfl := Q_X10_ hb10_
          obtain rfl := Q_X12_ hb12_
          simp only [putSel, hb2_, hb4_, hb5_, hb6_, hb7_, hb9_, hb10_, hb11_, hb12_, hb13_, hb14_, hb15_, if_true, Act.put, List.setIfInBounds_toArray, List.set_cons_zero, List.set_cons_succ]
          have HO164 := Aside0.mk Q_HO164
          clear Q_HO164
          clear Q_HI161
          have HB := Aside0.mk Q_HB
          clear Q_HB
          clear Q_HI161_e2
          clear Q_HI161_e4
          have HO172 := Aside0.mk (Q_HO172 hb6_)
          clear Q_HO172
          have HA_HO172 := Aside0.mk (Q_HA_HO172 hb6_)
          clear Q_HA_HO172
          have HO175 := Aside0.mk (Q_HO175 hb7_)
          clear Q_HO175
          have HA_HO175 := Aside0.mk (Q_HA_HO175 hb7_)
          clear Q_HA_HO175
          have HI161 := Aside0.mk (Q_HI161_e9 hb9_)
          clear Q_HI161_e9
          clear hall hb2_ hb4_ hb5_ hb6_ hb7_ hb9_ hb10_ hb11_ hb12_ hb13_ hb14_ hb15_
          obtain ⟨co24, eo24⟩ := HA_HO172.out
          clear HA_HO172
          subst eo24
          obtain ⟨co25, eo25⟩ := HA_HO175.out
          clear HA_HO175
          subst eo25
          try go_wp2
          go_ret2
          exact ⟨_, by first | rfl | (simp [errW_none, errW_some] <;> rfl) | (simp [*, errW_none, errW_some] <;> rfl), by (with_reducible repeat (first | apply Kd.R_alloc | apply Kd.R_drewN | apply Kd.R_drew)); exact HO164.out, by repeat (first | (with_reducible first | exact HB.out | apply below_alloc | apply pw_below_drewN | apply below_drew1 | refine below_set ?_ (IsS75.ge HI161.out)) | exact HB.out)⟩
        · rw [if_neg c10] at H
          exact absurd H (by simp)
      · rw [if_neg c9] at H
        exact absurd H (by simp)
    · rw [if_neg c8] at H
      exact absurd H (by simp)
  · rw [if_neg c7] at H
    exact absurd H (by simp)

/-! ### impl_SongTicks: function 22 -/
def impl_SongTicks.l0 : Nat → Int → List (S43) → Int → Int → Option (Int)
  | 0, _, _, _, _ => none
  | k + 1, x3, x9, x10, x11 => if x11 < x10 then (if 0 ≤ x11 then (if x11 < (x9.length : Int) then (impl_SongTicks.l0 k (wrap64 (x3 + ((rd_T43 x9 x11).f1))) x9 x10 (wrap64 (x11 + 1))) else (none)) else (none)) else (some x3)
def impl_SongTicks.f (k : Nat) (l0 : List (S43)) : Option (Int) := (impl_SongValid.f k l0).bind fun t180 => (if t180 = true then (impl_SongTicks.l0 k 0 l0 (l0.length : Int) 0) else (some (-1)))
theorem impl_SongTicks.mono_l : ∀ k, (∀ y0 y1 y2 y3, LeO (impl_SongTicks.l0 k y0 y1 y2 y3) (impl_SongTicks.l0 (k + 1) y0 y1 y2 y3))
  | 0 => fun _ _ _ _ r h => by simp [impl_SongTicks.l0] at h
  | k + 1 => by
    have ih0 := impl_SongTicks.mono_l k
    · intro y0 y1 y2 y3
      unfold impl_SongTicks.l0
      repeat' first
      | (with_reducible exact ih0 _ _ _ _)
      | (with_reducible exact impl_SongValid.mono _ _)
      | (with_reducible exact LeO.refl _)
      | (with_reducible exact LeO.none _)
      | (with_reducible refine LeO.ite ?_ ?_)
      | (with_reducible refine LeO.bind ?_ (fun _ => ?_))
      | exact ih0 _ _ _ _
      | exact impl_SongValid.mono _ _
      | exact LeO.none _
      | refine LeO.ite ?_ ?_
      | refine LeO.bind ?_ (fun _ => ?_)
theorem impl_SongTicks.mono : ∀ a0 k, LeO (impl_SongTicks.f k a0) (impl_SongTicks.f (k + 1) a0) := by
  intro a0 k
  have ih0 := impl_SongTicks.mono_l k
  unfold impl_SongTicks.f
  repeat' first
      | (with_reducible exact ih0 _ _ _ _)
      | (with_reducible exact impl_SongValid.mono _ _)
      | (with_reducible exact LeO.refl _)
      | (with_reducible exact LeO.none _)
      | (with_reducible refine LeO.ite ?_ ?_)
      | (with_reducible refine LeO.bind ?_ (fun _ => ?_))
      | exact ih0 _ _ _ _
      | exact impl_SongValid.mono _ _
      | exact LeO.none _
      | refine LeO.ite ?_ ?_
      | refine LeO.bind ?_ (fun _ => ?_)
set_option maxHeartbeats 8000000 in
set_option maxRecDepth 100000 in
theorem impl_SongTicks.calls (k : Nat) (A0 : Option Addr) (c0 : Nat) (l0 : List (S43)) (r : Int) (w : World) (hr0 : Kd.C k43 w A0 l0.length l0) (hc0 : l0.length ≤ c0) (h : impl_SongTicks.f k l0 = some r) :
    Calls Try.prog 22 #[.slice A0 l0.length c0] w fun e w' => e = .returned (.int .i64 r) ∧ Below w.heap.size w w' := by
  have hu43 := Try.underlying43
  have HR0 := Aside0.mk hr0
  have HC0 := Aside0.mk hc0
  clear hr0 hc0
  have HB := Aside0.mk (Below.refl w.heap.size w)
  have H : ((impl_SongValid.f k l0).bind fun t180 => (if t180 = true then (impl_SongTicks.l0 k 0 l0 (l0.length : Int) 0) else (some (-1)))) = some r := h
  clear h
  replace H := Option.bind_eq_some_iff.mp H
  obtain ⟨t180, A20, H⟩ := H
  replace H : (if t180 = true then (impl_SongTicks.l0 k 0 l0 (l0.length : Int) 0) else (some (-1))) = some r := H
  have A2 := Aside0.mk A20
  clear A20
  by_cases c3 : t180 = true
  · subst c3
    have H1 : (impl_SongTicks.l0 k 0 l0 (l0.length : Int) 0) = some r := by rw [if_pos rfl] at H; exact H
    clear H
    have H := H1
    clear H1
    have H' := Aside0.mk H
    clear H
    go_enter Try.func22, Try.ntmps22
    go_wp2_with (first | ((with_reducible refine gate_callee (f := 29) rfl ?_); refine goesL_ (some 7) rfl rfl Try.func29 (by kernel_rfl) rfl #[.slice A0 l0.length c0] rfl (by (try simp only [List.map_toArray, List.map_cons, List.map_nil]); first | done | rfl | (simp only [List.length_drop, List.length_take]; rfl)) ?_; (with_reducible refine (impl_SongValid.calls k _ _ l0 true _ ?side1 ?side2 A2.out).mono ?_); (case side1 => repeat (first | exact HR0.out | (with_reducible refine Kd.C_alloc ?_ _) | (with_reducible refine Kd.C_drewN ?_ _) | (with_reducible refine Kd.C_drew ?_))); (case side2 => exact HC0.out); rintro e w4 ⟨rfl, hb⟩; refine ⟨_, rfl, ?_⟩; have n0_ := Aside0.mk (below_step (by repeat (first | (with_reducible first | exact HB.out | apply below_alloc | apply pw_below_drewN | apply below_drew1) | exact HB.out)) hb); clear HB; have HB := n0_; clear n0_; (try clear hb); (try clear hb2); (try clear hk); (try clear hi)))
    go_loopg [3, 11] k (fun kq v3 v11 w' => ∃ (x3_1 : Int) (x11_1 : Int), v3 = .int .i64 x3_1 ∧ v11 = .int .i64 x11_1 ∧ Aside0 (impl_SongTicks.l0 kq x3_1 l0 (l0.length : Int) x11_1 = some r) ∧ Aside0 (kq ≤ k) ∧ Aside0 (Below w.heap.size w w'))
    case atStart => exact ⟨(0), (0), (by first | rfl | (simp; done) | (simp [*]; done)), (by first | rfl | (simp; done) | (simp [*]; done)), H', ⟨Nat.le_refl _⟩, ⟨by repeat (first | (with_reducible first | exact HB.out | apply below_alloc | apply pw_below_drewN | apply below_drew1) | exact HB.out)⟩⟩
    case round =>
      clear H'
      try clear c2
      try clear p2
      try clear c3
      obtain ⟨x3_1, x11_1, rfl, rfl, HA, HK1, HB⟩ := hrel
      cases gk with
      | zero => exact absurd HA.out (by simp [impl_SongTicks.l0])
      | succ k1 =>
        have H := HA.out
        clear HA
        simp only [impl_SongTicks.l0] at H
        by_cases c5 : x11_1 < (l0.length : Int)
        · rw [if_pos c5] at H
          have c5b0 : decide (x11_1 < (l0.length : Int)) = true := decide_eq_true c5
          clear c5
          by_cases c6 : 0 ≤ x11_1
          · rw [if_pos c6] at H
            have c6b0 : decide (0 ≤ x11_1) = true := decide_eq_true c6
            clear c6
            by_cases c7 : x11_1 < (l0.length : Int)
            · rw [if_pos c7] at H
              have c7b0 : decide (x11_1 < (l0.length : Int)) = true := decide_eq_true c7
              clear c7
              have H' := Aside0.mk H
              clear H
              have p181 : 0 ≤ (x11_1 : Int) := of_decide_eq_true (by first | (with_reducible assumption) | assumption)
              have q181 : x11_1 < (l0.length : Int) := of_decide_eq_true (by first | (with_reducible assumption) | assumption)
              obtain ⟨ad181, e181, hx181_0, hx181_1⟩ := at_T43 HR0.out x11_1 p181 q181
              cases e181
              replace hx181_0 := (HB.out.cell (World.block_lt_of_cell? w _ hx181_0)).trans hx181_0
              replace hx181_1 := (HB.out.cell (World.block_lt_of_cell? w _ hx181_1)).trans hx181_1
              replace p181 := eq_true p181
              replace q181 := eq_true q181
              go_wp2_with (first | ((with_reducible refine gate_dst (N := 5) rfl ?_); refine box_event ?hg (N := 5) ?hd (cs := #[.int .i64 0, .int .i64 0]) (t := 43) ?hr ?_; (case hd => rfl); (case hg => rfl); (case hr => first | (go_simp; done) | (go_simp; rfl)); intro gb182 hg w8 hbox hb; have n0_ := Aside0.mk (below_step (by repeat (first | (with_reducible first | exact HB.out | apply below_alloc | apply pw_below_drewN | apply below_drew1) | exact HB.out)) hb); have n1_ := Aside0.mk (hbox); have n2_ := Aside0.mk ((by rw [hg]; exact (below_size (by repeat (first | (with_reducible first | exact HB.out | apply below_alloc | apply pw_below_drewN | apply below_drew1) | exact HB.out))) : w.heap.size ≤ gb182)); have n3_ := Aside0.mk ((by rw [hg]; exact (below_size (by repeat (first | (with_reducible first | exact HB.out | apply below_alloc | apply pw_below_drewN | apply below_drew1) | exact HB.out))) : w.heap.size ≤ gb182)); clear HB; have HB := n0_; have BK182 := n1_; have GW182 := n2_; have GE182 := n3_; clear n0_ n1_ n2_ n3_; clear hb hbox hg; have hcz9_0 : w8.cell? ⟨gb182, 0, none⟩ = some (.int .i64 0) := (blk_cell BK182.out 0).trans rfl; have hcz9_1 : w8.cell? ⟨gb182, 1, none⟩ = some (.int .i64 0) := (blk_cell BK182.out 1).trans rfl; have hfz9_0 := blk_frozen BK182.out 0; have hfz9_1 := blk_frozen BK182.out 1))
              go_roundg k1
              case measure => have := HK1.out; omega
              case rel => exact ⟨(wrap64 (x3_1 + ((rd_T43 l0 x11_1).f1))), (wrap64 (x11_1 + 1)), (by first | rfl | (simp; done) | (simp [*]; done)), (by first | rfl | (simp; done) | (simp [*]; done)), H', ⟨by have := HK1.out; omega⟩, ⟨by repeat (first | (with_reducible first | exact HB.out | apply below_alloc | apply pw_below_drewN | apply below_drew1 | refine below_set ?_ GE182.out) | exact HB.out)⟩⟩
            · rw [if_neg c7] at H
              exact absurd H (by simp)
          · rw [if_neg c6] at H
            exact absurd H (by simp)
        · rw [if_neg c5] at H
          have c5b0 : decide (x11_1 < (l0.length : Int)) = false := decide_eq_false c5
          clear c5
          obtain rfl := Option.some.inj H
          go_wp2
          go_ret
          exact ⟨by first | rfl | (simp [errW_none, errW_some] <;> rfl) | (simp [*, errW_none, errW_some] <;> rfl), by repeat (first | (with_reducible first | exact HB.out | apply below_alloc | apply pw_below_drewN | apply below_drew1) | exact HB.out)⟩
  · replace c3 := Bool.eq_false_iff.mpr c3
    subst c3
    have H1 : (some (-1)) = some r := by rw [if_neg (show ¬ (false = true) by decide)] at H; exact H
    clear H
    have H := H1
    clear H1
    obtain rfl := Option.some.inj H
    go_enter Try.func22, Try.ntmps22
    go_wp2_with (first | ((with_reducible refine gate_callee (f := 29) rfl ?_); refine goesL_ (some 7) rfl rfl Try.func29 (by kernel_rfl) rfl #[.slice A0 l0.length c0] rfl (by (try simp only [List.map_toArray, List.map_cons, List.map_nil]); first | done | rfl | (simp only [List.length_drop, List.length_take]; rfl)) ?_; (with_reducible refine (impl_SongValid.calls k _ _ l0 false _ ?side1 ?side2 A2.out).mono ?_); (case side1 => repeat (first | exact HR0.out | (with_reducible refine Kd.C_alloc ?_ _) | (with_reducible refine Kd.C_drewN ?_ _) | (with_reducible refine Kd.C_drew ?_))); (case side2 => exact HC0.out); rintro e w10 ⟨rfl, hb⟩; refine ⟨_, rfl, ?_⟩; have n0_ := Aside0.mk (below_step (by repeat (first | (with_reducible first | exact HB.out | apply below_alloc | apply pw_below_drewN | apply below_drew1) | exact HB.out)) hb); clear HB; have HB := n0_; clear n0_; (try clear hb); (try clear hb2); (try clear hk); (try clear hi)))
    go_ret
    exact ⟨by first | rfl | (simp [errW_none, errW_some] <;> rfl) | (simp [*, errW_none, errW_some] <;> rfl), by repeat (first | (with_reducible first | exact HB.out | apply below_alloc | apply pw_below_drewN | apply below_drew1) | exact HB.out)⟩

end Go.Proofs.Ytnflmekjeehgaaa.PFnNoteAt
