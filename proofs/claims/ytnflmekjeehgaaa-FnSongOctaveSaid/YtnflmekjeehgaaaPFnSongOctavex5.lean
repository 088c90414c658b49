-- Written by wip/tools/print_more.py (forms of the print, over contracts of this session).
import Derived.Test.YtnflmekjeehgaaaPFnSongOctavex0
import Derived.Test.YtnflmekjeehgaaaPFnSongOctavex3
import Derived.Test.YtnflmekjeehgaaaPFnSongOctavex4
namespace Go.Proofs.Ytnflmekjeehgaaa.PFnSongOctave
open Go.RowKit Go.Proofs.YtnflmekjeehgaaaW.PrintWords Go.Proofs.YtnflmekjeehgaaaW.PrintLast Go.Proofs.YtnflmekjeehgaaaW.PrintMore
attribute [local go_sem] max2_int min2_int max_two min_two max_three min_three max_four min_four   -- for this text's walks alone
set_option linter.unusedVariables false
set_option linter.unusedSimpArgs false

/-! ### spec_DrawShiftSong: function 27 -/
def spec_DrawShiftSong.l0 : Nat → List (S43) → Int → List Int → Int → Option ((List (S43)) × Int)
  | 0, _, _, _, _ => none
  | k + 1, x5, x6, x173000, x173001 => if x6 < (x5.length : Int) then ((spec_l20Rd_pick.f k x173000 x173001 12).bind fun bt179 => (if 0 ≤ x6 then (spec_DrawShiftSong.l0 k (x5.set (x6 : Int).toNat (⟨wrap64 (12 + bt179.1), (rd_T43 x5 x6).f1⟩ : S43)) (wrap64 (x6 + 1)) x173000 bt179.2) else (none))) else ((spec_l20Rd_pick.f k x173000 x173001 25).bind fun bt182 => ((some (([wrap64 (bt182.1 - 12), 36, (-36)] : List Int) : List Int)).bind fun y184 => ((some (([0, 0, 0, 0, 0, 1, 2] : List Int) : List Int)).bind fun y187 => ((spec_l20Rd_pick.f k x173000 bt182.2 7).bind fun bt190 => (if 0 ≤ bt190.1 then (if bt190.1 < (y187.length : Int) then (if 0 ≤ (rd y187 bt190.1) then (if (rd y187 bt190.1) < (y184.length : Int) then (some (x5, rd y184 (rd y187 bt190.1))) else (none)) else (none)) else (none)) else (none))))))
def spec_DrawShiftSong.f (k : Nat) (l0 : List Int) : Option ((List (S43)) × Int) := (spec_l20Open.f l0).bind fun bt170 => ((spec_l20Song.f k bt170.1 bt170.2 12).bind fun bt173 => ((spec_l20Rd_pick.f k bt170.1 bt173.2 2).bind fun bt177 => (if bt177.1 = 0 then (spec_DrawShiftSong.l0 k bt173.1 0 bt170.1 bt177.2) else ((spec_l20Rd_pick.f k bt170.1 bt177.2 25).bind fun bt194 => ((some (([wrap64 (bt194.1 - 12), 36, (-36)] : List Int) : List Int)).bind fun y196 => ((some (([0, 0, 0, 0, 0, 1, 2] : List Int) : List Int)).bind fun y199 => ((spec_l20Rd_pick.f k bt170.1 bt194.2 7).bind fun bt202 => (if 0 ≤ bt202.1 then (if bt202.1 < (y199.length : Int) then (if 0 ≤ (rd y199 bt202.1) then (if (rd y199 bt202.1) < (y196.length : Int) then (some (bt173.1, rd y196 (rd y199 bt202.1))) else (none)) else (none)) else (none)) else (none)))))))))
theorem spec_DrawShiftSong.mono_l : ∀ k, (∀ y0 y1 y2 y3, LeO (spec_DrawShiftSong.l0 k y0 y1 y2 y3) (spec_DrawShiftSong.l0 (k + 1) y0 y1 y2 y3))
  | 0 => fun _ _ _ _ r h => by simp [spec_DrawShiftSong.l0] at h
  | k + 1 => by
    have ih0 := spec_DrawShiftSong.mono_l k
    · intro y0 y1 y2 y3
      unfold spec_DrawShiftSong.l0
      repeat' first
      | (with_reducible exact ih0 _ _ _ _)
      | (with_reducible exact spec_l20Rd_pick.mono _ _ _ _)
      | (with_reducible exact spec_l20Song.mono _ _ _ _)
      | (with_reducible exact LeO.refl _)
      | (with_reducible exact LeO.none _)
      | (with_reducible refine LeO.ite ?_ ?_)
      | (with_reducible refine LeO.bind ?_ (fun _ => ?_))
      | exact ih0 _ _ _ _
      | exact spec_l20Rd_pick.mono _ _ _ _
      | exact spec_l20Song.mono _ _ _ _
      | exact LeO.none _
      | refine LeO.ite ?_ ?_
      | refine LeO.bind ?_ (fun _ => ?_)
theorem spec_DrawShiftSong.mono : ∀ a0 k, LeO (spec_DrawShiftSong.f k a0) (spec_DrawShiftSong.f (k + 1) a0) := by
  intro a0 k
  have ih0 := spec_DrawShiftSong.mono_l k
  unfold spec_DrawShiftSong.f
  repeat' first
      | (with_reducible exact ih0 _ _ _ _)
      | (with_reducible exact spec_l20Rd_pick.mono _ _ _ _)
      | (with_reducible exact spec_l20Song.mono _ _ _ _)
      | (with_reducible exact LeO.refl _)
      | (with_reducible exact LeO.none _)
      | (with_reducible refine LeO.ite ?_ ?_)
      | (with_reducible refine LeO.bind ?_ (fun _ => ?_))
      | exact ih0 _ _ _ _
      | exact spec_l20Rd_pick.mono _ _ _ _
      | exact spec_l20Song.mono _ _ _ _
      | exact LeO.none _
      | refine LeO.ite ?_ ?_
      | refine LeO.bind ?_ (fun _ => ?_)
def spec_DrawShiftSong.T8 : Bool × List (List Nat × List Nat) := (true, [([], []), ([], []), ([1], [1]), ([2], [2]), ([3], [3]), ([], []), ([], []), ([6, 2], [6]), ([5, 7], [5, 7]), ([8], [8]), ([4, 9], [4, 9]), ([10], [10]), ([0, 7, 0], [0]), ([11, 12, 0, 1, 2, 3, 4, 5, 6, 7, 8, 9, 10, 11, 12], [11])])
def spec_DrawShiftSong.B8 : List Nat := [0, 0, 2, 6, 14, 0, 0, 70, 230, 486, 1022, 2046, 199, 8191]
theorem spec_DrawShiftSong.tab8 : rtab .any (opsOf Try.f27 8) = spec_DrawShiftSong.T8 := by kernel_rfl
theorem spec_DrawShiftSong.bits8 : waitsOk spec_DrawShiftSong.T8.2 spec_DrawShiftSong.B8 = true := by kernel_rfl
set_option maxHeartbeats 8000000 in
set_option maxRecDepth 100000 in
theorem spec_DrawShiftSong.calls (k : Nat) (A0 : Option Addr) (c0 : Nat) (l0 : List Int) (r1 : List (S43)) (r2 : Int) (w : World) (hr0 : Kd.C (Kd.int .u8) w A0 l0.length l0) (hc0 : l0.length ≤ c0) (h : spec_DrawShiftSong.f k l0 = some (r1, r2)) :
    Calls Try.prog 27 #[.slice A0 l0.length c0] w fun e w' => ∃ v0_ : Value, e = .returned (.tuple #[v0_, .int .i64 r2]) ∧ Kd.R k43 43 w' w.heap.size (fun _ => True) v0_ r1 ∧ Below w.heap.size w w' := by
  have HR0 := Aside0.mk hr0
  have HC0 := Aside0.mk hc0
  clear hr0 hc0
  have HB := Aside0.mk (Below.refl w.heap.size w)
  have H : ((spec_l20Open.f l0).bind fun bt170 => ((spec_l20Song.f k bt170.1 bt170.2 12).bind fun bt173 => ((spec_l20Rd_pick.f k bt170.1 bt173.2 2).bind fun bt177 => (if bt177.1 = 0 then (spec_DrawShiftSong.l0 k bt173.1 0 bt170.1 bt177.2) else ((spec_l20Rd_pick.f k bt170.1 bt177.2 25).bind fun bt194 => ((some (([wrap64 (bt194.1 - 12), 36, (-36)] : List Int) : List Int)).bind fun y196 => ((some (([0, 0, 0, 0, 0, 1, 2] : List Int) : List Int)).bind fun y199 => ((spec_l20Rd_pick.f k bt170.1 bt194.2 7).bind fun bt202 => (if 0 ≤ bt202.1 then (if bt202.1 < (y199.length : Int) then (if 0 ≤ (rd y199 bt202.1) then (if (rd y199 bt202.1) < (y196.length : Int) then (some (bt173.1, rd y196 (rd y199 bt202.1))) else (none)) else (none)) else (none)) else (none)))))))))) = some (r1, r2) := h
  clear h
  replace H := Option.bind_eq_some_iff.mp H
  obtain ⟨⟨t170, t171⟩, A20, H⟩ := H
  replace H : ((spec_l20Song.f k t170 t171 12).bind fun bt173 => ((spec_l20Rd_pick.f k t170 bt173.2 2).bind fun bt177 => (if bt177.1 = 0 then (spec_DrawShiftSong.l0 k bt173.1 0 t170 bt177.2) else ((spec_l20Rd_pick.f k t170 bt177.2 25).bind fun bt194 => ((some (([wrap64 (bt194.1 - 12), 36, (-36)] : List Int) : List Int)).bind fun y196 => ((some (([0, 0, 0, 0, 0, 1, 2] : List Int) : List Int)).bind fun y199 => ((spec_l20Rd_pick.f k t170 bt194.2 7).bind fun bt202 => (if 0 ≤ bt202.1 then (if bt202.1 < (y199.length : Int) then (if 0 ≤ (rd y199 bt202.1) then (if (rd y199 bt202.1) < (y196.length : Int) then (some (bt173.1, rd y196 (rd y199 bt202.1))) else (none)) else (none)) else (none)) else (none))))))))) = some (r1, r2) := H
  have A2 := Aside0.mk A20
  clear A20
  replace H := Option.bind_eq_some_iff.mp H
  obtain ⟨⟨t173, t176⟩, A30, H⟩ := H
  replace H : ((spec_l20Rd_pick.f k t170 t176 2).bind fun bt177 => (if bt177.1 = 0 then (spec_DrawShiftSong.l0 k t173 0 t170 bt177.2) else ((spec_l20Rd_pick.f k t170 bt177.2 25).bind fun bt194 => ((some (([wrap64 (bt194.1 - 12), 36, (-36)] : List Int) : List Int)).bind fun y196 => ((some (([0, 0, 0, 0, 0, 1, 2] : List Int) : List Int)).bind fun y199 => ((spec_l20Rd_pick.f k t170 bt194.2 7).bind fun bt202 => (if 0 ≤ bt202.1 then (if bt202.1 < (y199.length : Int) then (if 0 ≤ (rd y199 bt202.1) then (if (rd y199 bt202.1) < (y196.length : Int) then (some (t173, rd y196 (rd y199 bt202.1))) else (none)) else (none)) else (none)) else (none)))))))) = some (r1, r2) := H
  have A3 := Aside0.mk A30
  clear A30
  replace H := Option.bind_eq_some_iff.mp H
  obtain ⟨⟨t177, t178⟩, A40, H⟩ := H
  replace H : (if t177 = 0 then (spec_DrawShiftSong.l0 k t173 0 t170 t178) else ((spec_l20Rd_pick.f k t170 t178 25).bind fun bt194 => ((some (([wrap64 (bt194.1 - 12), 36, (-36)] : List Int) : List Int)).bind fun y196 => ((some (([0, 0, 0, 0, 0, 1, 2] : List Int) : List Int)).bind fun y199 => ((spec_l20Rd_pick.f k t170 bt194.2 7).bind fun bt202 => (if 0 ≤ bt202.1 then (if bt202.1 < (y199.length : Int) then (if 0 ≤ (rd y199 bt202.1) then (if (rd y199 bt202.1) < (y196.length : Int) then (some (t173, rd y196 (rd y199 bt202.1))) else (none)) else (none)) else (none)) else (none))))))) = some (r1, r2) := H
  have A4 := Aside0.mk A40
  clear A40
  by_cases c5 : t177 = 0
  · rw [if_pos c5] at H
    have c5b0 : (t177 == 0) = true := beq_iff_eq.mpr c5
    have c5b1 : (t177 != 0) = false := bne_eq_false_iff_eq.mpr c5
    clear c5
    have H' := Aside0.mk H
    clear H
    go_enter Try.func27, Try.ntmps27
    go_wp2_with (first | ((with_reducible refine gate_callee (f := 37) rfl ?_); refine goesL_ (some 8) rfl rfl Try.func37 (by kernel_rfl) rfl #[.slice A0 l0.length c0] rfl (by (try simp only [List.map_toArray, List.map_cons, List.map_nil]); first | done | rfl | (simp only [List.length_drop, List.length_take]; rfl)) ?_; (with_reducible refine (spec_l20Open.calls _ _ l0 t170 t171 w _ ?side1 ?side2 ?side3 A2.out).mono ?_); (case side1 => repeat (first | (with_reducible first | exact HB.out | apply below_alloc | apply pw_below_drewN | apply below_drew1) | exact HB.out)); (case side2 => exact HR0.out); (case side3 => exact HC0.out); rintro e w6 ⟨g172, rfl, hi, hb, hb2⟩; refine ⟨_, rfl, ?_⟩; have n0_ := Aside0.mk (hb); have n1_ := Aside0.mk (hi); clear HB; have HB := n0_; have HI172 := n1_; clear n0_ n1_; (try clear hb); (try clear hb2); (try clear hk); (try clear hi)) | ((with_reducible refine gate_callee (f := 51) rfl ?_); refine goesL_ (some 10) rfl rfl Try.func51 (by kernel_rfl) rfl #[.pointer (some ⟨g172, 0, none⟩), .int .i64 12] rfl (by (try simp only [List.map_toArray, List.map_cons, List.map_nil]); first | done | rfl | (simp only [List.length_drop, List.length_take]; rfl)) ?_; (with_reducible refine (spec_l20Song.calls k g172 t170 t171 12 t173 t176 w _ ?side1 ?side2 A3.out).mono ?_); (case side1 => repeat (first | (with_reducible first | exact HI172.out | apply IsS75.alloc | apply IsS75.drewN | apply IsS75.drew | apply IsS75.set_1) | exact HI172.out)); (case side2 => repeat (first | (with_reducible first | exact HB.out | apply below_alloc | apply pw_below_drewN | apply below_drew1 | refine below_set ?_ (IsS75.ge HI172.out)) | exact HB.out)); rintro e w7 ⟨v174, rfl, ho0, hi, hb, hk⟩; refine ⟨_, rfl, ?_⟩; have n0_ := Aside0.mk (Kd.R_lower ho0 (below_size (by repeat (first | (with_reducible first | exact HB.out | apply below_alloc | apply pw_below_drewN | apply below_drew1 | refine below_set ?_ (IsS75.ge HI172.out)) | exact HB.out)))); have n1_ := Aside0.mk (hb); have n2_ := Aside0.mk (hi); clear HB; clear HI172; have HO175 := n0_; have HB := n1_; have HI172 := n2_; clear n0_ n1_ n2_; (try clear hb); (try clear hb2); (try clear hk); (try clear hi); (try clear ho0)) | ((with_reducible refine gate_callee (f := 40) rfl ?_); refine goesL_ (some 12) rfl rfl Try.func40 (by kernel_rfl) rfl #[.pointer (some ⟨g172, 0, none⟩), .int .i64 2] rfl (by (try simp only [List.map_toArray, List.map_cons, List.map_nil]); first | done | rfl | (simp only [List.length_drop, List.length_take]; rfl)) ?_; (with_reducible refine (spec_l20Rd_pick.calls k g172 t170 t176 2 t177 t178 w _ ?side1 ?side2 A4.out).mono ?_); (case side1 => repeat (first | (with_reducible first | exact HI172.out | apply IsS75.alloc | apply IsS75.drewN | apply IsS75.drew | apply IsS75.set_1) | exact HI172.out)); (case side2 => repeat (first | (with_reducible first | exact HB.out | apply below_alloc | apply pw_below_drewN | apply below_drew1 | refine below_set ?_ (IsS75.ge HI172.out)) | exact HB.out)); rintro e w8 ⟨rfl, hi, hb, hk⟩; refine ⟨_, rfl, ?_⟩; have n0_ := Aside0.mk (Kd.R_mono (Kd.R_keep (IsS75.apart (show IsS75 w _ g172 t170 t176 from by repeat (first | (with_reducible first | exact HI172.out | apply IsS75.alloc | apply IsS75.drewN | apply IsS75.drew | apply IsS75.set_1) | exact HI172.out)) (by (with_reducible repeat (first | apply Kd.R_alloc | apply Kd.R_drewN | apply Kd.R_drew)); exact HO175.out) (by decide)) hk (fun _ h => h.2)) (fun _ h => h.1)); have n1_ := Aside0.mk (hb); have n2_ := Aside0.mk (hi); clear HO175; clear HB; clear HI172; have HO175 := n0_; have HB := n1_; have HI172 := n2_; clear n0_ n1_ n2_; (try clear hb); (try clear hb2); (try clear hk); (try clear hi)))
    go_loopg [6] k (fun kq v6 w' => ∃ (x5_1 : List (S43)) (x6_1 : Int) (x173001_1 : Int), v6 = .int .i64 x6_1 ∧ Aside0 (spec_DrawShiftSong.l0 kq x5_1 x6_1 t170 x173001_1 = some (r1, r2)) ∧ Aside0 (kq ≤ k) ∧ Aside0 (Kd.R k43 43 w' w.heap.size (fun _ => True) v174 x5_1) ∧ Aside0 (IsS75 w w' g172 t170 x173001_1) ∧ Aside0 (Below w.heap.size w w'))
    case atStart => exact ⟨(t173), (0), (t178), (by first | rfl | (simp; done) | (simp [*]; done)), H', ⟨Nat.le_refl _⟩, ⟨by (with_reducible repeat (first | apply Kd.R_alloc | apply Kd.R_drewN | apply Kd.R_drew)); exact HO175.out⟩, ⟨by repeat (first | (with_reducible first | exact HI172.out | apply IsS75.alloc | apply IsS75.drewN | apply IsS75.drew | apply IsS75.set_1) | exact HI172.out)⟩, ⟨by repeat (first | (with_reducible first | exact HB.out | apply below_alloc | apply pw_below_drewN | apply below_drew1 | refine below_set ?_ (IsS75.ge HI172.out)) | exact HB.out)⟩⟩
    case round =>
      clear H'
      try clear c2
      try clear p2
      try clear c3
      try clear c4
      try clear c5
      try clear c5b0
      try clear c5b1
      try clear p6
      obtain ⟨x5_1, x6_1, x173001_1, rfl, HA, HK1, HO_5, HI172, HB⟩ := hrel
      cases gk with
      | zero => exact absurd HA.out (by simp [spec_DrawShiftSong.l0])
      | succ k1 =>
        have H := HA.out
        clear HA
        simp only [spec_DrawShiftSong.l0] at H
        by_cases c9 : x6_1 < (x5_1.length : Int)
        · rw [if_pos c9] at H
          have c9b0 : decide (x6_1 < (x5_1.length : Int)) = true := decide_eq_true c9
          clear c9
          replace H := Option.bind_eq_some_iff.mp H
          obtain ⟨⟨t179, t180⟩, A100, H⟩ := H
          replace H : (if 0 ≤ x6_1 then (spec_DrawShiftSong.l0 k1 (x5_1.set (x6_1 : Int).toNat (⟨wrap64 (12 + t179), (rd_T43 x5_1 x6_1).f1⟩ : S43)) (wrap64 (x6_1 + 1)) t170 t180) else (none)) = some (r1, r2) := H
          have A10 := Aside0.mk A100
          clear A100
          by_cases c11 : 0 ≤ x6_1
          · rw [if_pos c11] at H
            have c11b0 : decide (0 ≤ x6_1) = true := decide_eq_true c11
            clear c11
            obtain ⟨y181, hy181⟩ : ∃ y_ : List (S43), y_ = (x5_1.set (x6_1 : Int).toNat (⟨wrap64 (12 + t179), (rd_T43 x5_1 x6_1).f1⟩ : S43)) := ⟨_, rfl⟩
            replace H : (spec_DrawShiftSong.l0 k1 y181 (wrap64 (x6_1 + 1)) t170 t180) = some (r1, r2) := by first | (rw [hy181]; with_reducible exact H) | (have H2_ := (Option.bind_some _ _).symm.trans H; rw [hy181]; with_reducible exact H2_) | (have H2_ := (Option.bind_some _ _).symm.trans H; with_reducible exact H2_) | with_reducible exact H | (rw [hy181]; exact H) | exact H
            have Ny181 := Aside0.mk hy181
            clear hy181
            have H' := Aside0.mk H
            clear H
            obtain ⟨Ao13, co13, eo13⟩ := Kd.R_slice HO_5.out
            subst eo13
            go_wp2_with (first | ((with_reducible refine gate_callee (f := 40) rfl ?_); refine goesL_ (some 23) rfl rfl Try.func40 (by kernel_rfl) rfl #[.pointer (some ⟨g172, 0, none⟩), .int .i64 12] rfl (by (try simp only [List.map_toArray, List.map_cons, List.map_nil]); first | done | rfl | (simp only [List.length_drop, List.length_take]; rfl)) ?_; (with_reducible refine (spec_l20Rd_pick.calls k1 g172 t170 x173001_1 12 t179 t180 w _ ?side1 ?side2 A10.out).mono ?_); (case side1 => repeat (first | (with_reducible first | exact HI172.out | apply IsS75.alloc | apply IsS75.drewN | apply IsS75.drew | apply IsS75.set_1) | exact HI172.out)); (case side2 => repeat (first | (with_reducible first | exact HB.out | apply below_alloc | apply pw_below_drewN | apply below_drew1 | refine below_set ?_ (IsS75.ge HI172.out)) | exact HB.out)); rintro e w14 ⟨rfl, hi, hb, hk⟩; refine ⟨_, rfl, ?_⟩; have n0_ := Aside0.mk (Kd.R_mono (Kd.R_keep (IsS75.apart (show IsS75 w _ g172 t170 x173001_1 from by repeat (first | (with_reducible first | exact HI172.out | apply IsS75.alloc | apply IsS75.drewN | apply IsS75.drew | apply IsS75.set_1) | exact HI172.out)) (by (with_reducible repeat (first | apply Kd.R_alloc | apply Kd.R_drewN | apply Kd.R_drew)); exact HO_5.out) (by decide)) hk (fun _ h => h.2)) (fun _ h => h.1)); have n1_ := Aside0.mk (hb); have n2_ := Aside0.mk (hi); clear HO_5; clear HB; clear HI172; have HO_5 := n0_; have HB := n1_; have HI172 := n2_; clear n0_ n1_ n2_; (try clear hb); (try clear hb2); (try clear hk); (try clear hi); have p12 : 0 ≤ (x6_1 : Int) := of_decide_eq_true (by first | (with_reducible assumption) | assumption); have q12 : (x6_1 : Int) < ((x5_1.length : Int) : Int) := of_decide_eq_true (by first | (with_reducible assumption) | assumption); obtain ⟨go12, co12, eo12, gb12, gl12, cl12, HG12⟩ := Kd.R_form HO_5.out (by omega); (first | cases eo12 | (injection eo12 with ea_ en_ ec_; (first | subst ea_ | (injection ea_ with ea_; subst ea_)); subst ec_; clear en_)); have GB12 := Aside0.mk gb12; have GG12 := Aside0.mk HG12; clear gb12 gl12 HG12; obtain ⟨ce12, hcl12, hM12, hcc12, hfr12⟩ := Kd.R_elem HO_5.out z43 (x6_1 : Int) p12 q12; obtain rfl := k43_openM hM12; have hx12_0 : w14.cell? ⟨go12, (x6_1 : Int).toNat * 2, none⟩ = some (.int .i64 ((rd_T43 x5_1 x6_1).f0)) := hcc12 0 _ rfl; have hx12_1 : w14.cell? ⟨go12, (x6_1 : Int).toNat * 2 + 1, none⟩ = some (.int .i64 ((rd_T43 x5_1 x6_1).f1)) := hcc12 1 _ rfl; have hf12_0 : w14.frozen? ⟨go12, (x6_1 : Int).toNat * 2, none⟩ = false := hfr12 0; have hf12_1 : w14.frozen? ⟨go12, (x6_1 : Int).toNat * 2 + 1, none⟩ = false := hfr12 1; (try clear hM12); clear hcl12 hcc12 hfr12; replace p12 := eq_true p12; replace q12 := eq_true q12; have HX15 := Aside0.mk (show Kd.R k43 43 w14 w.heap.size (fun _ => True) (.slice (some ⟨go12, 0, none⟩) x5_1.length co13) x5_1 from (by (with_reducible repeat (first | apply Kd.R_alloc | apply Kd.R_drewN | apply Kd.R_drew)); exact HO_5.out)); obtain ⟨ce15, hcl15, hM15, hcc15, hfr15⟩ := Kd.R_elem HX15.out z43 (x6_1 : Int) (of_decide_eq_true (by first | (with_reducible assumption) | assumption)) (by have h_ : (x6_1 : Int) < ((x5_1.length : Int) : Int) := of_decide_eq_true (by first | (with_reducible assumption) | assumption); first | exact h_ | (have e_ := (Kd.R_reads' HO_5.out).1; omega) | simpa using h_); obtain rfl := k43_openM hM15; have HP15 := Kd.R_seg HX15.out (x6_1 : Int) (of_decide_eq_true (by first | (with_reducible assumption) | assumption)) (by have h_ : (x6_1 : Int) < ((x5_1.length : Int) : Int) := of_decide_eq_true (by first | (with_reducible assumption) | assumption); first | exact h_ | (have e_ := (Kd.R_reads' HO_5.out).1; omega) | simpa using h_) (seg := [.int .i64 (wrap64 (12 + t179))]) (j := 0) hcl15 hcc15 (show 1 ≤ 2 from by decide) (x' := (⟨wrap64 (12 + t179), (rd_T43 x5_1 x6_1).f1⟩ : S43)) (k43_mkM _ _ _ (⟨wrap64 (12 + t179), (rd_T43 x5_1 x6_1).f1⟩ : S43) ) (fun _ hk => hk); have hx15_0 := hcc15 0 _ rfl; (try simp only [show (k43).sz = 2 from rfl, Nat.mul_one, Nat.add_zero] at hx15_0); have hf15_0 := hfr15 0; (try simp only [show (k43).sz = 2 from rfl, Nat.mul_one, Nat.add_zero] at hf15_0); (try clear hM15); clear hcl15 hcc15 hfr15) | ((with_reducible refine gate_store (t := 3) (p := 26) rfl ?_); refine store_event (t := 3) (p := 26) (v := ?vo_w16) (w1 := (w14.setCell ⟨go12, (x6_1 : Int).toNat * 2, none⟩ (.int .i64 (wrap64 (12 + t179))))) ?hg ?ho ?hn ?hr ?_; (case ho => rfl); (case hg => rfl); (case hn => rfl); (case hr => first | (go_simp; done) | (go_simp; rfl)); intro w16 hw; have hg : w14.grownBy w16 (some go12) := (by rw [hw]; exact HP15.2); have hp_ : Kd.R k43 43 w16 w.heap.size (fun _ => True) (.slice (some ⟨go12, 0, none⟩) x5_1.length co13) y181 := (by rw [hw, Ny181.out]; exact HP15.1); clear HP15; have n0_ := Aside0.mk (hp_); have n1_ := Aside0.mk (IsS75.grown (by repeat (first | (with_reducible first | exact HI172.out | apply IsS75.alloc | apply IsS75.drewN | apply IsS75.drew | apply IsS75.set_1) | exact HI172.out)) hg (IsS75.own_ne HI172.out HO_5.out (by decide))); have n2_ := Aside0.mk ((by rw [hw]; exact below_set (HB.out) GB12.out : Below w.heap.size w w16)); clear HO_5; clear HI172; clear HB; have HO_5 := n0_; have HI172 := n1_; have HB := n2_; clear n0_ n1_ n2_; clear hg hw hp_))
            go_roundg k1
            case measure => have := HK1.out; omega
            case rel => exact ⟨(y181), (wrap64 (x6_1 + 1)), (t180), (by first | rfl | (simp; done) | (simp [*]; done)), H', ⟨by have := HK1.out; omega⟩, ⟨by (with_reducible repeat (first | apply Kd.R_alloc | apply Kd.R_drewN | apply Kd.R_drew)); exact HO_5.out⟩, ⟨by repeat (first | (with_reducible first | exact HI172.out | apply IsS75.alloc | apply IsS75.drewN | apply IsS75.drew | apply IsS75.set_1) | exact HI172.out)⟩, ⟨by repeat (first | (with_reducible first | exact HB.out | apply below_alloc | apply pw_below_drewN | apply below_drew1 | refine below_set ?_ (IsS75.ge HI172.out)) | exact HB.out)⟩⟩
          · rw [if_neg c11] at H
            exact absurd H (by simp)
        · rw [if_neg c9] at H
          have c9b0 : decide (x6_1 < (x5_1.length : Int)) = false := decide_eq_false c9
          clear c9
          replace H := Option.bind_eq_some_iff.mp H
          obtain ⟨⟨t182, t183⟩, A170, H⟩ := H
          replace H : ((some (([wrap64 (t182 - 12), 36, (-36)] : List Int) : List Int)).bind fun y184 => ((some (([0, 0, 0, 0, 0, 1, 2] : List Int) : List Int)).bind fun y187 => ((spec_l20Rd_pick.f k1 t170 t183 7).bind fun bt190 => (if 0 ≤ bt190.1 then (if bt190.1 < (y187.length : Int) then (if 0 ≤ (rd y187 bt190.1) then (if (rd y187 bt190.1) < (y184.length : Int) then (some (x5_1, rd y184 (rd y187 bt190.1))) else (none)) else (none)) else (none)) else (none))))) = some (r1, r2) := H
          have A17 := Aside0.mk A170
          clear A170
          obtain ⟨y184, hy184⟩ : ∃ y_ : List Int, y_ = (([wrap64 (t182 - 12), 36, (-36)] : List Int)) := ⟨_, rfl⟩
          replace H : ((some (([0, 0, 0, 0, 0, 1, 2] : List Int) : List Int)).bind fun y187 => ((spec_l20Rd_pick.f k1 t170 t183 7).bind fun bt190 => (if 0 ≤ bt190.1 then (if bt190.1 < (y187.length : Int) then (if 0 ≤ (rd y187 bt190.1) then (if (rd y187 bt190.1) < (y184.length : Int) then (some (x5_1, rd y184 (rd y187 bt190.1))) else (none)) else (none)) else (none)) else (none)))) = some (r1, r2) := by first | (rw [hy184]; with_reducible exact H) | (have H2_ := (Option.bind_some _ _).symm.trans H; rw [hy184]; with_reducible exact H2_) | (have H2_ := (Option.bind_some _ _).symm.trans H; with_reducible exact H2_) | with_reducible exact H | (rw [hy184]; exact H) | exact H
          have Ny184 := Aside0.mk hy184
          clear hy184
          obtain ⟨y187, hy187⟩ : ∃ y_ : List Int, y_ = (([0, 0, 0, 0, 0, 1, 2] : List Int)) := ⟨_, rfl⟩
          replace H : ((spec_l20Rd_pick.f k1 t170 t183 7).bind fun bt190 => (if 0 ≤ bt190.1 then (if bt190.1 < (y187.length : Int) then (if 0 ≤ (rd y187 bt190.1) then (if (rd y187 bt190.1) < (y184.length : Int) then (some (x5_1, rd y184 (rd y187 bt190.1))) else (none)) else (none)) else (none)) else (none))) = some (r1, r2) := by first | (rw [hy187]; with_reducible exact H) | (have H2_ := (Option.bind_some _ _).symm.trans H; rw [hy187]; with_reducible exact H2_) | (have H2_ := (Option.bind_some _ _).symm.trans H; with_reducible exact H2_) | with_reducible exact H | (rw [hy187]; exact H) | exact H
          have Ny187 := Aside0.mk hy187
          clear hy187
          replace H := Option.bind_eq_some_iff.mp H
          obtain ⟨⟨t190, t191⟩, A180, H⟩ := H
          replace H : (if 0 ≤ t190 then (if t190 < (y187.length : Int) then (if 0 ≤ (rd y187 t190) then (if (rd y187 t190) < (y184.length : Int) then (some (x5_1, rd y184 (rd y187 t190))) else (none)) else (none)) else (none)) else (none)) = some (r1, r2) := H
          have A18 := Aside0.mk A180
          clear A180
          by_cases c19 : 0 ≤ t190
          · rw [if_pos c19] at H
            have c19b0 : decide (0 ≤ t190) = true := decide_eq_true c19
            clear c19
            by_cases c20 : t190 < (y187.length : Int)
            · rw [if_pos c20] at H
              have c20b0 : decide (t190 < (y187.length : Int)) = true := decide_eq_true c20
              clear c20
              by_cases c21 : 0 ≤ (rd y187 t190)
              · rw [if_pos c21] at H
                have c21b0 : decide (0 ≤ (rd y187 t190)) = true := decide_eq_true c21
                clear c21
                by_cases c22 : (rd y187 t190) < (y184.length : Int)
                · rw [if_pos c22] at H
                  have c22b0 : decide ((rd y187 t190) < (y184.length : Int)) = true := decide_eq_true c22
                  clear c22
                  simp only [Option.some.injEq, Prod.mk.injEq] at H
                  obtain ⟨rfl, rfl⟩ := H
                  obtain ⟨Ao23, co23, eo23⟩ := Kd.R_slice HO_5.out
                  subst eo23
                  try go_wp2
                  have pi192 : (0 ≤ (t190 : Int)) = True := eq_true (of_decide_eq_true (by first | (with_reducible assumption) | assumption))
                  have qi192 : (t190 < (y187.length : Int)) = True := eq_true (of_decide_eq_true (by first | (with_reducible assumption) | assumption))
                  have pi193 : (0 ≤ ((rd y187 t190) : Int)) = True := eq_true (of_decide_eq_true (by first | (with_reducible assumption) | assumption))
                  have qi193 : ((rd y187 t190) < (y184.length : Int)) = True := eq_true (of_decide_eq_true (by first | (with_reducible assumption) | assumption))
                  have n0_ := Aside0.mk (Kd.R_drew HO_5.out)
                  have n1_ := Aside0.mk (IsS75.drew HI172.out)
                  have n2_ := Aside0.mk (below_drew1 HB.out)
                  clear HO_5
                  clear HI172
                  clear HB
                  have HO_5 := n0_
                  have HI172 := n1_
                  have HB := n2_
                  clear n0_ n1_ n2_
                  refine start_ (n := 14) (S := fun w' => True) (ds := []) #[false, false, false, false, false, false, false, false, false, false, false, false, false, false] (by kernel_rfl) rfl rfl trivial (fun hHeld => ?_); refine with_tabW spec_DrawShiftSong.tab8 spec_DrawShiftSong.bits8 (fun HT_ HW_ => ?_)
                  generalize wr.drew = w24 at HO_5 HI172 HB hHeld ⊢
                  refine pure_ (i := 0) (N := some 27) (v := ?_) (a' := ?_) #[true, false, false, false, false, false, false, false, false, false, false, false, false, false] rfl rfl (any_of HT_.out (by kernel_rfl)) (fun _ _ _ h => h) (Or.inl ⟨by rfl, ?_⟩) ?_ ?_
                  rotate_left
                  · intro w'
                    go_simp
                    with_reducible rfl
                  rotate_left
                  · simp only [Act.put, List.setIfInBounds_toArray, List.set_cons_zero, List.set_cons_succ, i64_w, i32_w]
                    rfl
                  refine pure_ (i := 1) (N := some 28) (v := ?_) (a' := ?_) #[true, true, false, false, false, false, false, false, false, false, false, false, false, false] rfl rfl (any_of HT_.out (by kernel_rfl)) (fun _ _ _ h => h) (Or.inl ⟨by rfl, ?_⟩) ?_ ?_
                  rotate_left
                  · intro w'
                    go_simp
                    with_reducible rfl
                  rotate_left
                  · simp only [Act.put, List.setIfInBounds_toArray, List.set_cons_zero, List.set_cons_succ, i64_w, i32_w]
                    rfl
                  refine pure_ (i := 6) (N := some 33) (v := ?_) (a' := ?_) #[true, true, false, false, false, false, true, false, false, false, false, false, false, false] rfl rfl (any_of HT_.out (by kernel_rfl)) (fun _ _ _ h => h) (Or.inl ⟨by rfl, ?_⟩) ?_ ?_
                  rotate_left
                  · intro w'
                    go_simp
                    with_reducible rfl
                  rotate_left
                  · simp only [Act.put, List.setIfInBounds_toArray, List.set_cons_zero, List.set_cons_succ, i64_w, i32_w]
                    rfl
                  refine inv_at [2, 3, 4, 5, 7, 8, 9, 10, 11, 12, 13] (fun a0_ b a w' => ∃ (v185 : Value) (adz_v185 : Addr) (v188 : Value) (adz_v188 : Addr) (m8_ : Value) (m10_ : Value), a = putSel a0_ b [(2, 29, .int .i64 t182), (3, 30, .int .i64 (wrap64 (t182 - 12))), (4, 31, v185), (5, 32, v188), (7, 34, .int .i64 t190), (8, 35, m8_), (9, 36, .int .i64 (rd y187 t190)), (10, 37, m10_), (11, 38, .int .i64 (rd y184 (rd y187 t190))), (12, 2, .slice Ao23 x5_1.length co23), (13, 3, .int .i64 (rd y184 (rd y187 t190)))] ∧ (Kd.R k43 43 w' w.heap.size (fun _ => True) (.slice Ao23 x5_1.length co23) x5_1) ∧ (b 2 = false → IsS75 w w' g172 t170 x173001_1) ∧ (Below w.heap.size w w') ∧ (b 2 = true → b 7 = false → IsS75 w w' g172 t170 t183) ∧ (b 4 = true → Kd.R (Kd.int .i64) 3 w' w.heap.size (fun _ => True) v185 y184) ∧ (b 4 = true → ∃ c_, (v185 : Value) = .slice (some adz_v185) y184.length c_) ∧ (b 5 = true → Kd.R (Kd.int .i64) 3 w' w.heap.size (fun _ => True) v188 y187) ∧ (b 5 = true → ∃ c_, (v188 : Value) = .slice (some adz_v188) y187.length c_) ∧ (b 7 = true → IsS75 w w' g172 t170 t191) ∧ (b 8 = true → (m8_ : Value) = .pointer (some (adz_v188.add (t190).toNat))) ∧ (b 10 = true → (m10_ : Value) = .pointer (some (adz_v185.add ((rd y187 t190)).toNat)))) HT_.out HW_.out (by kernel_rfl) (by kernel_rfl) ?_ ?_ ?_
                  · exact ⟨.bool false, ⟨0, 0, none⟩, .bool false, ⟨0, 0, none⟩, .bool false, .bool false, by simp only [putSel, Bool.false_eq_true, if_false], HO_5.out, fun _ => HI172.out, HB.out, fun h_ => absurd h_ (by decide), fun h_ => absurd h_ (by decide), fun h_ => absurd h_ (by decide), fun h_ => absurd h_ (by decide), fun h_ => absurd h_ (by decide), fun h_ => absurd h_ (by decide), fun h_ => absurd h_ (by decide), fun h_ => absurd h_ (by decide)⟩
                  · skip
                    clear HB HI172 HO_5
                    refine steps_cons ?_ ?_
                    · rintro b a w' ⟨v185, adz_v185, v188, adz_v188, m8_, m10_, ha, Q_HO_5, Q_HI172, Q_HB, Q_HI172_e2, Q_HO186, Q_HA_HO186, Q_HO189, Q_HA_HO189, Q_HI172_e7, Q_X8_, Q_X10_⟩ hb_ hon hoff
                      refine ⟨_, rfl, fun K hK => ?_⟩
                      have e28 : a.tmps[28]? = some (.pointer (some ⟨g172, 0, none⟩)) := by rw [ha]; exact (putSel_off rfl).trans rfl
                      replace ha := Aside0.mk ha
                      have HO_5 := Aside0.mk Q_HO_5
                      have HI172 := Aside0.mk (Q_HI172 hb_)
                      have HB := Aside0.mk Q_HB
                      refine goes_ Try.func40 (by kernel_rfl) rfl #[.pointer (some ⟨g172, 0, none⟩), .int .i64 25] (by rfl) rfl rfl (by first | (simp only [List.map_toArray, List.map_cons, List.map_nil, Act.eval, Array.getD_eq_getD_getElem?, Option.getD_some, e28]; done) | (simp only [List.map_toArray, List.map_cons, List.map_nil, Act.eval, Array.getD_eq_getD_getElem?, Option.getD_some, e28]; rfl)) ?_
                      with_reducible refine (spec_l20Rd_pick.calls k1 g172 t170 x173001_1 25 t182 t183 w _ ?side1 ?side2 A17.out).mono ?_
                      (case side1 => repeat (first | (with_reducible first | exact HI172.out | apply IsS75.alloc | apply IsS75.drewN | apply IsS75.drew | apply IsS75.set_1) | exact HI172.out))
                      (case side2 => repeat (first | (with_reducible first | exact HB.out | apply below_alloc | apply pw_below_drewN | apply below_drew1 | refine below_set ?_ (IsS75.ge HI172.out)) | exact HB.out))
                      rintro e w25 ⟨rfl, hi, hb, hk⟩
                      refine ⟨_, rfl, ?_⟩
                      have n0_ := Aside0.mk (Kd.R_mono (Kd.R_keep (IsS75.apart (show IsS75 w _ g172 t170 x173001_1 from by repeat (first | (with_reducible first | exact HI172.out | apply IsS75.alloc | apply IsS75.drewN | apply IsS75.drew | apply IsS75.set_1) | exact HI172.out)) (by (with_reducible repeat (first | apply Kd.R_alloc | apply Kd.R_drewN | apply Kd.R_drew)); exact HO_5.out) (by decide)) hk (fun _ h => h.2)) (fun _ h => h.1))
                      have n1_ := Aside0.mk (hb)
                      have n2_ := Aside0.mk (hi)
                      have z_HO189 := fun (h0_ : b 5 = true) => (show Kd.R (Kd.int .i64) 3 w25 w.heap.size (fun _ => True) v188 y187 from by first | exact (Kd.R_mono (Kd.R_keep (IsS75.apart (show IsS75 w _ g172 t170 x173001_1 from by repeat (first | (with_reducible first | exact HI172.out | apply IsS75.alloc | apply IsS75.drewN | apply IsS75.drew | apply IsS75.set_1) | exact HI172.out)) (by (with_reducible repeat (first | apply Kd.R_alloc | apply Kd.R_drewN | apply Kd.R_drew)); exact (Q_HO189 h0_)) (by decide)) hk (fun _ h => h.2)) (fun _ h => h.1)) | exact Kd.R_mono (Kd.R_mono (Kd.R_keep (IsS75.apart (show IsS75 w _ g172 t170 x173001_1 from by repeat (first | (with_reducible first | exact HI172.out | apply IsS75.alloc | apply IsS75.drewN | apply IsS75.drew | apply IsS75.set_1) | exact HI172.out)) (by (with_reducible repeat (first | apply Kd.R_alloc | apply Kd.R_drewN | apply Kd.R_drew)); exact (Q_HO189 h0_)) (by decide)) hk (fun _ h => h.2)) (fun _ h => h.1)) (fun _ h_ => by first | trivial | exact h_ | exact h_.1))
                      clear HO_5
                      clear HB
                      clear HI172
                      have HO_5 := n0_
                      have HB := n1_
                      have HI172 := n2_
                      clear n0_ n1_ n2_
                      (try clear hb)
                      (try clear hb2)
                      (try clear hk)
                      (try clear hi)
                      refine hK.out _ _ ⟨v185, adz_v185, v188, adz_v188, m8_, m10_, (by rw [ha.out]; exact putSel_upk 0 hb_ rfl rfl rfl), (by (with_reducible repeat (first | apply Kd.R_alloc | apply Kd.R_drewN | apply Kd.R_drew)); exact HO_5.out), fun h0_ => absurd ((up_self b 2).symm.trans h0_) (by decide), (by repeat (first | (with_reducible first | exact HB.out | apply below_alloc | apply pw_below_drewN | apply below_drew1 | refine below_set ?_ (IsS75.ge HI172.out)) | exact HB.out)), fun _ _ => (by repeat (first | (with_reducible first | exact HI172.out | apply IsS75.alloc | apply IsS75.drewN | apply IsS75.drew | apply IsS75.set_1) | exact HI172.out)), fun h0_ => absurd ((hoff 4 (by kernel_rfl)).symm.trans h0_) (by decide), fun h0_ => absurd ((hoff 4 (by kernel_rfl)).symm.trans h0_) (by decide), z_HO189, Q_HA_HO189, fun h0_ => absurd ((hoff 7 (by kernel_rfl)).symm.trans h0_) (by decide), fun h0_ => absurd ((hoff 8 (by kernel_rfl)).symm.trans h0_) (by decide), fun h0_ => absurd ((hoff 10 (by kernel_rfl)).symm.trans h0_) (by decide)⟩
                    refine steps_cons ?_ ?_
                    · rintro b a w' ⟨v185, adz_v185, v188, adz_v188, m8_, m10_, ha, Q_HO_5, Q_HI172, Q_HB, Q_HI172_e2, Q_HO186, Q_HA_HO186, Q_HO189, Q_HA_HO189, Q_HI172_e7, Q_X8_, Q_X10_⟩ hb_ hon hoff
                      refine ⟨_, rfl, fun K hK => ?_⟩
                      have e29 : a.tmps[29]? = some (.int .i64 t182) := by rw [ha]; exact putSel_on (e := (2, 29, .int .i64 t182)) 0 rfl rfl (hon 2 (by kernel_rfl)) rfl
                      replace ha := Aside0.mk ha
                      have HO_5 := Aside0.mk Q_HO_5
                      have HB := Aside0.mk Q_HB
                      refine value_ (w1 := w') (v := .int .i64 (wrap64 (t182 - 12))) (by rfl) rfl ?_ ?_
                      · go_simp
                        (try simp only [i64_w])
                        try rfl
                      refine hK.out _ _ ⟨v185, adz_v185, v188, adz_v188, m8_, m10_, (by rw [ha.out]; exact putSel_upk 1 hb_ rfl rfl rfl), Q_HO_5, fun h0_ => absurd ((hon 2 (by kernel_rfl)).symm.trans h0_) (by decide), Q_HB, Q_HI172_e2, fun h0_ => absurd ((hoff 4 (by kernel_rfl)).symm.trans h0_) (by decide), fun h0_ => absurd ((hoff 4 (by kernel_rfl)).symm.trans h0_) (by decide), Q_HO189, Q_HA_HO189, Q_HI172_e7, Q_X8_, fun h0_ => absurd ((hoff 10 (by kernel_rfl)).symm.trans h0_) (by decide)⟩
                    refine steps_cons ?_ ?_
                    · rintro b a w' ⟨v185, adz_v185, v188, adz_v188, m8_, m10_, ha, Q_HO_5, Q_HI172, Q_HB, Q_HI172_e2, Q_HO186, Q_HA_HO186, Q_HO189, Q_HA_HO189, Q_HI172_e7, Q_X8_, Q_X10_⟩ hb_ hon hoff
                      refine ⟨_, rfl, fun K hK => ?_⟩
                      have e30 : a.tmps[30]? = some (.int .i64 (wrap64 (t182 - 12))) := by rw [ha]; exact putSel_on (e := (3, 30, .int .i64 (wrap64 (t182 - 12)))) 1 rfl rfl (hon 3 (by kernel_rfl)) rfl
                      replace ha := Aside0.mk ha
                      have HO_5 := Aside0.mk Q_HO_5
                      have HB := Aside0.mk Q_HB
                      refine Kd.R_lit_step (Kd.int .i64) _ 3 ?hg (N := 31) ?hd (xs := ([wrap64 (t182 - 12), 36, (-36)] : List Int)) (inner := [.int .i64 (wrap64 (t182 - 12)), .int .i64 36, .int .i64 (-36)]) (ok := fun _ => True) (okp := fun _ => True) ?hr ?hp (fun _ hk => hk) trivial (Below.refl _ _) (Nat.le_refl _) (by simp) ?_; (case hd => rfl); (case hg => rfl); (case hr => first | (go_simp; done) | (go_simp; rfl)); (case hp => exact (Reps.one (show Kd.M (Kd.int .i64) _ _ _ (wrap64 (t182 - 12)) [.int .i64 (wrap64 (t182 - 12))] from rfl) (Reps.one (show Kd.M (Kd.int .i64) _ _ _ 36 [.int .i64 36] from rfl) (Reps.one (show Kd.M (Kd.int .i64) _ _ _ (-36) [.int .i64 (-36)] from rfl) (Reps.none _ _)))))
                      intro v185 w27 ho28 hb hg_ hnew_
                      clear hg_ hnew_
                      (first | rw [← Ny184.out] at ho28 | (simp only [Int.reduceToNat] at ho28; rw [← Ny184.out] at ho28))
                      have n0_ := Aside0.mk (Kd.R_below (by (with_reducible repeat (first | apply Kd.R_alloc | apply Kd.R_drewN | apply Kd.R_drew)); exact HO_5.out) hb)
                      have n1_ := Aside0.mk (Kd.R_lower ho28 (below_size (by repeat (first | (with_reducible first | exact HB.out | apply below_alloc | apply pw_below_drewN | apply below_drew1) | exact HB.out))))
                      have n3_ := Aside0.mk (below_step (by repeat (first | (with_reducible first | exact HB.out | apply below_alloc | apply pw_below_drewN | apply below_drew1) | exact HB.out)) hb)
                      have z_HI172_e2 := fun (h0_ : b 2 = true) (h1_ : b 7 = false) => (show IsS75 w w27 g172 t170 t183 from by first | exact (IsS75.below (by repeat (first | (with_reducible first | exact (Q_HI172_e2 h0_ h1_) | apply IsS75.alloc | apply IsS75.drewN | apply IsS75.drew | apply IsS75.set_1) | exact (Q_HI172_e2 h0_ h1_))) hb))
                      have z_HO189 := fun (h0_ : b 5 = true) => (show Kd.R (Kd.int .i64) 3 w27 w.heap.size (fun _ => True) v188 y187 from by first | exact (Kd.R_elder' (by (with_reducible repeat (first | apply Kd.R_alloc | apply Kd.R_drewN | apply Kd.R_drew)); exact (Q_HO189 h0_)) (Kd.R_base ho28) hb) | exact Kd.R_mono (Kd.R_elder' (by (with_reducible repeat (first | apply Kd.R_alloc | apply Kd.R_drewN | apply Kd.R_drew)); exact (Q_HO189 h0_)) (Kd.R_base ho28) hb) (fun _ h_ => by first | trivial | exact h_ | exact h_.1))
                      have z_HI172_e7 := fun (h0_ : b 7 = true) => (show IsS75 w w27 g172 t170 t191 from by first | exact (IsS75.below (by repeat (first | (with_reducible first | exact (Q_HI172_e7 h0_) | apply IsS75.alloc | apply IsS75.drewN | apply IsS75.drew | apply IsS75.set_1) | exact (Q_HI172_e7 h0_))) hb))
                      clear HO_5
                      clear HB
                      have HO_5 := n0_
                      have HO186 := n1_
                      have HB := n3_
                      clear n0_ n1_ n3_
                      clear hb ho28
                      obtain ⟨Ao29, co29, eo29⟩ := Kd.R_slice HO186.out
                      subst eo29
                      obtain ⟨ado29, fo29, _⟩ := Kd.at_int (Kd.R_reads' HO186.out).2.2 0 (by decide) (by rw [Ny184.out]; simp)
                      cases fo29
                      refine hK.out _ _ ⟨.slice (some ado29) y184.length co29, ado29, v188, adz_v188, m8_, m10_, (by rw [ha.out]; exact putSel_upk 2 hb_ rfl rfl rfl), (by (with_reducible repeat (first | apply Kd.R_alloc | apply Kd.R_drewN | apply Kd.R_drew)); exact HO_5.out), fun h0_ => absurd ((hon 2 (by kernel_rfl)).symm.trans h0_) (by decide), (by repeat (first | (with_reducible first | exact HB.out | apply below_alloc | apply pw_below_drewN | apply below_drew1) | exact HB.out)), z_HI172_e2, fun _ => (by (with_reducible repeat (first | apply Kd.R_alloc | apply Kd.R_drewN | apply Kd.R_drew)); exact HO186.out), fun _ => ⟨_, rfl⟩, z_HO189, Q_HA_HO189, z_HI172_e7, Q_X8_, fun h0_ => absurd ((hoff 10 (by kernel_rfl)).symm.trans h0_) (by decide)⟩
                    refine steps_cons ?_ ?_
                    · rintro b a w' ⟨v185, adz_v185, v188, adz_v188, m8_, m10_, ha, Q_HO_5, Q_HI172, Q_HB, Q_HI172_e2, Q_HO186, Q_HA_HO186, Q_HO189, Q_HA_HO189, Q_HI172_e7, Q_X8_, Q_X10_⟩ hb_ hon hoff
                      refine ⟨_, rfl, fun K hK => ?_⟩
                      replace ha := Aside0.mk ha
                      have HO_5 := Aside0.mk Q_HO_5
                      have HB := Aside0.mk Q_HB
                      refine Kd.R_lit_step (Kd.int .i64) _ 3 ?hg (N := 32) ?hd (xs := ([0, 0, 0, 0, 0, 1, 2] : List Int)) (inner := [.int .i64 0, .int .i64 0, .int .i64 0, .int .i64 0, .int .i64 0, .int .i64 1, .int .i64 2]) (ok := fun _ => True) (okp := fun _ => True) ?hr ?hp (fun _ hk => hk) trivial (Below.refl _ _) (Nat.le_refl _) (by simp) ?_; (case hd => rfl); (case hg => rfl); (case hr => first | (go_simp; done) | (go_simp; rfl)); (case hp => exact (Reps.one (show Kd.M (Kd.int .i64) _ _ _ 0 [.int .i64 0] from rfl) (Reps.one (show Kd.M (Kd.int .i64) _ _ _ 0 [.int .i64 0] from rfl) (Reps.one (show Kd.M (Kd.int .i64) _ _ _ 0 [.int .i64 0] from rfl) (Reps.one (show Kd.M (Kd.int .i64) _ _ _ 0 [.int .i64 0] from rfl) (Reps.one (show Kd.M (Kd.int .i64) _ _ _ 0 [.int .i64 0] from rfl) (Reps.one (show Kd.M (Kd.int .i64) _ _ _ 1 [.int .i64 1] from rfl) (Reps.one (show Kd.M (Kd.int .i64) _ _ _ 2 [.int .i64 2] from rfl) (Reps.none _ _)))))))))
                      intro v188 w25 ho26 hb hg_ hnew_
                      clear hg_ hnew_
                      (first | rw [← Ny187.out] at ho26 | (simp only [Int.reduceToNat] at ho26; rw [← Ny187.out] at ho26))
                      have n0_ := Aside0.mk (Kd.R_below (by (with_reducible repeat (first | apply Kd.R_alloc | apply Kd.R_drewN | apply Kd.R_drew)); exact HO_5.out) hb)
                      have n1_ := Aside0.mk (Kd.R_lower ho26 (below_size (by repeat (first | (with_reducible first | exact HB.out | apply below_alloc | apply pw_below_drewN | apply below_drew1) | exact HB.out))))
                      have n3_ := Aside0.mk (below_step (by repeat (first | (with_reducible first | exact HB.out | apply below_alloc | apply pw_below_drewN | apply below_drew1) | exact HB.out)) hb)
                      have z_HI172 := fun (h0_ : b 2 = false) => (show IsS75 w w25 g172 t170 x173001_1 from by first | exact (IsS75.below (by repeat (first | (with_reducible first | exact (Q_HI172 h0_) | apply IsS75.alloc | apply IsS75.drewN | apply IsS75.drew | apply IsS75.set_1) | exact (Q_HI172 h0_))) hb))
                      have z_HI172_e2 := fun (h0_ : b 2 = true) (h1_ : b 7 = false) => (show IsS75 w w25 g172 t170 t183 from by first | exact (IsS75.below (by repeat (first | (with_reducible first | exact (Q_HI172_e2 h0_ h1_) | apply IsS75.alloc | apply IsS75.drewN | apply IsS75.drew | apply IsS75.set_1) | exact (Q_HI172_e2 h0_ h1_))) hb))
                      have z_HO186 := fun (h0_ : b 4 = true) => (show Kd.R (Kd.int .i64) 3 w25 w.heap.size (fun _ => True) v185 y184 from by first | exact (Kd.R_elder' (by (with_reducible repeat (first | apply Kd.R_alloc | apply Kd.R_drewN | apply Kd.R_drew)); exact (Q_HO186 h0_)) (Kd.R_base ho26) hb) | exact Kd.R_mono (Kd.R_elder' (by (with_reducible repeat (first | apply Kd.R_alloc | apply Kd.R_drewN | apply Kd.R_drew)); exact (Q_HO186 h0_)) (Kd.R_base ho26) hb) (fun _ h_ => by first | trivial | exact h_ | exact h_.1))
                      have z_HI172_e7 := fun (h0_ : b 7 = true) => (show IsS75 w w25 g172 t170 t191 from by first | exact (IsS75.below (by repeat (first | (with_reducible first | exact (Q_HI172_e7 h0_) | apply IsS75.alloc | apply IsS75.drewN | apply IsS75.drew | apply IsS75.set_1) | exact (Q_HI172_e7 h0_))) hb))
                      clear HO_5
                      clear HB
                      have HO_5 := n0_
                      have HO189 := n1_
                      have HB := n3_
                      clear n0_ n1_ n3_
                      clear hb ho26
                      obtain ⟨Ao27, co27, eo27⟩ := Kd.R_slice HO189.out
                      subst eo27
                      obtain ⟨ado27, fo27, _⟩ := Kd.at_int (Kd.R_reads' HO189.out).2.2 0 (by decide) (by rw [Ny187.out]; simp)
                      cases fo27
                      refine hK.out _ _ ⟨v185, adz_v185, .slice (some ado27) y187.length co27, ado27, m8_, m10_, (by rw [ha.out]; exact putSel_upk 3 hb_ rfl rfl rfl), (by (with_reducible repeat (first | apply Kd.R_alloc | apply Kd.R_drewN | apply Kd.R_drew)); exact HO_5.out), z_HI172, (by repeat (first | (with_reducible first | exact HB.out | apply below_alloc | apply pw_below_drewN | apply below_drew1) | exact HB.out)), z_HI172_e2, z_HO186, Q_HA_HO186, fun _ => (by (with_reducible repeat (first | apply Kd.R_alloc | apply Kd.R_drewN | apply Kd.R_drew)); exact HO189.out), fun _ => ⟨_, rfl⟩, z_HI172_e7, fun h0_ => absurd ((hoff 8 (by kernel_rfl)).symm.trans h0_) (by decide), fun h0_ => absurd ((hoff 10 (by kernel_rfl)).symm.trans h0_) (by decide)⟩
                    refine steps_cons ?_ ?_
                    · rintro b a w' ⟨v185, adz_v185, v188, adz_v188, m8_, m10_, ha, Q_HO_5, Q_HI172, Q_HB, Q_HI172_e2, Q_HO186, Q_HA_HO186, Q_HO189, Q_HA_HO189, Q_HI172_e7, Q_X8_, Q_X10_⟩ hb_ hon hoff
                      refine ⟨_, rfl, fun K hK => ?_⟩
                      have e33 : a.tmps[33]? = some (.pointer (some ⟨g172, 0, none⟩)) := by rw [ha]; exact (putSel_off rfl).trans rfl
                      replace ha := Aside0.mk ha
                      have HO_5 := Aside0.mk Q_HO_5
                      have HB := Aside0.mk Q_HB
                      have HI172 := Aside0.mk (Q_HI172_e2 (hon 2 (by kernel_rfl)) hb_)
                      refine goes_ Try.func40 (by kernel_rfl) rfl #[.pointer (some ⟨g172, 0, none⟩), .int .i64 7] (by rfl) rfl rfl (by first | (simp only [List.map_toArray, List.map_cons, List.map_nil, Act.eval, Array.getD_eq_getD_getElem?, Option.getD_some, e33]; done) | (simp only [List.map_toArray, List.map_cons, List.map_nil, Act.eval, Array.getD_eq_getD_getElem?, Option.getD_some, e33]; rfl)) ?_
                      with_reducible refine (spec_l20Rd_pick.calls k1 g172 t170 t183 7 t190 t191 w _ ?side1 ?side2 A18.out).mono ?_
                      (case side1 => repeat (first | (with_reducible first | exact HI172.out | apply IsS75.alloc | apply IsS75.drewN | apply IsS75.drew | apply IsS75.set_1) | exact HI172.out))
                      (case side2 => repeat (first | (with_reducible first | exact HB.out | apply below_alloc | apply pw_below_drewN | apply below_drew1 | refine below_set ?_ (IsS75.ge HI172.out)) | exact HB.out))
                      rintro e w27 ⟨rfl, hi, hb, hk⟩
                      refine ⟨_, rfl, ?_⟩
                      have n0_ := Aside0.mk (Kd.R_mono (Kd.R_keep (IsS75.apart (show IsS75 w _ g172 t170 t183 from by repeat (first | (with_reducible first | exact HI172.out | apply IsS75.alloc | apply IsS75.drewN | apply IsS75.drew | apply IsS75.set_1) | exact HI172.out)) (by (with_reducible repeat (first | apply Kd.R_alloc | apply Kd.R_drewN | apply Kd.R_drew)); exact HO_5.out) (by decide)) hk (fun _ h => h.2)) (fun _ h => h.1))
                      have n1_ := Aside0.mk (hb)
                      have n2_ := Aside0.mk (hi)
                      have z_HO186 := fun (h0_ : b 4 = true) => (show Kd.R (Kd.int .i64) 3 w27 w.heap.size (fun _ => True) v185 y184 from by first | exact (Kd.R_mono (Kd.R_keep (IsS75.apart (show IsS75 w _ g172 t170 t183 from by repeat (first | (with_reducible first | exact HI172.out | apply IsS75.alloc | apply IsS75.drewN | apply IsS75.drew | apply IsS75.set_1) | exact HI172.out)) (by (with_reducible repeat (first | apply Kd.R_alloc | apply Kd.R_drewN | apply Kd.R_drew)); exact (Q_HO186 h0_)) (by decide)) hk (fun _ h => h.2)) (fun _ h => h.1)) | exact Kd.R_mono (Kd.R_mono (Kd.R_keep (IsS75.apart (show IsS75 w _ g172 t170 t183 from by repeat (first | (with_reducible first | exact HI172.out | apply IsS75.alloc | apply IsS75.drewN | apply IsS75.drew | apply IsS75.set_1) | exact HI172.out)) (by (with_reducible repeat (first | apply Kd.R_alloc | apply Kd.R_drewN | apply Kd.R_drew)); exact (Q_HO186 h0_)) (by decide)) hk (fun _ h => h.2)) (fun _ h => h.1)) (fun _ h_ => by first | trivial | exact h_ | exact h_.1))
                      have z_HO189 := fun (h0_ : b 5 = true) => (show Kd.R (Kd.int .i64) 3 w27 w.heap.size (fun _ => True) v188 y187 from by first | exact (Kd.R_mono (Kd.R_keep (IsS75.apart (show IsS75 w _ g172 t170 t183 from by repeat (first | (with_reducible first | exact HI172.out | apply IsS75.alloc | apply IsS75.drewN | apply IsS75.drew | apply IsS75.set_1) | exact HI172.out)) (by (with_reducible repeat (first | apply Kd.R_alloc | apply Kd.R_drewN | apply Kd.R_drew)); exact (Q_HO189 h0_)) (by decide)) hk (fun _ h => h.2)) (fun _ h => h.1)) | exact Kd.R_mono (Kd.R_mono (Kd.R_keep (IsS75.apart (show IsS75 w _ g172 t170 t183 from by repeat (first | (with_reducible first | exact HI172.out | apply IsS75.alloc | apply IsS75.drewN | apply IsS75.drew | apply IsS75.set_1) | exact HI172.out)) (by (with_reducible repeat (first | apply Kd.R_alloc | apply Kd.R_drewN | apply Kd.R_drew)); exact (Q_HO189 h0_)) (by decide)) hk (fun _ h => h.2)) (fun _ h => h.1)) (fun _ h_ => by first | trivial | exact h_ | exact h_.1))
                      clear HO_5
                      clear HB
                      clear HI172
                      have HO_5 := n0_
                      have HB := n1_
                      have HI172 := n2_
                      clear n0_ n1_ n2_
                      (try clear hb)
                      (try clear hb2)
                      (try clear hk)
                      (try clear hi)
                      refine hK.out _ _ ⟨v185, adz_v185, v188, adz_v188, m8_, m10_, (by rw [ha.out]; exact putSel_upk 4 hb_ rfl rfl rfl), (by (with_reducible repeat (first | apply Kd.R_alloc | apply Kd.R_drewN | apply Kd.R_drew)); exact HO_5.out), fun h0_ => absurd ((hon 2 (by kernel_rfl)).symm.trans h0_) (by decide), (by repeat (first | (with_reducible first | exact HB.out | apply below_alloc | apply pw_below_drewN | apply below_drew1 | refine below_set ?_ (IsS75.ge HI172.out)) | exact HB.out)), fun _ h1_ => absurd ((up_self b 7).symm.trans h1_) (by decide), z_HO186, Q_HA_HO186, z_HO189, Q_HA_HO189, fun _ => (by repeat (first | (with_reducible first | exact HI172.out | apply IsS75.alloc | apply IsS75.drewN | apply IsS75.drew | apply IsS75.set_1) | exact HI172.out)), fun h0_ => absurd ((hoff 8 (by kernel_rfl)).symm.trans h0_) (by decide), fun h0_ => absurd ((hoff 10 (by kernel_rfl)).symm.trans h0_) (by decide)⟩
                    refine steps_cons ?_ ?_
                    · rintro b a w' ⟨v185, adz_v185, v188, adz_v188, m8_, m10_, ha, Q_HO_5, Q_HI172, Q_HB, Q_HI172_e2, Q_HO186, Q_HA_HO186, Q_HO189, Q_HA_HO189, Q_HI172_e7, Q_X8_, Q_X10_⟩ hb_ hon hoff
                      refine ⟨_, rfl, fun K hK => ?_⟩
                      have e32 : a.tmps[32]? = some (v188) := by rw [ha]; exact putSel_on (e := (5, 32, v188)) 3 rfl rfl (hon 5 (by kernel_rfl)) rfl
                      have e34 : a.tmps[34]? = some (.int .i64 t190) := by rw [ha]; exact putSel_on (e := (7, 34, .int .i64 t190)) 4 rfl rfl (hon 7 (by kernel_rfl)) rfl
                      replace ha := Aside0.mk ha
                      have HO_5 := Aside0.mk Q_HO_5
                      have HB := Aside0.mk Q_HB
                      have HO189 := Aside0.mk (Q_HO189 (hon 5 (by kernel_rfl)))
                      have HA_HO189 := Aside0.mk (Q_HA_HO189 (hon 5 (by kernel_rfl)))
                      have HI172 := Aside0.mk (Q_HI172_e7 (hon 7 (by kernel_rfl)))
                      obtain ⟨c_, hv_⟩ := HA_HO189.out
                      rw [hv_] at e32
                      refine value_ (w1 := w') (v := .pointer (some (adz_v188.add (t190).toNat))) (by rfl) rfl ?_ ?_
                      · go_simp
                        (try simp only [i64_w])
                        try rfl
                      refine hK.out _ _ ⟨v185, adz_v185, v188, adz_v188, (.pointer (some (adz_v188.add (t190).toNat))), m10_, (by rw [ha.out]; exact putSel_upk 5 hb_ rfl rfl rfl), Q_HO_5, fun h0_ => absurd ((hon 2 (by kernel_rfl)).symm.trans h0_) (by decide), Q_HB, fun _ h1_ => absurd ((hon 7 (by kernel_rfl)).symm.trans h1_) (by decide), Q_HO186, Q_HA_HO186, Q_HO189, Q_HA_HO189, Q_HI172_e7, fun _ => rfl, fun h0_ => absurd ((hoff 10 (by kernel_rfl)).symm.trans h0_) (by decide)⟩
                    refine steps_cons ?_ ?_
                    · rintro b a w' ⟨v185, adz_v185, v188, adz_v188, m8_, m10_, ha, Q_HO_5, Q_HI172, Q_HB, Q_HI172_e2, Q_HO186, Q_HA_HO186, Q_HO189, Q_HA_HO189, Q_HI172_e7, Q_X8_, Q_X10_⟩ hb_ hon hoff
                      refine ⟨_, rfl, fun K hK => ?_⟩
                      have e35 : a.tmps[35]? = some (m8_) := by rw [ha]; exact putSel_on (e := (8, 35, m8_)) 5 rfl rfl (hon 8 (by kernel_rfl)) rfl
                      rw [Q_X8_ (hon 8 (by kernel_rfl))] at e35
                      replace ha := Aside0.mk ha
                      have HO_5 := Aside0.mk Q_HO_5
                      have HB := Aside0.mk Q_HB
                      have HO189 := Aside0.mk (Q_HO189 (hon 5 (by kernel_rfl)))
                      have HA_HO189 := Aside0.mk (Q_HA_HO189 (hon 5 (by kernel_rfl)))
                      have HI172 := Aside0.mk (Q_HI172_e7 (hon 7 (by kernel_rfl)))
                      obtain ⟨c_, hv_⟩ := HA_HO189.out
                      have hF_ := HO189.out
                      rw [hv_] at hF_
                      obtain ⟨ad_, ea_, hx_⟩ := Kd.at_int (Kd.R_reads' hF_).2.2 t190 (of_eq_true pi192) (of_eq_true qi192)
                      cases ea_
                      refine value_ (w1 := w') (v := .int .i64 (rd y187 t190)) (by rfl) rfl ?_ ?_
                      · go_simp
                        (try simp only [i64_w])
                        try rfl
                      refine hK.out _ _ ⟨v185, adz_v185, v188, adz_v188, m8_, m10_, (by rw [ha.out]; exact putSel_upk 6 hb_ rfl rfl rfl), Q_HO_5, fun h0_ => absurd ((hon 2 (by kernel_rfl)).symm.trans h0_) (by decide), Q_HB, fun _ h1_ => absurd ((hon 7 (by kernel_rfl)).symm.trans h1_) (by decide), Q_HO186, Q_HA_HO186, Q_HO189, Q_HA_HO189, Q_HI172_e7, Q_X8_, fun h0_ => absurd ((hoff 10 (by kernel_rfl)).symm.trans h0_) (by decide)⟩
                    refine steps_cons ?_ ?_
                    · rintro b a w' ⟨v185, adz_v185, v188, adz_v188, m8_, m10_, ha, Q_HO_5, Q_HI172, Q_HB, Q_HI172_e2, Q_HO186, Q_HA_HO186, Q_HO189, Q_HA_HO189, Q_HI172_e7, Q_X8_, Q_X10_⟩ hb_ hon hoff
                      refine ⟨_, rfl, fun K hK => ?_⟩
                      have e31 : a.tmps[31]? = some (v185) := by rw [ha]; exact putSel_on (e := (4, 31, v185)) 2 rfl rfl (hon 4 (by kernel_rfl)) rfl
                      have e36 : a.tmps[36]? = some (.int .i64 (rd y187 t190)) := by rw [ha]; exact putSel_on (e := (9, 36, .int .i64 (rd y187 t190))) 6 rfl rfl (hon 9 (by kernel_rfl)) rfl
                      replace ha := Aside0.mk ha
                      have HO_5 := Aside0.mk Q_HO_5
                      have HB := Aside0.mk Q_HB
                      have HO186 := Aside0.mk (Q_HO186 (hon 4 (by kernel_rfl)))
                      have HA_HO186 := Aside0.mk (Q_HA_HO186 (hon 4 (by kernel_rfl)))
                      have HO189 := Aside0.mk (Q_HO189 (hon 5 (by kernel_rfl)))
                      have HA_HO189 := Aside0.mk (Q_HA_HO189 (hon 5 (by kernel_rfl)))
                      have HI172 := Aside0.mk (Q_HI172_e7 (hon 7 (by kernel_rfl)))
                      obtain ⟨c_, hv_⟩ := HA_HO186.out
                      rw [hv_] at e31
                      refine value_ (w1 := w') (v := .pointer (some (adz_v185.add ((rd y187 t190)).toNat))) (by rfl) rfl ?_ ?_
                      · go_simp
                        (try simp only [i64_w])
                        try rfl
                      refine hK.out _ _ ⟨v185, adz_v185, v188, adz_v188, m8_, (.pointer (some (adz_v185.add ((rd y187 t190)).toNat))), (by rw [ha.out]; exact putSel_upk 7 hb_ rfl rfl rfl), Q_HO_5, fun h0_ => absurd ((hon 2 (by kernel_rfl)).symm.trans h0_) (by decide), Q_HB, fun _ h1_ => absurd ((hon 7 (by kernel_rfl)).symm.trans h1_) (by decide), Q_HO186, Q_HA_HO186, Q_HO189, Q_HA_HO189, Q_HI172_e7, Q_X8_, fun _ => rfl⟩
                    refine steps_cons ?_ ?_
                    · rintro b a w' ⟨v185, adz_v185, v188, adz_v188, m8_, m10_, ha, Q_HO_5, Q_HI172, Q_HB, Q_HI172_e2, Q_HO186, Q_HA_HO186, Q_HO189, Q_HA_HO189, Q_HI172_e7, Q_X8_, Q_X10_⟩ hb_ hon hoff
                      refine ⟨_, rfl, fun K hK => ?_⟩
                      have e37 : a.tmps[37]? = some (m10_) := by rw [ha]; exact putSel_on (e := (10, 37, m10_)) 7 rfl rfl (hon 10 (by kernel_rfl)) rfl
                      rw [Q_X10_ (hon 10 (by kernel_rfl))] at e37
                      replace ha := Aside0.mk ha
                      have HO_5 := Aside0.mk Q_HO_5
                      have HB := Aside0.mk Q_HB
                      have HO186 := Aside0.mk (Q_HO186 (hon 4 (by kernel_rfl)))
                      have HA_HO186 := Aside0.mk (Q_HA_HO186 (hon 4 (by kernel_rfl)))
                      have HO189 := Aside0.mk (Q_HO189 (hon 5 (by kernel_rfl)))
                      have HA_HO189 := Aside0.mk (Q_HA_HO189 (hon 5 (by kernel_rfl)))
                      have HI172 := Aside0.mk (Q_HI172_e7 (hon 7 (by kernel_rfl)))
                      obtain ⟨c_, hv_⟩ := HA_HO186.out
                      have hF_ := HO186.out
                      rw [hv_] at hF_
                      obtain ⟨ad_, ea_, hx_⟩ := Kd.at_int (Kd.R_reads' hF_).2.2 (rd y187 t190) (of_eq_true pi193) (of_eq_true qi193)
                      cases ea_
                      refine value_ (w1 := w') (v := .int .i64 (rd y184 (rd y187 t190))) (by rfl) rfl ?_ ?_
                      · go_simp
                        (try simp only [i64_w])
                        try rfl
                      refine hK.out _ _ ⟨v185, adz_v185, v188, adz_v188, m8_, m10_, (by rw [ha.out]; exact putSel_upk 8 hb_ rfl rfl rfl), Q_HO_5, fun h0_ => absurd ((hon 2 (by kernel_rfl)).symm.trans h0_) (by decide), Q_HB, fun _ h1_ => absurd ((hon 7 (by kernel_rfl)).symm.trans h1_) (by decide), Q_HO186, Q_HA_HO186, Q_HO189, Q_HA_HO189, Q_HI172_e7, Q_X8_, Q_X10_⟩
                    refine steps_cons ?_ ?_
                    · rintro b a w' ⟨v185, adz_v185, v188, adz_v188, m8_, m10_, ha, Q_HO_5, Q_HI172, Q_HB, Q_HI172_e2, Q_HO186, Q_HA_HO186, Q_HO189, Q_HA_HO189, Q_HI172_e7, Q_X8_, Q_X10_⟩ hb_ hon hoff
                      refine ⟨_, rfl, fun K hK => ?_⟩
                      have e27 : a.tmps[27]? = some (.slice Ao23 x5_1.length co23) := by rw [ha]; exact (putSel_off rfl).trans rfl
                      replace ha := Aside0.mk ha
                      have HO_5 := Aside0.mk Q_HO_5
                      have HB := Aside0.mk Q_HB
                      have HI172 := Aside0.mk (Q_HI172_e7 (hon 7 (by kernel_rfl)))
                      refine value_ (w1 := w') (v := .slice Ao23 x5_1.length co23) (by rfl) rfl ?_ ?_
                      · go_simp
                        (try simp only [i64_w])
                        try rfl
                      refine hK.out _ _ ⟨v185, adz_v185, v188, adz_v188, m8_, m10_, (by rw [ha.out]; exact putSel_upk 9 hb_ rfl rfl rfl), Q_HO_5, fun h0_ => absurd ((hon 2 (by kernel_rfl)).symm.trans h0_) (by decide), Q_HB, fun _ h1_ => absurd ((hon 7 (by kernel_rfl)).symm.trans h1_) (by decide), Q_HO186, Q_HA_HO186, Q_HO189, Q_HA_HO189, Q_HI172_e7, Q_X8_, Q_X10_⟩
                    refine steps_cons ?_ ?_
                    · rintro b a w' ⟨v185, adz_v185, v188, adz_v188, m8_, m10_, ha, Q_HO_5, Q_HI172, Q_HB, Q_HI172_e2, Q_HO186, Q_HA_HO186, Q_HO189, Q_HA_HO189, Q_HI172_e7, Q_X8_, Q_X10_⟩ hb_ hon hoff
                      refine ⟨_, rfl, fun K hK => ?_⟩
                      have e38 : a.tmps[38]? = some (.int .i64 (rd y184 (rd y187 t190))) := by rw [ha]; exact putSel_on (e := (11, 38, .int .i64 (rd y184 (rd y187 t190)))) 8 rfl rfl (hon 11 (by kernel_rfl)) rfl
                      replace ha := Aside0.mk ha
                      have HO_5 := Aside0.mk Q_HO_5
                      have HB := Aside0.mk Q_HB
                      have HO186 := Aside0.mk (Q_HO186 (hon 4 (by kernel_rfl)))
                      have HA_HO186 := Aside0.mk (Q_HA_HO186 (hon 4 (by kernel_rfl)))
                      have HO189 := Aside0.mk (Q_HO189 (hon 5 (by kernel_rfl)))
                      have HA_HO189 := Aside0.mk (Q_HA_HO189 (hon 5 (by kernel_rfl)))
                      have HI172 := Aside0.mk (Q_HI172_e7 (hon 7 (by kernel_rfl)))
                      refine value_ (w1 := w') (v := .int .i64 (rd y184 (rd y187 t190))) (by rfl) rfl ?_ ?_
                      · go_simp
                        (try simp only [i64_w])
                        try rfl
                      refine hK.out _ _ ⟨v185, adz_v185, v188, adz_v188, m8_, m10_, (by rw [ha.out]; exact putSel_upk 10 hb_ rfl rfl rfl), Q_HO_5, fun h0_ => absurd ((hon 2 (by kernel_rfl)).symm.trans h0_) (by decide), Q_HB, fun _ h1_ => absurd ((hon 7 (by kernel_rfl)).symm.trans h1_) (by decide), Q_HO186, Q_HA_HO186, Q_HO189, Q_HA_HO189, Q_HI172_e7, Q_X8_, Q_X10_⟩
                    exact steps_nil
                  rintro b a w33 hall ⟨v185, adz_v185, v188, adz_v188, m8_, m10_, ha, Q_HO_5, Q_HI172, Q_HB, Q_HI172_e2, Q_HO186, Q_HA_HO186, Q_HO189, Q_HA_HO189, Q_HI172_e7, Q_X8_, Q_X10_⟩
                  clear HB HI172 HO_5
                  have hb2_ := hall 2 (by kernel_rfl)
                  have hb3_ := hall 3 (by kernel_rfl)
                  have hb4_ := hall 4 (by kernel_rfl)
                  have hb5_ := hall 5 (by kernel_rfl)
                  have hb7_ := hall 7 (by kernel_rfl)
                  have hb8_ := hall 8 (by kernel_rfl)
                  have hb9_ := hall 9 (by kernel_rfl)
                  have hb10_ := hall 10 (by kernel_rfl)
                  have hb11_ := hall 11 (by kernel_rfl)
                  have hb12_ := hall 12 (by kernel_rfl)
                  have hb13_ := hall 13 (by kernel_rfl)
                  subst ha
                  obtain rfl := Q_X8_ hb8_
                  obtain rfl := Q_X10_ hb10_
                  simp only [putSel, hb2_, hb3_, hb4_, hb5_, hb7_, hb8_, hb9_, hb10_, hb11_, hb12_, hb13_, if_true, Act.put, List.setIfInBounds_toArray, List.set_cons_zero, List.set_cons_succ]
                  have HO_5 := Aside0.mk Q_HO_5
                  clear Q_HO_5
                  clear Q_HI172
                  have HB := Aside0.mk Q_HB
                  clear Q_HB
                  clear Q_HI172_e2
                  have HO186 := Aside0.mk (Q_HO186 hb4_)
                  clear Q_HO186
                  have HA_HO186 := Aside0.mk (Q_HA_HO186 hb4_)
                  clear Q_HA_HO186
                  have HO189 := Aside0.mk (Q_HO189 hb5_)
                  clear Q_HO189
                  have HA_HO189 := Aside0.mk (Q_HA_HO189 hb5_)
                  clear Q_HA_HO189
                  have HI172 := Aside0.mk (Q_HI172_e7 hb7_)
                  clear Q_HI172_e7
                  clear hall hb2_ hb3_ hb4_ hb5_ hb7_ hb8_ hb9_ hb10_ hb11_ hb12_ hb13_
                  obtain ⟨co34, eo34⟩ := HA_HO186.out
                  clear HA_HO186
                  subst eo34
                  obtain ⟨co35, eo35⟩ := HA_HO189.out
                  clear HA_HO189
                  subst eo35
                  try go_wp2
                  go_ret2
                  exact ⟨_, by first | rfl | (simp [errW_none, errW_some] <;> rfl) | (simp [*, errW_none, errW_some] <;> rfl), by (with_reducible repeat (first | apply Kd.R_alloc | apply Kd.R_drewN | apply Kd.R_drew)); exact HO_5.out, by repeat (first | (with_reducible first | exact HB.out | apply below_alloc | apply pw_below_drewN | apply below_drew1 | refine below_set ?_ (IsS75.ge HI172.out)) | exact HB.out)⟩
                · rw [if_neg c22] at H
                  exact absurd H (by simp)
              · rw [if_neg c21] at H
                exact absurd H (by simp)
            · rw [if_neg c20] at H
              exact absurd H (by simp)
          · rw [if_neg c19] at H
            exact absurd H (by simp)
  · rw [if_neg c5] at H
    have c5b0 : (t177 == 0) = false := beq_eq_false_iff_ne.mpr c5
    have c5b1 : (t177 != 0) = true := bne_iff_ne.mpr c5
    replace H := Option.bind_eq_some_iff.mp H
    obtain ⟨⟨t194, t195⟩, A360, H⟩ := H
    replace H : ((some (([wrap64 (t194 - 12), 36, (-36)] : List Int) : List Int)).bind fun y196 => ((some (([0, 0, 0, 0, 0, 1, 2] : List Int) : List Int)).bind fun y199 => ((spec_l20Rd_pick.f k t170 t195 7).bind fun bt202 => (if 0 ≤ bt202.1 then (if bt202.1 < (y199.length : Int) then (if 0 ≤ (rd y199 bt202.1) then (if (rd y199 bt202.1) < (y196.length : Int) then (some (t173, rd y196 (rd y199 bt202.1))) else (none)) else (none)) else (none)) else (none))))) = some (r1, r2) := H
    have A36 := Aside0.mk A360
    clear A360
    obtain ⟨y196, hy196⟩ : ∃ y_ : List Int, y_ = (([wrap64 (t194 - 12), 36, (-36)] : List Int)) := ⟨_, rfl⟩
    replace H : ((some (([0, 0, 0, 0, 0, 1, 2] : List Int) : List Int)).bind fun y199 => ((spec_l20Rd_pick.f k t170 t195 7).bind fun bt202 => (if 0 ≤ bt202.1 then (if bt202.1 < (y199.length : Int) then (if 0 ≤ (rd y199 bt202.1) then (if (rd y199 bt202.1) < (y196.length : Int) then (some (t173, rd y196 (rd y199 bt202.1))) else (none)) else (none)) else (none)) else (none)))) = some (r1, r2) := by first | (rw [hy196]; with_reducible exact H) | (have H2_ := (Option.bind_some _ _).symm.trans H; rw [hy196]; with_reducible exact H2_) | (have H2_ := (Option.bind_some _ _).symm.trans H; with_reducible exact H2_) | with_reducible exact H | (rw [hy196]; exact H) | exact H
    have Ny196 := Aside0.mk hy196
    clear hy196
    obtain ⟨y199, hy199⟩ : ∃ y_ : List Int, y_ = (([0, 0, 0, 0, 0, 1, 2] : List Int)) := ⟨_, rfl⟩
    replace H : ((spec_l20Rd_pick.f k t170 t195 7).bind fun bt202 => (if 0 ≤ bt202.1 then (if bt202.1 < (y199.length : Int) then (if 0 ≤ (rd y199 bt202.1) then (if (rd y199 bt202.1) < (y196.length : Int) then (some (t173, rd y196 (rd y199 bt202.1))) else (none)) else (none)) else (none)) else (none))) = some (r1, r2) := by first | (rw [hy199]; with_reducible exact H) | (have H2_ := (Option.bind_some _ _).symm.trans H; rw [hy199]; with_reducible exact H2_) | (have H2_ := (Option.bind_some _ _).symm.trans H; with_reducible exact H2_) | with_reducible exact H | (rw [hy199]; exact H) | exact H
    have Ny199 := Aside0.mk hy199
    clear hy199
    replace H := Option.bind_eq_some_iff.mp H
    obtain ⟨⟨t202, t203⟩, A370, H⟩ := H
    replace H : (if 0 ≤ t202 then (if t202 < (y199.length : Int) then (if 0 ≤ (rd y199 t202) then (if (rd y199 t202) < (y196.length : Int) then (some (t173, rd y196 (rd y199 t202))) else (none)) else (none)) else (none)) else (none)) = some (r1, r2) := H
    have A37 := Aside0.mk A370
    clear A370
    by_cases c38 : 0 ≤ t202
    · rw [if_pos c38] at H
      have c38b0 : decide (0 ≤ t202) = true := decide_eq_true c38
      clear c38
      by_cases c39 : t202 < (y199.length : Int)
      · rw [if_pos c39] at H
        have c39b0 : decide (t202 < (y199.length : Int)) = true := decide_eq_true c39
        clear c39
        by_cases c40 : 0 ≤ (rd y199 t202)
        · rw [if_pos c40] at H
          have c40b0 : decide (0 ≤ (rd y199 t202)) = true := decide_eq_true c40
          clear c40
          by_cases c41 : (rd y199 t202) < (y196.length : Int)
          · rw [if_pos c41] at H
            have c41b0 : decide ((rd y199 t202) < (y196.length : Int)) = true := decide_eq_true c41
            clear c41
            simp only [Option.some.injEq, Prod.mk.injEq] at H
            obtain ⟨rfl, rfl⟩ := H
            go_enter Try.func27, Try.ntmps27
            try go_wp2_with (first | ((with_reducible refine gate_callee (f := 37) rfl ?_); refine goesL_ (some 8) rfl rfl Try.func37 (by kernel_rfl) rfl #[.slice A0 l0.length c0] rfl (by (try simp only [List.map_toArray, List.map_cons, List.map_nil]); first | done | rfl | (simp only [List.length_drop, List.length_take]; rfl)) ?_; (with_reducible refine (spec_l20Open.calls _ _ l0 t170 t171 w _ ?side1 ?side2 ?side3 A2.out).mono ?_); (case side1 => repeat (first | (with_reducible first | exact HB.out | apply below_alloc | apply pw_below_drewN | apply below_drew1) | exact HB.out)); (case side2 => exact HR0.out); (case side3 => exact HC0.out); rintro e w42 ⟨g172, rfl, hi, hb, hb2⟩; refine ⟨_, rfl, ?_⟩; have n0_ := Aside0.mk (hb); have n1_ := Aside0.mk (hi); clear HB; have HB := n0_; have HI172 := n1_; clear n0_ n1_; (try clear hb); (try clear hb2); (try clear hk); (try clear hi)) | ((with_reducible refine gate_callee (f := 51) rfl ?_); refine goesL_ (some 10) rfl rfl Try.func51 (by kernel_rfl) rfl #[.pointer (some ⟨g172, 0, none⟩), .int .i64 12] rfl (by (try simp only [List.map_toArray, List.map_cons, List.map_nil]); first | done | rfl | (simp only [List.length_drop, List.length_take]; rfl)) ?_; (with_reducible refine (spec_l20Song.calls k g172 t170 t171 12 t173 t176 w _ ?side1 ?side2 A3.out).mono ?_); (case side1 => repeat (first | (with_reducible first | exact HI172.out | apply IsS75.alloc | apply IsS75.drewN | apply IsS75.drew | apply IsS75.set_1) | exact HI172.out)); (case side2 => repeat (first | (with_reducible first | exact HB.out | apply below_alloc | apply pw_below_drewN | apply below_drew1 | refine below_set ?_ (IsS75.ge HI172.out)) | exact HB.out)); rintro e w43 ⟨v174, rfl, ho0, hi, hb, hk⟩; refine ⟨_, rfl, ?_⟩; have n0_ := Aside0.mk (Kd.R_lower ho0 (below_size (by repeat (first | (with_reducible first | exact HB.out | apply below_alloc | apply pw_below_drewN | apply below_drew1 | refine below_set ?_ (IsS75.ge HI172.out)) | exact HB.out)))); have n1_ := Aside0.mk (hb); have n2_ := Aside0.mk (hi); clear HB; clear HI172; have HO175 := n0_; have HB := n1_; have HI172 := n2_; clear n0_ n1_ n2_; (try clear hb); (try clear hb2); (try clear hk); (try clear hi); (try clear ho0)) | ((with_reducible refine gate_callee (f := 40) rfl ?_); refine goesL_ (some 12) rfl rfl Try.func40 (by kernel_rfl) rfl #[.pointer (some ⟨g172, 0, none⟩), .int .i64 2] rfl (by (try simp only [List.map_toArray, List.map_cons, List.map_nil]); first | done | rfl | (simp only [List.length_drop, List.length_take]; rfl)) ?_; (with_reducible refine (spec_l20Rd_pick.calls k g172 t170 t176 2 t177 t178 w _ ?side1 ?side2 A4.out).mono ?_); (case side1 => repeat (first | (with_reducible first | exact HI172.out | apply IsS75.alloc | apply IsS75.drewN | apply IsS75.drew | apply IsS75.set_1) | exact HI172.out)); (case side2 => repeat (first | (with_reducible first | exact HB.out | apply below_alloc | apply pw_below_drewN | apply below_drew1 | refine below_set ?_ (IsS75.ge HI172.out)) | exact HB.out)); rintro e w44 ⟨rfl, hi, hb, hk⟩; refine ⟨_, rfl, ?_⟩; have n0_ := Aside0.mk (Kd.R_mono (Kd.R_keep (IsS75.apart (show IsS75 w _ g172 t170 t176 from by repeat (first | (with_reducible first | exact HI172.out | apply IsS75.alloc | apply IsS75.drewN | apply IsS75.drew | apply IsS75.set_1) | exact HI172.out)) (by (with_reducible repeat (first | apply Kd.R_alloc | apply Kd.R_drewN | apply Kd.R_drew)); exact HO175.out) (by decide)) hk (fun _ h => h.2)) (fun _ h => h.1)); have n1_ := Aside0.mk (hb); have n2_ := Aside0.mk (hi); clear HO175; clear HB; clear HI172; have HO175 := n0_; have HB := n1_; have HI172 := n2_; clear n0_ n1_ n2_; (try clear hb); (try clear hb2); (try clear hk); (try clear hi)))
            have pi204 : (0 ≤ (t202 : Int)) = True := eq_true (of_decide_eq_true (by first | (with_reducible assumption) | assumption))
            have qi204 : (t202 < (y199.length : Int)) = True := eq_true (of_decide_eq_true (by first | (with_reducible assumption) | assumption))
            have pi205 : (0 ≤ ((rd y199 t202) : Int)) = True := eq_true (of_decide_eq_true (by first | (with_reducible assumption) | assumption))
            have qi205 : ((rd y199 t202) < (y196.length : Int)) = True := eq_true (of_decide_eq_true (by first | (with_reducible assumption) | assumption))
            have n0_ := Aside0.mk (Kd.R_drew HO175.out)
            have n1_ := Aside0.mk (IsS75.drew HI172.out)
            have n2_ := Aside0.mk (below_drew1 HB.out)
            clear HO175
            clear HI172
            clear HB
            have HO175 := n0_
            have HI172 := n1_
            have HB := n2_
            clear n0_ n1_ n2_
            refine start_ (n := 14) (S := fun w' => True) (ds := []) #[false, false, false, false, false, false, false, false, false, false, false, false, false, false] (by kernel_rfl) rfl rfl trivial (fun hHeld => ?_); refine with_tabW spec_DrawShiftSong.tab8 spec_DrawShiftSong.bits8 (fun HT_ HW_ => ?_)
            generalize w44.drew = w45 at HO175 HI172 HB hHeld ⊢
            refine pure_ (i := 0) (N := some 27) (v := ?_) (a' := ?_) #[true, false, false, false, false, false, false, false, false, false, false, false, false, false] rfl rfl (any_of HT_.out (by kernel_rfl)) (fun _ _ _ h => h) (Or.inl ⟨by rfl, ?_⟩) ?_ ?_
            rotate_left
            · intro w'
              go_simp
              with_reducible rfl
            rotate_left
            · simp only [Act.put, List.setIfInBounds_toArray, List.set_cons_zero, List.set_cons_succ, i64_w, i32_w]
              rfl
            refine pure_ (i := 1) (N := some 28) (v := ?_) (a' := ?_) #[true, true, false, false, false, false, false, false, false, false, false, false, false, false] rfl rfl (any_of HT_.out (by kernel_rfl)) (fun _ _ _ h => h) (Or.inl ⟨by rfl, ?_⟩) ?_ ?_
            rotate_left
            · intro w'
              go_simp
              with_reducible rfl
            rotate_left
            · simp only [Act.put, List.setIfInBounds_toArray, List.set_cons_zero, List.set_cons_succ, i64_w, i32_w]
              rfl
            refine pure_ (i := 6) (N := some 33) (v := ?_) (a' := ?_) #[true, true, false, false, false, false, true, false, false, false, false, false, false, false] rfl rfl (any_of HT_.out (by kernel_rfl)) (fun _ _ _ h => h) (Or.inl ⟨by rfl, ?_⟩) ?_ ?_
            rotate_left
            · intro w'
              go_simp
              with_reducible rfl
            rotate_left
            · simp only [Act.put, List.setIfInBounds_toArray, List.set_cons_zero, List.set_cons_succ, i64_w, i32_w]
              rfl
            refine inv_at [2, 3, 4, 5, 7, 8, 9, 10, 11, 12, 13] (fun a0_ b a w' => ∃ (v197 : Value) (adz_v197 : Addr) (v200 : Value) (adz_v200 : Addr) (m8_ : Value) (m10_ : Value), a = putSel a0_ b [(2, 29, .int .i64 t194), (3, 30, .int .i64 (wrap64 (t194 - 12))), (4, 31, v197), (5, 32, v200), (7, 34, .int .i64 t202), (8, 35, m8_), (9, 36, .int .i64 (rd y199 t202)), (10, 37, m10_), (11, 38, .int .i64 (rd y196 (rd y199 t202))), (12, 2, v174), (13, 3, .int .i64 (rd y196 (rd y199 t202)))] ∧ (Kd.R k43 43 w' w.heap.size (fun _ => True) v174 t173) ∧ (b 2 = false → IsS75 w w' g172 t170 t178) ∧ (Below w.heap.size w w') ∧ (b 2 = true → b 7 = false → IsS75 w w' g172 t170 t195) ∧ (b 4 = true → Kd.R (Kd.int .i64) 3 w' w.heap.size (fun _ => True) v197 y196) ∧ (b 4 = true → ∃ c_, (v197 : Value) = .slice (some adz_v197) y196.length c_) ∧ (b 5 = true → Kd.R (Kd.int .i64) 3 w' w.heap.size (fun _ => True) v200 y199) ∧ (b 5 = true → ∃ c_, (v200 : Value) = .slice (some adz_v200) y199.length c_) ∧ (b 7 = true → IsS75 w w' g172 t170 t203) ∧ (b 8 = true → (m8_ : Value) = .pointer (some (adz_v200.add (t202).toNat))) ∧ (b 10 = true → (m10_ : Value) = .pointer (some (adz_v197.add ((rd y199 t202)).toNat)))) HT_.out HW_.out (by kernel_rfl) (by kernel_rfl) ?_ ?_ ?_
            · exact ⟨.bool false, ⟨0, 0, none⟩, .bool false, ⟨0, 0, none⟩, .bool false, .bool false, by simp only [putSel, Bool.false_eq_true, if_false], HO175.out, fun _ => HI172.out, HB.out, fun h_ => absurd h_ (by decide), fun h_ => absurd h_ (by decide), fun h_ => absurd h_ (by decide), fun h_ => absurd h_ (by decide), fun h_ => absurd h_ (by decide), fun h_ => absurd h_ (by decide), fun h_ => absurd h_ (by decide), fun h_ => absurd h_ (by decide)⟩
            · skip
              clear HB HI172 HO175
              refine steps_cons ?_ ?_
              · rintro b a w' ⟨v197, adz_v197, v200, adz_v200, m8_, m10_, ha, Q_HO175, Q_HI172, Q_HB, Q_HI172_e2, Q_HO198, Q_HA_HO198, Q_HO201, Q_HA_HO201, Q_HI172_e7, Q_X8_, Q_X10_⟩ hb_ hon hoff
                refine ⟨_, rfl, fun K hK => ?_⟩
                have e28 : a.tmps[28]? = some (.pointer (some ⟨g172, 0, none⟩)) := by rw [ha]; exact (putSel_off rfl).trans rfl
                replace ha := Aside0.mk ha
                have HO175 := Aside0.mk Q_HO175
                have HI172 := Aside0.mk (Q_HI172 hb_)
                have HB := Aside0.mk Q_HB
                refine goes_ Try.func40 (by kernel_rfl) rfl #[.pointer (some ⟨g172, 0, none⟩), .int .i64 25] (by rfl) rfl rfl (by first | (simp only [List.map_toArray, List.map_cons, List.map_nil, Act.eval, Array.getD_eq_getD_getElem?, Option.getD_some, e28]; done) | (simp only [List.map_toArray, List.map_cons, List.map_nil, Act.eval, Array.getD_eq_getD_getElem?, Option.getD_some, e28]; rfl)) ?_
                with_reducible refine (spec_l20Rd_pick.calls k g172 t170 t178 25 t194 t195 w _ ?side1 ?side2 A36.out).mono ?_
                (case side1 => repeat (first | (with_reducible first | exact HI172.out | apply IsS75.alloc | apply IsS75.drewN | apply IsS75.drew | apply IsS75.set_1) | exact HI172.out))
                (case side2 => repeat (first | (with_reducible first | exact HB.out | apply below_alloc | apply pw_below_drewN | apply below_drew1 | refine below_set ?_ (IsS75.ge HI172.out)) | exact HB.out))
                rintro e w46 ⟨rfl, hi, hb, hk⟩
                refine ⟨_, rfl, ?_⟩
                have n0_ := Aside0.mk (Kd.R_mono (Kd.R_keep (IsS75.apart (show IsS75 w _ g172 t170 t178 from by repeat (first | (with_reducible first | exact HI172.out | apply IsS75.alloc | apply IsS75.drewN | apply IsS75.drew | apply IsS75.set_1) | exact HI172.out)) (by (with_reducible repeat (first | apply Kd.R_alloc | apply Kd.R_drewN | apply Kd.R_drew)); exact HO175.out) (by decide)) hk (fun _ h => h.2)) (fun _ h => h.1))
                have n1_ := Aside0.mk (hb)
                have n2_ := Aside0.mk (hi)
                have z_HO201 := fun (h0_ : b 5 = true) => (show Kd.R (Kd.int .i64) 3 w46 w.heap.size (fun _ => True) v200 y199 from by first | exact (Kd.R_mono (Kd.R_keep (IsS75.apart (show IsS75 w _ g172 t170 t178 from by repeat (first | (with_reducible first | exact HI172.out | apply IsS75.alloc | apply IsS75.drewN | apply IsS75.drew | apply IsS75.set_1) | exact HI172.out)) (by (with_reducible repeat (first | apply Kd.R_alloc | apply Kd.R_drewN | apply Kd.R_drew)); exact (Q_HO201 h0_)) (by decide)) hk (fun _ h => h.2)) (fun _ h => h.1)) | exact Kd.R_mono (Kd.R_mono (Kd.R_keep (IsS75.apart (show IsS75 w _ g172 t170 t178 from by repeat (first | (with_reducible first | exact HI172.out | apply IsS75.alloc | apply IsS75.drewN | apply IsS75.drew | apply IsS75.set_1) | exact HI172.out)) (by (with_reducible repeat (first | apply Kd.R_alloc | apply Kd.R_drewN | apply Kd.R_drew)); exact (Q_HO201 h0_)) (by decide)) hk (fun _ h => h.2)) (fun _ h => h.1)) (fun _ h_ => by first | trivial | exact h_ | exact h_.1))
                clear HO175
                clear HB
                clear HI172
                have HO175 := n0_
                have HB := n1_
                have HI172 := n2_
                clear n0_ n1_ n2_
                (try clear hb)
                (try clear hb2)
                (try clear hk)
                (try clear hi)
                refine hK.out _ _ ⟨v197, adz_v197, v200, adz_v200, m8_, m10_, (by rw [ha.out]; exact putSel_upk 0 hb_ rfl rfl rfl), (by (with_reducible repeat (first | apply Kd.R_alloc | apply Kd.R_drewN | apply Kd.R_drew)); exact HO175.out), fun h0_ => absurd ((up_self b 2).symm.trans h0_) (by decide), (by repeat (first | (with_reducible first | exact HB.out | apply below_alloc | apply pw_below_drewN | apply below_drew1 | refine below_set ?_ (IsS75.ge HI172.out)) | exact HB.out)), fun _ _ => (by repeat (first | (with_reducible first | exact HI172.out | apply IsS75.alloc | apply IsS75.drewN | apply IsS75.drew | apply IsS75.set_1) | exact HI172.out)), fun h0_ => absurd ((hoff 4 (by kernel_rfl)).symm.trans h0_) (by decide), fun h0_ => absurd ((hoff 4 (by kernel_rfl)).symm.trans h0_) (by decide), z_HO201, Q_HA_HO201, fun h0_ => absurd ((hoff 7 (by kernel_rfl)).symm.trans h0_) (by decide), fun h0_ => absurd ((hoff 8 (by kernel_rfl)).symm.trans h0_) (by decide), fun h0_ => absurd ((hoff 10 (by kernel_rfl)).symm.trans h0_) (by decide)⟩
              refine steps_cons ?_ ?_
              · rintro b a w' ⟨v197, adz_v197, v200, adz_v200, m8_, m10_, ha, Q_HO175, Q_HI172, Q_HB, Q_HI172_e2, Q_HO198, Q_HA_HO198, Q_HO201, Q_HA_HO201, Q_HI172_e7, Q_X8_, Q_X10_⟩ hb_ hon hoff
                refine ⟨_, rfl, fun K hK => ?_⟩
                have e29 : a.tmps[29]? = some (.int .i64 t194) := by rw [ha]; exact putSel_on (e := (2, 29, .int .i64 t194)) 0 rfl rfl (hon 2 (by kernel_rfl)) rfl
                replace ha := Aside0.mk ha
                have HO175 := Aside0.mk Q_HO175
                have HB := Aside0.mk Q_HB
                refine value_ (w1 := w') (v := .int .i64 (wrap64 (t194 - 12))) (by rfl) rfl ?_ ?_
                · go_simp
                  (try simp only [i64_w])
                  try rfl
                refine hK.out _ _ ⟨v197, adz_v197, v200, adz_v200, m8_, m10_, (by rw [ha.out]; exact putSel_upk 1 hb_ rfl rfl rfl), Q_HO175, fun h0_ => absurd ((hon 2 (by kernel_rfl)).symm.trans h0_) (by decide), Q_HB, Q_HI172_e2, fun h0_ => absurd ((hoff 4 (by kernel_rfl)).symm.trans h0_) (by decide), fun h0_ => absurd ((hoff 4 (by kernel_rfl)).symm.trans h0_) (by decide), Q_HO201, Q_HA_HO201, Q_HI172_e7, Q_X8_, fun h0_ => absurd ((hoff 10 (by kernel_rfl)).symm.trans h0_) (by decide)⟩
              refine steps_cons ?_ ?_
              · rintro b a w' ⟨v197, adz_v197, v200, adz_v200, m8_, m10_, ha, Q_HO175, Q_HI172, Q_HB, Q_HI172_e2, Q_HO198, Q_HA_HO198, Q_HO201, Q_HA_HO201, Q_HI172_e7, Q_X8_, Q_X10_⟩ hb_ hon hoff
                refine ⟨_, rfl, fun K hK => ?_⟩
                have e30 : a.tmps[30]? = some (.int .i64 (wrap64 (t194 - 12))) := by rw [ha]; exact putSel_on (e := (3, 30, .int .i64 (wrap64 (t194 - 12)))) 1 rfl rfl (hon 3 (by kernel_rfl)) rfl
                replace ha := Aside0.mk ha
                have HO175 := Aside0.mk Q_HO175
                have HB := Aside0.mk Q_HB
                refine Kd.R_lit_step (Kd.int .i64) _ 3 ?hg (N := 31) ?hd (xs := ([wrap64 (t194 - 12), 36, (-36)] : List Int)) (inner := [.int .i64 (wrap64 (t194 - 12)), .int .i64 36, .int .i64 (-36)]) (ok := fun _ => True) (okp := fun _ => True) ?hr ?hp (fun _ hk => hk) trivial (Below.refl _ _) (Nat.le_refl _) (by simp) ?_; (case hd => rfl); (case hg => rfl); (case hr => first | (go_simp; done) | (go_simp; rfl)); (case hp => exact (Reps.one (show Kd.M (Kd.int .i64) _ _ _ (wrap64 (t194 - 12)) [.int .i64 (wrap64 (t194 - 12))] from rfl) (Reps.one (show Kd.M (Kd.int .i64) _ _ _ 36 [.int .i64 36] from rfl) (Reps.one (show Kd.M (Kd.int .i64) _ _ _ (-36) [.int .i64 (-36)] from rfl) (Reps.none _ _)))))
                intro v197 w48 ho49 hb hg_ hnew_
                clear hg_ hnew_
                (first | rw [← Ny196.out] at ho49 | (simp only [Int.reduceToNat] at ho49; rw [← Ny196.out] at ho49))
                have n0_ := Aside0.mk (Kd.R_below (by (with_reducible repeat (first | apply Kd.R_alloc | apply Kd.R_drewN | apply Kd.R_drew)); exact HO175.out) hb)
                have n1_ := Aside0.mk (Kd.R_lower ho49 (below_size (by repeat (first | (with_reducible first | exact HB.out | apply below_alloc | apply pw_below_drewN | apply below_drew1) | exact HB.out))))
                have n3_ := Aside0.mk (below_step (by repeat (first | (with_reducible first | exact HB.out | apply below_alloc | apply pw_below_drewN | apply below_drew1) | exact HB.out)) hb)
                have z_HI172_e2 := fun (h0_ : b 2 = true) (h1_ : b 7 = false) => (show IsS75 w w48 g172 t170 t195 from by first | exact (IsS75.below (by repeat (first | (with_reducible first | exact (Q_HI172_e2 h0_ h1_) | apply IsS75.alloc | apply IsS75.drewN | apply IsS75.drew | apply IsS75.set_1) | exact (Q_HI172_e2 h0_ h1_))) hb))
                have z_HO201 := fun (h0_ : b 5 = true) => (show Kd.R (Kd.int .i64) 3 w48 w.heap.size (fun _ => True) v200 y199 from by first | exact (Kd.R_elder' (by (with_reducible repeat (first | apply Kd.R_alloc | apply Kd.R_drewN | apply Kd.R_drew)); exact (Q_HO201 h0_)) (Kd.R_base ho49) hb) | exact Kd.R_mono (Kd.R_elder' (by (with_reducible repeat (first | apply Kd.R_alloc | apply Kd.R_drewN | apply Kd.R_drew)); exact (Q_HO201 h0_)) (Kd.R_base ho49) hb) (fun _ h_ => by first | trivial | exact h_ | exact h_.1))
                have z_HI172_e7 := fun (h0_ : b 7 = true) => (show IsS75 w w48 g172 t170 t203 from by first | exact (IsS75.below (by repeat (first | (with_reducible first | exact (Q_HI172_e7 h0_) | apply IsS75.alloc | apply IsS75.drewN | apply IsS75.drew | apply IsS75.set_1) | exact (Q_HI172_e7 h0_))) hb))
                clear HO175
                clear HB
                have HO175 := n0_
                have HO198 := n1_
                have HB := n3_
                clear n0_ n1_ n3_
                clear hb ho49
                obtain ⟨Ao50, co50, eo50⟩ := Kd.R_slice HO198.out
                subst eo50
                obtain ⟨ado50, fo50, _⟩ := Kd.at_int (Kd.R_reads' HO198.out).2.2 0 (by decide) (by rw [Ny196.out]; simp)
                cases fo50
                refine hK.out _ _ ⟨.slice (some ado50) y196.length co50, ado50, v200, adz_v200, m8_, m10_, (by rw [ha.out]; exact putSel_upk 2 hb_ rfl rfl rfl), (by (with_reducible repeat (first | apply Kd.R_alloc | apply Kd.R_drewN | apply Kd.R_drew)); exact HO175.out), fun h0_ => absurd ((hon 2 (by kernel_rfl)).symm.trans h0_) (by decide), (by repeat (first | (with_reducible first | exact HB.out | apply below_alloc | apply pw_below_drewN | apply below_drew1) | exact HB.out)), z_HI172_e2, fun _ => (by (with_reducible repeat (first | apply Kd.R_alloc | apply Kd.R_drewN | apply Kd.R_drew)); exact HO198.out), fun _ => ⟨_, rfl⟩, z_HO201, Q_HA_HO201, z_HI172_e7, Q_X8_, fun h0_ => absurd ((hoff 10 (by kernel_rfl)).symm.trans h0_) (by decide)⟩
              refine steps_cons ?_ ?_
              · rintro b a w' ⟨v197, adz_v197, v200, adz_v200, m8_, m10_, ha, Q_HO175, Q_HI172, Q_HB, Q_HI172_e2, Q_HO198, Q_HA_HO198, Q_HO201, Q_HA_HO201, Q_HI172_e7, Q_X8_, Q_X10_⟩ hb_ hon hoff
                refine ⟨_, rfl, fun K hK => ?_⟩
                replace ha := Aside0.mk ha
                have HO175 := Aside0.mk Q_HO175
                have HB := Aside0.mk Q_HB
                refine Kd.R_lit_step (Kd.int .i64) _ 3 ?hg (N := 32) ?hd (xs := ([0, 0, 0, 0, 0, 1, 2] : List Int)) (inner := [.int .i64 0, .int .i64 0, .int .i64 0, .int .i64 0, .int .i64 0, .int .i64 1, .int .i64 2]) (ok := fun _ => True) (okp := fun _ => True) ?hr ?hp (fun _ hk => hk) trivial (Below.refl _ _) (Nat.le_refl _) (by simp) ?_; (case hd => rfl); (case hg => rfl); (case hr => first | (go_simp; done) | (go_simp; rfl)); (case hp => exact (Reps.one (show Kd.M (Kd.int .i64) _ _ _ 0 [.int .i64 0] from rfl) (Reps.one (show Kd.M (Kd.int .i64) _ _ _ 0 [.int .i64 0] from rfl) (Reps.one (show Kd.M (Kd.int .i64) _ _ _ 0 [.int .i64 0] from rfl) (Reps.one (show Kd.M (Kd.int .i64) _ _ _ 0 [.int .i64 0] from rfl) (Reps.one (show Kd.M (Kd.int .i64) _ _ _ 0 [.int .i64 0] from rfl) (Reps.one (show Kd.M (Kd.int .i64) _ _ _ 1 [.int .i64 1] from rfl) (Reps.one (show Kd.M (Kd.int .i64) _ _ _ 2 [.int .i64 2] from rfl) (Reps.none _ _)))))))))
                intro v200 w46 ho47 hb hg_ hnew_
                clear hg_ hnew_
                (first | rw [← Ny199.out] at ho47 | (simp only [Int.reduceToNat] at ho47; rw [← Ny199.out] at ho47))
                have n0_ := Aside0.mk (Kd.R_below (by (with_reducible repeat (first | apply Kd.R_alloc | apply Kd.R_drewN | apply Kd.R_drew)); exact HO175.out) hb)
                have n1_ := Aside0.mk (Kd.R_lower ho47 (below_size (by repeat (first | (with_reducible first | exact HB.out | apply below_alloc | apply pw_below_drewN | apply below_drew1) | exact HB.out))))
                have n3_ := Aside0.mk (below_step (by repeat (first | (with_reducible first | exact HB.out | apply below_alloc | apply pw_below_drewN | apply below_drew1) | exact HB.out)) hb)
                have z_HI172 := fun (h0_ : b 2 = false) => (show IsS75 w w46 g172 t170 t178 from by first | exact (IsS75.below (by repeat (first | (with_reducible first | exact (Q_HI172 h0_) | apply IsS75.alloc | apply IsS75.drewN | apply IsS75.drew | apply IsS75.set_1) | exact (Q_HI172 h0_))) hb))
                have z_HI172_e2 := fun (h0_ : b 2 = true) (h1_ : b 7 = false) => (show IsS75 w w46 g172 t170 t195 from by first | exact (IsS75.below (by repeat (first | (with_reducible first | exact (Q_HI172_e2 h0_ h1_) | apply IsS75.alloc | apply IsS75.drewN | apply IsS75.drew | apply IsS75.set_1) | exact (Q_HI172_e2 h0_ h1_))) hb))
                have z_HO198 := fun (h0_ : b 4 = true) => (show Kd.R (Kd.int .i64) 3 w46 w.heap.size (fun _ => True) v197 y196 from by first | exact (Kd.R_elder' (by (with_reducible repeat (first | apply Kd.R_alloc | apply Kd.R_drewN | apply Kd.R_drew)); exact (Q_HO198 h0_)) (Kd.R_base ho47) hb) | exact Kd.R_mono (Kd.R_elder' (by (with_reducible repeat (first | apply Kd.R_alloc | apply Kd.R_drewN | apply Kd.R_drew)); exact (Q_HO198 h0_)) (Kd.R_base ho47) hb) (fun _ h_ => by first | trivial | exact h_ | exact h_.1))
                have z_HI172_e7 := fun (h0_ : b 7 = true) => (show IsS75 w w46 g172 t170 t203 from by first | exact (IsS75.below (by repeat (first | (with_reducible first | exact (Q_HI172_e7 h0_) | apply IsS75.alloc | apply IsS75.drewN | apply IsS75.drew | apply IsS75.set_1) | exact (Q_HI172_e7 h0_))) hb))
                clear HO175
                clear HB
                have HO175 := n0_
                have HO201 := n1_
                have HB := n3_
                clear n0_ n1_ n3_
                clear hb ho47
                obtain ⟨Ao48, co48, eo48⟩ := Kd.R_slice HO201.out
                subst eo48
                obtain ⟨ado48, fo48, _⟩ := Kd.at_int (Kd.R_reads' HO201.out).2.2 0 (by decide) (by rw [Ny199.out]; simp)
                cases fo48
                refine hK.out _ _ ⟨v197, adz_v197, .slice (some ado48) y199.length co48, ado48, m8_, m10_, (by rw [ha.out]; exact putSel_upk 3 hb_ rfl rfl rfl), (by (with_reducible repeat (first | apply Kd.R_alloc | apply Kd.R_drewN | apply Kd.R_drew)); exact HO175.out), z_HI172, (by repeat (first | (with_reducible first | exact HB.out | apply below_alloc | apply pw_below_drewN | apply below_drew1) | exact HB.out)), z_HI172_e2, z_HO198, Q_HA_HO198, fun _ => (by (with_reducible repeat (first | apply Kd.R_alloc | apply Kd.R_drewN | apply Kd.R_drew)); exact HO201.out), fun _ => ⟨_, rfl⟩, z_HI172_e7, fun h0_ => absurd ((hoff 8 (by kernel_rfl)).symm.trans h0_) (by decide), fun h0_ => absurd ((hoff 10 (by kernel_rfl)).symm.trans h0_) (by decide)⟩
              refine steps_cons ?_ ?_
              · rintro b a w' ⟨v197, adz_v197, v200, adz_v200, m8_, m10_, ha, Q_HO175, Q_HI172, Q_HB, Q_HI172_e2, Q_HO198, Q_HA_HO198, Q_HO201, Q_HA_HO201, Q_HI172_e7, Q_X8_, Q_X10_⟩ hb_ hon hoff
                refine ⟨_, rfl, fun K hK => ?_⟩
                have e33 : a.tmps[33]? = some (.pointer (some ⟨g172, 0, none⟩)) := by rw [ha]; exact (putSel_off rfl).trans rfl
                replace ha := Aside0.mk ha
                have HO175 := Aside0.mk Q_HO175
                have HB := Aside0.mk Q_HB
                have HI172 := Aside0.mk (Q_HI172_e2 (hon 2 (by kernel_rfl)) hb_)
                refine goes_ Try.func40 (by kernel_rfl) rfl #[.pointer (some ⟨g172, 0, none⟩), .int .i64 7] (by rfl) rfl rfl (by first | (simp only [List.map_toArray, List.map_cons, List.map_nil, Act.eval, Array.getD_eq_getD_getElem?, Option.getD_some, e33]; done) | (simp only [List.map_toArray, List.map_cons, List.map_nil, Act.eval, Array.getD_eq_getD_getElem?, Option.getD_some, e33]; rfl)) ?_
                with_reducible refine (spec_l20Rd_pick.calls k g172 t170 t195 7 t202 t203 w _ ?side1 ?side2 A37.out).mono ?_
                (case side1 => repeat (first | (with_reducible first | exact HI172.out | apply IsS75.alloc | apply IsS75.drewN | apply IsS75.drew | apply IsS75.set_1) | exact HI172.out))
                (case side2 => repeat (first | (with_reducible first | exact HB.out | apply below_alloc | apply pw_below_drewN | apply below_drew1 | refine below_set ?_ (IsS75.ge HI172.out)) | exact HB.out))
                rintro e w48 ⟨rfl, hi, hb, hk⟩
                refine ⟨_, rfl, ?_⟩
                have n0_ := Aside0.mk (Kd.R_mono (Kd.R_keep (IsS75.apart (show IsS75 w _ g172 t170 t195 from by repeat (first | (with_reducible first | exact HI172.out | apply IsS75.alloc | apply IsS75.drewN | apply IsS75.drew | apply IsS75.set_1) | exact HI172.out)) (by (with_reducible repeat (first | apply Kd.R_alloc | apply Kd.R_drewN | apply Kd.R_drew)); exact HO175.out) (by decide)) hk (fun _ h => h.2)) (fun _ h => h.1))
                have n1_ := Aside0.mk (hb)
                have n2_ := Aside0.mk (hi)
                have z_HO198 := fun (h0_ : b 4 = true) => (show Kd.R (Kd.int .i64) 3 w48 w.heap.size (fun _ => True) v197 y196 from by first | exact (Kd.R_mono (Kd.R_keep (IsS75.apart (show IsS75 w _ g172 t170 t195 from by repeat (first | (with_reducible first | exact HI172.out | apply IsS75.alloc | apply IsS75.drewN | apply IsS75.drew | apply IsS75.set_1) | exact HI172.out)) (by (with_reducible repeat (first | apply Kd.R_alloc | apply Kd.R_drewN | apply Kd.R_drew)); exact (Q_HO198 h0_)) (by decide)) hk (fun _ h => h.2)) (fun _ h => h.1)) | exact Kd.R_mono (Kd.R_mono (Kd.R_keep (IsS75.apart (show IsS75 w _ g172 t170 t195 from by repeat (first | (with_reducible first | exact HI172.out | apply IsS75.alloc | apply IsS75.drewN | apply IsS75.drew | apply IsS75.set_1) | exact HI172.out)) (by (with_reducible repeat (first | apply Kd.R_alloc | apply Kd.R_drewN | apply Kd.R_drew)); exact (Q_HO198 h0_)) (by decide)) hk (fun _ h => h.2)) (fun _ h => h.1)) (fun _ h_ => by first | trivial | exact h_ | exact h_.1))
                have z_HO201 := fun (h0_ : b 5 = true) => (show Kd.R (Kd.int .i64) 3 w48 w.heap.size (fun _ => True) v200 y199 from by first | exact (Kd.R_mono (Kd.R_keep (IsS75.apart (show IsS75 w _ g172 t170 t195 from by repeat (first | (with_reducible first | exact HI172.out | apply IsS75.alloc | apply IsS75.drewN | apply IsS75.drew | apply IsS75.set_1) | exact HI172.out)) (by (with_reducible repeat (first | apply Kd.R_alloc | apply Kd.R_drewN | apply Kd.R_drew)); exact (Q_HO201 h0_)) (by decide)) hk (fun _ h => h.2)) (fun _ h => h.1)) | exact Kd.R_mono (Kd.R_mono (Kd.R_keep (IsS75.apart (show IsS75 w _ g172 t170 t195 from by repeat (first | (with_reducible first | exact HI172.out | apply IsS75.alloc | apply IsS75.drewN | apply IsS75.drew | apply IsS75.set_1) | exact HI172.out)) (by (with_reducible repeat (first | apply Kd.R_alloc | apply Kd.R_drewN | apply Kd.R_drew)); exact (Q_HO201 h0_)) (by decide)) hk (fun _ h => h.2)) (fun _ h => h.1)) (fun _ h_ => by first | trivial | exact h_ | exact h_.1))
                clear HO175
                clear HB
                clear HI172
                have HO175 := n0_
                have HB := n1_
                have HI172 := n2_
                clear n0_ n1_ n2_
                (try clear hb)
                (try clear hb2)
                (try clear hk)
                (try clear hi)
                refine hK.out _ _ ⟨v197, adz_v197, v200, adz_v200, m8_, m10_, (by rw [ha.out]; exact putSel_upk 4 hb_ rfl rfl rfl), (by (with_reducible repeat (first | apply Kd.R_alloc | apply Kd.R_drewN | apply Kd.R_drew)); exact HO175.out), fun h0_ => absurd ((hon 2 (by kernel_rfl)).symm.trans h0_) (by decide), (by repeat (first | (with_reducible first | exact HB.out | apply below_alloc | apply pw_below_drewN | apply below_drew1 | refine below_set ?_ (IsS75.ge HI172.out)) | exact HB.out)), fun _ h1_ => absurd ((up_self b 7).symm.trans h1_) (by decide), z_HO198, Q_HA_HO198, z_HO201, Q_HA_HO201, fun _ => (by repeat (first | (with_reducible first | exact HI172.out | apply IsS75.alloc | apply IsS75.drewN | apply IsS75.drew | apply IsS75.set_1) | exact HI172.out)), fun h0_ => absurd ((hoff 8 (by kernel_rfl)).symm.trans h0_) (by decide), fun h0_ => absurd ((hoff 10 (by kernel_rfl)).symm.trans h0_) (by decide)⟩
              refine steps_cons ?_ ?_
              · rintro b a w' ⟨v197, adz_v197, v200, adz_v200, m8_, m10_, ha, Q_HO175, Q_HI172, Q_HB, Q_HI172_e2, Q_HO198, Q_HA_HO198, Q_HO201, Q_HA_HO201, Q_HI172_e7, Q_X8_, Q_X10_⟩ hb_ hon hoff
                refine ⟨_, rfl, fun K hK => ?_⟩
                have e32 : a.tmps[32]? = some (v200) := by rw [ha]; exact putSel_on (e := (5, 32, v200)) 3 rfl rfl (hon 5 (by kernel_rfl)) rfl
                have e34 : a.tmps[34]? = some (.int .i64 t202) := by rw [ha]; exact putSel_on (e := (7, 34, .int .i64 t202)) 4 rfl rfl (hon 7 (by kernel_rfl)) rfl
                replace ha := Aside0.mk ha
                have HO175 := Aside0.mk Q_HO175
                have HB := Aside0.mk Q_HB
                have HO201 := Aside0.mk (Q_HO201 (hon 5 (by kernel_rfl)))
                have HA_HO201 := Aside0.mk (Q_HA_HO201 (hon 5 (by kernel_rfl)))
                have HI172 := Aside0.mk (Q_HI172_e7 (hon 7 (by kernel_rfl)))
                obtain ⟨c_, hv_⟩ := HA_HO201.out
                rw [hv_] at e32
                refine value_ (w1 := w') (v := .pointer (some (adz_v200.add (t202).toNat))) (by rfl) rfl ?_ ?_
                · go_simp
                  (try simp only [i64_w])
                  try rfl
                refine hK.out _ _ ⟨v197, adz_v197, v200, adz_v200, (.pointer (some (adz_v200.add (t202).toNat))), m10_, (by rw [ha.out]; exact putSel_upk 5 hb_ rfl rfl rfl), Q_HO175, fun h0_ => absurd ((hon 2 (by kernel_rfl)).symm.trans h0_) (by decide), Q_HB, fun _ h1_ => absurd ((hon 7 (by kernel_rfl)).symm.trans h1_) (by decide), Q_HO198, Q_HA_HO198, Q_HO201, Q_HA_HO201, Q_HI172_e7, fun _ => rfl, fun h0_ => absurd ((hoff 10 (by kernel_rfl)).symm.trans h0_) (by decide)⟩
              refine steps_cons ?_ ?_
              · rintro b a w' ⟨v197, adz_v197, v200, adz_v200, m8_, m10_, ha, Q_HO175, Q_HI172, Q_HB, Q_HI172_e2, Q_HO198, Q_HA_HO198, Q_HO201, Q_HA_HO201, Q_HI172_e7, Q_X8_, Q_X10_⟩ hb_ hon hoff
                refine ⟨_, rfl, fun K hK => ?_⟩
                have e35 : a.tmps[35]? = some (m8_) := by rw [ha]; exact putSel_on (e := (8, 35, m8_)) 5 rfl rfl (hon 8 (by kernel_rfl)) rfl
                rw [Q_X8_ (hon 8 (by kernel_rfl))] at e35
                replace ha := Aside0.mk ha
                have HO175 := Aside0.mk Q_HO175
                have HB := Aside0.mk Q_HB
                have HO201 := Aside0.mk (Q_HO201 (hon 5 (by kernel_rfl)))
                have HA_HO201 := Aside0.mk (Q_HA_HO201 (hon 5 (by kernel_rfl)))
                have HI172 := Aside0.mk (Q_HI172_e7 (hon 7 (by kernel_rfl)))
                obtain ⟨c_, hv_⟩ := HA_HO201.out
                have hF_ := HO201.out
                rw [hv_] at hF_
                obtain ⟨ad_, ea_, hx_⟩ := Kd.at_int (Kd.R_reads' hF_).2.2 t202 (of_eq_true pi204) (of_eq_true qi204)
                cases ea_
                refine value_ (w1 := w') (v := .int .i64 (rd y199 t202)) (by rfl) rfl ?_ ?_
                · go_simp
                  (try simp only [i64_w])
                  try rfl
                refine hK.out _ _ ⟨v197, adz_v197, v200, adz_v200, m8_, m10_, (by rw [ha.out]; exact putSel_upk 6 hb_ rfl rfl rfl), Q_HO175, fun h0_ => absurd ((hon 2 (by kernel_rfl)).symm.trans h0_) (by decide), Q_HB, fun _ h1_ => absurd ((hon 7 (by kernel_rfl)).symm.trans h1_) (by decide), Q_HO198, Q_HA_HO198, Q_HO201, Q_HA_HO201, Q_HI172_e7, Q_X8_, fun h0_ => absurd ((hoff 10 (by kernel_rfl)).symm.trans h0_) (by decide)⟩
              refine steps_cons ?_ ?_
              · rintro b a w' ⟨v197, adz_v197, v200, adz_v200, m8_, m10_, ha, Q_HO175, Q_HI172, Q_HB, Q_HI172_e2, Q_HO198, Q_HA_HO198, Q_HO201, Q_HA_HO201, Q_HI172_e7, Q_X8_, Q_X10_⟩ hb_ hon hoff
                refine ⟨_, rfl, fun K hK => ?_⟩
                have e31 : a.tmps[31]? = some (v197) := by rw [ha]; exact putSel_on (e := (4, 31, v197)) 2 rfl rfl (hon 4 (by kernel_rfl)) rfl
                have e36 : a.tmps[36]? = some (.int .i64 (rd y199 t202)) := by rw [ha]; exact putSel_on (e := (9, 36, .int .i64 (rd y199 t202))) 6 rfl rfl (hon 9 (by kernel_rfl)) rfl
                replace ha := Aside0.mk ha
                have HO175 := Aside0.mk Q_HO175
                have HB := Aside0.mk Q_HB
                have HO198 := Aside0.mk (Q_HO198 (hon 4 (by kernel_rfl)))
                have HA_HO198 := Aside0.mk (Q_HA_HO198 (hon 4 (by kernel_rfl)))
                have HO201 := Aside0.mk (Q_HO201 (hon 5 (by kernel_rfl)))
                have HA_HO201 := Aside0.mk (Q_HA_HO201 (hon 5 (by kernel_rfl)))
                have HI172 := Aside0.mk (Q_HI172_e7 (hon 7 (by kernel_rfl)))
                obtain ⟨c_, hv_⟩ := HA_HO198.out
                rw [hv_] at e31
                refine value_ (w1 := w') (v := .pointer (some (adz_v197.add ((rd y199 t202)).toNat))) (by rfl) rfl ?_ ?_
                · go_simp
                  (try simp only [i64_w])
                  try rfl
                refine hK.out _ _ ⟨v197, adz_v197, v200, adz_v200, m8_, (.pointer (some (adz_v197.add ((rd y199 t202)).toNat))), (by rw [ha.out]; exact putSel_upk 7 hb_ rfl rfl rfl), Q_HO175, fun h0_ => absurd ((hon 2 (by kernel_rfl)).symm.trans h0_) (by decide), Q_HB, fun _ h1_ => absurd ((hon 7 (by kernel_rfl)).symm.trans h1_) (by decide), Q_HO198, Q_HA_HO198, Q_HO201, Q_HA_HO201, Q_HI172_e7, Q_X8_, fun _ => rfl⟩
              refine steps_cons ?_ ?_
              · rintro b a w' ⟨v197, adz_v197, v200, adz_v200, m8_, m10_, ha, Q_HO175, Q_HI172, Q_HB, Q_HI172_e2, Q_HO198, Q_HA_HO198, Q_HO201, Q_HA_HO201, Q_HI172_e7, Q_X8_, Q_X10_⟩ hb_ hon hoff
                refine ⟨_, rfl, fun K hK => ?_⟩
                have e37 : a.tmps[37]? = some (m10_) := by rw [ha]; exact putSel_on (e := (10, 37, m10_)) 7 rfl rfl (hon 10 (by kernel_rfl)) rfl
                rw [Q_X10_ (hon 10 (by kernel_rfl))] at e37
                replace ha := Aside0.mk ha
                have HO175 := Aside0.mk Q_HO175
                have HB := Aside0.mk Q_HB
                have HO198 := Aside0.mk (Q_HO198 (hon 4 (by kernel_rfl)))
                have HA_HO198 := Aside0.mk (Q_HA_HO198 (hon 4 (by kernel_rfl)))
                have HO201 := Aside0.mk (Q_HO201 (hon 5 (by kernel_rfl)))
                have HA_HO201 := Aside0.mk (Q_HA_HO201 (hon 5 (by kernel_rfl)))
                have HI172 := Aside0.mk (Q_HI172_e7 (hon 7 (by kernel_rfl)))
                obtain ⟨c_, hv_⟩ := HA_HO198.out
                have hF_ := HO198.out
                rw [hv_] at hF_
                obtain ⟨ad_, ea_, hx_⟩ := Kd.at_int (Kd.R_reads' hF_).2.2 (rd y199 t202) (of_eq_true pi205) (of_eq_true qi205)
                cases ea_
                refine value_ (w1 := w') (v := .int .i64 (rd y196 (rd y199 t202))) (by rfl) rfl ?_ ?_
                · go_simp
                  (try simp only [i64_w])
                  try rfl
                refine hK.out _ _ ⟨v197, adz_v197, v200, adz_v200, m8_, m10_, (by rw [ha.out]; exact putSel_upk 8 hb_ rfl rfl rfl), Q_HO175, fun h0_ => absurd ((hon 2 (by kernel_rfl)).symm.trans h0_) (by decide), Q_HB, fun _ h1_ => absurd ((hon 7 (by kernel_rfl)).symm.trans h1_) (by decide), Q_HO198, Q_HA_HO198, Q_HO201, Q_HA_HO201, Q_HI172_e7, Q_X8_, Q_X10_⟩
              refine steps_cons ?_ ?_
              · rintro b a w' ⟨v197, adz_v197, v200, adz_v200, m8_, m10_, ha, Q_HO175, Q_HI172, Q_HB, Q_HI172_e2, Q_HO198, Q_HA_HO198, Q_HO201, Q_HA_HO201, Q_HI172_e7, Q_X8_, Q_X10_⟩ hb_ hon hoff
                refine ⟨_, rfl, fun K hK => ?_⟩
                have e27 : a.tmps[27]? = some (v174) := by rw [ha]; exact (putSel_off rfl).trans rfl
                replace ha := Aside0.mk ha
                have HO175 := Aside0.mk Q_HO175
                have HB := Aside0.mk Q_HB
                have HI172 := Aside0.mk (Q_HI172_e7 (hon 7 (by kernel_rfl)))
                refine value_ (w1 := w') (v := v174) (by rfl) rfl ?_ ?_
                · go_simp
                  (try simp only [i64_w])
                  try rfl
                refine hK.out _ _ ⟨v197, adz_v197, v200, adz_v200, m8_, m10_, (by rw [ha.out]; exact putSel_upk 9 hb_ rfl rfl rfl), Q_HO175, fun h0_ => absurd ((hon 2 (by kernel_rfl)).symm.trans h0_) (by decide), Q_HB, fun _ h1_ => absurd ((hon 7 (by kernel_rfl)).symm.trans h1_) (by decide), Q_HO198, Q_HA_HO198, Q_HO201, Q_HA_HO201, Q_HI172_e7, Q_X8_, Q_X10_⟩
              refine steps_cons ?_ ?_
              · rintro b a w' ⟨v197, adz_v197, v200, adz_v200, m8_, m10_, ha, Q_HO175, Q_HI172, Q_HB, Q_HI172_e2, Q_HO198, Q_HA_HO198, Q_HO201, Q_HA_HO201, Q_HI172_e7, Q_X8_, Q_X10_⟩ hb_ hon hoff
                refine ⟨_, rfl, fun K hK => ?_⟩
                have e38 : a.tmps[38]? = some (.int .i64 (rd y196 (rd y199 t202))) := by rw [ha]; exact putSel_on (e := (11, 38, .int .i64 (rd y196 (rd y199 t202)))) 8 rfl rfl (hon 11 (by kernel_rfl)) rfl
                replace ha := Aside0.mk ha
                have HO175 := Aside0.mk Q_HO175
                have HB := Aside0.mk Q_HB
                have HO198 := Aside0.mk (Q_HO198 (hon 4 (by kernel_rfl)))
                have HA_HO198 := Aside0.mk (Q_HA_HO198 (hon 4 (by kernel_rfl)))
                have HO201 := Aside0.mk (Q_HO201 (hon 5 (by kernel_rfl)))
                have HA_HO201 := Aside0.mk (Q_HA_HO201 (hon 5 (by kernel_rfl)))
                have HI172 := Aside0.mk (Q_HI172_e7 (hon 7 (by kernel_rfl)))
                refine value_ (w1 := w') (v := .int .i64 (rd y196 (rd y199 t202))) (by rfl) rfl ?_ ?_
                · go_simp
                  (try simp only [i64_w])
                  try rfl
                refine hK.out _ _ ⟨v197, adz_v197, v200, adz_v200, m8_, m10_, (by rw [ha.out]; exact putSel_upk 10 hb_ rfl rfl rfl), Q_HO175, fun h0_ => absurd ((hon 2 (by kernel_rfl)).symm.trans h0_) (by decide), Q_HB, fun _ h1_ => absurd ((hon 7 (by kernel_rfl)).symm.trans h1_) (by decide), Q_HO198, Q_HA_HO198, Q_HO201, Q_HA_HO201, Q_HI172_e7, Q_X8_, Q_X10_⟩
              exact steps_nil
            rintro b a w54 hall ⟨v197, adz_v197, v200, adz_v200, m8_, m10_, ha, Q_HO175, Q_HI172, Q_HB, Q_HI172_e2, Q_HO198, Q_HA_HO198, Q_HO201, Q_HA_HO201, Q_HI172_e7, Q_X8_, Q_X10_⟩
            clear HB HI172 HO175
            have hb2_ := hall 2 (by kernel_rfl)
            have hb3_ := hall 3 (by kernel_rfl)
            have hb4_ := hall 4 (by kernel_rfl)
            have hb5_ := hall 5 (by kernel_rfl)
            have hb7_ := hall 7 (by kernel_rfl)
            have hb8_ := hall 8 (by kernel_rfl)
            have hb9_ := hall 9 (by kernel_rfl)
            have hb10_ := hall 10 (by kernel_rfl)
            have hb11_ := hall 11 (by kernel_rfl)
            have hb12_ := hall 12 (by kernel_rfl)
            have hb13_ := hall 13 (by kernel_rfl)
            subst ha
            obtain rfl := Q_X8_ hb8_
            obtain rfl := Q_X10_ hb10_
            simp only [putSel, hb2_, hb3_, hb4_, hb5_, hb7_, hb8_, hb9_, hb10_, hb11_, hb12_, hb13_, if_true, Act.put, List.setIfInBounds_toArray, List.set_cons_zero, List.set_cons_succ]
            have HO175 := Aside0.mk Q_HO175
            clear Q_HO175
            clear Q_HI172
            have HB := Aside0.mk Q_HB
            clear Q_HB
            clear Q_HI172_e2
            have HO198 := Aside0.mk (Q_HO198 hb4_)
            clear Q_HO198
            have HA_HO198 := Aside0.mk (Q_HA_HO198 hb4_)
            clear Q_HA_HO198
            have HO201 := Aside0.mk (Q_HO201 hb5_)
            clear Q_HO201
            have HA_HO201 := Aside0.mk (Q_HA_HO201 hb5_)
            clear Q_HA_HO201
            have HI172 := Aside0.mk (Q_HI172_e7 hb7_)
            clear Q_HI172_e7
            clear hall hb2_ hb3_ hb4_ hb5_ hb7_ hb8_ hb9_ hb10_ hb11_ hb12_ hb13_
            obtain ⟨co55, eo55⟩ := HA_HO198.out
            clear HA_HO198
            subst eo55
            obtain ⟨co56, eo56⟩ := HA_HO201.out
            clear HA_HO201
            subst eo56
            try go_wp2
            go_ret2
            exact ⟨_, by first | rfl | (simp [errW_none, errW_some] <;> rfl) | (simp [*, errW_none, errW_some] <;> rfl), by (with_reducible repeat (first | apply Kd.R_alloc | apply Kd.R_drewN | apply Kd.R_drew)); exact HO175.out, by repeat (first | (with_reducible first | exact HB.out | apply below_alloc | apply pw_below_drewN | apply below_drew1 | refine below_set ?_ (IsS75.ge HI172.out)) | exact HB.out)⟩
          · rw [if_neg c41] at H
            exact absurd H (by simp)
        · rw [if_neg c40] at H
          exact absurd H (by simp)
      · rw [if_neg c39] at H
        exact absurd H (by simp)
    · rw [if_neg c38] at H
      exact absurd H (by simp)

end Go.Proofs.Ytnflmekjeehgaaa.PFnSongOctave
