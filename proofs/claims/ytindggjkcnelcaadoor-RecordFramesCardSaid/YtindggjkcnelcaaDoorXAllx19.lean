/- Printed by this session's program (wip/print) out of the translation, for the statement named in the file's name. -/
import Derived.Test.YtindggjkcnelcaaDoorXAllx0
import Derived.Test.YtindggjkcnelcaaDoorXAllx14
import Derived.Test.YtindggjkcnelcaaDoorXAllx15
import Derived.Test.YtindggjkcnelcaaDoorXAllx16
import Derived.Test.YtindggjkcnelcaaDoorXAllx17
import Derived.Test.YtindggjkcnelcaaDoorXAllx18
namespace Go.Proofs.YtindggjkcnelcaaDoor.XAll
open Go.RowKit Go.Proofs.YtindggjkcnelcaaDoorW.PrintWords Go.Proofs.YtindggjkcnelcaaDoorW.PrintLast Go.Proofs.YtindggjkcnelcaaDoorW.PrintMore Go.Proofs.YtindggjkcnelcaaDoor.As
attribute [local go_sem] max2_int min2_int max_two min_two max_three min_three max_four min_four   -- for this text's walks alone
set_option linter.unusedVariables false
set_option linter.unusedSimpArgs false

/-! ### barbicanlaw10_RecordFrames: function 5 -/
def barbicanlaw10_RecordFrames.j0 : Nat → List Int → Option Int → List Int → Int → Int → Option Int → Option Int → Int → Option (Bool)
  | 0, _, _, _, _, _, _, _, _ => none
  | k + 1, x7, x8, x9, x10, x11, x12, x14, x15 => if (strOfNums x7).toList = (strOfNums x9).toList then ((barbicanlaw10_num.f x8).bind fun t295 => (if t295 = x10 then (if x11 = (x9.length : Int) then ((barbicanlaw10_num.f x12).bind fun t296 => (if t296 = x10 then ((barbicanlaw10_num.f x14).bind fun t297 => (if t297 = x15 then ((barbicanlaw10_sure.f k).bind fun t298 => (some t298)) else (some false))) else (some false))) else (some false)) else (some false))) else (some false)
def barbicanlaw10_RecordFrames.f (k : Nat) (a0 : Int) (l1 : List Int) (a2 : Int) : Option (Bool) := (barbicanlaw10_twin.f l1).bind fun t280 => ((record_Frame.f k a0 t280).bind fun bt283 => ((barbicanref10_Frame.f k a0 l1).bind fun bt287 => ((record_Len.f k a0 (l1.length : Int)).bind fun bt291 => ((record_Len.f k a0 a2).bind fun bt293 => (if a2 < 1 then (barbicanlaw10_RecordFrames.j0 k bt283.1 bt283.2 bt287.1 bt287.2 bt291.1 bt291.2 bt293.2 1) else (if a2 > 1048576 then (barbicanlaw10_RecordFrames.j0 k bt283.1 bt283.2 bt287.1 bt287.2 bt291.1 bt291.2 bt293.2 2) else (barbicanlaw10_RecordFrames.j0 k bt283.1 bt283.2 bt287.1 bt287.2 bt291.1 bt291.2 bt293.2 0)))))))
theorem barbicanlaw10_RecordFrames.mono_l : ∀ k, (∀ y0 y1 y2 y3 y4 y5 y6 y7, LeO (barbicanlaw10_RecordFrames.j0 k y0 y1 y2 y3 y4 y5 y6 y7) (barbicanlaw10_RecordFrames.j0 (k + 1) y0 y1 y2 y3 y4 y5 y6 y7))
  | 0 => fun _ _ _ _ _ _ _ _ r h => by simp [barbicanlaw10_RecordFrames.j0] at h
  | k + 1 => by
    have ih0 := barbicanlaw10_RecordFrames.mono_l k
    · intro y0 y1 y2 y3 y4 y5 y6 y7
      unfold barbicanlaw10_RecordFrames.j0
      repeat' first
      | (with_reducible exact ih0 _ _ _ _ _ _ _ _)
      | (with_reducible exact barbicanlaw10_sure.mono _)
      | (with_reducible exact barbicanref10_Frame.mono _ _ _)
      | (with_reducible exact record_Frame.mono _ _ _)
      | (with_reducible exact record_Len.mono _ _ _)
      | (with_reducible exact LeO.refl _)
      | (with_reducible exact LeO.none _)
      | (with_reducible refine LeO.ite ?_ ?_)
      | (with_reducible refine LeO.bind ?_ (fun _ => ?_))
      | exact ih0 _ _ _ _ _ _ _ _
      | exact barbicanlaw10_sure.mono _
      | exact barbicanref10_Frame.mono _ _ _
      | exact record_Frame.mono _ _ _
      | exact record_Len.mono _ _ _
      | exact LeO.none _
      | refine LeO.ite ?_ ?_
      | refine LeO.bind ?_ (fun _ => ?_)
theorem barbicanlaw10_RecordFrames.mono : ∀ a0 a1 a2 k, LeO (barbicanlaw10_RecordFrames.f k a0 a1 a2) (barbicanlaw10_RecordFrames.f (k + 1) a0 a1 a2) := by
  intro a0 a1 a2 k
  have ih0 := barbicanlaw10_RecordFrames.mono_l k
  unfold barbicanlaw10_RecordFrames.f
  repeat' first
      | (with_reducible exact ih0 _ _ _ _ _ _ _ _)
      | (with_reducible exact barbicanlaw10_sure.mono _)
      | (with_reducible exact barbicanref10_Frame.mono _ _ _)
      | (with_reducible exact record_Frame.mono _ _ _)
      | (with_reducible exact record_Len.mono _ _ _)
      | (with_reducible exact LeO.refl _)
      | (with_reducible exact LeO.none _)
      | (with_reducible refine LeO.ite ?_ ?_)
      | (with_reducible refine LeO.bind ?_ (fun _ => ?_))
      | exact ih0 _ _ _ _ _ _ _ _
      | exact barbicanlaw10_sure.mono _
      | exact barbicanref10_Frame.mono _ _ _
      | exact record_Frame.mono _ _ _
      | exact record_Len.mono _ _ _
      | exact LeO.none _
      | refine LeO.ite ?_ ?_
      | refine LeO.bind ?_ (fun _ => ?_)
set_option maxHeartbeats 8000000 in
set_option maxRecDepth 100000 in
theorem barbicanlaw10_RecordFrames.calls (k : Nat) (a0 : Int) (A1 : Option Addr) (c1 : Nat) (l1 : List Int) (a2 : Int) (r : Bool) (w : World) (hr1 : Kd.C (Kd.int .u8) w A1 l1.length l1) (hc1 : l1.length ≤ c1) (hG : GE w) (h : barbicanlaw10_RecordFrames.f k a0 l1 a2 = some r) (hT : Aside0 (r = true)) :
    Calls Tryd.prog 5 #[.int .u64 a0, .slice A1 l1.length c1, .int .i64 a2] w fun e w' => e = .returned (.bool r) ∧ Below w.heap.size w w' := by
  have HR1 := Aside0.mk hr1
  have HC1 := Aside0.mk hc1
  clear hr1 hc1
  have HG := Aside0.mk hG
  clear hG
  have HB := Aside0.mk (Below.refl w.heap.size w)
  have H : ((barbicanlaw10_twin.f l1).bind fun t280 => ((record_Frame.f k a0 t280).bind fun bt283 => ((barbicanref10_Frame.f k a0 l1).bind fun bt287 => ((record_Len.f k a0 (l1.length : Int)).bind fun bt291 => ((record_Len.f k a0 a2).bind fun bt293 => (if a2 < 1 then (barbicanlaw10_RecordFrames.j0 k bt283.1 bt283.2 bt287.1 bt287.2 bt291.1 bt291.2 bt293.2 1) else (if a2 > 1048576 then (barbicanlaw10_RecordFrames.j0 k bt283.1 bt283.2 bt287.1 bt287.2 bt291.1 bt291.2 bt293.2 2) else (barbicanlaw10_RecordFrames.j0 k bt283.1 bt283.2 bt287.1 bt287.2 bt291.1 bt291.2 bt293.2 0)))))))) = some r := h
  clear h
  replace H := Option.bind_eq_some_iff.mp H
  obtain ⟨t280, A40, H⟩ := H
  replace H : ((record_Frame.f k a0 t280).bind fun bt283 => ((barbicanref10_Frame.f k a0 l1).bind fun bt287 => ((record_Len.f k a0 (l1.length : Int)).bind fun bt291 => ((record_Len.f k a0 a2).bind fun bt293 => (if a2 < 1 then (barbicanlaw10_RecordFrames.j0 k bt283.1 bt283.2 bt287.1 bt287.2 bt291.1 bt291.2 bt293.2 1) else (if a2 > 1048576 then (barbicanlaw10_RecordFrames.j0 k bt283.1 bt283.2 bt287.1 bt287.2 bt291.1 bt291.2 bt293.2 2) else (barbicanlaw10_RecordFrames.j0 k bt283.1 bt283.2 bt287.1 bt287.2 bt291.1 bt291.2 bt293.2 0))))))) = some r := H
  have A4 := Aside0.mk A40
  clear A40
  replace H := Option.bind_eq_some_iff.mp H
  obtain ⟨⟨t283, t284⟩, A50, H⟩ := H
  replace H : ((barbicanref10_Frame.f k a0 l1).bind fun bt287 => ((record_Len.f k a0 (l1.length : Int)).bind fun bt291 => ((record_Len.f k a0 a2).bind fun bt293 => (if a2 < 1 then (barbicanlaw10_RecordFrames.j0 k t283 t284 bt287.1 bt287.2 bt291.1 bt291.2 bt293.2 1) else (if a2 > 1048576 then (barbicanlaw10_RecordFrames.j0 k t283 t284 bt287.1 bt287.2 bt291.1 bt291.2 bt293.2 2) else (barbicanlaw10_RecordFrames.j0 k t283 t284 bt287.1 bt287.2 bt291.1 bt291.2 bt293.2 0)))))) = some r := H
  have A5 := Aside0.mk A50
  clear A50
  replace H := Option.bind_eq_some_iff.mp H
  obtain ⟨⟨t287, t288⟩, A60, H⟩ := H
  replace H : ((record_Len.f k a0 (l1.length : Int)).bind fun bt291 => ((record_Len.f k a0 a2).bind fun bt293 => (if a2 < 1 then (barbicanlaw10_RecordFrames.j0 k t283 t284 t287 t288 bt291.1 bt291.2 bt293.2 1) else (if a2 > 1048576 then (barbicanlaw10_RecordFrames.j0 k t283 t284 t287 t288 bt291.1 bt291.2 bt293.2 2) else (barbicanlaw10_RecordFrames.j0 k t283 t284 t287 t288 bt291.1 bt291.2 bt293.2 0))))) = some r := H
  have A6 := Aside0.mk A60
  clear A60
  replace H := Option.bind_eq_some_iff.mp H
  obtain ⟨⟨t291, t292⟩, A70, H⟩ := H
  replace H : ((record_Len.f k a0 a2).bind fun bt293 => (if a2 < 1 then (barbicanlaw10_RecordFrames.j0 k t283 t284 t287 t288 t291 t292 bt293.2 1) else (if a2 > 1048576 then (barbicanlaw10_RecordFrames.j0 k t283 t284 t287 t288 t291 t292 bt293.2 2) else (barbicanlaw10_RecordFrames.j0 k t283 t284 t287 t288 t291 t292 bt293.2 0)))) = some r := H
  have A7 := Aside0.mk A70
  clear A70
  replace H := Option.bind_eq_some_iff.mp H
  obtain ⟨⟨t293, t294⟩, A80, H⟩ := H
  replace H : (if a2 < 1 then (barbicanlaw10_RecordFrames.j0 k t283 t284 t287 t288 t291 t292 t294 1) else (if a2 > 1048576 then (barbicanlaw10_RecordFrames.j0 k t283 t284 t287 t288 t291 t292 t294 2) else (barbicanlaw10_RecordFrames.j0 k t283 t284 t287 t288 t291 t292 t294 0))) = some r := H
  have A8 := Aside0.mk A80
  clear A80
  have HC9 := Aside0.mk H
  clear H
  go_enter Tryd.func5, Tryd.ntmps5
  go_upto_block 0 with (first | ((with_reducible refine gate_callee (f := 16) rfl ?_); refine goesL_ (some 19) rfl rfl Tryd.func16 (by kernel_rfl) rfl #[.slice A1 l1.length c1] rfl (by (try simp only [List.map_toArray, List.map_cons, List.map_nil]); first | done | rfl | (simp only [List.length_drop, List.length_take]; rfl)) ?_; (with_reducible refine (barbicanlaw10_twin.calls _ _ l1 t280 _ ?side1 ?side2 A4.out).mono ?_); (case side1 => repeat (first | exact HR1.out | (with_reducible refine Kd.C_alloc ?_ _) | (with_reducible refine Kd.C_drewN ?_ _) | (with_reducible refine Kd.C_drew ?_))); (case side2 => exact HC1.out); rintro e w10 ⟨v281, rfl, ho0, hb⟩; refine ⟨_, rfl, ?_⟩; have n0_ := Aside0.mk (Kd.R_lower ho0 (below_size (by repeat (first | (with_reducible first | exact HB.out | apply below_alloc | apply pw_below_drewN | apply below_drew1) | exact HB.out | exact below_undrew HB.out)))); have n1_ := Aside0.mk (below_step (by repeat (first | (with_reducible first | exact HB.out | apply below_alloc | apply pw_below_drewN | apply below_drew1) | exact HB.out | exact below_undrew HB.out)) hb); clear HB; have HO282 := n0_; have HB := n1_; clear n0_ n1_; (try clear hb); (try clear hb2); (try clear hk); (try clear hi); (try clear ho0); obtain ⟨Ao11, co11, eo11⟩ := Kd.R_slice HO282.out; subst eo11) | ((with_reducible refine gate_callee (f := 15) rfl ?_); refine goesL_ (some 20) rfl rfl Tryd.func15 (by kernel_rfl) rfl #[.int .u64 a0, .slice Ao11 t280.length co11] rfl (by (try simp only [List.map_toArray, List.map_cons, List.map_nil]); first | done | rfl | (simp only [List.length_drop, List.length_take]; rfl)) ?_; (with_reducible refine (record_Frame.calls k a0 _ _ t280 t283 t284 _ ?side1 ?side2 A5.out).mono ?_); (case side1 => repeat (first | exact (Kd.R_reads' HO282.out).2.2 | (with_reducible refine Kd.C_alloc ?_ _) | (with_reducible refine Kd.C_drewN ?_ _) | (with_reducible refine Kd.C_drew ?_))); (case side2 => exact (Kd.R_reads' HO282.out).2.1); rintro e w12 ⟨v285, rfl, ho0, hb⟩; refine ⟨_, rfl, ?_⟩; have n0_ := Aside0.mk (Kd.R_elder' (by (with_reducible repeat (first | apply Kd.R_alloc | apply Kd.R_drewN | apply Kd.R_drew)); exact HO282.out) (Kd.R_base ho0) hb); have n1_ := Aside0.mk (Kd.R_lower (Kd.R_new' ho0 (Kd.R_lt (by (with_reducible repeat (first | apply Kd.R_alloc | apply Kd.R_drewN | apply Kd.R_drew)); exact HO282.out))) (below_size (by repeat (first | (with_reducible first | exact HB.out | apply below_alloc | apply pw_below_drewN | apply below_drew1) | exact HB.out | exact below_undrew HB.out)))); have n2_ := Aside0.mk (below_step (by repeat (first | (with_reducible first | exact HB.out | apply below_alloc | apply pw_below_drewN | apply below_drew1) | exact HB.out | exact below_undrew HB.out)) hb); clear HO282; clear HB; have HO282 := n0_; have HO286 := n1_; have HB := n2_; clear n0_ n1_ n2_; (try clear hb); (try clear hb2); (try clear hk); (try clear hi); (try clear ho0); (try simp only [errW_none, errW_some])) | ((with_reducible refine gate_callee (f := 17) rfl ?_); refine goesL_ (some 26) rfl rfl Tryd.func17 (by kernel_rfl) rfl #[.int .u64 a0, .slice A1 l1.length c1] rfl (by (try simp only [List.map_toArray, List.map_cons, List.map_nil]); first | done | rfl | (simp only [List.length_drop, List.length_take]; rfl)) ?_; (with_reducible refine (barbicanref10_Frame.calls k a0 _ _ l1 t287 t288 _ ?side1 ?side2 A6.out).mono ?_); (case side1 => repeat (first | exact (Kd.C_below HR1.out HB.out) | (with_reducible refine Kd.C_alloc ?_ _) | (with_reducible refine Kd.C_drewN ?_ _) | (with_reducible refine Kd.C_drew ?_))); (case side2 => exact HC1.out); rintro e w13 ⟨v289, rfl, ho0, hb⟩; refine ⟨_, rfl, ?_⟩; have n0_ := Aside0.mk (Kd.R_elder' (by (with_reducible repeat (first | apply Kd.R_alloc | apply Kd.R_drewN | apply Kd.R_drew)); exact HO282.out) (Kd.R_base ho0) hb); have n1_ := Aside0.mk (Kd.R_elder' (by (with_reducible repeat (first | apply Kd.R_alloc | apply Kd.R_drewN | apply Kd.R_drew)); exact HO286.out) (Kd.R_base ho0) hb); have n2_ := Aside0.mk (Kd.R_lower (Kd.R_new' (Kd.R_new' ho0 (Kd.R_lt (by (with_reducible repeat (first | apply Kd.R_alloc | apply Kd.R_drewN | apply Kd.R_drew)); exact HO282.out))) (Kd.R_lt (by (with_reducible repeat (first | apply Kd.R_alloc | apply Kd.R_drewN | apply Kd.R_drew)); exact HO286.out))) (below_size (by repeat (first | (with_reducible first | exact HB.out | apply below_alloc | apply pw_below_drewN | apply below_drew1) | exact HB.out | exact below_undrew HB.out)))); have n3_ := Aside0.mk (below_step (by repeat (first | (with_reducible first | exact HB.out | apply below_alloc | apply pw_below_drewN | apply below_drew1) | exact HB.out | exact below_undrew HB.out)) hb); clear HO282; clear HO286; clear HB; have HO282 := n0_; have HO286 := n1_; have HO290 := n2_; have HB := n3_; clear n0_ n1_ n2_ n3_; (try clear hb); (try clear hb2); (try clear hk); (try clear hi); (try clear ho0)) | ((with_reducible refine gate_callee (f := 18) rfl ?_); refine goesL_ (some 33) rfl rfl Tryd.func18 (by kernel_rfl) rfl #[.int .u64 a0, .int .i64 (l1.length : Int)] rfl (by (try simp only [List.map_toArray, List.map_cons, List.map_nil]); first | done | rfl | (simp only [List.length_drop, List.length_take]; rfl)) ?_; (with_reducible refine (record_Len.calls k a0 (l1.length : Int) t291 t292 _ A7.out).mono ?_); rintro e w14 ⟨rfl, hb⟩; refine ⟨_, rfl, ?_⟩; have n0_ := Aside0.mk (Kd.R_below (by (with_reducible repeat (first | apply Kd.R_alloc | apply Kd.R_drewN | apply Kd.R_drew)); exact HO282.out) hb); have n1_ := Aside0.mk (Kd.R_below (by (with_reducible repeat (first | apply Kd.R_alloc | apply Kd.R_drewN | apply Kd.R_drew)); exact HO286.out) hb); have n2_ := Aside0.mk (Kd.R_below (by (with_reducible repeat (first | apply Kd.R_alloc | apply Kd.R_drewN | apply Kd.R_drew)); exact HO290.out) hb); have n3_ := Aside0.mk (below_step (by repeat (first | (with_reducible first | exact HB.out | apply below_alloc | apply pw_below_drewN | apply below_drew1) | exact HB.out | exact below_undrew HB.out)) hb); clear HO282; clear HO286; clear HO290; clear HB; have HO282 := n0_; have HO286 := n1_; have HO290 := n2_; have HB := n3_; clear n0_ n1_ n2_ n3_; (try clear hb); (try clear hb2); (try clear hk); (try clear hi); (try simp only [errW_none, errW_some])) | ((with_reducible refine gate_callee (f := 18) rfl ?_); refine goesL_ (some 39) rfl rfl Tryd.func18 (by kernel_rfl) rfl #[.int .u64 a0, .int .i64 a2] rfl (by (try simp only [List.map_toArray, List.map_cons, List.map_nil]); first | done | rfl | (simp only [List.length_drop, List.length_take]; rfl)) ?_; (with_reducible refine (record_Len.calls k a0 a2 t293 t294 _ A8.out).mono ?_); rintro e w15 ⟨rfl, hb⟩; refine ⟨_, rfl, ?_⟩; have n0_ := Aside0.mk (Kd.R_below (by (with_reducible repeat (first | apply Kd.R_alloc | apply Kd.R_drewN | apply Kd.R_drew)); exact HO282.out) hb); have n1_ := Aside0.mk (Kd.R_below (by (with_reducible repeat (first | apply Kd.R_alloc | apply Kd.R_drewN | apply Kd.R_drew)); exact HO286.out) hb); have n2_ := Aside0.mk (Kd.R_below (by (with_reducible repeat (first | apply Kd.R_alloc | apply Kd.R_drewN | apply Kd.R_drew)); exact HO290.out) hb); have n3_ := Aside0.mk (below_step (by repeat (first | (with_reducible first | exact HB.out | apply below_alloc | apply pw_below_drewN | apply below_drew1) | exact HB.out | exact below_undrew HB.out)) hb); clear HO282; clear HO286; clear HO290; clear HB; have HO282 := n0_; have HO286 := n1_; have HO290 := n2_; have HB := n3_; clear n0_ n1_ n2_ n3_; (try clear hb); (try clear hb2); (try clear hk); (try clear hi); (try simp only [errW_none, errW_some])))
  (try simp only [Act.put, List.setIfInBounds_toArray, List.set_cons_zero, List.set_cons_succ])
  go_cut [15] (fun v15 wc => ∃ (kq : Nat) (x15_8 : Int), v15 = .int .i64 x15_8 ∧ Aside0 (barbicanlaw10_RecordFrames.j0 kq t283 t284 t287 t288 t291 t292 t294 x15_8 = some r) ∧ Aside0 (kq ≤ k) ∧ Aside0 (Kd.R (Kd.int .u8) 5 wc w.heap.size (fun k_ => some k_ ≠ (v289 : Value).ownBlock) v285 t283) ∧ Aside0 (Kd.R (Kd.int .u8) 5 wc w.heap.size (fun k_ => some k_ ≠ (v285 : Value).ownBlock) v289 t287) ∧ Aside0 (Below w.heap.size w wc))
  case first =>
    have H := HC9.out
    clear HC9
    by_cases c16 : a2 < 1
    · rw [if_pos c16] at H
      have c16b0 : decide (a2 < 1) = true := decide_eq_true c16
      clear c16
      (first | rw [c16b0] | (simp only [i64_w, i32_w]; rw [c16b0]) | skip)
      have H' := Aside0.mk H
      clear H
      go_wp2
      go_meet
      case rel => exact ⟨_, (1), (by first | rfl | (simp; done) | (simp [*]; done)), H', ⟨by first | omega | exact Nat.le_refl _⟩, ⟨by (with_reducible repeat (first | apply Kd.R_alloc | apply Kd.R_drewN | apply Kd.R_drew)); exact Kd.R_mono HO286.out (fun _ hk => hk.2)⟩, ⟨by (with_reducible repeat (first | apply Kd.R_alloc | apply Kd.R_drewN | apply Kd.R_drew)); exact Kd.R_mono HO290.out (fun _ hk => hk.2)⟩, ⟨by repeat (first | (with_reducible first | exact HB.out | apply below_alloc | apply pw_below_drewN | apply below_drew1) | exact HB.out | exact below_undrew HB.out)⟩⟩
    · rw [if_neg c16] at H
      have c16b0 : decide (a2 < 1) = false := decide_eq_false c16
      clear c16
      (first | rw [c16b0] | (simp only [i64_w, i32_w]; rw [c16b0]) | skip)
      by_cases c17 : a2 > 1048576
      · rw [if_pos c17] at H
        have c17b0 : decide (1048576 < a2) = true := decide_eq_true c17
        clear c17
        have H' := Aside0.mk H
        clear H
        go_wp2
        go_meet
        case rel => exact ⟨_, (2), (by first | rfl | (simp; done) | (simp [*]; done)), H', ⟨by first | omega | exact Nat.le_refl _⟩, ⟨by (with_reducible repeat (first | apply Kd.R_alloc | apply Kd.R_drewN | apply Kd.R_drew)); exact Kd.R_mono HO286.out (fun _ hk => hk.2)⟩, ⟨by (with_reducible repeat (first | apply Kd.R_alloc | apply Kd.R_drewN | apply Kd.R_drew)); exact Kd.R_mono HO290.out (fun _ hk => hk.2)⟩, ⟨by repeat (first | (with_reducible first | exact HB.out | apply below_alloc | apply pw_below_drewN | apply below_drew1) | exact HB.out | exact below_undrew HB.out)⟩⟩
      · rw [if_neg c17] at H
        have c17b0 : decide (1048576 < a2) = false := decide_eq_false c17
        clear c17
        have H' := Aside0.mk H
        clear H
        go_wp2
        go_meet
        case rel => exact ⟨_, (0), (by first | rfl | (simp; done) | (simp [*]; done)), H', ⟨by first | omega | exact Nat.le_refl _⟩, ⟨by (with_reducible repeat (first | apply Kd.R_alloc | apply Kd.R_drewN | apply Kd.R_drew)); exact Kd.R_mono HO286.out (fun _ hk => hk.2)⟩, ⟨by (with_reducible repeat (first | apply Kd.R_alloc | apply Kd.R_drewN | apply Kd.R_drew)); exact Kd.R_mono HO290.out (fun _ hk => hk.2)⟩, ⟨by repeat (first | (with_reducible first | exact HB.out | apply below_alloc | apply pw_below_drewN | apply below_drew1) | exact HB.out | exact below_undrew HB.out)⟩⟩
  case rest =>
    clear HC9
    try clear c1
    try clear p2
    try clear c5
    try clear c15
    try clear c16
    try clear c16b0
    try clear c17
    try clear c17b0
    obtain ⟨kq, x15_8, rfl, HA, HJ8, HO_7, HO_9, HB⟩ := hcut
    cases kq with
    | zero => exact absurd HA.out (by simp [barbicanlaw10_RecordFrames.j0])
    | succ kj8 =>
      have H := HA.out
      clear HA
      simp only [barbicanlaw10_RecordFrames.j0] at H
      by_cases c18 : (strOfNums t283).toList = (strOfNums t287).toList
      · rw [if_pos c18] at H
        have c18b0 : ((strOfNums t283).toList == (strOfNums t287).toList) = true := beq_iff_eq.mpr c18
        have c18b1 : ((strOfNums t283).toList != (strOfNums t287).toList) = false := bne_eq_false_iff_eq.mpr c18
        clear c18
        replace H := Option.bind_eq_some_iff.mp H
        obtain ⟨t295, A190, H⟩ := H
        replace H : (if t295 = t288 then (if t291 = (t287.length : Int) then ((barbicanlaw10_num.f t292).bind fun t296 => (if t296 = t288 then ((barbicanlaw10_num.f t294).bind fun t297 => (if t297 = x15_8 then ((barbicanlaw10_sure.f kj8).bind fun t298 => (some t298)) else (some false))) else (some false))) else (some false)) else (some false)) = some r := H
        have A19 := Aside0.mk A190
        clear A190
        by_cases c20 : t295 = t288
        · rw [if_pos c20] at H
          have c20b0 : (t295 == t288) = true := beq_iff_eq.mpr c20
          have c20b1 : (t295 != t288) = false := bne_eq_false_iff_eq.mpr c20
          clear c20
          by_cases c21 : t291 = (t287.length : Int)
          · rw [if_pos c21] at H
            have c21b0 : (t291 == (t287.length : Int)) = true := beq_iff_eq.mpr c21
            have c21b1 : (t291 != (t287.length : Int)) = false := bne_eq_false_iff_eq.mpr c21
            clear c21
            replace H := Option.bind_eq_some_iff.mp H
            obtain ⟨t296, A220, H⟩ := H
            replace H : (if t296 = t288 then ((barbicanlaw10_num.f t294).bind fun t297 => (if t297 = x15_8 then ((barbicanlaw10_sure.f kj8).bind fun t298 => (some t298)) else (some false))) else (some false)) = some r := H
            have A22 := Aside0.mk A220
            clear A220
            by_cases c23 : t296 = t288
            · rw [if_pos c23] at H
              have c23b0 : (t296 == t288) = true := beq_iff_eq.mpr c23
              have c23b1 : (t296 != t288) = false := bne_eq_false_iff_eq.mpr c23
              clear c23
              replace H := Option.bind_eq_some_iff.mp H
              obtain ⟨t297, A240, H⟩ := H
              replace H : (if t297 = x15_8 then ((barbicanlaw10_sure.f kj8).bind fun t298 => (some t298)) else (some false)) = some r := H
              have A24 := Aside0.mk A240
              clear A240
              by_cases c25 : t297 = x15_8
              · rw [if_pos c25] at H
                have c25b0 : (t297 == x15_8) = true := beq_iff_eq.mpr c25
                have c25b1 : (t297 != x15_8) = false := bne_eq_false_iff_eq.mpr c25
                clear c25
                replace H := Option.bind_eq_some_iff.mp H
                obtain ⟨t298, A260, H⟩ := H
                replace H : (some t298) = some r := H
                have A26 := Aside0.mk A260
                clear A260
                obtain rfl := Option.some.inj H
                have hcv27 := own_string (P := Tryd.prog) Tryd.underlying22 Tryd.underlying5 Tryd.underlying9 (Kd.own_of_R HO_7.out)
                have hcv28 := own_string (P := Tryd.prog) Tryd.underlying22 Tryd.underlying5 Tryd.underlying9 (Kd.own_of_R HO_9.out)
                have CA19 := fun W hG_ => barbicanlaw10_num.calls t284 t295 W hG_ A19.out
                try simp only [errW_none, errW_some] at CA19
                go_wp2_with (first | (go_at_call 19; (with_reducible refine (CA19 _ ?side1).mono ?_); (case side1 => exact GE.below HG.out (by repeat (first | (with_reducible first | exact HB.out | apply below_alloc | apply pw_below_drewN | apply below_drew1) | exact HB.out | exact below_undrew HB.out))); rintro e w29 ⟨rfl, hb⟩; have n0_ := Aside0.mk (Kd.R_below (by (with_reducible repeat (first | apply Kd.R_alloc | apply Kd.R_drewN | apply Kd.R_drew)); exact HO_7.out) hb); have n1_ := Aside0.mk (Kd.R_below (by (with_reducible repeat (first | apply Kd.R_alloc | apply Kd.R_drewN | apply Kd.R_drew)); exact HO_9.out) hb); have n2_ := Aside0.mk (below_step (by repeat (first | (with_reducible first | exact HB.out | apply below_alloc | apply pw_below_drewN | apply below_drew1) | exact HB.out | exact below_undrew HB.out)) hb); clear HO_7; clear HO_9; clear HB; have HO_7 := n0_; have HO_9 := n1_; have HB := n2_; clear n0_ n1_ n2_; (try clear hb); (try clear hb2); (try clear hk); (try clear hi); obtain ⟨Ao30, co30, eo30⟩ := Kd.R_slice HO_9.out; subst eo30; have CA22 := fun W hG_ => barbicanlaw10_num.calls t292 t296 W hG_ A22.out; try simp only [errW_none, errW_some] at CA22) | (go_at_call 19; (with_reducible refine (CA22 _ ?side1).mono ?_); (case side1 => exact GE.below HG.out (by repeat (first | (with_reducible first | exact HB.out | apply below_alloc | apply pw_below_drewN | apply below_drew1) | exact HB.out | exact below_undrew HB.out))); rintro e w31 ⟨rfl, hb⟩; have n0_ := Aside0.mk (Kd.R_below (by (with_reducible repeat (first | apply Kd.R_alloc | apply Kd.R_drewN | apply Kd.R_drew)); exact HO_7.out) hb); have n1_ := Aside0.mk (Kd.R_below (by (with_reducible repeat (first | apply Kd.R_alloc | apply Kd.R_drewN | apply Kd.R_drew)); exact HO_9.out) hb); have n2_ := Aside0.mk (below_step (by repeat (first | (with_reducible first | exact HB.out | apply below_alloc | apply pw_below_drewN | apply below_drew1) | exact HB.out | exact below_undrew HB.out)) hb); clear HO_7; clear HO_9; clear HB; have HO_7 := n0_; have HO_9 := n1_; have HB := n2_; clear n0_ n1_ n2_; (try clear hb); (try clear hb2); (try clear hk); (try clear hi); have CA24 := fun W hG_ => barbicanlaw10_num.calls t294 t297 W hG_ A24.out; try simp only [errW_none, errW_some] at CA24) | (go_at_call 19; (with_reducible refine (CA24 _ ?side1).mono ?_); (case side1 => exact GE.below HG.out (by repeat (first | (with_reducible first | exact HB.out | apply below_alloc | apply pw_below_drewN | apply below_drew1) | exact HB.out | exact below_undrew HB.out))); rintro e w32 ⟨rfl, hb⟩; have n0_ := Aside0.mk (Kd.R_below (by (with_reducible repeat (first | apply Kd.R_alloc | apply Kd.R_drewN | apply Kd.R_drew)); exact HO_7.out) hb); have n1_ := Aside0.mk (Kd.R_below (by (with_reducible repeat (first | apply Kd.R_alloc | apply Kd.R_drewN | apply Kd.R_drew)); exact HO_9.out) hb); have n2_ := Aside0.mk (below_step (by repeat (first | (with_reducible first | exact HB.out | apply below_alloc | apply pw_below_drewN | apply below_drew1) | exact HB.out | exact below_undrew HB.out)) hb); clear HO_7; clear HO_9; clear HB; have HO_7 := n0_; have HO_9 := n1_; have HB := n2_; clear n0_ n1_ n2_; (try clear hb); (try clear hb2); (try clear hk); (try clear hi)) | (go_at_call 20; (with_reducible refine (barbicanlaw10_sure.calls kj8  t298 _ A26.out).mono ?_); rintro e w33 ⟨rfl, hb⟩; have n0_ := Aside0.mk (Kd.R_below (by (with_reducible repeat (first | apply Kd.R_alloc | apply Kd.R_drewN | apply Kd.R_drew)); exact HO_7.out) hb); have n1_ := Aside0.mk (Kd.R_below (by (with_reducible repeat (first | apply Kd.R_alloc | apply Kd.R_drewN | apply Kd.R_drew)); exact HO_9.out) hb); have n2_ := Aside0.mk (below_step (by repeat (first | (with_reducible first | exact HB.out | apply below_alloc | apply pw_below_drewN | apply below_drew1) | exact HB.out | exact below_undrew HB.out)) hb); clear HO_7; clear HO_9; clear HB; have HO_7 := n0_; have HO_9 := n1_; have HB := n2_; clear n0_ n1_ n2_; (try clear hb); (try clear hb2); (try clear hk); (try clear hi)))
                go_ret
                exact ⟨by first | rfl | (simp [errW_none, errW_some] <;> rfl) | (simp [*, errW_none, errW_some] <;> rfl), by repeat (first | (with_reducible first | exact HB.out | apply below_alloc | apply pw_below_drewN | apply below_drew1) | exact HB.out | exact below_undrew HB.out)⟩
              · rw [if_neg c25] at H
                have c25b0 : (t297 == x15_8) = false := beq_eq_false_iff_ne.mpr c25
                have c25b1 : (t297 != x15_8) = true := bne_iff_ne.mpr c25
                exact absurd (Option.some.inj H) (by rw [hT.out]; decide)
            · rw [if_neg c23] at H
              have c23b0 : (t296 == t288) = false := beq_eq_false_iff_ne.mpr c23
              have c23b1 : (t296 != t288) = true := bne_iff_ne.mpr c23
              exact absurd (Option.some.inj H) (by rw [hT.out]; decide)
          · rw [if_neg c21] at H
            have c21b0 : (t291 == (t287.length : Int)) = false := beq_eq_false_iff_ne.mpr c21
            have c21b1 : (t291 != (t287.length : Int)) = true := bne_iff_ne.mpr c21
            exact absurd (Option.some.inj H) (by rw [hT.out]; decide)
        · rw [if_neg c20] at H
          have c20b0 : (t295 == t288) = false := beq_eq_false_iff_ne.mpr c20
          have c20b1 : (t295 != t288) = true := bne_iff_ne.mpr c20
          exact absurd (Option.some.inj H) (by rw [hT.out]; decide)
      · rw [if_neg c18] at H
        have c18b0 : ((strOfNums t283).toList == (strOfNums t287).toList) = false := beq_eq_false_iff_ne.mpr c18
        have c18b1 : ((strOfNums t283).toList != (strOfNums t287).toList) = true := bne_iff_ne.mpr c18
        exact absurd (Option.some.inj H) (by rw [hT.out]; decide)

end Go.Proofs.YtindggjkcnelcaaDoor.XAll
