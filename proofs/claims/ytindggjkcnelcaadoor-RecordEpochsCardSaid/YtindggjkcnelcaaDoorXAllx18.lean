/- Printed by this session's program (wip/print) out of the translation, for the statement named in the file's name. -/
import Derived.Test.YtindggjkcnelcaaDoorXAllx0
import Derived.Test.YtindggjkcnelcaaDoorXAllx10
import Derived.Test.YtindggjkcnelcaaDoorXAllx11
import Derived.Test.YtindggjkcnelcaaDoorXAllx12
import Derived.Test.YtindggjkcnelcaaDoorXAllx17
namespace Go.Proofs.YtindggjkcnelcaaDoor.XAll
open Go.RowKit Go.Proofs.YtindggjkcnelcaaDoorW.PrintWords Go.Proofs.YtindggjkcnelcaaDoorW.PrintLast Go.Proofs.YtindggjkcnelcaaDoorW.PrintMore Go.Proofs.YtindggjkcnelcaaDoor.As
attribute [local go_sem] max2_int min2_int max_two min_two max_three min_three max_four min_four   -- for this text's walks alone
set_option linter.unusedVariables false
set_option linter.unusedSimpArgs false

/-! ### barbicanlaw10_RecordEpochs: function 7 -/
def barbicanlaw10_RecordEpochs.f (k : Nat) (a0 : Int) (a1 : Int) (l2 : List Int) : Option (Bool) := (barbicanlaw10_twin.f l2).bind fun t345 => ((record_Frame.f k a0 t345).bind fun bt348 => (if bt348.2.isNone = true then ((record_One.f k a1 bt348.1).bind fun bt353 => (if a0 = a1 then (if bt353.2.2.isNone = true then (if bt353.2.1 = (bt348.1.length : Int) then (if (strOfNums bt353.1).toList = (strOfNums l2).toList then ((barbicanlaw10_sure.f k).bind fun t359 => (some t359)) else (some false)) else (some false)) else (some false)) else ((barbicanlaw10_num.f bt353.2.2).bind fun t360 => (if t360 = 11 then (if bt353.2.1 = 0 then (if (bt353.1.length : Int) = 0 then ((barbicanlaw10_sure.f k).bind fun t361 => (some t361)) else (some false)) else (some false)) else (some false))))) else (if (bt348.1.length : Int) = 0 then ((barbicanlaw10_sure.f k).bind fun t362 => (some t362)) else (some false))))
theorem barbicanlaw10_RecordEpochs.mono : ∀ a0 a1 a2 k, LeO (barbicanlaw10_RecordEpochs.f k a0 a1 a2) (barbicanlaw10_RecordEpochs.f (k + 1) a0 a1 a2) := by
  intro a0 a1 a2 k
  unfold barbicanlaw10_RecordEpochs.f
  repeat' first
      | (with_reducible exact barbicanlaw10_sure.mono _)
      | (with_reducible exact record_Frame.mono _ _ _)
      | (with_reducible exact record_One.mono _ _ _)
      | (with_reducible exact LeO.refl _)
      | (with_reducible exact LeO.none _)
      | (with_reducible refine LeO.ite ?_ ?_)
      | (with_reducible refine LeO.bind ?_ (fun _ => ?_))
      | exact barbicanlaw10_sure.mono _
      | exact record_Frame.mono _ _ _
      | exact record_One.mono _ _ _
      | exact LeO.none _
      | refine LeO.ite ?_ ?_
      | refine LeO.bind ?_ (fun _ => ?_)
set_option maxHeartbeats 8000000 in
set_option maxRecDepth 100000 in
theorem barbicanlaw10_RecordEpochs.calls (k : Nat) (a0 : Int) (a1 : Int) (A2 : Option Addr) (c2 : Nat) (l2 : List Int) (r : Bool) (w : World) (hr2 : Kd.C (Kd.int .u8) w A2 l2.length l2) (hc2 : l2.length ≤ c2) (hG : GE w) (h : barbicanlaw10_RecordEpochs.f k a0 a1 l2 = some r) (hT : Aside0 (r = true)) :
    Calls Tryd.prog 7 #[.int .u64 a0, .int .u64 a1, .slice A2 l2.length c2] w fun e w' => e = .returned (.bool r) ∧ Below w.heap.size w w' := by
  have hu25 := Tryd.underlying25
  have hu46 := Tryd.underlying46
  have HR2 := Aside0.mk hr2
  have HC2 := Aside0.mk hc2
  clear hr2 hc2
  have HG := Aside0.mk hG
  clear hG
  have HB := Aside0.mk (Below.refl w.heap.size w)
  have H : ((barbicanlaw10_twin.f l2).bind fun t345 => ((record_Frame.f k a0 t345).bind fun bt348 => (if bt348.2.isNone = true then ((record_One.f k a1 bt348.1).bind fun bt353 => (if a0 = a1 then (if bt353.2.2.isNone = true then (if bt353.2.1 = (bt348.1.length : Int) then (if (strOfNums bt353.1).toList = (strOfNums l2).toList then ((barbicanlaw10_sure.f k).bind fun t359 => (some t359)) else (some false)) else (some false)) else (some false)) else ((barbicanlaw10_num.f bt353.2.2).bind fun t360 => (if t360 = 11 then (if bt353.2.1 = 0 then (if (bt353.1.length : Int) = 0 then ((barbicanlaw10_sure.f k).bind fun t361 => (some t361)) else (some false)) else (some false)) else (some false))))) else (if (bt348.1.length : Int) = 0 then ((barbicanlaw10_sure.f k).bind fun t362 => (some t362)) else (some false))))) = some r := h
  clear h
  replace H := Option.bind_eq_some_iff.mp H
  obtain ⟨t345, A40, H⟩ := H
  replace H : ((record_Frame.f k a0 t345).bind fun bt348 => (if bt348.2.isNone = true then ((record_One.f k a1 bt348.1).bind fun bt353 => (if a0 = a1 then (if bt353.2.2.isNone = true then (if bt353.2.1 = (bt348.1.length : Int) then (if (strOfNums bt353.1).toList = (strOfNums l2).toList then ((barbicanlaw10_sure.f k).bind fun t359 => (some t359)) else (some false)) else (some false)) else (some false)) else ((barbicanlaw10_num.f bt353.2.2).bind fun t360 => (if t360 = 11 then (if bt353.2.1 = 0 then (if (bt353.1.length : Int) = 0 then ((barbicanlaw10_sure.f k).bind fun t361 => (some t361)) else (some false)) else (some false)) else (some false))))) else (if (bt348.1.length : Int) = 0 then ((barbicanlaw10_sure.f k).bind fun t362 => (some t362)) else (some false)))) = some r := H
  have A4 := Aside0.mk A40
  clear A40
  replace H := Option.bind_eq_some_iff.mp H
  obtain ⟨⟨t348, t349⟩, A50, H⟩ := H
  replace H : (if t349.isNone = true then ((record_One.f k a1 t348).bind fun bt353 => (if a0 = a1 then (if bt353.2.2.isNone = true then (if bt353.2.1 = (t348.length : Int) then (if (strOfNums bt353.1).toList = (strOfNums l2).toList then ((barbicanlaw10_sure.f k).bind fun t359 => (some t359)) else (some false)) else (some false)) else (some false)) else ((barbicanlaw10_num.f bt353.2.2).bind fun t360 => (if t360 = 11 then (if bt353.2.1 = 0 then (if (bt353.1.length : Int) = 0 then ((barbicanlaw10_sure.f k).bind fun t361 => (some t361)) else (some false)) else (some false)) else (some false))))) else (if (t348.length : Int) = 0 then ((barbicanlaw10_sure.f k).bind fun t362 => (some t362)) else (some false))) = some r := H
  have A5 := Aside0.mk A50
  clear A50
  rcases t349 with _ | q352
  · have H1 : ((record_One.f k a1 t348).bind fun bt353 => (if a0 = a1 then (if bt353.2.2.isNone = true then (if bt353.2.1 = (t348.length : Int) then (if (strOfNums bt353.1).toList = (strOfNums l2).toList then ((barbicanlaw10_sure.f k).bind fun t359 => (some t359)) else (some false)) else (some false)) else (some false)) else ((barbicanlaw10_num.f bt353.2.2).bind fun t360 => (if t360 = 11 then (if bt353.2.1 = 0 then (if (bt353.1.length : Int) = 0 then ((barbicanlaw10_sure.f k).bind fun t361 => (some t361)) else (some false)) else (some false)) else (some false))))) = some r := by rw [if_pos (show (none : Option Int).isNone = true by rfl)] at H; exact H
    clear H
    have H := H1
    clear H1
    try simp only [errW_none, errW_some]
    replace H := Option.bind_eq_some_iff.mp H
    obtain ⟨⟨t353, t354, t355⟩, A60, H⟩ := H
    replace H : (if a0 = a1 then (if t355.isNone = true then (if t354 = (t348.length : Int) then (if (strOfNums t353).toList = (strOfNums l2).toList then ((barbicanlaw10_sure.f k).bind fun t359 => (some t359)) else (some false)) else (some false)) else (some false)) else ((barbicanlaw10_num.f t355).bind fun t360 => (if t360 = 11 then (if t354 = 0 then (if (t353.length : Int) = 0 then ((barbicanlaw10_sure.f k).bind fun t361 => (some t361)) else (some false)) else (some false)) else (some false)))) = some r := H
    have A6 := Aside0.mk A60
    clear A60
    by_cases c7 : a0 = a1
    · rw [if_pos c7] at H
      have c7b0 : (a0 == a1) = true := beq_iff_eq.mpr c7
      have c7b1 : (a0 != a1) = false := bne_eq_false_iff_eq.mpr c7
      clear c7
      rcases t355 with _ | q358
      · have H1 : (if t354 = (t348.length : Int) then (if (strOfNums t353).toList = (strOfNums l2).toList then ((barbicanlaw10_sure.f k).bind fun t359 => (some t359)) else (some false)) else (some false)) = some r := by rw [if_pos (show (none : Option Int).isNone = true by rfl)] at H; exact H
        clear H
        have H := H1
        clear H1
        try simp only [errW_none, errW_some]
        by_cases c8 : t354 = (t348.length : Int)
        · rw [if_pos c8] at H
          have c8b0 : (t354 == (t348.length : Int)) = true := beq_iff_eq.mpr c8
          have c8b1 : (t354 != (t348.length : Int)) = false := bne_eq_false_iff_eq.mpr c8
          clear c8
          by_cases c9 : (strOfNums t353).toList = (strOfNums l2).toList
          · rw [if_pos c9] at H
            have c9b0 : ((strOfNums t353).toList == (strOfNums l2).toList) = true := beq_iff_eq.mpr c9
            have c9b1 : ((strOfNums t353).toList != (strOfNums l2).toList) = false := bne_eq_false_iff_eq.mpr c9
            clear c9
            replace H := Option.bind_eq_some_iff.mp H
            obtain ⟨t359, A100, H⟩ := H
            replace H : (some t359) = some r := H
            have A10 := Aside0.mk A100
            clear A100
            obtain rfl := Option.some.inj H
            go_enter Tryd.func7, Tryd.ntmps7
            go_wp2_with (first | ((with_reducible refine gate_callee (f := 16) rfl ?_); refine goesL_ (some 15) rfl rfl Tryd.func16 (by kernel_rfl) rfl #[.slice A2 l2.length c2] rfl (by (try simp only [List.map_toArray, List.map_cons, List.map_nil]); first | done | rfl | (simp only [List.length_drop, List.length_take]; rfl)) ?_; (with_reducible refine (barbicanlaw10_twin.calls _ _ l2 t345 _ ?side1 ?side2 A4.out).mono ?_); (case side1 => repeat (first | exact HR2.out | (with_reducible refine Kd.C_alloc ?_ _) | (with_reducible refine Kd.C_drewN ?_ _) | (with_reducible refine Kd.C_drew ?_))); (case side2 => exact HC2.out); rintro e w11 ⟨v346, rfl, ho0, hb⟩; refine ⟨_, rfl, ?_⟩; have n0_ := Aside0.mk (Kd.R_lower ho0 (below_size (by repeat (first | (with_reducible first | exact HB.out | apply below_alloc | apply pw_below_drewN | apply below_drew1) | exact HB.out | exact below_undrew HB.out)))); have n1_ := Aside0.mk (below_step (by repeat (first | (with_reducible first | exact HB.out | apply below_alloc | apply pw_below_drewN | apply below_drew1) | exact HB.out | exact below_undrew HB.out)) hb); clear HB; have HO347 := n0_; have HB := n1_; clear n0_ n1_; (try clear hb); (try clear hb2); (try clear hk); (try clear hi); (try clear ho0); obtain ⟨Ao12, co12, eo12⟩ := Kd.R_slice HO347.out; subst eo12) | ((with_reducible refine gate_callee (f := 15) rfl ?_); refine goesL_ (some 16) rfl rfl Tryd.func15 (by kernel_rfl) rfl #[.int .u64 a0, .slice Ao12 t345.length co12] rfl (by (try simp only [List.map_toArray, List.map_cons, List.map_nil]); first | done | rfl | (simp only [List.length_drop, List.length_take]; rfl)) ?_; (with_reducible refine (record_Frame.calls k a0 _ _ t345 t348 none _ ?side1 ?side2 A5.out).mono ?_); (case side1 => repeat (first | exact (Kd.R_reads' HO347.out).2.2 | (with_reducible refine Kd.C_alloc ?_ _) | (with_reducible refine Kd.C_drewN ?_ _) | (with_reducible refine Kd.C_drew ?_))); (case side2 => exact (Kd.R_reads' HO347.out).2.1); rintro e w13 ⟨v350, rfl, ho0, hb⟩; refine ⟨_, rfl, ?_⟩; have n0_ := Aside0.mk (Kd.R_elder' (by (with_reducible repeat (first | apply Kd.R_alloc | apply Kd.R_drewN | apply Kd.R_drew)); exact HO347.out) (Kd.R_base ho0) hb); have n1_ := Aside0.mk (Kd.R_lower (Kd.R_new' ho0 (Kd.R_lt (by (with_reducible repeat (first | apply Kd.R_alloc | apply Kd.R_drewN | apply Kd.R_drew)); exact HO347.out))) (below_size (by repeat (first | (with_reducible first | exact HB.out | apply below_alloc | apply pw_below_drewN | apply below_drew1) | exact HB.out | exact below_undrew HB.out)))); have n2_ := Aside0.mk (below_step (by repeat (first | (with_reducible first | exact HB.out | apply below_alloc | apply pw_below_drewN | apply below_drew1) | exact HB.out | exact below_undrew HB.out)) hb); clear HO347; clear HB; have HO347 := n0_; have HO351 := n1_; have HB := n2_; clear n0_ n1_ n2_; (try clear hb); (try clear hb2); (try clear hk); (try clear hi); (try clear ho0); (try simp only [errW_none, errW_some]); obtain ⟨Ao14, co14, eo14⟩ := Kd.R_slice HO351.out; subst eo14) | ((with_reducible refine gate_callee (f := 21) rfl ?_); refine goesL_ (some 30) rfl rfl Tryd.func21 (by kernel_rfl) rfl #[.int .u64 a1, .slice Ao14 t348.length co14] rfl (by (try simp only [List.map_toArray, List.map_cons, List.map_nil]); first | done | rfl | (simp only [List.length_drop, List.length_take]; rfl)) ?_; (with_reducible refine (record_One.calls k a1 _ _ t348 t353 t354 none _ ?side1 ?side2 A6.out).mono ?_); (case side1 => repeat (first | exact (Kd.R_reads' HO351.out).2.2 | (with_reducible refine Kd.C_alloc ?_ _) | (with_reducible refine Kd.C_drewN ?_ _) | (with_reducible refine Kd.C_drew ?_))); (case side2 => exact (Kd.R_reads' HO351.out).2.1); rintro e w15 ⟨v356, rfl, ho0, hb⟩; refine ⟨_, rfl, ?_⟩; have n0_ := Aside0.mk (Kd.R_elder' (by (with_reducible repeat (first | apply Kd.R_alloc | apply Kd.R_drewN | apply Kd.R_drew)); exact HO347.out) (Kd.R_base ho0) hb); have n1_ := Aside0.mk (Kd.R_elder' (by (with_reducible repeat (first | apply Kd.R_alloc | apply Kd.R_drewN | apply Kd.R_drew)); exact HO351.out) (Kd.R_base ho0) hb); have n2_ := Aside0.mk (Kd.R_lower (Kd.R_new' (Kd.R_new' ho0 (Kd.R_lt (by (with_reducible repeat (first | apply Kd.R_alloc | apply Kd.R_drewN | apply Kd.R_drew)); exact HO347.out))) (Kd.R_lt (by (with_reducible repeat (first | apply Kd.R_alloc | apply Kd.R_drewN | apply Kd.R_drew)); exact HO351.out))) (below_size (by repeat (first | (with_reducible first | exact HB.out | apply below_alloc | apply pw_below_drewN | apply below_drew1) | exact HB.out | exact below_undrew HB.out)))); have n3_ := Aside0.mk (below_step (by repeat (first | (with_reducible first | exact HB.out | apply below_alloc | apply pw_below_drewN | apply below_drew1) | exact HB.out | exact below_undrew HB.out)) hb); clear HO347; clear HO351; clear HB; have HO347 := n0_; have HO351 := n1_; have HO357 := n2_; have HB := n3_; clear n0_ n1_ n2_ n3_; (try clear hb); (try clear hb2); (try clear hk); (try clear hi); (try clear ho0); (try simp only [errW_none, errW_some]); have hcv16 := own_string (P := Tryd.prog) Tryd.underlying22 Tryd.underlying5 Tryd.underlying9 (Kd.own_of_R HO357.out); have hcv17 := Kd.C_string (P := Tryd.prog) (A := A2) (c := c2) Tryd.underlying22 Tryd.underlying5 Tryd.underlying9 (Kd.C_below HR2.out HB.out); have hcd17 := fun n_ : Nat => Kd.C_string (P := Tryd.prog) (A := A2) (c := c2) Tryd.underlying22 Tryd.underlying5 Tryd.underlying9 (Kd.C_drewN (Kd.C_below HR2.out HB.out) n_)) | (go_at_call 20; (with_reducible refine (barbicanlaw10_sure.calls k  t359 _ A10.out).mono ?_); rintro e w18 ⟨rfl, hb⟩; have n0_ := Aside0.mk (Kd.R_below (by (with_reducible repeat (first | apply Kd.R_alloc | apply Kd.R_drewN | apply Kd.R_drew)); exact HO347.out) hb); have n1_ := Aside0.mk (Kd.R_below (by (with_reducible repeat (first | apply Kd.R_alloc | apply Kd.R_drewN | apply Kd.R_drew)); exact HO351.out) hb); have n2_ := Aside0.mk (Kd.R_below (by (with_reducible repeat (first | apply Kd.R_alloc | apply Kd.R_drewN | apply Kd.R_drew)); exact HO357.out) hb); have n3_ := Aside0.mk (below_step (by repeat (first | (with_reducible first | exact HB.out | apply below_alloc | apply pw_below_drewN | apply below_drew1) | exact HB.out | exact below_undrew HB.out)) hb); clear HO347; clear HO351; clear HO357; clear HB; have HO347 := n0_; have HO351 := n1_; have HO357 := n2_; have HB := n3_; clear n0_ n1_ n2_ n3_; (try clear hb); (try clear hb2); (try clear hk); (try clear hi)))
            go_ret
            exact ⟨by first | rfl | (simp [errW_none, errW_some] <;> rfl) | (simp [*, errW_none, errW_some] <;> rfl), by repeat (first | (with_reducible first | exact HB.out | apply below_alloc | apply pw_below_drewN | apply below_drew1) | exact HB.out | exact below_undrew HB.out)⟩
          · rw [if_neg c9] at H
            have c9b0 : ((strOfNums t353).toList == (strOfNums l2).toList) = false := beq_eq_false_iff_ne.mpr c9
            have c9b1 : ((strOfNums t353).toList != (strOfNums l2).toList) = true := bne_iff_ne.mpr c9
            exact absurd (Option.some.inj H) (by rw [hT.out]; decide)
        · rw [if_neg c8] at H
          have c8b0 : (t354 == (t348.length : Int)) = false := beq_eq_false_iff_ne.mpr c8
          have c8b1 : (t354 != (t348.length : Int)) = true := bne_iff_ne.mpr c8
          exact absurd (Option.some.inj H) (by rw [hT.out]; decide)
      · have H1 : (some false) = some r := by rw [if_neg (show ¬ (some q358).isNone = true by simp)] at H; exact H
        clear H
        have H := H1
        clear H1
        try simp only [errW_none, errW_some]
        exact absurd (Option.some.inj H) (by rw [hT.out]; decide)
    · rw [if_neg c7] at H
      have c7b0 : (a0 == a1) = false := beq_eq_false_iff_ne.mpr c7
      have c7b1 : (a0 != a1) = true := bne_iff_ne.mpr c7
      replace H := Option.bind_eq_some_iff.mp H
      obtain ⟨t360, A190, H⟩ := H
      replace H : (if t360 = 11 then (if t354 = 0 then (if (t353.length : Int) = 0 then ((barbicanlaw10_sure.f k).bind fun t361 => (some t361)) else (some false)) else (some false)) else (some false)) = some r := H
      have A19 := Aside0.mk A190
      clear A190
      by_cases c20 : t360 = 11
      · rw [if_pos c20] at H
        have c20b0 : (t360 == 11) = true := beq_iff_eq.mpr c20
        have c20b1 : (t360 != 11) = false := bne_eq_false_iff_eq.mpr c20
        clear c20
        by_cases c21 : t354 = 0
        · rw [if_pos c21] at H
          have c21b0 : (t354 == 0) = true := beq_iff_eq.mpr c21
          have c21b1 : (t354 != 0) = false := bne_eq_false_iff_eq.mpr c21
          clear c21
          by_cases c22 : (t353.length : Int) = 0
          · rw [if_pos c22] at H
            have c22b0 : ((t353.length : Int) == 0) = true := beq_iff_eq.mpr c22
            have c22b1 : ((t353.length : Int) != 0) = false := bne_eq_false_iff_eq.mpr c22
            clear c22
            replace H := Option.bind_eq_some_iff.mp H
            obtain ⟨t361, A230, H⟩ := H
            replace H : (some t361) = some r := H
            have A23 := Aside0.mk A230
            clear A230
            obtain rfl := Option.some.inj H
            go_enter Tryd.func7, Tryd.ntmps7
            go_wp2_with (first | ((with_reducible refine gate_callee (f := 16) rfl ?_); refine goesL_ (some 15) rfl rfl Tryd.func16 (by kernel_rfl) rfl #[.slice A2 l2.length c2] rfl (by (try simp only [List.map_toArray, List.map_cons, List.map_nil]); first | done | rfl | (simp only [List.length_drop, List.length_take]; rfl)) ?_; (with_reducible refine (barbicanlaw10_twin.calls _ _ l2 t345 _ ?side1 ?side2 A4.out).mono ?_); (case side1 => repeat (first | exact HR2.out | (with_reducible refine Kd.C_alloc ?_ _) | (with_reducible refine Kd.C_drewN ?_ _) | (with_reducible refine Kd.C_drew ?_))); (case side2 => exact HC2.out); rintro e w24 ⟨v346, rfl, ho0, hb⟩; refine ⟨_, rfl, ?_⟩; have n0_ := Aside0.mk (Kd.R_lower ho0 (below_size (by repeat (first | (with_reducible first | exact HB.out | apply below_alloc | apply pw_below_drewN | apply below_drew1) | exact HB.out | exact below_undrew HB.out)))); have n1_ := Aside0.mk (below_step (by repeat (first | (with_reducible first | exact HB.out | apply below_alloc | apply pw_below_drewN | apply below_drew1) | exact HB.out | exact below_undrew HB.out)) hb); clear HB; have HO347 := n0_; have HB := n1_; clear n0_ n1_; (try clear hb); (try clear hb2); (try clear hk); (try clear hi); (try clear ho0); obtain ⟨Ao25, co25, eo25⟩ := Kd.R_slice HO347.out; subst eo25) | ((with_reducible refine gate_callee (f := 15) rfl ?_); refine goesL_ (some 16) rfl rfl Tryd.func15 (by kernel_rfl) rfl #[.int .u64 a0, .slice Ao25 t345.length co25] rfl (by (try simp only [List.map_toArray, List.map_cons, List.map_nil]); first | done | rfl | (simp only [List.length_drop, List.length_take]; rfl)) ?_; (with_reducible refine (record_Frame.calls k a0 _ _ t345 t348 none _ ?side1 ?side2 A5.out).mono ?_); (case side1 => repeat (first | exact (Kd.R_reads' HO347.out).2.2 | (with_reducible refine Kd.C_alloc ?_ _) | (with_reducible refine Kd.C_drewN ?_ _) | (with_reducible refine Kd.C_drew ?_))); (case side2 => exact (Kd.R_reads' HO347.out).2.1); rintro e w26 ⟨v350, rfl, ho0, hb⟩; refine ⟨_, rfl, ?_⟩; have n0_ := Aside0.mk (Kd.R_elder' (by (with_reducible repeat (first | apply Kd.R_alloc | apply Kd.R_drewN | apply Kd.R_drew)); exact HO347.out) (Kd.R_base ho0) hb); have n1_ := Aside0.mk (Kd.R_lower (Kd.R_new' ho0 (Kd.R_lt (by (with_reducible repeat (first | apply Kd.R_alloc | apply Kd.R_drewN | apply Kd.R_drew)); exact HO347.out))) (below_size (by repeat (first | (with_reducible first | exact HB.out | apply below_alloc | apply pw_below_drewN | apply below_drew1) | exact HB.out | exact below_undrew HB.out)))); have n2_ := Aside0.mk (below_step (by repeat (first | (with_reducible first | exact HB.out | apply below_alloc | apply pw_below_drewN | apply below_drew1) | exact HB.out | exact below_undrew HB.out)) hb); clear HO347; clear HB; have HO347 := n0_; have HO351 := n1_; have HB := n2_; clear n0_ n1_ n2_; (try clear hb); (try clear hb2); (try clear hk); (try clear hi); (try clear ho0); (try simp only [errW_none, errW_some]); obtain ⟨Ao27, co27, eo27⟩ := Kd.R_slice HO351.out; subst eo27) | ((with_reducible refine gate_callee (f := 21) rfl ?_); refine goesL_ (some 30) rfl rfl Tryd.func21 (by kernel_rfl) rfl #[.int .u64 a1, .slice Ao27 t348.length co27] rfl (by (try simp only [List.map_toArray, List.map_cons, List.map_nil]); first | done | rfl | (simp only [List.length_drop, List.length_take]; rfl)) ?_; (with_reducible refine (record_One.calls k a1 _ _ t348 t353 t354 t355 _ ?side1 ?side2 A6.out).mono ?_); (case side1 => repeat (first | exact (Kd.R_reads' HO351.out).2.2 | (with_reducible refine Kd.C_alloc ?_ _) | (with_reducible refine Kd.C_drewN ?_ _) | (with_reducible refine Kd.C_drew ?_))); (case side2 => exact (Kd.R_reads' HO351.out).2.1); rintro e w28 ⟨v356, rfl, ho0, hb⟩; refine ⟨_, rfl, ?_⟩; have n0_ := Aside0.mk (Kd.R_elder' (by (with_reducible repeat (first | apply Kd.R_alloc | apply Kd.R_drewN | apply Kd.R_drew)); exact HO347.out) (Kd.R_base ho0) hb); have n1_ := Aside0.mk (Kd.R_elder' (by (with_reducible repeat (first | apply Kd.R_alloc | apply Kd.R_drewN | apply Kd.R_drew)); exact HO351.out) (Kd.R_base ho0) hb); have n2_ := Aside0.mk (Kd.R_lower (Kd.R_new' (Kd.R_new' ho0 (Kd.R_lt (by (with_reducible repeat (first | apply Kd.R_alloc | apply Kd.R_drewN | apply Kd.R_drew)); exact HO347.out))) (Kd.R_lt (by (with_reducible repeat (first | apply Kd.R_alloc | apply Kd.R_drewN | apply Kd.R_drew)); exact HO351.out))) (below_size (by repeat (first | (with_reducible first | exact HB.out | apply below_alloc | apply pw_below_drewN | apply below_drew1) | exact HB.out | exact below_undrew HB.out)))); have n3_ := Aside0.mk (below_step (by repeat (first | (with_reducible first | exact HB.out | apply below_alloc | apply pw_below_drewN | apply below_drew1) | exact HB.out | exact below_undrew HB.out)) hb); clear HO347; clear HO351; clear HB; have HO347 := n0_; have HO351 := n1_; have HO357 := n2_; have HB := n3_; clear n0_ n1_ n2_ n3_; (try clear hb); (try clear hb2); (try clear hk); (try clear hi); (try clear ho0); (try simp only [errW_none, errW_some]); have CA19 := fun W hG_ => barbicanlaw10_num.calls t355 t360 W hG_ A19.out; try simp only [errW_none, errW_some] at CA19) | (go_at_call 19; (with_reducible refine (CA19 _ ?side1).mono ?_); (case side1 => exact GE.below HG.out (by repeat (first | (with_reducible first | exact HB.out | apply below_alloc | apply pw_below_drewN | apply below_drew1) | exact HB.out | exact below_undrew HB.out))); rintro e w29 ⟨rfl, hb⟩; have n0_ := Aside0.mk (Kd.R_below (by (with_reducible repeat (first | apply Kd.R_alloc | apply Kd.R_drewN | apply Kd.R_drew)); exact HO347.out) hb); have n1_ := Aside0.mk (Kd.R_below (by (with_reducible repeat (first | apply Kd.R_alloc | apply Kd.R_drewN | apply Kd.R_drew)); exact HO351.out) hb); have n2_ := Aside0.mk (Kd.R_below (by (with_reducible repeat (first | apply Kd.R_alloc | apply Kd.R_drewN | apply Kd.R_drew)); exact HO357.out) hb); have n3_ := Aside0.mk (below_step (by repeat (first | (with_reducible first | exact HB.out | apply below_alloc | apply pw_below_drewN | apply below_drew1) | exact HB.out | exact below_undrew HB.out)) hb); clear HO347; clear HO351; clear HO357; clear HB; have HO347 := n0_; have HO351 := n1_; have HO357 := n2_; have HB := n3_; clear n0_ n1_ n2_ n3_; (try clear hb); (try clear hb2); (try clear hk); (try clear hi); obtain ⟨Ao30, co30, eo30⟩ := Kd.R_slice HO357.out; subst eo30) | (go_at_call 20; (with_reducible refine (barbicanlaw10_sure.calls k  t361 _ A23.out).mono ?_); rintro e w31 ⟨rfl, hb⟩; have n0_ := Aside0.mk (Kd.R_below (by (with_reducible repeat (first | apply Kd.R_alloc | apply Kd.R_drewN | apply Kd.R_drew)); exact HO347.out) hb); have n1_ := Aside0.mk (Kd.R_below (by (with_reducible repeat (first | apply Kd.R_alloc | apply Kd.R_drewN | apply Kd.R_drew)); exact HO351.out) hb); have n2_ := Aside0.mk (Kd.R_below (by (with_reducible repeat (first | apply Kd.R_alloc | apply Kd.R_drewN | apply Kd.R_drew)); exact HO357.out) hb); have n3_ := Aside0.mk (below_step (by repeat (first | (with_reducible first | exact HB.out | apply below_alloc | apply pw_below_drewN | apply below_drew1) | exact HB.out | exact below_undrew HB.out)) hb); clear HO347; clear HO351; clear HO357; clear HB; have HO347 := n0_; have HO351 := n1_; have HO357 := n2_; have HB := n3_; clear n0_ n1_ n2_ n3_; (try clear hb); (try clear hb2); (try clear hk); (try clear hi)))
            go_ret
            exact ⟨by first | rfl | (simp [errW_none, errW_some] <;> rfl) | (simp [*, errW_none, errW_some] <;> rfl), by repeat (first | (with_reducible first | exact HB.out | apply below_alloc | apply pw_below_drewN | apply below_drew1) | exact HB.out | exact below_undrew HB.out)⟩
          · rw [if_neg c22] at H
            have c22b0 : ((t353.length : Int) == 0) = false := beq_eq_false_iff_ne.mpr c22
            have c22b1 : ((t353.length : Int) != 0) = true := bne_iff_ne.mpr c22
            have c22b2 : ¬ (t353 = []) := fun h_ => c22 (by rw [h_]; rfl)
            exact absurd (Option.some.inj H) (by rw [hT.out]; decide)
        · rw [if_neg c21] at H
          have c21b0 : (t354 == 0) = false := beq_eq_false_iff_ne.mpr c21
          have c21b1 : (t354 != 0) = true := bne_iff_ne.mpr c21
          exact absurd (Option.some.inj H) (by rw [hT.out]; decide)
      · rw [if_neg c20] at H
        have c20b0 : (t360 == 11) = false := beq_eq_false_iff_ne.mpr c20
        have c20b1 : (t360 != 11) = true := bne_iff_ne.mpr c20
        exact absurd (Option.some.inj H) (by rw [hT.out]; decide)
  · have H1 : (if (t348.length : Int) = 0 then ((barbicanlaw10_sure.f k).bind fun t362 => (some t362)) else (some false)) = some r := by rw [if_neg (show ¬ (some q352).isNone = true by simp)] at H; exact H
    clear H
    have H := H1
    clear H1
    try simp only [errW_none, errW_some]
    by_cases c32 : (t348.length : Int) = 0
    · rw [if_pos c32] at H
      have c32b0 : ((t348.length : Int) == 0) = true := beq_iff_eq.mpr c32
      have c32b1 : ((t348.length : Int) != 0) = false := bne_eq_false_iff_eq.mpr c32
      clear c32
      replace H := Option.bind_eq_some_iff.mp H
      obtain ⟨t362, A330, H⟩ := H
      replace H : (some t362) = some r := H
      have A33 := Aside0.mk A330
      clear A330
      obtain rfl := Option.some.inj H
      go_enter Tryd.func7, Tryd.ntmps7
      go_wp2_with (first | ((with_reducible refine gate_callee (f := 16) rfl ?_); refine goesL_ (some 15) rfl rfl Tryd.func16 (by kernel_rfl) rfl #[.slice A2 l2.length c2] rfl (by (try simp only [List.map_toArray, List.map_cons, List.map_nil]); first | done | rfl | (simp only [List.length_drop, List.length_take]; rfl)) ?_; (with_reducible refine (barbicanlaw10_twin.calls _ _ l2 t345 _ ?side1 ?side2 A4.out).mono ?_); (case side1 => repeat (first | exact HR2.out | (with_reducible refine Kd.C_alloc ?_ _) | (with_reducible refine Kd.C_drewN ?_ _) | (with_reducible refine Kd.C_drew ?_))); (case side2 => exact HC2.out); rintro e w34 ⟨v346, rfl, ho0, hb⟩; refine ⟨_, rfl, ?_⟩; have n0_ := Aside0.mk (Kd.R_lower ho0 (below_size (by repeat (first | (with_reducible first | exact HB.out | apply below_alloc | apply pw_below_drewN | apply below_drew1) | exact HB.out | exact below_undrew HB.out)))); have n1_ := Aside0.mk (below_step (by repeat (first | (with_reducible first | exact HB.out | apply below_alloc | apply pw_below_drewN | apply below_drew1) | exact HB.out | exact below_undrew HB.out)) hb); clear HB; have HO347 := n0_; have HB := n1_; clear n0_ n1_; (try clear hb); (try clear hb2); (try clear hk); (try clear hi); (try clear ho0); obtain ⟨Ao35, co35, eo35⟩ := Kd.R_slice HO347.out; subst eo35) | ((with_reducible refine gate_callee (f := 15) rfl ?_); refine goesL_ (some 16) rfl rfl Tryd.func15 (by kernel_rfl) rfl #[.int .u64 a0, .slice Ao35 t345.length co35] rfl (by (try simp only [List.map_toArray, List.map_cons, List.map_nil]); first | done | rfl | (simp only [List.length_drop, List.length_take]; rfl)) ?_; (with_reducible refine (record_Frame.calls k a0 _ _ t345 t348 (some q352) _ ?side1 ?side2 A5.out).mono ?_); (case side1 => repeat (first | exact (Kd.R_reads' HO347.out).2.2 | (with_reducible refine Kd.C_alloc ?_ _) | (with_reducible refine Kd.C_drewN ?_ _) | (with_reducible refine Kd.C_drew ?_))); (case side2 => exact (Kd.R_reads' HO347.out).2.1); rintro e w36 ⟨v350, rfl, ho0, hb⟩; refine ⟨_, rfl, ?_⟩; have n0_ := Aside0.mk (Kd.R_elder' (by (with_reducible repeat (first | apply Kd.R_alloc | apply Kd.R_drewN | apply Kd.R_drew)); exact HO347.out) (Kd.R_base ho0) hb); have n1_ := Aside0.mk (Kd.R_lower (Kd.R_new' ho0 (Kd.R_lt (by (with_reducible repeat (first | apply Kd.R_alloc | apply Kd.R_drewN | apply Kd.R_drew)); exact HO347.out))) (below_size (by repeat (first | (with_reducible first | exact HB.out | apply below_alloc | apply pw_below_drewN | apply below_drew1) | exact HB.out | exact below_undrew HB.out)))); have n2_ := Aside0.mk (below_step (by repeat (first | (with_reducible first | exact HB.out | apply below_alloc | apply pw_below_drewN | apply below_drew1) | exact HB.out | exact below_undrew HB.out)) hb); clear HO347; clear HB; have HO347 := n0_; have HO351 := n1_; have HB := n2_; clear n0_ n1_ n2_; (try clear hb); (try clear hb2); (try clear hk); (try clear hi); (try clear ho0); (try simp only [errW_none, errW_some]); obtain ⟨Ao37, co37, eo37⟩ := Kd.R_slice HO351.out; subst eo37) | (go_at_call 20; (with_reducible refine (barbicanlaw10_sure.calls k  t362 _ A33.out).mono ?_); rintro e w38 ⟨rfl, hb⟩; have n0_ := Aside0.mk (Kd.R_below (by (with_reducible repeat (first | apply Kd.R_alloc | apply Kd.R_drewN | apply Kd.R_drew)); exact HO347.out) hb); have n1_ := Aside0.mk (Kd.R_below (by (with_reducible repeat (first | apply Kd.R_alloc | apply Kd.R_drewN | apply Kd.R_drew)); exact HO351.out) hb); have n2_ := Aside0.mk (below_step (by repeat (first | (with_reducible first | exact HB.out | apply below_alloc | apply pw_below_drewN | apply below_drew1) | exact HB.out | exact below_undrew HB.out)) hb); clear HO347; clear HO351; clear HB; have HO347 := n0_; have HO351 := n1_; have HB := n2_; clear n0_ n1_ n2_; (try clear hb); (try clear hb2); (try clear hk); (try clear hi)))
      go_ret
      exact ⟨by first | rfl | (simp [errW_none, errW_some] <;> rfl) | (simp [*, errW_none, errW_some] <;> rfl), by repeat (first | (with_reducible first | exact HB.out | apply below_alloc | apply pw_below_drewN | apply below_drew1) | exact HB.out | exact below_undrew HB.out)⟩
    · rw [if_neg c32] at H
      have c32b0 : ((t348.length : Int) == 0) = false := beq_eq_false_iff_ne.mpr c32
      have c32b1 : ((t348.length : Int) != 0) = true := bne_iff_ne.mpr c32
      have c32b2 : ¬ (t348 = []) := fun h_ => c32 (by rw [h_]; rfl)
      exact absurd (Option.some.inj H) (by rw [hT.out]; decide)

end Go.Proofs.YtindggjkcnelcaaDoor.XAll
