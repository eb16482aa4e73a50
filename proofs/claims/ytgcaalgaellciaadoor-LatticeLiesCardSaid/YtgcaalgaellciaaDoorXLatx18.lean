/- Printed by this session's program (wip/print) out of the translation, for the statement named in the file's name. -/
import Derived.Test.YtgcaalgaellciaaDoorXLatx0
import Derived.Test.YtgcaalgaellciaaDoorXLatx2
import Derived.Test.YtgcaalgaellciaaDoorXLatx3
import Derived.Test.YtgcaalgaellciaaDoorXLatx4
import Derived.Test.YtgcaalgaellciaaDoorXLatx5
import Derived.Test.YtgcaalgaellciaaDoorXLatx6
import Derived.Test.YtgcaalgaellciaaDoorXLatx7
import Derived.Test.YtgcaalgaellciaaDoorXLatx10
import Derived.Test.YtgcaalgaellciaaDoorXLatx12
import Derived.Test.YtgcaalgaellciaaDoorXLatx14
import Derived.Test.YtgcaalgaellciaaDoorXLatx15
import Derived.Test.YtgcaalgaellciaaDoorXLatx17
namespace Go.Proofs.YtgcaalgaellciaaDoor.XLat
open Go.RowKit Go.Proofs.YtgcaalgaellciaaDoorW.PrintWords Go.Proofs.YtgcaalgaellciaaDoorW.PrintLast Go.Proofs.YtgcaalgaellciaaDoorW.PrintMore Go.Proofs.YtgcaalgaellciaaDoor.Lab
attribute [local go_sem] eqGuard_ptr str_gtr str_leq str_geq max2_int min2_int max_two min_two max_three min_three max_four min_four   -- for this text's walks alone
set_option linter.unusedVariables false
set_option linter.unusedSimpArgs false
set_option linter.unnecessarySimpa false

/-! ### barbicanlaw02_LatticeLies: function 4 -/
def barbicanlaw02_LatticeLies.j0 : Nat → List (S35) → Int → Int → List (S35) → Bool → Option (Bool)
  | 0, _, _, _, _, _ => none
  | k + 1, x0, x1, x2, x7, x20 => if x20 = true then (if x7.isEmpty = true then ((lattice_Lattice_Len.f x7).bind fun t193 => (if t193 = 0 then ((lattice_Lattice_Below.f x7 0).bind fun t194 => (if (t194.length : Int) = 0 then ((lattice_Lattice_Order.f x7).bind fun t197 => (if (t197.length : Int) = 0 then ((lattice_Lattice_Text.f x7).bind fun t200 => (if t200.toList = ([] : List UInt8) then ((barbicanlaw02_sure.f k).bind fun t201 => (some t201)) else (some false))) else (some false))) else (some false))) else (some false))) else (some false)) else ((lattice_Lattice_Below.f x7 x1).bind fun t202 => ((barbicanref02_Below.f k x0 x1).bind fun t205 => ((barbicanlaw02_ints.f k t202 t205).bind fun t208 => (if t208 = true then ((lattice_Lattice_Above.f x7 x1).bind fun t209 => ((barbicanref02_Above.f k x0 x1).bind fun t212 => ((barbicanlaw02_ints.f k t209 t212).bind fun t215 => (if t215 = true then ((lattice_Lattice_Dominates.f x7 x1 x2).bind fun t216 => ((barbicanref02_Dominates.f k x0 x1 x2).bind fun t217 => (if (t216 == t217) = true then ((lattice_Lattice_Order.f x7).bind fun t218 => ((barbicanref02_Order.f k x0).bind fun t221 => ((barbicanlaw02_ints.f k t218 t221).bind fun t224 => (if t224 = true then ((barbicanlaw02_sure.f k).bind fun t225 => (some t225)) else (some false))))) else (some false)))) else (some false))))) else (some false)))))
def barbicanlaw02_LatticeLies.f (k : Nat) (l0 : List (S35)) (a1 : Int) (a2 : Int) : Option (Bool) := (barbicanlaw02_twin.f l0).bind fun t185 => ((lattice_New.f t185).bind fun bt188 => (if bt188.2.isNone = true then (barbicanlaw02_LatticeLies.j0 k l0 a1 a2 bt188.1 ((bt188.1).isEmpty)) else (barbicanlaw02_LatticeLies.j0 k l0 a1 a2 bt188.1 true)))
theorem barbicanlaw02_LatticeLies.mono_l : ∀ k, (∀ y0 y1 y2 y3 y4, LeO (barbicanlaw02_LatticeLies.j0 k y0 y1 y2 y3 y4) (barbicanlaw02_LatticeLies.j0 (k + 1) y0 y1 y2 y3 y4))
  | 0 => fun _ _ _ _ _ r h => by simp [barbicanlaw02_LatticeLies.j0] at h
  | k + 1 => by
    have ih0 := barbicanlaw02_LatticeLies.mono_l k
    · intro y0 y1 y2 y3 y4
      unfold barbicanlaw02_LatticeLies.j0
      repeat' first
      | (with_reducible exact ih0 _ _ _ _ _)
      | (with_reducible exact barbicanlaw02_ints.mono _ _ _)
      | (with_reducible exact barbicanlaw02_sure.mono _)
      | (with_reducible exact barbicanref02_Above.mono _ _ _)
      | (with_reducible exact barbicanref02_Below.mono _ _ _)
      | (with_reducible exact barbicanref02_Dominates.mono _ _ _ _)
      | (with_reducible exact barbicanref02_Order.mono _ _)
      | (with_reducible exact LeO.refl _)
      | (with_reducible exact LeO.none _)
      | (with_reducible refine LeO.ite ?_ ?_)
      | (with_reducible refine LeO.bind ?_ (fun _ => ?_))
      | exact ih0 _ _ _ _ _
      | exact barbicanlaw02_ints.mono _ _ _
      | exact barbicanlaw02_sure.mono _
      | exact barbicanref02_Above.mono _ _ _
      | exact barbicanref02_Below.mono _ _ _
      | exact barbicanref02_Dominates.mono _ _ _ _
      | exact barbicanref02_Order.mono _ _
      | exact LeO.none _
      | refine LeO.ite ?_ ?_
      | refine LeO.bind ?_ (fun _ => ?_)
theorem barbicanlaw02_LatticeLies.mono : ∀ a0 a1 a2 k, LeO (barbicanlaw02_LatticeLies.f k a0 a1 a2) (barbicanlaw02_LatticeLies.f (k + 1) a0 a1 a2) := by
  intro a0 a1 a2 k
  have ih0 := barbicanlaw02_LatticeLies.mono_l k
  unfold barbicanlaw02_LatticeLies.f
  repeat' first
      | (with_reducible exact ih0 _ _ _ _ _)
      | (with_reducible exact barbicanlaw02_ints.mono _ _ _)
      | (with_reducible exact barbicanlaw02_sure.mono _)
      | (with_reducible exact barbicanref02_Above.mono _ _ _)
      | (with_reducible exact barbicanref02_Below.mono _ _ _)
      | (with_reducible exact barbicanref02_Dominates.mono _ _ _ _)
      | (with_reducible exact barbicanref02_Order.mono _ _)
      | (with_reducible exact LeO.refl _)
      | (with_reducible exact LeO.none _)
      | (with_reducible refine LeO.ite ?_ ?_)
      | (with_reducible refine LeO.bind ?_ (fun _ => ?_))
      | exact ih0 _ _ _ _ _
      | exact barbicanlaw02_ints.mono _ _ _
      | exact barbicanlaw02_sure.mono _
      | exact barbicanref02_Above.mono _ _ _
      | exact barbicanref02_Below.mono _ _ _
      | exact barbicanref02_Dominates.mono _ _ _ _
      | exact barbicanref02_Order.mono _ _
      | exact LeO.none _
      | refine LeO.ite ?_ ?_
      | refine LeO.bind ?_ (fun _ => ?_)
set_option maxHeartbeats 8000000 in
set_option maxRecDepth 100000 in
theorem barbicanlaw02_LatticeLies.calls (k : Nat) (A0 : Option Addr) (c0 : Nat) (l0 : List (S35)) (a1 : Int) (a2 : Int) (r : Bool) (w : World) (hr0 : Kd.C k35 w A0 l0.length l0) (hc0 : l0.length ≤ c0) (hG : GE w) (h : barbicanlaw02_LatticeLies.f k l0 a1 a2 = some r) (hT : Aside0 (r = true)) :
    Calls Tryd.prog 4 #[.slice A0 l0.length c0, .int .i64 a1, .int .i64 a2] w fun e w' => e = .returned (.bool r) ∧ Below w.heap.size w w' := by
  have hu25 := Tryd.underlying25
  have hu45 := Tryd.underlying45
  have HR0 := Aside0.mk hr0
  have HC0 := Aside0.mk hc0
  clear hr0 hc0
  have HG := Aside0.mk hG
  clear hG
  have HB := Aside0.mk (Below.refl w.heap.size w)
  have H : ((barbicanlaw02_twin.f l0).bind fun t185 => ((lattice_New.f t185).bind fun bt188 => (if bt188.2.isNone = true then (barbicanlaw02_LatticeLies.j0 k l0 a1 a2 bt188.1 ((bt188.1).isEmpty)) else (barbicanlaw02_LatticeLies.j0 k l0 a1 a2 bt188.1 true)))) = some r := h
  clear h
  replace H := Option.bind_eq_some_iff.mp H
  obtain ⟨t185, A40, H⟩ := H
  replace H : ((lattice_New.f t185).bind fun bt188 => (if bt188.2.isNone = true then (barbicanlaw02_LatticeLies.j0 k l0 a1 a2 bt188.1 ((bt188.1).isEmpty)) else (barbicanlaw02_LatticeLies.j0 k l0 a1 a2 bt188.1 true))) = some r := H
  have A4 := Aside0.mk A40
  clear A40
  replace H := Option.bind_eq_some_iff.mp H
  obtain ⟨⟨t188, t189⟩, A50, H⟩ := H
  replace H : (if t189.isNone = true then (barbicanlaw02_LatticeLies.j0 k l0 a1 a2 t188 ((t188).isEmpty)) else (barbicanlaw02_LatticeLies.j0 k l0 a1 a2 t188 true)) = some r := H
  have A5 := Aside0.mk A50
  clear A50
  have HC6 := Aside0.mk H
  clear H
  go_enter Tryd.func4, Tryd.ntmps4
  go_upto_region 2 with (first | ((with_reducible refine gate_callee (f := 6) rfl ?_); refine goesL_ (some 11) rfl rfl Tryd.func6 (by kernel_rfl) rfl #[.slice A0 l0.length c0] rfl (by (try simp only [List.map_toArray, List.map_cons, List.map_nil]); first | done | rfl | (simp only [List.length_drop, List.length_take]; rfl)) ?_; (with_reducible refine (barbicanlaw02_twin.calls _ _ l0 t185 _ ?side1 ?side2 A4.out).mono ?_); (case side1 => repeat (first | exact HR0.out | (with_reducible refine Kd.C_alloc ?_ _) | (with_reducible refine Kd.C_drewN ?_ _) | (with_reducible refine Kd.C_drew ?_))); (case side2 => exact HC0.out); rintro e w7 ⟨v186, rfl, ho0, hb⟩; refine ⟨_, rfl, ?_⟩; have n0_ := Aside0.mk (Kd.R_lower ho0 (below_size (by repeat (first | (with_reducible first | exact HB.out | apply below_alloc | apply pw_below_drewN | apply below_drew1) | exact HB.out | exact below_undrew HB.out)))); have n1_ := Aside0.mk (below_step (by repeat (first | (with_reducible first | exact HB.out | apply below_alloc | apply pw_below_drewN | apply below_drew1) | exact HB.out | exact below_undrew HB.out)) hb); clear HB; have HO187 := n0_; have HB := n1_; clear n0_ n1_; (try clear hb); (try clear hb2); (try clear hk); (try clear hi); (try clear ho0); obtain ⟨Ao8, co8, eo8⟩ := Kd.R_slice HO187.out; subst eo8) | ((with_reducible refine gate_callee (f := 5) rfl ?_); refine goesL_ (some 12) rfl rfl Tryd.func5 (by kernel_rfl) rfl #[.slice Ao8 t185.length co8] rfl (by (try simp only [List.map_toArray, List.map_cons, List.map_nil]); first | done | rfl | (simp only [List.length_drop, List.length_take]; rfl)) ?_; (with_reducible refine (lattice_New.calls _ _ t185 t188 t189 _ ?side1 ?side2 A5.out).mono ?_); (case side1 => repeat (first | exact (Kd.R_reads' HO187.out).2.2 | (with_reducible refine Kd.C_alloc ?_ _) | (with_reducible refine Kd.C_drewN ?_ _) | (with_reducible refine Kd.C_drew ?_))); (case side2 => exact (Kd.R_reads' HO187.out).2.1); rintro e w9 ⟨v190, rfl, ho0, hb⟩; refine ⟨_, rfl, ?_⟩; have n0_ := Aside0.mk (Kd.R_below (by (with_reducible repeat (first | apply Kd.R_alloc | apply Kd.R_drewN | apply Kd.R_drew)); exact HO187.out) hb); have n1_ := Aside0.mk (Kd.O_lower (Kd.O_mono (ok' := fun k_ => some k_ ≠ (.slice Ao8 t185.length co8 : Value).ownBlock) (Kd.O_new ho0) (fun k_ hk_ => (Kd.fresh' (Kd.R_lt (by (with_reducible repeat (first | apply Kd.R_alloc | apply Kd.R_drewN | apply Kd.R_drew)); exact HO187.out)) k_ hk_.2.1))) (below_size (by repeat (first | (with_reducible first | exact HB.out | apply below_alloc | apply pw_below_drewN | apply below_drew1) | exact HB.out | exact below_undrew HB.out)))); have n2_ := Aside0.mk (below_step (by repeat (first | (with_reducible first | exact HB.out | apply below_alloc | apply pw_below_drewN | apply below_drew1) | exact HB.out | exact below_undrew HB.out)) hb); clear HO187; clear HB; have HO187 := n0_; have HO191 := n1_; have hnHO191 := fun w_ : World => Kd.O_eql (P := Tryd.prog) HO191.out 23 (by kernel_rfl) w_; have hmHO191 := fun w_ : World => Kd.O_neq (P := Tryd.prog) HO191.out 23 (by kernel_rfl) w_; have HB := n2_; clear n0_ n1_ n2_; (try clear hb); (try clear hb2); (try clear hk); (try clear hi); (try clear ho0); (try simp only [errW_none, errW_some])))
  (try simp only [Act.put, List.setIfInBounds_toArray, List.set_cons_zero, List.set_cons_succ])
  go_cut [20] (fun v20 wc => ∃ (kq : Nat) (x20_5 : Bool), v20 = .bool x20_5 ∧ Aside0 (barbicanlaw02_LatticeLies.j0 kq l0 a1 a2 t188 x20_5 = some r) ∧ Aside0 (kq ≤ k) ∧ Aside0 (Kd.O k35 9023 wc w.heap.size (fun _ => True) v190 t188) ∧ Aside0 (Below w.heap.size w wc))
  case first =>
    have H := HC6.out
    clear HC6
    rcases t189 with _ | q192
    · have H1 : (barbicanlaw02_LatticeLies.j0 k l0 a1 a2 t188 ((t188).isEmpty)) = some r := by rw [if_pos (show (none : Option Int).isNone = true by rfl)] at H; exact H
      clear H
      have H := H1
      clear H1
      try simp only [errW_none, errW_some]
      have H' := Aside0.mk H
      clear H
      go_wp2
      go_meet
      case rel => exact ⟨_, ((t188).isEmpty), (by first | rfl | (simp; done) | (simp [*]; done)), H', ⟨by first | omega | exact Nat.le_refl _⟩, ⟨by (with_reducible repeat (first | apply Kd.O_alloc | apply Kd.O_drewN | apply Kd.O_drew)); exact Kd.O_mono HO191.out (fun _ hk => trivial)⟩, ⟨by repeat (first | (with_reducible first | exact HB.out | apply below_alloc | apply pw_below_drewN | apply below_drew1) | exact HB.out | exact below_undrew HB.out)⟩⟩
    · have H1 : (barbicanlaw02_LatticeLies.j0 k l0 a1 a2 t188 true) = some r := by rw [if_neg (show ¬ (some q192).isNone = true by simp)] at H; exact H
      clear H
      have H := H1
      clear H1
      try simp only [errW_none, errW_some]
      have H' := Aside0.mk H
      clear H
      go_wp2
      go_meet
      case rel => exact ⟨_, (true), (by first | rfl | (simp; done) | (simp [*]; done)), H', ⟨by first | omega | exact Nat.le_refl _⟩, ⟨by (with_reducible repeat (first | apply Kd.O_alloc | apply Kd.O_drewN | apply Kd.O_drew)); exact Kd.O_mono HO191.out (fun _ hk => trivial)⟩, ⟨by repeat (first | (with_reducible first | exact HB.out | apply below_alloc | apply pw_below_drewN | apply below_drew1) | exact HB.out | exact below_undrew HB.out)⟩⟩
  case rest =>
    clear HC6
    try clear q1
    try clear p2
    try clear c4
    try clear c5
    try clear c6
    try clear q192
    obtain ⟨kq, x20_5, rfl, HA, HJ5, HO_7, HB⟩ := hcut
    cases kq with
    | zero => exact absurd HA.out (by simp [barbicanlaw02_LatticeLies.j0])
    | succ kj5 =>
      have H := HA.out
      clear HA
      simp only [barbicanlaw02_LatticeLies.j0] at H
      by_cases c10 : x20_5 = true
      · subst c10
        have H1 : (if t188.isEmpty = true then ((lattice_Lattice_Len.f t188).bind fun t193 => (if t193 = 0 then ((lattice_Lattice_Below.f t188 0).bind fun t194 => (if (t194.length : Int) = 0 then ((lattice_Lattice_Order.f t188).bind fun t197 => (if (t197.length : Int) = 0 then ((lattice_Lattice_Text.f t188).bind fun t200 => (if t200.toList = ([] : List UInt8) then ((barbicanlaw02_sure.f kj5).bind fun t201 => (some t201)) else (some false))) else (some false))) else (some false))) else (some false))) else (some false)) = some r := by rw [if_pos rfl] at H; exact H
        clear H
        have H := H1
        clear H1
        by_cases c11 : t188.isEmpty = true
        · rw [if_pos c11] at H
          have c11b0 : t188.isEmpty = true := c11
          clear c11
          replace H := Option.bind_eq_some_iff.mp H
          obtain ⟨t193, A120, H⟩ := H
          replace H : (if t193 = 0 then ((lattice_Lattice_Below.f t188 0).bind fun t194 => (if (t194.length : Int) = 0 then ((lattice_Lattice_Order.f t188).bind fun t197 => (if (t197.length : Int) = 0 then ((lattice_Lattice_Text.f t188).bind fun t200 => (if t200.toList = ([] : List UInt8) then ((barbicanlaw02_sure.f kj5).bind fun t201 => (some t201)) else (some false))) else (some false))) else (some false))) else (some false)) = some r := H
          have A12 := Aside0.mk A120
          clear A120
          by_cases c13 : t193 = 0
          · rw [if_pos c13] at H
            have c13b0 : (t193 == 0) = true := beq_iff_eq.mpr c13
            have c13b1 : (t193 != 0) = false := bne_eq_false_iff_eq.mpr c13
            clear c13
            replace H := Option.bind_eq_some_iff.mp H
            obtain ⟨t194, A140, H⟩ := H
            replace H : (if (t194.length : Int) = 0 then ((lattice_Lattice_Order.f t188).bind fun t197 => (if (t197.length : Int) = 0 then ((lattice_Lattice_Text.f t188).bind fun t200 => (if t200.toList = ([] : List UInt8) then ((barbicanlaw02_sure.f kj5).bind fun t201 => (some t201)) else (some false))) else (some false))) else (some false)) = some r := H
            have A14 := Aside0.mk A140
            clear A140
            by_cases c15 : (t194.length : Int) = 0
            · rw [if_pos c15] at H
              have c15b0 : ((t194.length : Int) == 0) = true := beq_iff_eq.mpr c15
              have c15b1 : ((t194.length : Int) != 0) = false := bne_eq_false_iff_eq.mpr c15
              clear c15
              replace H := Option.bind_eq_some_iff.mp H
              obtain ⟨t197, A160, H⟩ := H
              replace H : (if (t197.length : Int) = 0 then ((lattice_Lattice_Text.f t188).bind fun t200 => (if t200.toList = ([] : List UInt8) then ((barbicanlaw02_sure.f kj5).bind fun t201 => (some t201)) else (some false))) else (some false)) = some r := H
              have A16 := Aside0.mk A160
              clear A160
              by_cases c17 : (t197.length : Int) = 0
              · rw [if_pos c17] at H
                have c17b0 : ((t197.length : Int) == 0) = true := beq_iff_eq.mpr c17
                have c17b1 : ((t197.length : Int) != 0) = false := bne_eq_false_iff_eq.mpr c17
                clear c17
                replace H := Option.bind_eq_some_iff.mp H
                obtain ⟨t200, A180, H⟩ := H
                replace H : (if t200.toList = ([] : List UInt8) then ((barbicanlaw02_sure.f kj5).bind fun t201 => (some t201)) else (some false)) = some r := H
                have A18 := Aside0.mk A180
                clear A180
                by_cases c19 : t200.toList = ([] : List UInt8)
                · rw [if_pos c19] at H
                  have c19b0 : (t200.toList == ([] : List UInt8)) = true := beq_iff_eq.mpr c19
                  have c19b1 : (t200.toList != ([] : List UInt8)) = false := bne_eq_false_iff_eq.mpr c19
                  clear c19
                  replace H := Option.bind_eq_some_iff.mp H
                  obtain ⟨t201, A200, H⟩ := H
                  replace H : (some t201) = some r := H
                  have A20 := Aside0.mk A200
                  clear A200
                  obtain rfl := Option.some.inj H
                  obtain ⟨Ao21, co21, eo21⟩ := Kd.O_slice HO_7.out
                  subst eo21; have hiAo21 := Kd.O_isN HO_7.out
                  go_wp2_with (first | (go_at_call 12; (with_reducible refine (lattice_Lattice_Len.calls _ t188 t193 _ ?side1 ?side2 A12.out).mono ?_); (case side1 => exact (Kd.O_reads' (by (with_reducible repeat (first | apply Kd.O_alloc | apply Kd.O_drewN | apply Kd.O_drew)); exact HO_7.out)).2.2); (case side2 => exact (Kd.O_reads' HO_7.out).2.1); rintro e w22 ⟨rfl, hb⟩; have n0_ := Aside0.mk (Kd.O_below (by (with_reducible repeat (first | apply Kd.O_alloc | apply Kd.O_drewN | apply Kd.O_drew)); exact HO_7.out) hb); have n1_ := Aside0.mk (below_step (by repeat (first | (with_reducible first | exact HB.out | apply below_alloc | apply pw_below_drewN | apply below_drew1) | exact HB.out | exact below_undrew HB.out)) hb); clear HO_7; clear HB; have HO_7 := n0_; have hnHO_7 := fun w_ : World => Kd.O_eql (P := Tryd.prog) HO_7.out 23 (by kernel_rfl) w_; have hmHO_7 := fun w_ : World => Kd.O_neq (P := Tryd.prog) HO_7.out 23 (by kernel_rfl) w_; have HB := n1_; clear n0_ n1_; (try clear hb); (try clear hb2); (try clear hk); (try clear hi)) | (go_at_call 10; (with_reducible refine (lattice_Lattice_Below.calls _ t188 0 t194 _ ?side1 ?side2 A14.out).mono ?_); (case side1 => exact (Kd.O_reads' (by (with_reducible repeat (first | apply Kd.O_alloc | apply Kd.O_drewN | apply Kd.O_drew)); exact HO_7.out)).2.2); (case side2 => exact (Kd.O_reads' HO_7.out).2.1); rintro e w23 ⟨v195, rfl, ho0, hb⟩; have n0_ := Aside0.mk (Kd.O_elder' (by (with_reducible repeat (first | apply Kd.O_alloc | apply Kd.O_drewN | apply Kd.O_drew)); exact HO_7.out) (Kd.R_base ho0) hb); have n1_ := Aside0.mk (Kd.R_lower ho0 (below_size (by repeat (first | (with_reducible first | exact HB.out | apply below_alloc | apply pw_below_drewN | apply below_drew1) | exact HB.out | exact below_undrew HB.out)))); have n2_ := Aside0.mk (below_step (by repeat (first | (with_reducible first | exact HB.out | apply below_alloc | apply pw_below_drewN | apply below_drew1) | exact HB.out | exact below_undrew HB.out)) hb); clear HO_7; clear HB; have HO_7 := n0_; have hnHO_7 := fun w_ : World => Kd.O_eql (P := Tryd.prog) HO_7.out 23 (by kernel_rfl) w_; have hmHO_7 := fun w_ : World => Kd.O_neq (P := Tryd.prog) HO_7.out 23 (by kernel_rfl) w_; have HO196 := n1_; have HB := n2_; clear n0_ n1_ n2_; (try clear hb); (try clear hb2); (try clear hk); (try clear hi); (try clear ho0); obtain ⟨Ao24, co24, eo24⟩ := Kd.R_slice HO196.out; subst eo24) | (go_at_call 8; (with_reducible refine (lattice_Lattice_Order.calls _ t188 t197 _ ?side1 ?side2 A16.out).mono ?_); (case side1 => exact (Kd.O_reads' (by (with_reducible repeat (first | apply Kd.O_alloc | apply Kd.O_drewN | apply Kd.O_drew)); exact HO_7.out)).2.2); (case side2 => exact (Kd.O_reads' HO_7.out).2.1); rintro e w25 ⟨v198, rfl, ho0, hb⟩; have n0_ := Aside0.mk (Kd.O_elder' (by (with_reducible repeat (first | apply Kd.O_alloc | apply Kd.O_drewN | apply Kd.O_drew)); exact HO_7.out) (Kd.R_base ho0) hb); have n1_ := Aside0.mk (Kd.R_elder' (by (with_reducible repeat (first | apply Kd.R_alloc | apply Kd.R_drewN | apply Kd.R_drew)); exact HO196.out) (Kd.R_base ho0) hb); have n2_ := Aside0.mk (Kd.R_lower (Kd.R_new' ho0 (Kd.R_lt (by (with_reducible repeat (first | apply Kd.R_alloc | apply Kd.R_drewN | apply Kd.R_drew)); exact HO196.out))) (below_size (by repeat (first | (with_reducible first | exact HB.out | apply below_alloc | apply pw_below_drewN | apply below_drew1) | exact HB.out | exact below_undrew HB.out)))); have n3_ := Aside0.mk (below_step (by repeat (first | (with_reducible first | exact HB.out | apply below_alloc | apply pw_below_drewN | apply below_drew1) | exact HB.out | exact below_undrew HB.out)) hb); clear HO_7; clear HO196; clear HB; have HO_7 := n0_; have hnHO_7 := fun w_ : World => Kd.O_eql (P := Tryd.prog) HO_7.out 23 (by kernel_rfl) w_; have hmHO_7 := fun w_ : World => Kd.O_neq (P := Tryd.prog) HO_7.out 23 (by kernel_rfl) w_; have HO196 := n1_; have HO199 := n2_; have HB := n3_; clear n0_ n1_ n2_ n3_; (try clear hb); (try clear hb2); (try clear hk); (try clear hi); (try clear ho0); obtain ⟨Ao26, co26, eo26⟩ := Kd.R_slice HO199.out; subst eo26) | (go_at_call 13; (with_reducible refine (lattice_Lattice_Text.calls _ t188 t200 _ ?side1 ?side2 ?side3 A18.out).mono ?_); (case side1 => exact (Kd.O_reads' (by (with_reducible repeat (first | apply Kd.O_alloc | apply Kd.O_drewN | apply Kd.O_drew)); exact HO_7.out)).2.2); (case side2 => exact (Kd.O_reads' HO_7.out).2.1); (case side3 => exact GE.below HG.out (by repeat (first | (with_reducible first | exact HB.out | apply below_alloc | apply pw_below_drewN | apply below_drew1) | exact HB.out | exact below_undrew HB.out))); rintro e w27 ⟨rfl, hb⟩; have n0_ := Aside0.mk (Kd.O_below (by (with_reducible repeat (first | apply Kd.O_alloc | apply Kd.O_drewN | apply Kd.O_drew)); exact HO_7.out) hb); have n1_ := Aside0.mk (Kd.R_below (by (with_reducible repeat (first | apply Kd.R_alloc | apply Kd.R_drewN | apply Kd.R_drew)); exact HO196.out) hb); have n2_ := Aside0.mk (Kd.R_below (by (with_reducible repeat (first | apply Kd.R_alloc | apply Kd.R_drewN | apply Kd.R_drew)); exact HO199.out) hb); have n3_ := Aside0.mk (below_step (by repeat (first | (with_reducible first | exact HB.out | apply below_alloc | apply pw_below_drewN | apply below_drew1) | exact HB.out | exact below_undrew HB.out)) hb); clear HO_7; clear HO196; clear HO199; clear HB; have HO_7 := n0_; have hnHO_7 := fun w_ : World => Kd.O_eql (P := Tryd.prog) HO_7.out 23 (by kernel_rfl) w_; have hmHO_7 := fun w_ : World => Kd.O_neq (P := Tryd.prog) HO_7.out 23 (by kernel_rfl) w_; have HO196 := n1_; have HO199 := n2_; have HB := n3_; clear n0_ n1_ n2_ n3_; (try clear hb); (try clear hb2); (try clear hk); (try clear hi)) | (go_at_call 7; (with_reducible refine (barbicanlaw02_sure.calls kj5  t201 _ ?side1 A20.out).mono ?_); (case side1 => exact GE.below HG.out (by repeat (first | (with_reducible first | exact HB.out | apply below_alloc | apply pw_below_drewN | apply below_drew1) | exact HB.out | exact below_undrew HB.out))); rintro e w28 ⟨rfl, hb⟩; have n0_ := Aside0.mk (Kd.O_below (by (with_reducible repeat (first | apply Kd.O_alloc | apply Kd.O_drewN | apply Kd.O_drew)); exact HO_7.out) hb); have n1_ := Aside0.mk (Kd.R_below (by (with_reducible repeat (first | apply Kd.R_alloc | apply Kd.R_drewN | apply Kd.R_drew)); exact HO196.out) hb); have n2_ := Aside0.mk (Kd.R_below (by (with_reducible repeat (first | apply Kd.R_alloc | apply Kd.R_drewN | apply Kd.R_drew)); exact HO199.out) hb); have n3_ := Aside0.mk (below_step (by repeat (first | (with_reducible first | exact HB.out | apply below_alloc | apply pw_below_drewN | apply below_drew1) | exact HB.out | exact below_undrew HB.out)) hb); clear HO_7; clear HO196; clear HO199; clear HB; have HO_7 := n0_; have hnHO_7 := fun w_ : World => Kd.O_eql (P := Tryd.prog) HO_7.out 23 (by kernel_rfl) w_; have hmHO_7 := fun w_ : World => Kd.O_neq (P := Tryd.prog) HO_7.out 23 (by kernel_rfl) w_; have HO196 := n1_; have HO199 := n2_; have HB := n3_; clear n0_ n1_ n2_ n3_; (try clear hb); (try clear hb2); (try clear hk); (try clear hi)))
                  go_ret
                  exact ⟨by first | rfl | (simp [errW_none, errW_some] <;> rfl) | (simp [*, errW_none, errW_some] <;> rfl), by repeat (first | (with_reducible first | exact HB.out | apply below_alloc | apply pw_below_drewN | apply below_drew1) | exact HB.out | exact below_undrew HB.out)⟩
                · rw [if_neg c19] at H
                  have c19b0 : (t200.toList == ([] : List UInt8)) = false := beq_eq_false_iff_ne.mpr c19
                  have c19b1 : (t200.toList != ([] : List UInt8)) = true := bne_iff_ne.mpr c19
                  exact absurd (Option.some.inj H) (by rw [hT.out]; decide)
              · rw [if_neg c17] at H
                have c17b0 : ((t197.length : Int) == 0) = false := beq_eq_false_iff_ne.mpr c17
                have c17b1 : ((t197.length : Int) != 0) = true := bne_iff_ne.mpr c17
                have c17b2 : ¬ (t197 = []) := fun h_ => c17 (by rw [h_]; rfl)
                exact absurd (Option.some.inj H) (by rw [hT.out]; decide)
            · rw [if_neg c15] at H
              have c15b0 : ((t194.length : Int) == 0) = false := beq_eq_false_iff_ne.mpr c15
              have c15b1 : ((t194.length : Int) != 0) = true := bne_iff_ne.mpr c15
              have c15b2 : ¬ (t194 = []) := fun h_ => c15 (by rw [h_]; rfl)
              exact absurd (Option.some.inj H) (by rw [hT.out]; decide)
          · rw [if_neg c13] at H
            have c13b0 : (t193 == 0) = false := beq_eq_false_iff_ne.mpr c13
            have c13b1 : (t193 != 0) = true := bne_iff_ne.mpr c13
            exact absurd (Option.some.inj H) (by rw [hT.out]; decide)
        · rw [if_neg c11] at H
          have c11b0 : t188.isEmpty = false := by simpa using c11
          clear c11
          exact absurd (Option.some.inj H) (by rw [hT.out]; decide)
      · replace c10 := Bool.eq_false_iff.mpr c10
        subst c10
        have H1 : ((lattice_Lattice_Below.f t188 a1).bind fun t202 => ((barbicanref02_Below.f kj5 l0 a1).bind fun t205 => ((barbicanlaw02_ints.f kj5 t202 t205).bind fun t208 => (if t208 = true then ((lattice_Lattice_Above.f t188 a1).bind fun t209 => ((barbicanref02_Above.f kj5 l0 a1).bind fun t212 => ((barbicanlaw02_ints.f kj5 t209 t212).bind fun t215 => (if t215 = true then ((lattice_Lattice_Dominates.f t188 a1 a2).bind fun t216 => ((barbicanref02_Dominates.f kj5 l0 a1 a2).bind fun t217 => (if (t216 == t217) = true then ((lattice_Lattice_Order.f t188).bind fun t218 => ((barbicanref02_Order.f kj5 l0).bind fun t221 => ((barbicanlaw02_ints.f kj5 t218 t221).bind fun t224 => (if t224 = true then ((barbicanlaw02_sure.f kj5).bind fun t225 => (some t225)) else (some false))))) else (some false)))) else (some false))))) else (some false))))) = some r := by rw [if_neg (show ¬ (false = true) by decide)] at H; exact H
        clear H
        have H := H1
        clear H1
        replace H := Option.bind_eq_some_iff.mp H
        obtain ⟨t202, A290, H⟩ := H
        replace H : ((barbicanref02_Below.f kj5 l0 a1).bind fun t205 => ((barbicanlaw02_ints.f kj5 t202 t205).bind fun t208 => (if t208 = true then ((lattice_Lattice_Above.f t188 a1).bind fun t209 => ((barbicanref02_Above.f kj5 l0 a1).bind fun t212 => ((barbicanlaw02_ints.f kj5 t209 t212).bind fun t215 => (if t215 = true then ((lattice_Lattice_Dominates.f t188 a1 a2).bind fun t216 => ((barbicanref02_Dominates.f kj5 l0 a1 a2).bind fun t217 => (if (t216 == t217) = true then ((lattice_Lattice_Order.f t188).bind fun t218 => ((barbicanref02_Order.f kj5 l0).bind fun t221 => ((barbicanlaw02_ints.f kj5 t218 t221).bind fun t224 => (if t224 = true then ((barbicanlaw02_sure.f kj5).bind fun t225 => (some t225)) else (some false))))) else (some false)))) else (some false))))) else (some false)))) = some r := H
        have A29 := Aside0.mk A290
        clear A290
        replace H := Option.bind_eq_some_iff.mp H
        obtain ⟨t205, A300, H⟩ := H
        replace H : ((barbicanlaw02_ints.f kj5 t202 t205).bind fun t208 => (if t208 = true then ((lattice_Lattice_Above.f t188 a1).bind fun t209 => ((barbicanref02_Above.f kj5 l0 a1).bind fun t212 => ((barbicanlaw02_ints.f kj5 t209 t212).bind fun t215 => (if t215 = true then ((lattice_Lattice_Dominates.f t188 a1 a2).bind fun t216 => ((barbicanref02_Dominates.f kj5 l0 a1 a2).bind fun t217 => (if (t216 == t217) = true then ((lattice_Lattice_Order.f t188).bind fun t218 => ((barbicanref02_Order.f kj5 l0).bind fun t221 => ((barbicanlaw02_ints.f kj5 t218 t221).bind fun t224 => (if t224 = true then ((barbicanlaw02_sure.f kj5).bind fun t225 => (some t225)) else (some false))))) else (some false)))) else (some false))))) else (some false))) = some r := H
        have A30 := Aside0.mk A300
        clear A300
        replace H := Option.bind_eq_some_iff.mp H
        obtain ⟨t208, A310, H⟩ := H
        replace H : (if t208 = true then ((lattice_Lattice_Above.f t188 a1).bind fun t209 => ((barbicanref02_Above.f kj5 l0 a1).bind fun t212 => ((barbicanlaw02_ints.f kj5 t209 t212).bind fun t215 => (if t215 = true then ((lattice_Lattice_Dominates.f t188 a1 a2).bind fun t216 => ((barbicanref02_Dominates.f kj5 l0 a1 a2).bind fun t217 => (if (t216 == t217) = true then ((lattice_Lattice_Order.f t188).bind fun t218 => ((barbicanref02_Order.f kj5 l0).bind fun t221 => ((barbicanlaw02_ints.f kj5 t218 t221).bind fun t224 => (if t224 = true then ((barbicanlaw02_sure.f kj5).bind fun t225 => (some t225)) else (some false))))) else (some false)))) else (some false))))) else (some false)) = some r := H
        have A31 := Aside0.mk A310
        clear A310
        by_cases c32 : t208 = true
        · subst c32
          have H1 : ((lattice_Lattice_Above.f t188 a1).bind fun t209 => ((barbicanref02_Above.f kj5 l0 a1).bind fun t212 => ((barbicanlaw02_ints.f kj5 t209 t212).bind fun t215 => (if t215 = true then ((lattice_Lattice_Dominates.f t188 a1 a2).bind fun t216 => ((barbicanref02_Dominates.f kj5 l0 a1 a2).bind fun t217 => (if (t216 == t217) = true then ((lattice_Lattice_Order.f t188).bind fun t218 => ((barbicanref02_Order.f kj5 l0).bind fun t221 => ((barbicanlaw02_ints.f kj5 t218 t221).bind fun t224 => (if t224 = true then ((barbicanlaw02_sure.f kj5).bind fun t225 => (some t225)) else (some false))))) else (some false)))) else (some false))))) = some r := by rw [if_pos rfl] at H; exact H
          clear H
          have H := H1
          clear H1
          replace H := Option.bind_eq_some_iff.mp H
          obtain ⟨t209, A330, H⟩ := H
          replace H : ((barbicanref02_Above.f kj5 l0 a1).bind fun t212 => ((barbicanlaw02_ints.f kj5 t209 t212).bind fun t215 => (if t215 = true then ((lattice_Lattice_Dominates.f t188 a1 a2).bind fun t216 => ((barbicanref02_Dominates.f kj5 l0 a1 a2).bind fun t217 => (if (t216 == t217) = true then ((lattice_Lattice_Order.f t188).bind fun t218 => ((barbicanref02_Order.f kj5 l0).bind fun t221 => ((barbicanlaw02_ints.f kj5 t218 t221).bind fun t224 => (if t224 = true then ((barbicanlaw02_sure.f kj5).bind fun t225 => (some t225)) else (some false))))) else (some false)))) else (some false)))) = some r := H
          have A33 := Aside0.mk A330
          clear A330
          replace H := Option.bind_eq_some_iff.mp H
          obtain ⟨t212, A340, H⟩ := H
          replace H : ((barbicanlaw02_ints.f kj5 t209 t212).bind fun t215 => (if t215 = true then ((lattice_Lattice_Dominates.f t188 a1 a2).bind fun t216 => ((barbicanref02_Dominates.f kj5 l0 a1 a2).bind fun t217 => (if (t216 == t217) = true then ((lattice_Lattice_Order.f t188).bind fun t218 => ((barbicanref02_Order.f kj5 l0).bind fun t221 => ((barbicanlaw02_ints.f kj5 t218 t221).bind fun t224 => (if t224 = true then ((barbicanlaw02_sure.f kj5).bind fun t225 => (some t225)) else (some false))))) else (some false)))) else (some false))) = some r := H
          have A34 := Aside0.mk A340
          clear A340
          replace H := Option.bind_eq_some_iff.mp H
          obtain ⟨t215, A350, H⟩ := H
          replace H : (if t215 = true then ((lattice_Lattice_Dominates.f t188 a1 a2).bind fun t216 => ((barbicanref02_Dominates.f kj5 l0 a1 a2).bind fun t217 => (if (t216 == t217) = true then ((lattice_Lattice_Order.f t188).bind fun t218 => ((barbicanref02_Order.f kj5 l0).bind fun t221 => ((barbicanlaw02_ints.f kj5 t218 t221).bind fun t224 => (if t224 = true then ((barbicanlaw02_sure.f kj5).bind fun t225 => (some t225)) else (some false))))) else (some false)))) else (some false)) = some r := H
          have A35 := Aside0.mk A350
          clear A350
          by_cases c36 : t215 = true
          · subst c36
            have H1 : ((lattice_Lattice_Dominates.f t188 a1 a2).bind fun t216 => ((barbicanref02_Dominates.f kj5 l0 a1 a2).bind fun t217 => (if (t216 == t217) = true then ((lattice_Lattice_Order.f t188).bind fun t218 => ((barbicanref02_Order.f kj5 l0).bind fun t221 => ((barbicanlaw02_ints.f kj5 t218 t221).bind fun t224 => (if t224 = true then ((barbicanlaw02_sure.f kj5).bind fun t225 => (some t225)) else (some false))))) else (some false)))) = some r := by rw [if_pos rfl] at H; exact H
            clear H
            have H := H1
            clear H1
            replace H := Option.bind_eq_some_iff.mp H
            obtain ⟨t216, A370, H⟩ := H
            replace H : ((barbicanref02_Dominates.f kj5 l0 a1 a2).bind fun t217 => (if (t216 == t217) = true then ((lattice_Lattice_Order.f t188).bind fun t218 => ((barbicanref02_Order.f kj5 l0).bind fun t221 => ((barbicanlaw02_ints.f kj5 t218 t221).bind fun t224 => (if t224 = true then ((barbicanlaw02_sure.f kj5).bind fun t225 => (some t225)) else (some false))))) else (some false))) = some r := H
            have A37 := Aside0.mk A370
            clear A370
            replace H := Option.bind_eq_some_iff.mp H
            obtain ⟨t217, A380, H⟩ := H
            replace H : (if (t216 == t217) = true then ((lattice_Lattice_Order.f t188).bind fun t218 => ((barbicanref02_Order.f kj5 l0).bind fun t221 => ((barbicanlaw02_ints.f kj5 t218 t221).bind fun t224 => (if t224 = true then ((barbicanlaw02_sure.f kj5).bind fun t225 => (some t225)) else (some false))))) else (some false)) = some r := H
            have A38 := Aside0.mk A380
            clear A380
            by_cases c39 : (t216 == t217) = true
            · rw [if_pos c39] at H
              have c39b0 : (t216 == t217) = true := c39
              (try (have c39b1 : decide (t216 = t217) = true := by simpa using c39))
              (try (have c39b2 : (t216 == t217) = true := by simpa using c39))
              clear c39
              replace H := Option.bind_eq_some_iff.mp H
              obtain ⟨t218, A400, H⟩ := H
              replace H : ((barbicanref02_Order.f kj5 l0).bind fun t221 => ((barbicanlaw02_ints.f kj5 t218 t221).bind fun t224 => (if t224 = true then ((barbicanlaw02_sure.f kj5).bind fun t225 => (some t225)) else (some false)))) = some r := H
              have A40 := Aside0.mk A400
              clear A400
              replace H := Option.bind_eq_some_iff.mp H
              obtain ⟨t221, A410, H⟩ := H
              replace H : ((barbicanlaw02_ints.f kj5 t218 t221).bind fun t224 => (if t224 = true then ((barbicanlaw02_sure.f kj5).bind fun t225 => (some t225)) else (some false))) = some r := H
              have A41 := Aside0.mk A410
              clear A410
              replace H := Option.bind_eq_some_iff.mp H
              obtain ⟨t224, A420, H⟩ := H
              replace H : (if t224 = true then ((barbicanlaw02_sure.f kj5).bind fun t225 => (some t225)) else (some false)) = some r := H
              have A42 := Aside0.mk A420
              clear A420
              by_cases c43 : t224 = true
              · subst c43
                have H1 : ((barbicanlaw02_sure.f kj5).bind fun t225 => (some t225)) = some r := by rw [if_pos rfl] at H; exact H
                clear H
                have H := H1
                clear H1
                replace H := Option.bind_eq_some_iff.mp H
                obtain ⟨t225, A440, H⟩ := H
                replace H : (some t225) = some r := H
                have A44 := Aside0.mk A440
                clear A440
                obtain rfl := Option.some.inj H
                obtain ⟨Ao45, co45, eo45⟩ := Kd.O_slice HO_7.out
                subst eo45; have hiAo45 := Kd.O_isN HO_7.out
                go_wp2_with (first | ((with_reducible refine gate_callee (f := 10) rfl ?_); refine goesL_ (some 50) rfl rfl Tryd.func10 (by kernel_rfl) rfl #[.pointer Ao45, .int .i64 a1] rfl (by (try simp only [List.map_toArray, List.map_cons, List.map_nil]); first | done | rfl | (simp only [List.length_drop, List.length_take]; rfl)) ?_; (with_reducible refine (lattice_Lattice_Below.calls _ t188 a1 t202 _ ?side1 ?side2 A29.out).mono ?_); (case side1 => exact (Kd.O_reads' (by (with_reducible repeat (first | apply Kd.O_alloc | apply Kd.O_drewN | apply Kd.O_drew)); exact HO_7.out)).2.2); (case side2 => exact (Kd.O_reads' HO_7.out).2.1); rintro e w46 ⟨v203, rfl, ho0, hb⟩; refine ⟨_, rfl, ?_⟩; have n0_ := Aside0.mk (Kd.O_elder' (by (with_reducible repeat (first | apply Kd.O_alloc | apply Kd.O_drewN | apply Kd.O_drew)); exact HO_7.out) (Kd.R_base ho0) hb); have n1_ := Aside0.mk (Kd.R_lower ho0 (below_size (by repeat (first | (with_reducible first | exact HB.out | apply below_alloc | apply pw_below_drewN | apply below_drew1) | exact HB.out | exact below_undrew HB.out)))); have n2_ := Aside0.mk (below_step (by repeat (first | (with_reducible first | exact HB.out | apply below_alloc | apply pw_below_drewN | apply below_drew1) | exact HB.out | exact below_undrew HB.out)) hb); clear HO_7; clear HB; have HO_7 := n0_; have hnHO_7 := fun w_ : World => Kd.O_eql (P := Tryd.prog) HO_7.out 23 (by kernel_rfl) w_; have hmHO_7 := fun w_ : World => Kd.O_neq (P := Tryd.prog) HO_7.out 23 (by kernel_rfl) w_; have HO204 := n1_; have HB := n2_; clear n0_ n1_ n2_; (try clear hb); (try clear hb2); (try clear hk); (try clear hi); (try clear ho0)) | ((with_reducible refine gate_callee (f := 15) rfl ?_); refine goesL_ (some 53) rfl rfl Tryd.func15 (by kernel_rfl) rfl #[.slice A0 l0.length c0, .int .i64 a1] rfl (by (try simp only [List.map_toArray, List.map_cons, List.map_nil]); first | done | rfl | (simp only [List.length_drop, List.length_take]; rfl)) ?_; (with_reducible refine (barbicanref02_Below.calls kj5 _ _ l0 a1 t205 _ ?side1 ?side2 A30.out).mono ?_); (case side1 => repeat (first | exact (Kd.C_below HR0.out HB.out) | (with_reducible refine Kd.C_alloc ?_ _) | (with_reducible refine Kd.C_drewN ?_ _) | (with_reducible refine Kd.C_drew ?_))); (case side2 => exact HC0.out); rintro e w47 ⟨v206, rfl, ho0, hb⟩; refine ⟨_, rfl, ?_⟩; have n0_ := Aside0.mk (Kd.O_elder' (by (with_reducible repeat (first | apply Kd.O_alloc | apply Kd.O_drewN | apply Kd.O_drew)); exact HO_7.out) (Kd.R_base ho0) hb); have n1_ := Aside0.mk (Kd.R_elder' (by (with_reducible repeat (first | apply Kd.R_alloc | apply Kd.R_drewN | apply Kd.R_drew)); exact HO204.out) (Kd.R_base ho0) hb); have n2_ := Aside0.mk (Kd.R_lower (Kd.R_new' ho0 (Kd.R_lt (by (with_reducible repeat (first | apply Kd.R_alloc | apply Kd.R_drewN | apply Kd.R_drew)); exact HO204.out))) (below_size (by repeat (first | (with_reducible first | exact HB.out | apply below_alloc | apply pw_below_drewN | apply below_drew1) | exact HB.out | exact below_undrew HB.out)))); have n3_ := Aside0.mk (below_step (by repeat (first | (with_reducible first | exact HB.out | apply below_alloc | apply pw_below_drewN | apply below_drew1) | exact HB.out | exact below_undrew HB.out)) hb); clear HO_7; clear HO204; clear HB; have HO_7 := n0_; have hnHO_7 := fun w_ : World => Kd.O_eql (P := Tryd.prog) HO_7.out 23 (by kernel_rfl) w_; have hmHO_7 := fun w_ : World => Kd.O_neq (P := Tryd.prog) HO_7.out 23 (by kernel_rfl) w_; have HO204 := n1_; have HO207 := n2_; have HB := n3_; clear n0_ n1_ n2_ n3_; (try clear hb); (try clear hb2); (try clear hk); (try clear hi); (try clear ho0); obtain ⟨Ao48, co48, eo48⟩ := Kd.R_slice HO204.out; subst eo48; obtain ⟨Ao49, co49, eo49⟩ := Kd.R_slice HO207.out; subst eo49) | ((with_reducible refine gate_callee (f := 14) rfl ?_); refine goesL_ (some 54) rfl rfl Tryd.func14 (by kernel_rfl) rfl #[.slice Ao48 t202.length co48, .slice Ao49 t205.length co49] rfl (by (try simp only [List.map_toArray, List.map_cons, List.map_nil]); first | done | rfl | (simp only [List.length_drop, List.length_take]; rfl)) ?_; (with_reducible refine (barbicanlaw02_ints.calls kj5 _ _ t202 _ _ t205 true _ ?side1 ?side2 ?side3 ?side4 A31.out).mono ?_); (case side1 => repeat (first | exact (Kd.R_reads' HO204.out).2.2 | (with_reducible refine Kd.C_alloc ?_ _) | (with_reducible refine Kd.C_drewN ?_ _) | (with_reducible refine Kd.C_drew ?_))); (case side2 => exact (Kd.R_reads' HO204.out).2.1); (case side3 => repeat (first | exact (Kd.R_reads' HO207.out).2.2 | (with_reducible refine Kd.C_alloc ?_ _) | (with_reducible refine Kd.C_drewN ?_ _) | (with_reducible refine Kd.C_drew ?_))); (case side4 => exact (Kd.R_reads' HO207.out).2.1); rintro e w' ⟨rfl, ⟨nd, rfl⟩⟩; refine ⟨_, rfl, ?_⟩) | (go_at_call 11; (with_reducible refine (lattice_Lattice_Above.calls _ t188 a1 t209 _ ?side1 ?side2 A33.out).mono ?_); (case side1 => exact (Kd.O_reads' (by (with_reducible repeat (first | apply Kd.O_alloc | apply Kd.O_drewN | apply Kd.O_drew)); exact HO_7.out)).2.2); (case side2 => exact (Kd.O_reads' HO_7.out).2.1); rintro e w50 ⟨v210, rfl, ho0, hb⟩; have n0_ := Aside0.mk (Kd.O_elder' (by (with_reducible repeat (first | apply Kd.O_alloc | apply Kd.O_drewN | apply Kd.O_drew)); exact HO_7.out) (Kd.R_base ho0) hb); have n1_ := Aside0.mk (Kd.R_elder' (by (with_reducible repeat (first | apply Kd.R_alloc | apply Kd.R_drewN | apply Kd.R_drew)); exact HO204.out) (Kd.R_base ho0) hb); have n2_ := Aside0.mk (Kd.R_elder' (by (with_reducible repeat (first | apply Kd.R_alloc | apply Kd.R_drewN | apply Kd.R_drew)); exact HO207.out) (Kd.R_base ho0) hb); have n3_ := Aside0.mk (Kd.R_lower (Kd.R_new' (Kd.R_new' ho0 (Kd.R_lt (by (with_reducible repeat (first | apply Kd.R_alloc | apply Kd.R_drewN | apply Kd.R_drew)); exact HO204.out))) (Kd.R_lt (by (with_reducible repeat (first | apply Kd.R_alloc | apply Kd.R_drewN | apply Kd.R_drew)); exact HO207.out))) (below_size (by repeat (first | (with_reducible first | exact HB.out | apply below_alloc | apply pw_below_drewN | apply below_drew1) | exact HB.out | exact below_undrew HB.out)))); have n4_ := Aside0.mk (below_step (by repeat (first | (with_reducible first | exact HB.out | apply below_alloc | apply pw_below_drewN | apply below_drew1) | exact HB.out | exact below_undrew HB.out)) hb); clear HO_7; clear HO204; clear HO207; clear HB; have HO_7 := n0_; have hnHO_7 := fun w_ : World => Kd.O_eql (P := Tryd.prog) HO_7.out 23 (by kernel_rfl) w_; have hmHO_7 := fun w_ : World => Kd.O_neq (P := Tryd.prog) HO_7.out 23 (by kernel_rfl) w_; have HO204 := n1_; have HO207 := n2_; have HO211 := n3_; have HB := n4_; clear n0_ n1_ n2_ n3_ n4_; (try clear hb); (try clear hb2); (try clear hk); (try clear hi); (try clear ho0)) | (go_at_call 16; (with_reducible refine (barbicanref02_Above.calls kj5 _ _ l0 a1 t212 _ ?side1 ?side2 A34.out).mono ?_); (case side1 => repeat (first | exact (Kd.C_below HR0.out HB.out) | (with_reducible refine Kd.C_alloc ?_ _) | (with_reducible refine Kd.C_drewN ?_ _) | (with_reducible refine Kd.C_drew ?_))); (case side2 => exact HC0.out); rintro e w51 ⟨v213, rfl, ho0, hb⟩; have n0_ := Aside0.mk (Kd.O_elder' (by (with_reducible repeat (first | apply Kd.O_alloc | apply Kd.O_drewN | apply Kd.O_drew)); exact HO_7.out) (Kd.R_base ho0) hb); have n1_ := Aside0.mk (Kd.R_elder' (by (with_reducible repeat (first | apply Kd.R_alloc | apply Kd.R_drewN | apply Kd.R_drew)); exact HO204.out) (Kd.R_base ho0) hb); have n2_ := Aside0.mk (Kd.R_elder' (by (with_reducible repeat (first | apply Kd.R_alloc | apply Kd.R_drewN | apply Kd.R_drew)); exact HO207.out) (Kd.R_base ho0) hb); have n3_ := Aside0.mk (Kd.R_elder' (by (with_reducible repeat (first | apply Kd.R_alloc | apply Kd.R_drewN | apply Kd.R_drew)); exact HO211.out) (Kd.R_base ho0) hb); have n4_ := Aside0.mk (Kd.R_lower (Kd.R_new' (Kd.R_new' (Kd.R_new' ho0 (Kd.R_lt (by (with_reducible repeat (first | apply Kd.R_alloc | apply Kd.R_drewN | apply Kd.R_drew)); exact HO204.out))) (Kd.R_lt (by (with_reducible repeat (first | apply Kd.R_alloc | apply Kd.R_drewN | apply Kd.R_drew)); exact HO207.out))) (Kd.R_lt (by (with_reducible repeat (first | apply Kd.R_alloc | apply Kd.R_drewN | apply Kd.R_drew)); exact HO211.out))) (below_size (by repeat (first | (with_reducible first | exact HB.out | apply below_alloc | apply pw_below_drewN | apply below_drew1) | exact HB.out | exact below_undrew HB.out)))); have n5_ := Aside0.mk (below_step (by repeat (first | (with_reducible first | exact HB.out | apply below_alloc | apply pw_below_drewN | apply below_drew1) | exact HB.out | exact below_undrew HB.out)) hb); clear HO_7; clear HO204; clear HO207; clear HO211; clear HB; have HO_7 := n0_; have hnHO_7 := fun w_ : World => Kd.O_eql (P := Tryd.prog) HO_7.out 23 (by kernel_rfl) w_; have hmHO_7 := fun w_ : World => Kd.O_neq (P := Tryd.prog) HO_7.out 23 (by kernel_rfl) w_; have HO204 := n1_; have HO207 := n2_; have HO211 := n3_; have HO214 := n4_; have HB := n5_; clear n0_ n1_ n2_ n3_ n4_ n5_; (try clear hb); (try clear hb2); (try clear hk); (try clear hi); (try clear ho0); obtain ⟨Ao52, co52, eo52⟩ := Kd.R_slice HO211.out; subst eo52; obtain ⟨Ao53, co53, eo53⟩ := Kd.R_slice HO214.out; subst eo53) | (go_at_call 14; (with_reducible refine (barbicanlaw02_ints.calls kj5 _ _ t209 _ _ t212 true _ ?side1 ?side2 ?side3 ?side4 A35.out).mono ?_); (case side1 => repeat (first | exact (Kd.R_reads' HO211.out).2.2 | (with_reducible refine Kd.C_alloc ?_ _) | (with_reducible refine Kd.C_drewN ?_ _) | (with_reducible refine Kd.C_drew ?_))); (case side2 => exact (Kd.R_reads' HO211.out).2.1); (case side3 => repeat (first | exact (Kd.R_reads' HO214.out).2.2 | (with_reducible refine Kd.C_alloc ?_ _) | (with_reducible refine Kd.C_drewN ?_ _) | (with_reducible refine Kd.C_drew ?_))); (case side4 => exact (Kd.R_reads' HO214.out).2.1); rintro e w' ⟨rfl, ⟨nd, rfl⟩⟩) | (go_at_call 17; (with_reducible refine (lattice_Lattice_Dominates.calls _ t188 a1 a2 t216 _ ?side1 ?side2 A37.out).mono ?_); (case side1 => exact (Kd.O_reads' (by (with_reducible repeat (first | apply Kd.O_alloc | apply Kd.O_drewN | apply Kd.O_drew)); exact HO_7.out)).2.2); (case side2 => exact (Kd.O_reads' HO_7.out).2.1); rintro e w54 ⟨rfl, hb⟩; have n0_ := Aside0.mk (Kd.O_below (by (with_reducible repeat (first | apply Kd.O_alloc | apply Kd.O_drewN | apply Kd.O_drew)); exact HO_7.out) hb); have n1_ := Aside0.mk (Kd.R_below (by (with_reducible repeat (first | apply Kd.R_alloc | apply Kd.R_drewN | apply Kd.R_drew)); exact HO204.out) hb); have n2_ := Aside0.mk (Kd.R_below (by (with_reducible repeat (first | apply Kd.R_alloc | apply Kd.R_drewN | apply Kd.R_drew)); exact HO207.out) hb); have n3_ := Aside0.mk (Kd.R_below (by (with_reducible repeat (first | apply Kd.R_alloc | apply Kd.R_drewN | apply Kd.R_drew)); exact HO211.out) hb); have n4_ := Aside0.mk (Kd.R_below (by (with_reducible repeat (first | apply Kd.R_alloc | apply Kd.R_drewN | apply Kd.R_drew)); exact HO214.out) hb); have n5_ := Aside0.mk (below_step (by repeat (first | (with_reducible first | exact HB.out | apply below_alloc | apply pw_below_drewN | apply below_drew1) | exact HB.out | exact below_undrew HB.out)) hb); clear HO_7; clear HO204; clear HO207; clear HO211; clear HO214; clear HB; have HO_7 := n0_; have hnHO_7 := fun w_ : World => Kd.O_eql (P := Tryd.prog) HO_7.out 23 (by kernel_rfl) w_; have hmHO_7 := fun w_ : World => Kd.O_neq (P := Tryd.prog) HO_7.out 23 (by kernel_rfl) w_; have HO204 := n1_; have HO207 := n2_; have HO211 := n3_; have HO214 := n4_; have HB := n5_; clear n0_ n1_ n2_ n3_ n4_ n5_; (try clear hb); (try clear hb2); (try clear hk); (try clear hi)) | (go_at_call 18; (with_reducible refine (barbicanref02_Dominates.calls kj5 _ _ l0 a1 a2 t217 _ ?side1 ?side2 A38.out).mono ?_); (case side1 => repeat (first | exact (Kd.C_below HR0.out HB.out) | (with_reducible refine Kd.C_alloc ?_ _) | (with_reducible refine Kd.C_drewN ?_ _) | (with_reducible refine Kd.C_drew ?_))); (case side2 => exact HC0.out); rintro e w55 ⟨rfl, hb⟩; have n0_ := Aside0.mk (Kd.O_below (by (with_reducible repeat (first | apply Kd.O_alloc | apply Kd.O_drewN | apply Kd.O_drew)); exact HO_7.out) hb); have n1_ := Aside0.mk (Kd.R_below (by (with_reducible repeat (first | apply Kd.R_alloc | apply Kd.R_drewN | apply Kd.R_drew)); exact HO204.out) hb); have n2_ := Aside0.mk (Kd.R_below (by (with_reducible repeat (first | apply Kd.R_alloc | apply Kd.R_drewN | apply Kd.R_drew)); exact HO207.out) hb); have n3_ := Aside0.mk (Kd.R_below (by (with_reducible repeat (first | apply Kd.R_alloc | apply Kd.R_drewN | apply Kd.R_drew)); exact HO211.out) hb); have n4_ := Aside0.mk (Kd.R_below (by (with_reducible repeat (first | apply Kd.R_alloc | apply Kd.R_drewN | apply Kd.R_drew)); exact HO214.out) hb); have n5_ := Aside0.mk (below_step (by repeat (first | (with_reducible first | exact HB.out | apply below_alloc | apply pw_below_drewN | apply below_drew1) | exact HB.out | exact below_undrew HB.out)) hb); clear HO_7; clear HO204; clear HO207; clear HO211; clear HO214; clear HB; have HO_7 := n0_; have hnHO_7 := fun w_ : World => Kd.O_eql (P := Tryd.prog) HO_7.out 23 (by kernel_rfl) w_; have hmHO_7 := fun w_ : World => Kd.O_neq (P := Tryd.prog) HO_7.out 23 (by kernel_rfl) w_; have HO204 := n1_; have HO207 := n2_; have HO211 := n3_; have HO214 := n4_; have HB := n5_; clear n0_ n1_ n2_ n3_ n4_ n5_; (try clear hb); (try clear hb2); (try clear hk); (try clear hi)) | (go_at_call 8; (with_reducible refine (lattice_Lattice_Order.calls _ t188 t218 _ ?side1 ?side2 A40.out).mono ?_); (case side1 => exact (Kd.O_reads' (by (with_reducible repeat (first | apply Kd.O_alloc | apply Kd.O_drewN | apply Kd.O_drew)); exact HO_7.out)).2.2); (case side2 => exact (Kd.O_reads' HO_7.out).2.1); rintro e w56 ⟨v219, rfl, ho0, hb⟩; have n0_ := Aside0.mk (Kd.O_elder' (by (with_reducible repeat (first | apply Kd.O_alloc | apply Kd.O_drewN | apply Kd.O_drew)); exact HO_7.out) (Kd.R_base ho0) hb); have n1_ := Aside0.mk (Kd.R_elder' (by (with_reducible repeat (first | apply Kd.R_alloc | apply Kd.R_drewN | apply Kd.R_drew)); exact HO204.out) (Kd.R_base ho0) hb); have n2_ := Aside0.mk (Kd.R_elder' (by (with_reducible repeat (first | apply Kd.R_alloc | apply Kd.R_drewN | apply Kd.R_drew)); exact HO207.out) (Kd.R_base ho0) hb); have n3_ := Aside0.mk (Kd.R_elder' (by (with_reducible repeat (first | apply Kd.R_alloc | apply Kd.R_drewN | apply Kd.R_drew)); exact HO211.out) (Kd.R_base ho0) hb); have n4_ := Aside0.mk (Kd.R_elder' (by (with_reducible repeat (first | apply Kd.R_alloc | apply Kd.R_drewN | apply Kd.R_drew)); exact HO214.out) (Kd.R_base ho0) hb); have n5_ := Aside0.mk (Kd.R_lower (Kd.R_new' (Kd.R_new' (Kd.R_new' (Kd.R_new' ho0 (Kd.R_lt (by (with_reducible repeat (first | apply Kd.R_alloc | apply Kd.R_drewN | apply Kd.R_drew)); exact HO204.out))) (Kd.R_lt (by (with_reducible repeat (first | apply Kd.R_alloc | apply Kd.R_drewN | apply Kd.R_drew)); exact HO207.out))) (Kd.R_lt (by (with_reducible repeat (first | apply Kd.R_alloc | apply Kd.R_drewN | apply Kd.R_drew)); exact HO211.out))) (Kd.R_lt (by (with_reducible repeat (first | apply Kd.R_alloc | apply Kd.R_drewN | apply Kd.R_drew)); exact HO214.out))) (below_size (by repeat (first | (with_reducible first | exact HB.out | apply below_alloc | apply pw_below_drewN | apply below_drew1) | exact HB.out | exact below_undrew HB.out)))); have n6_ := Aside0.mk (below_step (by repeat (first | (with_reducible first | exact HB.out | apply below_alloc | apply pw_below_drewN | apply below_drew1) | exact HB.out | exact below_undrew HB.out)) hb); clear HO_7; clear HO204; clear HO207; clear HO211; clear HO214; clear HB; have HO_7 := n0_; have hnHO_7 := fun w_ : World => Kd.O_eql (P := Tryd.prog) HO_7.out 23 (by kernel_rfl) w_; have hmHO_7 := fun w_ : World => Kd.O_neq (P := Tryd.prog) HO_7.out 23 (by kernel_rfl) w_; have HO204 := n1_; have HO207 := n2_; have HO211 := n3_; have HO214 := n4_; have HO220 := n5_; have HB := n6_; clear n0_ n1_ n2_ n3_ n4_ n5_ n6_; (try clear hb); (try clear hb2); (try clear hk); (try clear hi); (try clear ho0)) | (go_at_call 19; (with_reducible refine (barbicanref02_Order.calls kj5 _ _ l0 t221 _ ?side1 ?side2 A41.out).mono ?_); (case side1 => repeat (first | exact (Kd.C_below HR0.out HB.out) | (with_reducible refine Kd.C_alloc ?_ _) | (with_reducible refine Kd.C_drewN ?_ _) | (with_reducible refine Kd.C_drew ?_))); (case side2 => exact HC0.out); rintro e w57 ⟨v222, rfl, ho0, hb⟩; have n0_ := Aside0.mk (Kd.O_elder' (by (with_reducible repeat (first | apply Kd.O_alloc | apply Kd.O_drewN | apply Kd.O_drew)); exact HO_7.out) (Kd.R_base ho0) hb); have n1_ := Aside0.mk (Kd.R_elder' (by (with_reducible repeat (first | apply Kd.R_alloc | apply Kd.R_drewN | apply Kd.R_drew)); exact HO204.out) (Kd.R_base ho0) hb); have n2_ := Aside0.mk (Kd.R_elder' (by (with_reducible repeat (first | apply Kd.R_alloc | apply Kd.R_drewN | apply Kd.R_drew)); exact HO207.out) (Kd.R_base ho0) hb); have n3_ := Aside0.mk (Kd.R_elder' (by (with_reducible repeat (first | apply Kd.R_alloc | apply Kd.R_drewN | apply Kd.R_drew)); exact HO211.out) (Kd.R_base ho0) hb); have n4_ := Aside0.mk (Kd.R_elder' (by (with_reducible repeat (first | apply Kd.R_alloc | apply Kd.R_drewN | apply Kd.R_drew)); exact HO214.out) (Kd.R_base ho0) hb); have n5_ := Aside0.mk (Kd.R_elder' (by (with_reducible repeat (first | apply Kd.R_alloc | apply Kd.R_drewN | apply Kd.R_drew)); exact HO220.out) (Kd.R_base ho0) hb); have n6_ := Aside0.mk (Kd.R_lower (Kd.R_new' (Kd.R_new' (Kd.R_new' (Kd.R_new' (Kd.R_new' ho0 (Kd.R_lt (by (with_reducible repeat (first | apply Kd.R_alloc | apply Kd.R_drewN | apply Kd.R_drew)); exact HO204.out))) (Kd.R_lt (by (with_reducible repeat (first | apply Kd.R_alloc | apply Kd.R_drewN | apply Kd.R_drew)); exact HO207.out))) (Kd.R_lt (by (with_reducible repeat (first | apply Kd.R_alloc | apply Kd.R_drewN | apply Kd.R_drew)); exact HO211.out))) (Kd.R_lt (by (with_reducible repeat (first | apply Kd.R_alloc | apply Kd.R_drewN | apply Kd.R_drew)); exact HO214.out))) (Kd.R_lt (by (with_reducible repeat (first | apply Kd.R_alloc | apply Kd.R_drewN | apply Kd.R_drew)); exact HO220.out))) (below_size (by repeat (first | (with_reducible first | exact HB.out | apply below_alloc | apply pw_below_drewN | apply below_drew1) | exact HB.out | exact below_undrew HB.out)))); have n7_ := Aside0.mk (below_step (by repeat (first | (with_reducible first | exact HB.out | apply below_alloc | apply pw_below_drewN | apply below_drew1) | exact HB.out | exact below_undrew HB.out)) hb); clear HO_7; clear HO204; clear HO207; clear HO211; clear HO214; clear HO220; clear HB; have HO_7 := n0_; have hnHO_7 := fun w_ : World => Kd.O_eql (P := Tryd.prog) HO_7.out 23 (by kernel_rfl) w_; have hmHO_7 := fun w_ : World => Kd.O_neq (P := Tryd.prog) HO_7.out 23 (by kernel_rfl) w_; have HO204 := n1_; have HO207 := n2_; have HO211 := n3_; have HO214 := n4_; have HO220 := n5_; have HO223 := n6_; have HB := n7_; clear n0_ n1_ n2_ n3_ n4_ n5_ n6_ n7_; (try clear hb); (try clear hb2); (try clear hk); (try clear hi); (try clear ho0); obtain ⟨Ao58, co58, eo58⟩ := Kd.R_slice HO220.out; subst eo58; obtain ⟨Ao59, co59, eo59⟩ := Kd.R_slice HO223.out; subst eo59) | (go_at_call 14; (with_reducible refine (barbicanlaw02_ints.calls kj5 _ _ t218 _ _ t221 true _ ?side1 ?side2 ?side3 ?side4 A42.out).mono ?_); (case side1 => repeat (first | exact (Kd.R_reads' HO220.out).2.2 | (with_reducible refine Kd.C_alloc ?_ _) | (with_reducible refine Kd.C_drewN ?_ _) | (with_reducible refine Kd.C_drew ?_))); (case side2 => exact (Kd.R_reads' HO220.out).2.1); (case side3 => repeat (first | exact (Kd.R_reads' HO223.out).2.2 | (with_reducible refine Kd.C_alloc ?_ _) | (with_reducible refine Kd.C_drewN ?_ _) | (with_reducible refine Kd.C_drew ?_))); (case side4 => exact (Kd.R_reads' HO223.out).2.1); rintro e w' ⟨rfl, ⟨nd, rfl⟩⟩) | (go_at_call 7; (with_reducible refine (barbicanlaw02_sure.calls kj5  t225 _ ?side1 A44.out).mono ?_); (case side1 => exact GE.below HG.out (by repeat (first | (with_reducible first | exact HB.out | apply below_alloc | apply pw_below_drewN | apply below_drew1) | exact HB.out | exact below_undrew HB.out))); rintro e w60 ⟨rfl, hb⟩; have n0_ := Aside0.mk (Kd.O_below (by (with_reducible repeat (first | apply Kd.O_alloc | apply Kd.O_drewN | apply Kd.O_drew)); exact HO_7.out) hb); have n1_ := Aside0.mk (Kd.R_below (by (with_reducible repeat (first | apply Kd.R_alloc | apply Kd.R_drewN | apply Kd.R_drew)); exact HO204.out) hb); have n2_ := Aside0.mk (Kd.R_below (by (with_reducible repeat (first | apply Kd.R_alloc | apply Kd.R_drewN | apply Kd.R_drew)); exact HO207.out) hb); have n3_ := Aside0.mk (Kd.R_below (by (with_reducible repeat (first | apply Kd.R_alloc | apply Kd.R_drewN | apply Kd.R_drew)); exact HO211.out) hb); have n4_ := Aside0.mk (Kd.R_below (by (with_reducible repeat (first | apply Kd.R_alloc | apply Kd.R_drewN | apply Kd.R_drew)); exact HO214.out) hb); have n5_ := Aside0.mk (Kd.R_below (by (with_reducible repeat (first | apply Kd.R_alloc | apply Kd.R_drewN | apply Kd.R_drew)); exact HO220.out) hb); have n6_ := Aside0.mk (Kd.R_below (by (with_reducible repeat (first | apply Kd.R_alloc | apply Kd.R_drewN | apply Kd.R_drew)); exact HO223.out) hb); have n7_ := Aside0.mk (below_step (by repeat (first | (with_reducible first | exact HB.out | apply below_alloc | apply pw_below_drewN | apply below_drew1) | exact HB.out | exact below_undrew HB.out)) hb); clear HO_7; clear HO204; clear HO207; clear HO211; clear HO214; clear HO220; clear HO223; clear HB; have HO_7 := n0_; have hnHO_7 := fun w_ : World => Kd.O_eql (P := Tryd.prog) HO_7.out 23 (by kernel_rfl) w_; have hmHO_7 := fun w_ : World => Kd.O_neq (P := Tryd.prog) HO_7.out 23 (by kernel_rfl) w_; have HO204 := n1_; have HO207 := n2_; have HO211 := n3_; have HO214 := n4_; have HO220 := n5_; have HO223 := n6_; have HB := n7_; clear n0_ n1_ n2_ n3_ n4_ n5_ n6_ n7_; (try clear hb); (try clear hb2); (try clear hk); (try clear hi)))
                go_ret
                exact ⟨by first | rfl | (simp [errW_none, errW_some] <;> rfl) | (simp [*, errW_none, errW_some] <;> rfl), by repeat (first | (with_reducible first | exact HB.out | apply below_alloc | apply pw_below_drewN | apply below_drew1) | exact HB.out | exact below_undrew HB.out)⟩
              · replace c43 := Bool.eq_false_iff.mpr c43
                subst c43
                have H1 : (some false) = some r := by rw [if_neg (show ¬ (false = true) by decide)] at H; exact H
                clear H
                have H := H1
                clear H1
                exact absurd (Option.some.inj H) (by rw [hT.out]; decide)
            · rw [if_neg c39] at H
              have c39b0 : (t216 == t217) = false := by simpa using c39
              (try (have c39b1 : decide (t216 = t217) = false := by simpa using c39))
              (try (have c39b2 : (t216 == t217) = false := by simpa using c39))
              (try (have c39b3 : ¬ (t216 = t217) := by simpa using c39))
              clear c39
              exact absurd (Option.some.inj H) (by rw [hT.out]; decide)
          · replace c36 := Bool.eq_false_iff.mpr c36
            subst c36
            have H1 : (some false) = some r := by rw [if_neg (show ¬ (false = true) by decide)] at H; exact H
            clear H
            have H := H1
            clear H1
            exact absurd (Option.some.inj H) (by rw [hT.out]; decide)
        · replace c32 := Bool.eq_false_iff.mpr c32
          subst c32
          have H1 : (some false) = some r := by rw [if_neg (show ¬ (false = true) by decide)] at H; exact H
          clear H
          have H := H1
          clear H1
          exact absurd (Option.some.inj H) (by rw [hT.out]; decide)

end Go.Proofs.YtgcaalgaellciaaDoor.XLat
