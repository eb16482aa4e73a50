/- Printed by this session's program (wip/print) out of the translation, for the statement named in the file's name. -/
import Derived.Test.YtgcaalgaellciaaGreatDoorXLarx0
import Derived.Test.YtgcaalgaellciaaGreatDoorXLarx6
import Derived.Test.YtgcaalgaellciaaGreatDoorXLarx10
import Derived.Test.YtgcaalgaellciaaGreatDoorXLarx15
import Derived.Test.YtgcaalgaellciaaGreatDoorXLarx16
namespace Go.Proofs.YtgcaalgaellciaaGreatDoor.XLar
open Go.RowKit Go.Proofs.YtgcaalgaellciaaGreatDoorW.PrintWords Go.Proofs.YtgcaalgaellciaaGreatDoorW.PrintLast Go.Proofs.YtgcaalgaellciaaGreatDoorW.PrintMore Go.Proofs.YtgcaalgaellciaaGreatDoor.Both
attribute [local go_sem] eqGuard_ptr str_gtr str_leq str_geq max2_int min2_int max_two min_two max_three min_three max_four min_four   -- for this text's walks alone
set_option linter.unusedVariables false
set_option linter.unusedSimpArgs false
set_option linter.unnecessarySimpa false

/-! ### barbicanlaw02_LatticeReads: function 3 -/
def barbicanlaw02_LatticeReads.j0 : Nat → ByteArray → List (S37) → Option Int → List (S37) → Int → Bool → Option (Bool)
  | 0, _, _, _, _, _, _ => none
  | k + 1, x0, x3, x4, x5, x6, x22 => if x22 = true then ((barbicanlaw02_num.f x4).bind fun t156 => (if t156 = x6 then (if x3.isEmpty = true then ((barbicanlaw02_sure.f k).bind fun t157 => (some t157)) else (some false)) else (some false))) else (if x3.isEmpty = true then (some false) else ((lattice_Lattice_Text.f x3).bind fun t158 => ((barbicanref02_Text.f k x5).bind fun t159 => (if t158.toList = t159.toList then ((lattice_Lattice_Text.f x3).bind fun t160 => (if t160.toList = x0.toList then ((barbicanlaw02_sure.f k).bind fun t161 => (some t161)) else (some false))) else (some false)))))
def barbicanlaw02_LatticeReads.f (k : Nat) (a0 : ByteArray) : Option (Bool) := (lattice_Parse.f a0).bind fun bt147 => ((barbicanref02_Parse.f k a0).bind fun bt151 => (if bt151.2 = 0 then (if bt147.2.isNone = true then (barbicanlaw02_LatticeReads.j0 k a0 bt147.1 none bt151.1 bt151.2 false) else (barbicanlaw02_LatticeReads.j0 k a0 bt147.1 (some (bt147.2.getD 0)) bt151.1 bt151.2 true)) else (barbicanlaw02_LatticeReads.j0 k a0 bt147.1 bt147.2 bt151.1 bt151.2 true)))
theorem barbicanlaw02_LatticeReads.mono_l : ∀ k, (∀ y0 y1 y2 y3 y4 y5, LeO (barbicanlaw02_LatticeReads.j0 k y0 y1 y2 y3 y4 y5) (barbicanlaw02_LatticeReads.j0 (k + 1) y0 y1 y2 y3 y4 y5))
  | 0 => fun _ _ _ _ _ _ r h => by simp [barbicanlaw02_LatticeReads.j0] at h
  | k + 1 => by
    have ih0 := barbicanlaw02_LatticeReads.mono_l k
    · intro y0 y1 y2 y3 y4 y5
      unfold barbicanlaw02_LatticeReads.j0
      repeat' first
      | (with_reducible exact ih0 _ _ _ _ _ _)
      | (with_reducible exact barbicanlaw02_sure.mono _)
      | (with_reducible exact barbicanref02_Parse.mono _ _)
      | (with_reducible exact barbicanref02_Text.mono _ _)
      | (with_reducible exact LeO.refl _)
      | (with_reducible exact LeO.none _)
      | (with_reducible refine LeO.ite ?_ ?_)
      | (with_reducible refine LeO.bind ?_ (fun _ => ?_))
      | exact ih0 _ _ _ _ _ _
      | exact barbicanlaw02_sure.mono _
      | exact barbicanref02_Parse.mono _ _
      | exact barbicanref02_Text.mono _ _
      | exact LeO.none _
      | refine LeO.ite ?_ ?_
      | refine LeO.bind ?_ (fun _ => ?_)
theorem barbicanlaw02_LatticeReads.mono : ∀ a0 k, LeO (barbicanlaw02_LatticeReads.f k a0) (barbicanlaw02_LatticeReads.f (k + 1) a0) := by
  intro a0 k
  have ih0 := barbicanlaw02_LatticeReads.mono_l k
  unfold barbicanlaw02_LatticeReads.f
  repeat' first
      | (with_reducible exact ih0 _ _ _ _ _ _)
      | (with_reducible exact barbicanlaw02_sure.mono _)
      | (with_reducible exact barbicanref02_Parse.mono _ _)
      | (with_reducible exact barbicanref02_Text.mono _ _)
      | (with_reducible exact LeO.refl _)
      | (with_reducible exact LeO.none _)
      | (with_reducible refine LeO.ite ?_ ?_)
      | (with_reducible refine LeO.bind ?_ (fun _ => ?_))
      | exact ih0 _ _ _ _ _ _
      | exact barbicanlaw02_sure.mono _
      | exact barbicanref02_Parse.mono _ _
      | exact barbicanref02_Text.mono _ _
      | exact LeO.none _
      | refine LeO.ite ?_ ?_
      | refine LeO.bind ?_ (fun _ => ?_)
set_option maxHeartbeats 8000000 in
set_option maxRecDepth 100000 in
theorem barbicanlaw02_LatticeReads.calls (k : Nat) (a0 : ByteArray) (r : Bool) (w : World) (hG : GE w) (h : barbicanlaw02_LatticeReads.f k a0 = some r) (hT : Aside0 (r = true)) :
    Calls Tryz.prog 3 #[.string a0] w fun e w' => e = .returned (.bool r) ∧ Below w.heap.size w w' := by
  have hu24 := Tryz.underlying24
  have hu53 := Tryz.underlying53
  have HG := Aside0.mk hG
  clear hG
  have HB := Aside0.mk (Below.refl w.heap.size w)
  have H : ((lattice_Parse.f a0).bind fun bt147 => ((barbicanref02_Parse.f k a0).bind fun bt151 => (if bt151.2 = 0 then (if bt147.2.isNone = true then (barbicanlaw02_LatticeReads.j0 k a0 bt147.1 none bt151.1 bt151.2 false) else (barbicanlaw02_LatticeReads.j0 k a0 bt147.1 (some (bt147.2.getD 0)) bt151.1 bt151.2 true)) else (barbicanlaw02_LatticeReads.j0 k a0 bt147.1 bt147.2 bt151.1 bt151.2 true)))) = some r := h
  clear h
  replace H := Option.bind_eq_some_iff.mp H
  obtain ⟨⟨t147, t148⟩, A20, H⟩ := H
  replace H : ((barbicanref02_Parse.f k a0).bind fun bt151 => (if bt151.2 = 0 then (if t148.isNone = true then (barbicanlaw02_LatticeReads.j0 k a0 t147 none bt151.1 bt151.2 false) else (barbicanlaw02_LatticeReads.j0 k a0 t147 (some (t148.getD 0)) bt151.1 bt151.2 true)) else (barbicanlaw02_LatticeReads.j0 k a0 t147 t148 bt151.1 bt151.2 true))) = some r := H
  have A2 := Aside0.mk A20
  clear A20
  replace H := Option.bind_eq_some_iff.mp H
  obtain ⟨⟨t151, t152⟩, A30, H⟩ := H
  replace H : (if t152 = 0 then (if t148.isNone = true then (barbicanlaw02_LatticeReads.j0 k a0 t147 none t151 t152 false) else (barbicanlaw02_LatticeReads.j0 k a0 t147 (some (t148.getD 0)) t151 t152 true)) else (barbicanlaw02_LatticeReads.j0 k a0 t147 t148 t151 t152 true)) = some r := H
  have A3 := Aside0.mk A30
  clear A30
  have HC4 := Aside0.mk H
  clear H
  go_enter Tryz.func3, Tryz.ntmps3
  go_upto_region 3 with (first | ((with_reducible refine gate_callee (f := 5) rfl ?_); refine goesL_ (some 9) rfl rfl Tryz.func5 (by kernel_rfl) rfl #[.string a0] rfl (by (try simp only [List.map_toArray, List.map_cons, List.map_nil]); first | done | rfl | (simp only [List.length_drop, List.length_take]; rfl)) ?_; (with_reducible refine (lattice_Parse.calls a0 t147 t148 _ ?side1 A2.out).mono ?_); (case side1 => exact GE.below HG.out (by repeat (first | (with_reducible first | exact HB.out | apply below_alloc | apply pw_below_drewN | apply below_drew1) | exact HB.out | exact below_undrew HB.out))); rintro e w5 ⟨v149, rfl, ho0, hb⟩; refine ⟨_, rfl, ?_⟩; have n0_ := Aside0.mk (Kd.O_lower (Kd.O_mono (ok' := fun k_ => True) (Kd.O_new ho0) (fun k_ hk_ => trivial)) (below_size (by repeat (first | (with_reducible first | exact HB.out | apply below_alloc | apply pw_below_drewN | apply below_drew1) | exact HB.out | exact below_undrew HB.out)))); have n1_ := Aside0.mk (below_step (by repeat (first | (with_reducible first | exact HB.out | apply below_alloc | apply pw_below_drewN | apply below_drew1) | exact HB.out | exact below_undrew HB.out)) hb); clear HB; have HO150 := n0_; have hnHO150 := fun w_ : World => Kd.O_eql (P := Tryz.prog) HO150.out 22 (by kernel_rfl) w_; have hmHO150 := fun w_ : World => Kd.O_neq (P := Tryz.prog) HO150.out 22 (by kernel_rfl) w_; have HB := n1_; clear n0_ n1_; (try clear hb); (try clear hb2); (try clear hk); (try clear hi); (try clear ho0); (try simp only [errW_none, errW_some])) | ((with_reducible refine gate_callee (f := 6) rfl ?_); refine goesL_ (some 14) rfl rfl Tryz.func6 (by kernel_rfl) rfl #[.string a0] rfl (by (try simp only [List.map_toArray, List.map_cons, List.map_nil]); first | done | rfl | (simp only [List.length_drop, List.length_take]; rfl)) ?_; (with_reducible refine (barbicanref02_Parse.calls k a0 t151 t152 _ A3.out).mono ?_); rintro e w6 ⟨v153, rfl, ho0, hb⟩; refine ⟨_, rfl, ?_⟩; have n0_ := Aside0.mk (Kd.O_elder' (by (with_reducible repeat (first | apply Kd.O_alloc | apply Kd.O_drewN | apply Kd.O_drew)); exact HO150.out) (Kd.R_base ho0) hb); have n1_ := Aside0.mk (Kd.R_lower ho0 (below_size (by repeat (first | (with_reducible first | exact HB.out | apply below_alloc | apply pw_below_drewN | apply below_drew1) | exact HB.out | exact below_undrew HB.out)))); have n2_ := Aside0.mk (below_step (by repeat (first | (with_reducible first | exact HB.out | apply below_alloc | apply pw_below_drewN | apply below_drew1) | exact HB.out | exact below_undrew HB.out)) hb); clear HO150; clear HB; have HO150 := n0_; have hnHO150 := fun w_ : World => Kd.O_eql (P := Tryz.prog) HO150.out 22 (by kernel_rfl) w_; have hmHO150 := fun w_ : World => Kd.O_neq (P := Tryz.prog) HO150.out 22 (by kernel_rfl) w_; have HO154 := n1_; have HB := n2_; clear n0_ n1_ n2_; (try clear hb); (try clear hb2); (try clear hk); (try clear hi); (try clear ho0)))
  (try simp only [Act.put, List.setIfInBounds_toArray, List.set_cons_zero, List.set_cons_succ])
  go_cut [22] (fun v22 wc => ∃ (kq : Nat) (x22_3 : Bool), v22 = .bool x22_3 ∧ Aside0 (barbicanlaw02_LatticeReads.j0 kq a0 t147 t148 t151 t152 x22_3 = some r) ∧ Aside0 (kq ≤ k) ∧ Aside0 (Kd.O k37 9022 wc w.heap.size (fun k_ => some k_ ≠ (v153 : Value).ownBlock) v149 t147) ∧ Aside0 (Kd.R k37 37 wc w.heap.size (fun _ => True) v153 t151) ∧ Aside0 (Below w.heap.size w wc))
  case first =>
    have H := HC4.out
    clear HC4
    by_cases c7 : t152 = 0
    · rw [if_pos c7] at H
      have c7b0 : (t152 == 0) = true := beq_iff_eq.mpr c7
      have c7b1 : (t152 != 0) = false := bne_eq_false_iff_eq.mpr c7
      clear c7
      (first | rw [c7b0] | (simp only [i64_w, i32_w]; rw [c7b0]) | skip)
      rcases t148 with _ | q155
      · have H1 : (barbicanlaw02_LatticeReads.j0 k a0 t147 none t151 t152 false) = some r := by rw [if_pos (show (none : Option Int).isNone = true by rfl)] at H; exact H
        clear H
        have H := H1
        clear H1
        try simp only [errW_none, errW_some]
        have H' := Aside0.mk H
        clear H
        go_wp2
        go_meet
        case rel => exact ⟨_, (false), (by first | rfl | (simp; done) | (simp [*]; done)), H', ⟨by first | omega | exact Nat.le_refl _⟩, ⟨by (with_reducible repeat (first | apply Kd.O_alloc | apply Kd.O_drewN | apply Kd.O_drew)); exact Kd.O_mono HO150.out (fun _ hk => hk.2)⟩, ⟨by (with_reducible repeat (first | apply Kd.R_alloc | apply Kd.R_drewN | apply Kd.R_drew)); exact HO154.out⟩, ⟨by repeat (first | (with_reducible first | exact HB.out | apply below_alloc | apply pw_below_drewN | apply below_drew1) | exact HB.out | exact below_undrew HB.out)⟩⟩
      · have H1 : (barbicanlaw02_LatticeReads.j0 k a0 t147 (some q155) t151 t152 true) = some r := by rw [if_neg (show ¬ (some q155).isNone = true by simp)] at H; exact H
        clear H
        have H := H1
        clear H1
        try simp only [errW_none, errW_some]
        have H' := Aside0.mk H
        clear H
        go_wp2
        go_meet
        case rel => exact ⟨_, (true), (by first | rfl | (simp; done) | (simp [*]; done)), H', ⟨by first | omega | exact Nat.le_refl _⟩, ⟨by (with_reducible repeat (first | apply Kd.O_alloc | apply Kd.O_drewN | apply Kd.O_drew)); exact Kd.O_mono HO150.out (fun _ hk => hk.2)⟩, ⟨by (with_reducible repeat (first | apply Kd.R_alloc | apply Kd.R_drewN | apply Kd.R_drew)); exact HO154.out⟩, ⟨by repeat (first | (with_reducible first | exact HB.out | apply below_alloc | apply pw_below_drewN | apply below_drew1) | exact HB.out | exact below_undrew HB.out)⟩⟩
    · rw [if_neg c7] at H
      have c7b0 : (t152 == 0) = false := beq_eq_false_iff_ne.mpr c7
      have c7b1 : (t152 != 0) = true := bne_iff_ne.mpr c7
      (first | rw [c7b0] | (simp only [i64_w, i32_w]; rw [c7b0]) | skip)
      have H' := Aside0.mk H
      clear H
      go_wp2
      go_meet
      case rel => exact ⟨_, (true), (by first | rfl | (simp; done) | (simp [*]; done)), H', ⟨by first | omega | exact Nat.le_refl _⟩, ⟨by (with_reducible repeat (first | apply Kd.O_alloc | apply Kd.O_drewN | apply Kd.O_drew)); exact Kd.O_mono HO150.out (fun _ hk => hk.2)⟩, ⟨by (with_reducible repeat (first | apply Kd.R_alloc | apply Kd.R_drewN | apply Kd.R_drew)); exact HO154.out⟩, ⟨by repeat (first | (with_reducible first | exact HB.out | apply below_alloc | apply pw_below_drewN | apply below_drew1) | exact HB.out | exact below_undrew HB.out)⟩⟩
  case rest =>
    clear HC4
    try clear q1
    try clear p2
    try clear c3
    try clear c5
    try clear c6
    try clear c7
    try clear c7b0
    try clear c7b1
    try clear q155
    obtain ⟨kq, x22_3, rfl, HA, HJ3, HO_3, HO_5, HB⟩ := hcut
    cases kq with
    | zero => exact absurd HA.out (by simp [barbicanlaw02_LatticeReads.j0])
    | succ kj3 =>
      have H := HA.out
      clear HA
      simp only [barbicanlaw02_LatticeReads.j0] at H
      by_cases c8 : x22_3 = true
      · subst c8
        have H1 : ((barbicanlaw02_num.f t148).bind fun t156 => (if t156 = t152 then (if t147.isEmpty = true then ((barbicanlaw02_sure.f kj3).bind fun t157 => (some t157)) else (some false)) else (some false))) = some r := by rw [if_pos rfl] at H; exact H
        clear H
        have H := H1
        clear H1
        replace H := Option.bind_eq_some_iff.mp H
        obtain ⟨t156, A90, H⟩ := H
        replace H : (if t156 = t152 then (if t147.isEmpty = true then ((barbicanlaw02_sure.f kj3).bind fun t157 => (some t157)) else (some false)) else (some false)) = some r := H
        have A9 := Aside0.mk A90
        clear A90
        by_cases c10 : t156 = t152
        · rw [if_pos c10] at H
          have c10b0 : (t156 == t152) = true := beq_iff_eq.mpr c10
          have c10b1 : (t156 != t152) = false := bne_eq_false_iff_eq.mpr c10
          clear c10
          by_cases c11 : t147.isEmpty = true
          · rw [if_pos c11] at H
            have c11b0 : t147.isEmpty = true := c11
            clear c11
            replace H := Option.bind_eq_some_iff.mp H
            obtain ⟨t157, A120, H⟩ := H
            replace H : (some t157) = some r := H
            have A12 := Aside0.mk A120
            clear A120
            obtain rfl := Option.some.inj H
            have CA9 := fun W hG_ => barbicanlaw02_num.calls t148 t156 W hG_ A9.out
            try simp only [errW_none, errW_some] at CA9
            go_wp2_with (first | (go_at_call 7; (with_reducible refine (CA9 _ ?side1).mono ?_); (case side1 => exact GE.below HG.out (by repeat (first | (with_reducible first | exact HB.out | apply below_alloc | apply pw_below_drewN | apply below_drew1) | exact HB.out | exact below_undrew HB.out))); rintro e w13 ⟨rfl, hb⟩; have n0_ := Aside0.mk (Kd.O_below (by (with_reducible repeat (first | apply Kd.O_alloc | apply Kd.O_drewN | apply Kd.O_drew)); exact HO_3.out) hb); have n1_ := Aside0.mk (Kd.R_below (by (with_reducible repeat (first | apply Kd.R_alloc | apply Kd.R_drewN | apply Kd.R_drew)); exact HO_5.out) hb); have n2_ := Aside0.mk (below_step (by repeat (first | (with_reducible first | exact HB.out | apply below_alloc | apply pw_below_drewN | apply below_drew1) | exact HB.out | exact below_undrew HB.out)) hb); clear HO_3; clear HO_5; clear HB; have HO_3 := n0_; have hnHO_3 := fun w_ : World => Kd.O_eql (P := Tryz.prog) HO_3.out 22 (by kernel_rfl) w_; have hmHO_3 := fun w_ : World => Kd.O_neq (P := Tryz.prog) HO_3.out 22 (by kernel_rfl) w_; have HO_5 := n1_; have HB := n2_; clear n0_ n1_ n2_; (try clear hb); (try clear hb2); (try clear hk); (try clear hi)) | (go_at_call 8; (with_reducible refine (barbicanlaw02_sure.calls kj3  t157 _ ?side1 A12.out).mono ?_); (case side1 => exact GE.below HG.out (by repeat (first | (with_reducible first | exact HB.out | apply below_alloc | apply pw_below_drewN | apply below_drew1) | exact HB.out | exact below_undrew HB.out))); rintro e w14 ⟨rfl, hb⟩; have n0_ := Aside0.mk (Kd.O_below (by (with_reducible repeat (first | apply Kd.O_alloc | apply Kd.O_drewN | apply Kd.O_drew)); exact HO_3.out) hb); have n1_ := Aside0.mk (Kd.R_below (by (with_reducible repeat (first | apply Kd.R_alloc | apply Kd.R_drewN | apply Kd.R_drew)); exact HO_5.out) hb); have n2_ := Aside0.mk (below_step (by repeat (first | (with_reducible first | exact HB.out | apply below_alloc | apply pw_below_drewN | apply below_drew1) | exact HB.out | exact below_undrew HB.out)) hb); clear HO_3; clear HO_5; clear HB; have HO_3 := n0_; have hnHO_3 := fun w_ : World => Kd.O_eql (P := Tryz.prog) HO_3.out 22 (by kernel_rfl) w_; have hmHO_3 := fun w_ : World => Kd.O_neq (P := Tryz.prog) HO_3.out 22 (by kernel_rfl) w_; have HO_5 := n1_; have HB := n2_; clear n0_ n1_ n2_; (try clear hb); (try clear hb2); (try clear hk); (try clear hi)))
            go_ret
            exact ⟨by first | rfl | (simp [errW_none, errW_some] <;> rfl) | (simp [*, errW_none, errW_some] <;> rfl), by repeat (first | (with_reducible first | exact HB.out | apply below_alloc | apply pw_below_drewN | apply below_drew1) | exact HB.out | exact below_undrew HB.out)⟩
          · rw [if_neg c11] at H
            have c11b0 : t147.isEmpty = false := by simpa using c11
            clear c11
            exact absurd (Option.some.inj H) (by rw [hT.out]; decide)
        · rw [if_neg c10] at H
          have c10b0 : (t156 == t152) = false := beq_eq_false_iff_ne.mpr c10
          have c10b1 : (t156 != t152) = true := bne_iff_ne.mpr c10
          exact absurd (Option.some.inj H) (by rw [hT.out]; decide)
      · replace c8 := Bool.eq_false_iff.mpr c8
        subst c8
        have H1 : (if t147.isEmpty = true then (some false) else ((lattice_Lattice_Text.f t147).bind fun t158 => ((barbicanref02_Text.f kj3 t151).bind fun t159 => (if t158.toList = t159.toList then ((lattice_Lattice_Text.f t147).bind fun t160 => (if t160.toList = a0.toList then ((barbicanlaw02_sure.f kj3).bind fun t161 => (some t161)) else (some false))) else (some false))))) = some r := by rw [if_neg (show ¬ (false = true) by decide)] at H; exact H
        clear H
        have H := H1
        clear H1
        by_cases c15 : t147.isEmpty = true
        · rw [if_pos c15] at H
          have c15b0 : t147.isEmpty = true := c15
          clear c15
          exact absurd (Option.some.inj H) (by rw [hT.out]; decide)
        · rw [if_neg c15] at H
          have c15b0 : t147.isEmpty = false := by simpa using c15
          clear c15
          replace H := Option.bind_eq_some_iff.mp H
          obtain ⟨t158, A160, H⟩ := H
          replace H : ((barbicanref02_Text.f kj3 t151).bind fun t159 => (if t158.toList = t159.toList then ((lattice_Lattice_Text.f t147).bind fun t160 => (if t160.toList = a0.toList then ((barbicanlaw02_sure.f kj3).bind fun t161 => (some t161)) else (some false))) else (some false))) = some r := H
          have A16 := Aside0.mk A160
          clear A160
          replace H := Option.bind_eq_some_iff.mp H
          obtain ⟨t159, A170, H⟩ := H
          replace H : (if t158.toList = t159.toList then ((lattice_Lattice_Text.f t147).bind fun t160 => (if t160.toList = a0.toList then ((barbicanlaw02_sure.f kj3).bind fun t161 => (some t161)) else (some false))) else (some false)) = some r := H
          have A17 := Aside0.mk A170
          clear A170
          by_cases c18 : t158.toList = t159.toList
          · rw [if_pos c18] at H
            have c18b0 : (t158.toList == t159.toList) = true := beq_iff_eq.mpr c18
            have c18b1 : (t158.toList != t159.toList) = false := bne_eq_false_iff_eq.mpr c18
            clear c18
            replace H := Option.bind_eq_some_iff.mp H
            obtain ⟨t160, A190, H⟩ := H
            replace H : (if t160.toList = a0.toList then ((barbicanlaw02_sure.f kj3).bind fun t161 => (some t161)) else (some false)) = some r := H
            have A19 := Aside0.mk A190
            clear A190
            by_cases c20 : t160.toList = a0.toList
            · rw [if_pos c20] at H
              have c20b0 : (t160.toList == a0.toList) = true := beq_iff_eq.mpr c20
              have c20b1 : (t160.toList != a0.toList) = false := bne_eq_false_iff_eq.mpr c20
              clear c20
              replace H := Option.bind_eq_some_iff.mp H
              obtain ⟨t161, A210, H⟩ := H
              replace H : (some t161) = some r := H
              have A21 := Aside0.mk A210
              clear A210
              obtain rfl := Option.some.inj H
              obtain ⟨Ao22, co22, eo22⟩ := Kd.O_slice HO_3.out
              subst eo22; have hiAo22 := Kd.O_isN HO_3.out
              go_wp2_with (first | (go_at_call 9; (with_reducible refine (lattice_Lattice_Text.calls _ t147 t158 _ ?side1 ?side2 ?side3 A16.out).mono ?_); (case side1 => exact (Kd.O_reads' (by (with_reducible repeat (first | apply Kd.O_alloc | apply Kd.O_drewN | apply Kd.O_drew)); exact HO_3.out)).2.2); (case side2 => exact (Kd.O_reads' HO_3.out).2.1); (case side3 => exact GE.below HG.out (by repeat (first | (with_reducible first | exact HB.out | apply below_alloc | apply pw_below_drewN | apply below_drew1) | exact HB.out | exact below_undrew HB.out))); rintro e w23 ⟨rfl, hb⟩; have n0_ := Aside0.mk (Kd.O_below (by (with_reducible repeat (first | apply Kd.O_alloc | apply Kd.O_drewN | apply Kd.O_drew)); exact HO_3.out) hb); have n1_ := Aside0.mk (Kd.R_below (by (with_reducible repeat (first | apply Kd.R_alloc | apply Kd.R_drewN | apply Kd.R_drew)); exact HO_5.out) hb); have n2_ := Aside0.mk (below_step (by repeat (first | (with_reducible first | exact HB.out | apply below_alloc | apply pw_below_drewN | apply below_drew1) | exact HB.out | exact below_undrew HB.out)) hb); clear HO_3; clear HO_5; clear HB; have HO_3 := n0_; have hnHO_3 := fun w_ : World => Kd.O_eql (P := Tryz.prog) HO_3.out 22 (by kernel_rfl) w_; have hmHO_3 := fun w_ : World => Kd.O_neq (P := Tryz.prog) HO_3.out 22 (by kernel_rfl) w_; have HO_5 := n1_; have HB := n2_; clear n0_ n1_ n2_; (try clear hb); (try clear hb2); (try clear hk); (try clear hi); obtain ⟨Ao24, co24, eo24⟩ := Kd.R_slice HO_5.out; subst eo24) | (go_at_call 10; (with_reducible refine (barbicanref02_Text.calls kj3 _ _ t151 t159 _ ?side1 ?side2 A17.out).mono ?_); (case side1 => repeat (first | exact (Kd.R_reads' HO_5.out).2.2 | (with_reducible refine Kd.C_alloc ?_ _) | (with_reducible refine Kd.C_drewN ?_ _) | (with_reducible refine Kd.C_drew ?_))); (case side2 => exact (Kd.R_reads' HO_5.out).2.1); rintro e w25 ⟨rfl, hb⟩; have n0_ := Aside0.mk (Kd.O_below (by (with_reducible repeat (first | apply Kd.O_alloc | apply Kd.O_drewN | apply Kd.O_drew)); exact HO_3.out) hb); have n1_ := Aside0.mk (Kd.R_below (by (with_reducible repeat (first | apply Kd.R_alloc | apply Kd.R_drewN | apply Kd.R_drew)); exact HO_5.out) hb); have n2_ := Aside0.mk (below_step (by repeat (first | (with_reducible first | exact HB.out | apply below_alloc | apply pw_below_drewN | apply below_drew1) | exact HB.out | exact below_undrew HB.out)) hb); clear HO_3; clear HO_5; clear HB; have HO_3 := n0_; have hnHO_3 := fun w_ : World => Kd.O_eql (P := Tryz.prog) HO_3.out 22 (by kernel_rfl) w_; have hmHO_3 := fun w_ : World => Kd.O_neq (P := Tryz.prog) HO_3.out 22 (by kernel_rfl) w_; have HO_5 := n1_; have HB := n2_; clear n0_ n1_ n2_; (try clear hb); (try clear hb2); (try clear hk); (try clear hi)) | (go_at_call 9; (with_reducible refine (lattice_Lattice_Text.calls _ t147 t160 _ ?side1 ?side2 ?side3 A19.out).mono ?_); (case side1 => exact (Kd.O_reads' (by (with_reducible repeat (first | apply Kd.O_alloc | apply Kd.O_drewN | apply Kd.O_drew)); exact HO_3.out)).2.2); (case side2 => exact (Kd.O_reads' HO_3.out).2.1); (case side3 => exact GE.below HG.out (by repeat (first | (with_reducible first | exact HB.out | apply below_alloc | apply pw_below_drewN | apply below_drew1) | exact HB.out | exact below_undrew HB.out))); rintro e w26 ⟨rfl, hb⟩; have n0_ := Aside0.mk (Kd.O_below (by (with_reducible repeat (first | apply Kd.O_alloc | apply Kd.O_drewN | apply Kd.O_drew)); exact HO_3.out) hb); have n1_ := Aside0.mk (Kd.R_below (by (with_reducible repeat (first | apply Kd.R_alloc | apply Kd.R_drewN | apply Kd.R_drew)); exact HO_5.out) hb); have n2_ := Aside0.mk (below_step (by repeat (first | (with_reducible first | exact HB.out | apply below_alloc | apply pw_below_drewN | apply below_drew1) | exact HB.out | exact below_undrew HB.out)) hb); clear HO_3; clear HO_5; clear HB; have HO_3 := n0_; have hnHO_3 := fun w_ : World => Kd.O_eql (P := Tryz.prog) HO_3.out 22 (by kernel_rfl) w_; have hmHO_3 := fun w_ : World => Kd.O_neq (P := Tryz.prog) HO_3.out 22 (by kernel_rfl) w_; have HO_5 := n1_; have HB := n2_; clear n0_ n1_ n2_; (try clear hb); (try clear hb2); (try clear hk); (try clear hi)) | (go_at_call 8; (with_reducible refine (barbicanlaw02_sure.calls kj3  t161 _ ?side1 A21.out).mono ?_); (case side1 => exact GE.below HG.out (by repeat (first | (with_reducible first | exact HB.out | apply below_alloc | apply pw_below_drewN | apply below_drew1) | exact HB.out | exact below_undrew HB.out))); rintro e w27 ⟨rfl, hb⟩; have n0_ := Aside0.mk (Kd.O_below (by (with_reducible repeat (first | apply Kd.O_alloc | apply Kd.O_drewN | apply Kd.O_drew)); exact HO_3.out) hb); have n1_ := Aside0.mk (Kd.R_below (by (with_reducible repeat (first | apply Kd.R_alloc | apply Kd.R_drewN | apply Kd.R_drew)); exact HO_5.out) hb); have n2_ := Aside0.mk (below_step (by repeat (first | (with_reducible first | exact HB.out | apply below_alloc | apply pw_below_drewN | apply below_drew1) | exact HB.out | exact below_undrew HB.out)) hb); clear HO_3; clear HO_5; clear HB; have HO_3 := n0_; have hnHO_3 := fun w_ : World => Kd.O_eql (P := Tryz.prog) HO_3.out 22 (by kernel_rfl) w_; have hmHO_3 := fun w_ : World => Kd.O_neq (P := Tryz.prog) HO_3.out 22 (by kernel_rfl) w_; have HO_5 := n1_; have HB := n2_; clear n0_ n1_ n2_; (try clear hb); (try clear hb2); (try clear hk); (try clear hi)))
              go_ret
              exact ⟨by first | rfl | (simp [errW_none, errW_some] <;> rfl) | (simp [*, errW_none, errW_some] <;> rfl), by repeat (first | (with_reducible first | exact HB.out | apply below_alloc | apply pw_below_drewN | apply below_drew1) | exact HB.out | exact below_undrew HB.out)⟩
            · rw [if_neg c20] at H
              have c20b0 : (t160.toList == a0.toList) = false := beq_eq_false_iff_ne.mpr c20
              have c20b1 : (t160.toList != a0.toList) = true := bne_iff_ne.mpr c20
              exact absurd (Option.some.inj H) (by rw [hT.out]; decide)
          · rw [if_neg c18] at H
            have c18b0 : (t158.toList == t159.toList) = false := beq_eq_false_iff_ne.mpr c18
            have c18b1 : (t158.toList != t159.toList) = true := bne_iff_ne.mpr c18
            exact absurd (Option.some.inj H) (by rw [hT.out]; decide)

end Go.Proofs.YtgcaalgaellciaaGreatDoor.XLar
