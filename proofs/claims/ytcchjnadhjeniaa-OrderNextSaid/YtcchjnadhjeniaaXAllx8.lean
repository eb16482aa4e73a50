/- Printed by this session's program (wip/print) out of the translation, for the statement named in the file's name. -/
import Derived.Test.YtcchjnadhjeniaaXAllx0
import Derived.Test.YtcchjnadhjeniaaXAllx2
import Derived.Test.YtcchjnadhjeniaaXAllx7
namespace Go.Proofs.Ytcchjnadhjeniaa.XAll
open Go.RowKit Go.Proofs.YtcchjnadhjeniaaW.PrintWords Go.Proofs.YtcchjnadhjeniaaW.PrintLast Go.Proofs.YtcchjnadhjeniaaW.PrintMore
attribute [local go_sem] max2_int min2_int max_two min_two max_three min_three max_four min_four   -- for this text's walks alone
set_option linter.unusedVariables false
set_option linter.unusedSimpArgs false

/-! ### barbicanlaw06_OrderNext: function 3 -/
def barbicanlaw06_OrderNext.l0 : Nat → ByteArray → ByteArray → Int → Option (Bool)
  | 0, _, _, _ => none
  | k + 1, x0, x7, x9 => if x9 < (x0.size : Int) then (if 0 ≤ x9 then (if (bt x0 x9) = 255 then (barbicanlaw06_OrderNext.l0 k x0 x7 (wrap64 (x9 + 1))) else (some false)) else (none)) else (if x7.toList = ([] : List UInt8) then ((barbicanlaw06_sure.f k).bind fun t140 => (some t140)) else (some false))
def barbicanlaw06_OrderNext.f (k : Nat) (a0 : ByteArray) (a1 : ByteArray) (a2 : ByteArray) : Option (Bool) := (order_Next.f a0).bind fun bt138 => (if bt138.2 = true then (if a0.size + a1.size ≤ 9223372036854775807 then (if ((Op.bytesLess ((a0 ++ a1).toList) bt138.1.toList) = true) then (if ((Op.bytesLess a2.toList a0.toList) = true) then ((barbicanlaw06_sure.f k).bind fun t141 => (some t141)) else (if (Op.bytesLess a2.toList bt138.1.toList) = true then (if (a2.size : Int) < (a0.size : Int) then (some false) else (if 0 ≤ (a0.size : Int) then (if (a0.size : Int) ≤ (a2.size : Int) then (if (a2.extract 0 ((a0.size : Int) : Int).toNat).toList = a0.toList then ((barbicanlaw06_sure.f k).bind fun t142 => (some t142)) else (some false)) else (none)) else (none))) else ((barbicanlaw06_sure.f k).bind fun t143 => (some t143)))) else (some false)) else (none)) else (barbicanlaw06_OrderNext.l0 k a0 bt138.1 0))
theorem barbicanlaw06_OrderNext.mono_l : ∀ k, (∀ y0 y1 y2, LeO (barbicanlaw06_OrderNext.l0 k y0 y1 y2) (barbicanlaw06_OrderNext.l0 (k + 1) y0 y1 y2))
  | 0 => fun _ _ _ r h => by simp [barbicanlaw06_OrderNext.l0] at h
  | k + 1 => by
    have ih0 := barbicanlaw06_OrderNext.mono_l k
    · intro y0 y1 y2
      unfold barbicanlaw06_OrderNext.l0
      repeat' first
      | (with_reducible exact ih0 _ _ _)
      | (with_reducible exact barbicanlaw06_sure.mono _)
      | (with_reducible exact LeO.refl _)
      | (with_reducible exact LeO.none _)
      | (with_reducible refine LeO.ite ?_ ?_)
      | (with_reducible refine LeO.bind ?_ (fun _ => ?_))
      | exact ih0 _ _ _
      | exact barbicanlaw06_sure.mono _
      | exact LeO.none _
      | refine LeO.ite ?_ ?_
      | refine LeO.bind ?_ (fun _ => ?_)
theorem barbicanlaw06_OrderNext.mono : ∀ a0 a1 a2 k, LeO (barbicanlaw06_OrderNext.f k a0 a1 a2) (barbicanlaw06_OrderNext.f (k + 1) a0 a1 a2) := by
  intro a0 a1 a2 k
  have ih0 := barbicanlaw06_OrderNext.mono_l k
  unfold barbicanlaw06_OrderNext.f
  repeat' first
      | (with_reducible exact ih0 _ _ _)
      | (with_reducible exact barbicanlaw06_sure.mono _)
      | (with_reducible exact LeO.refl _)
      | (with_reducible exact LeO.none _)
      | (with_reducible refine LeO.ite ?_ ?_)
      | (with_reducible refine LeO.bind ?_ (fun _ => ?_))
      | exact ih0 _ _ _
      | exact barbicanlaw06_sure.mono _
      | exact LeO.none _
      | refine LeO.ite ?_ ?_
      | refine LeO.bind ?_ (fun _ => ?_)
set_option maxHeartbeats 8000000 in
set_option maxRecDepth 100000 in
theorem barbicanlaw06_OrderNext.calls (k : Nat) (a0 : ByteArray) (a1 : ByteArray) (a2 : ByteArray) (r : Bool) (w : World) (h : barbicanlaw06_OrderNext.f k a0 a1 a2 = some r) (hT : Aside0 (r = true)) :
    Calls Try.prog 3 #[.string a0, .string a1, .string a2] w fun e w' => e = .returned (.bool r) ∧ Below w.heap.size w w' := by
  have HB := Aside0.mk (Below.refl w.heap.size w)
  have H : ((order_Next.f a0).bind fun bt138 => (if bt138.2 = true then (if a0.size + a1.size ≤ 9223372036854775807 then (if ((Op.bytesLess ((a0 ++ a1).toList) bt138.1.toList) = true) then (if ((Op.bytesLess a2.toList a0.toList) = true) then ((barbicanlaw06_sure.f k).bind fun t141 => (some t141)) else (if (Op.bytesLess a2.toList bt138.1.toList) = true then (if (a2.size : Int) < (a0.size : Int) then (some false) else (if 0 ≤ (a0.size : Int) then (if (a0.size : Int) ≤ (a2.size : Int) then (if (a2.extract 0 ((a0.size : Int) : Int).toNat).toList = a0.toList then ((barbicanlaw06_sure.f k).bind fun t142 => (some t142)) else (some false)) else (none)) else (none))) else ((barbicanlaw06_sure.f k).bind fun t143 => (some t143)))) else (some false)) else (none)) else (barbicanlaw06_OrderNext.l0 k a0 bt138.1 0))) = some r := h
  clear h
  replace H := Option.bind_eq_some_iff.mp H
  obtain ⟨⟨t138, t139⟩, A40, H⟩ := H
  replace H : (if t139 = true then (if a0.size + a1.size ≤ 9223372036854775807 then (if ((Op.bytesLess ((a0 ++ a1).toList) t138.toList) = true) then (if ((Op.bytesLess a2.toList a0.toList) = true) then ((barbicanlaw06_sure.f k).bind fun t141 => (some t141)) else (if (Op.bytesLess a2.toList t138.toList) = true then (if (a2.size : Int) < (a0.size : Int) then (some false) else (if 0 ≤ (a0.size : Int) then (if (a0.size : Int) ≤ (a2.size : Int) then (if (a2.extract 0 ((a0.size : Int) : Int).toNat).toList = a0.toList then ((barbicanlaw06_sure.f k).bind fun t142 => (some t142)) else (some false)) else (none)) else (none))) else ((barbicanlaw06_sure.f k).bind fun t143 => (some t143)))) else (some false)) else (none)) else (barbicanlaw06_OrderNext.l0 k a0 t138 0)) = some r := H
  have A4 := Aside0.mk A40
  clear A40
  by_cases c5 : t139 = true
  · subst c5
    have H1 : (if a0.size + a1.size ≤ 9223372036854775807 then (if ((Op.bytesLess ((a0 ++ a1).toList) t138.toList) = true) then (if ((Op.bytesLess a2.toList a0.toList) = true) then ((barbicanlaw06_sure.f k).bind fun t141 => (some t141)) else (if (Op.bytesLess a2.toList t138.toList) = true then (if (a2.size : Int) < (a0.size : Int) then (some false) else (if 0 ≤ (a0.size : Int) then (if (a0.size : Int) ≤ (a2.size : Int) then (if (a2.extract 0 ((a0.size : Int) : Int).toNat).toList = a0.toList then ((barbicanlaw06_sure.f k).bind fun t142 => (some t142)) else (some false)) else (none)) else (none))) else ((barbicanlaw06_sure.f k).bind fun t143 => (some t143)))) else (some false)) else (none)) = some r := by rw [if_pos rfl] at H; exact H
    clear H
    have H := H1
    clear H1
    by_cases c6 : a0.size + a1.size ≤ 9223372036854775807
    · rw [if_pos c6] at H
      have c6b0 := eq_true c6
      have c6b1 : decide (a0.size + a1.size ≤ 9223372036854775807) = true := decide_eq_true c6
      try have c6b2 : (9223372036854775807 < a0.size + a1.size) = False := eq_false (Nat.not_lt.2 c6)
      by_cases c7 : ((Op.bytesLess ((a0 ++ a1).toList) t138.toList) = true)
      · rw [if_pos c7] at H
        have c7b0 : (Op.bytesLess ((a0 ++ a1).toList) t138.toList) = true := c7
        clear c7
        by_cases c8 : ((Op.bytesLess a2.toList a0.toList) = true)
        · rw [if_pos c8] at H
          have c8b0 : (Op.bytesLess a2.toList a0.toList) = true := c8
          clear c8
          replace H := Option.bind_eq_some_iff.mp H
          obtain ⟨t141, A90, H⟩ := H
          replace H : (some t141) = some r := H
          have A9 := Aside0.mk A90
          clear A90
          obtain rfl := Option.some.inj H
          go_enter Try.func3, Try.ntmps3
          go_wp2_with (first | ((with_reducible refine gate_callee (f := 6) rfl ?_); refine goesL_ (some 12) rfl rfl Try.func6 (by kernel_rfl) rfl #[.string a0] rfl (by (try simp only [List.map_toArray, List.map_cons, List.map_nil]); first | done | rfl | (simp only [List.length_drop, List.length_take]; rfl)) ?_; (with_reducible refine (order_Next.calls a0 t138 true _ A4.out).mono ?_); rintro e w10 ⟨rfl, hb⟩; refine ⟨_, rfl, ?_⟩; have n0_ := Aside0.mk (below_step (by repeat (first | (with_reducible first | exact HB.out | apply below_alloc | apply pw_below_drewN | apply below_drew1) | exact HB.out | exact below_undrew HB.out)) hb); clear HB; have HB := n0_; clear n0_; (try clear hb); (try clear hb2); (try clear hk); (try clear hi)) | ((with_reducible refine gate_callee (f := 7) rfl ?_); refine goesL_ (some 60) rfl rfl Try.func7 (by kernel_rfl) rfl #[] rfl (by (try simp only [List.map_toArray, List.map_cons, List.map_nil]); first | done | rfl | (simp only [List.length_drop, List.length_take]; rfl)) ?_; (with_reducible refine (barbicanlaw06_sure.calls k  t141 _ A9.out).mono ?_); rintro e w11 ⟨rfl, hb⟩; refine ⟨_, rfl, ?_⟩; have n0_ := Aside0.mk (below_step (by repeat (first | (with_reducible first | exact HB.out | apply below_alloc | apply pw_below_drewN | apply below_drew1) | exact HB.out | exact below_undrew HB.out)) hb); clear HB; have HB := n0_; clear n0_; (try clear hb); (try clear hb2); (try clear hk); (try clear hi)))
          go_ret
          exact ⟨by first | rfl | (simp [errW_none, errW_some] <;> rfl) | (simp [*, errW_none, errW_some] <;> rfl), by repeat (first | (with_reducible first | exact HB.out | apply below_alloc | apply pw_below_drewN | apply below_drew1) | exact HB.out | exact below_undrew HB.out)⟩
        · rw [if_neg c8] at H
          have c8b0 : (Op.bytesLess a2.toList a0.toList) = false := by simpa using c8
          clear c8
          by_cases c12 : (Op.bytesLess a2.toList t138.toList) = true
          · rw [if_pos c12] at H
            have c12b0 : (Op.bytesLess a2.toList t138.toList) = true := c12
            clear c12
            by_cases c13 : (a2.size : Int) < (a0.size : Int)
            · rw [if_pos c13] at H
              have c13b0 : decide ((a2.size : Int) < (a0.size : Int)) = true := decide_eq_true c13
              have c13b1 : decide (a2.size < a0.size) = true := decide_eq_true (Int.ofNat_lt.mp c13)
              clear c13
              exact absurd (Option.some.inj H) (by rw [hT.out]; decide)
            · rw [if_neg c13] at H
              have c13b0 : decide ((a2.size : Int) < (a0.size : Int)) = false := decide_eq_false c13
              have c13b1 : decide (a2.size < a0.size) = false := decide_eq_false (fun h => c13 (Int.ofNat_lt.mpr h))
              clear c13
              by_cases c14 : 0 ≤ (a0.size : Int)
              · rw [if_pos c14] at H
                have c14b0 := eq_true c14
                have c14b1 : decide (0 ≤ (a0.size : Int)) = true := decide_eq_true c14
                clear c14
                by_cases c15 : (a0.size : Int) ≤ (a2.size : Int)
                · rw [if_pos c15] at H
                  have c15b0 := eq_true c15
                  have c15b1 : decide ((a0.size : Int) ≤ (a2.size : Int)) = true := decide_eq_true c15
                  clear c15
                  by_cases c16 : (a2.extract 0 ((a0.size : Int) : Int).toNat).toList = a0.toList
                  · rw [if_pos c16] at H
                    have c16b0 : ((a2.extract 0 ((a0.size : Int) : Int).toNat).toList == a0.toList) = true := beq_iff_eq.mpr c16
                    (try (have c16b0x := c16b0; simp only [Int.toNat_natCast] at c16b0x))
                    have c16b1 : ((a2.extract 0 ((a0.size : Int) : Int).toNat).toList != a0.toList) = false := bne_eq_false_iff_eq.mpr c16
                    (try (have c16b1x := c16b1; simp only [Int.toNat_natCast] at c16b1x))
                    clear c16
                    replace H := Option.bind_eq_some_iff.mp H
                    obtain ⟨t142, A170, H⟩ := H
                    replace H : (some t142) = some r := H
                    have A17 := Aside0.mk A170
                    clear A170
                    obtain rfl := Option.some.inj H
                    go_enter Try.func3, Try.ntmps3
                    go_wp2_with (first | ((with_reducible refine gate_callee (f := 6) rfl ?_); refine goesL_ (some 12) rfl rfl Try.func6 (by kernel_rfl) rfl #[.string a0] rfl (by (try simp only [List.map_toArray, List.map_cons, List.map_nil]); first | done | rfl | (simp only [List.length_drop, List.length_take]; rfl)) ?_; (with_reducible refine (order_Next.calls a0 t138 true _ A4.out).mono ?_); rintro e w18 ⟨rfl, hb⟩; refine ⟨_, rfl, ?_⟩; have n0_ := Aside0.mk (below_step (by repeat (first | (with_reducible first | exact HB.out | apply below_alloc | apply pw_below_drewN | apply below_drew1) | exact HB.out | exact below_undrew HB.out)) hb); clear HB; have HB := n0_; clear n0_; (try clear hb); (try clear hb2); (try clear hk); (try clear hi)) | ((with_reducible refine gate_callee (f := 7) rfl ?_); refine goesL_ (some 60) rfl rfl Try.func7 (by kernel_rfl) rfl #[] rfl (by (try simp only [List.map_toArray, List.map_cons, List.map_nil]); first | done | rfl | (simp only [List.length_drop, List.length_take]; rfl)) ?_; (with_reducible refine (barbicanlaw06_sure.calls k  t142 _ A17.out).mono ?_); rintro e w19 ⟨rfl, hb⟩; refine ⟨_, rfl, ?_⟩; have n0_ := Aside0.mk (below_step (by repeat (first | (with_reducible first | exact HB.out | apply below_alloc | apply pw_below_drewN | apply below_drew1) | exact HB.out | exact below_undrew HB.out)) hb); clear HB; have HB := n0_; clear n0_; (try clear hb); (try clear hb2); (try clear hk); (try clear hi)))
                    go_ret
                    exact ⟨by first | rfl | (simp [errW_none, errW_some] <;> rfl) | (simp [*, errW_none, errW_some] <;> rfl), by repeat (first | (with_reducible first | exact HB.out | apply below_alloc | apply pw_below_drewN | apply below_drew1) | exact HB.out | exact below_undrew HB.out)⟩
                  · rw [if_neg c16] at H
                    have c16b0 : ((a2.extract 0 ((a0.size : Int) : Int).toNat).toList == a0.toList) = false := beq_eq_false_iff_ne.mpr c16
                    (try (have c16b0x := c16b0; simp only [Int.toNat_natCast] at c16b0x))
                    have c16b1 : ((a2.extract 0 ((a0.size : Int) : Int).toNat).toList != a0.toList) = true := bne_iff_ne.mpr c16
                    (try (have c16b1x := c16b1; simp only [Int.toNat_natCast] at c16b1x))
                    exact absurd (Option.some.inj H) (by rw [hT.out]; decide)
                · rw [if_neg c15] at H
                  exact absurd H (by simp)
              · rw [if_neg c14] at H
                exact absurd H (by simp)
          · rw [if_neg c12] at H
            have c12b0 : (Op.bytesLess a2.toList t138.toList) = false := by simpa using c12
            clear c12
            replace H := Option.bind_eq_some_iff.mp H
            obtain ⟨t143, A200, H⟩ := H
            replace H : (some t143) = some r := H
            have A20 := Aside0.mk A200
            clear A200
            obtain rfl := Option.some.inj H
            go_enter Try.func3, Try.ntmps3
            go_wp2_with (first | ((with_reducible refine gate_callee (f := 6) rfl ?_); refine goesL_ (some 12) rfl rfl Try.func6 (by kernel_rfl) rfl #[.string a0] rfl (by (try simp only [List.map_toArray, List.map_cons, List.map_nil]); first | done | rfl | (simp only [List.length_drop, List.length_take]; rfl)) ?_; (with_reducible refine (order_Next.calls a0 t138 true _ A4.out).mono ?_); rintro e w21 ⟨rfl, hb⟩; refine ⟨_, rfl, ?_⟩; have n0_ := Aside0.mk (below_step (by repeat (first | (with_reducible first | exact HB.out | apply below_alloc | apply pw_below_drewN | apply below_drew1) | exact HB.out | exact below_undrew HB.out)) hb); clear HB; have HB := n0_; clear n0_; (try clear hb); (try clear hb2); (try clear hk); (try clear hi)) | ((with_reducible refine gate_callee (f := 7) rfl ?_); refine goesL_ (some 60) rfl rfl Try.func7 (by kernel_rfl) rfl #[] rfl (by (try simp only [List.map_toArray, List.map_cons, List.map_nil]); first | done | rfl | (simp only [List.length_drop, List.length_take]; rfl)) ?_; (with_reducible refine (barbicanlaw06_sure.calls k  t143 _ A20.out).mono ?_); rintro e w22 ⟨rfl, hb⟩; refine ⟨_, rfl, ?_⟩; have n0_ := Aside0.mk (below_step (by repeat (first | (with_reducible first | exact HB.out | apply below_alloc | apply pw_below_drewN | apply below_drew1) | exact HB.out | exact below_undrew HB.out)) hb); clear HB; have HB := n0_; clear n0_; (try clear hb); (try clear hb2); (try clear hk); (try clear hi)))
            go_ret
            exact ⟨by first | rfl | (simp [errW_none, errW_some] <;> rfl) | (simp [*, errW_none, errW_some] <;> rfl), by repeat (first | (with_reducible first | exact HB.out | apply below_alloc | apply pw_below_drewN | apply below_drew1) | exact HB.out | exact below_undrew HB.out)⟩
      · rw [if_neg c7] at H
        have c7b0 : (Op.bytesLess ((a0 ++ a1).toList) t138.toList) = false := by simpa using c7
        clear c7
        exact absurd (Option.some.inj H) (by rw [hT.out]; decide)
    · rw [if_neg c6] at H
      exact absurd H (by simp)
  · replace c5 := Bool.eq_false_iff.mpr c5
    subst c5
    have H1 : (barbicanlaw06_OrderNext.l0 k a0 t138 0) = some r := by rw [if_neg (show ¬ (false = true) by decide)] at H; exact H
    clear H
    have H := H1
    clear H1
    have H' := Aside0.mk H
    clear H
    go_enter Try.func3, Try.ntmps3
    go_wp2_with (first | ((with_reducible refine gate_callee (f := 6) rfl ?_); refine goesL_ (some 12) rfl rfl Try.func6 (by kernel_rfl) rfl #[.string a0] rfl (by (try simp only [List.map_toArray, List.map_cons, List.map_nil]); first | done | rfl | (simp only [List.length_drop, List.length_take]; rfl)) ?_; (with_reducible refine (order_Next.calls a0 t138 false _ A4.out).mono ?_); rintro e w23 ⟨rfl, hb⟩; refine ⟨_, rfl, ?_⟩; have n0_ := Aside0.mk (below_step (by repeat (first | (with_reducible first | exact HB.out | apply below_alloc | apply pw_below_drewN | apply below_drew1) | exact HB.out | exact below_undrew HB.out)) hb); clear HB; have HB := n0_; clear n0_; (try clear hb); (try clear hb2); (try clear hk); (try clear hi)))
    go_loopg [9] k (fun kq v9 w' => ∃ (x9_1 : Int), v9 = .int .i64 x9_1 ∧ Aside0 (barbicanlaw06_OrderNext.l0 kq a0 t138 x9_1 = some r) ∧ Aside0 (kq ≤ k) ∧ Aside0 (Below w.heap.size w w'))
    case atStart => exact ⟨(0), (by first | rfl | (simp; done) | (simp [*]; done)), H', ⟨Nat.le_refl _⟩, ⟨by repeat (first | (with_reducible first | exact HB.out | apply below_alloc | apply pw_below_drewN | apply below_drew1) | exact HB.out | exact below_undrew HB.out)⟩⟩
    case round =>
      clear H'
      try clear c1
      try clear p2
      try clear c3
      try clear c5
      try clear c6
      try clear c6b0
      try clear c6b1
      try clear c6b2
      try clear c7
      try clear c7b0
      try clear c8
      try clear c8b0
      try clear c12
      try clear c12b0
      try clear c13
      try clear c13b0
      try clear c13b1
      try clear c14
      try clear c14b0
      try clear c14b1
      try clear c15
      try clear c15b0
      try clear c15b1
      try clear c16
      try clear c16b0
      try clear c16b1
      obtain ⟨x9_1, rfl, HA, HK1, HB⟩ := hrel
      cases gk with
      | zero => exact absurd HA.out (by simp [barbicanlaw06_OrderNext.l0])
      | succ k1 =>
        have H := HA.out
        clear HA
        simp only [barbicanlaw06_OrderNext.l0] at H
        by_cases c24 : x9_1 < (a0.size : Int)
        · rw [if_pos c24] at H
          have c24b0 : decide (x9_1 < (a0.size : Int)) = true := decide_eq_true c24
          clear c24
          by_cases c25 : 0 ≤ x9_1
          · rw [if_pos c25] at H
            have c25b0 : decide (0 ≤ x9_1) = true := decide_eq_true c25
            clear c25
            by_cases c27 : (bt a0 x9_1) = 255
            · rw [if_pos c27] at H
              have c27b0 : ((bt a0 x9_1) == 255) = true := beq_iff_eq.mpr c27
              have c27b1 : ((bt a0 x9_1) != 255) = false := bne_eq_false_iff_eq.mpr c27
              clear c27
              have H' := Aside0.mk H
              clear H
              have p26 : 0 ≤ (x9_1 : Int) := of_decide_eq_true (by first | (with_reducible assumption) | assumption)
              have q26 : x9_1 < (a0.size : Int) := of_decide_eq_true (by first | (with_reducible assumption) | assumption)
              have hx26 := bt_at a0 x9_1
              replace p26 := eq_true p26
              replace q26 := eq_true q26
              go_wp2
              go_roundg k1
              case measure => have := HK1.out; omega
              case rel => exact ⟨(wrap64 (x9_1 + 1)), (by first | rfl | (simp; done) | (simp [*]; done)), H', ⟨by have := HK1.out; omega⟩, ⟨by repeat (first | (with_reducible first | exact HB.out | apply below_alloc | apply pw_below_drewN | apply below_drew1) | exact HB.out | exact below_undrew HB.out)⟩⟩
            · rw [if_neg c27] at H
              have c27b0 : ((bt a0 x9_1) == 255) = false := beq_eq_false_iff_ne.mpr c27
              have c27b1 : ((bt a0 x9_1) != 255) = true := bne_iff_ne.mpr c27
              exact absurd (Option.some.inj H) (by rw [hT.out]; decide)
          · rw [if_neg c25] at H
            exact absurd H (by simp)
        · rw [if_neg c24] at H
          have c24b0 : decide (x9_1 < (a0.size : Int)) = false := decide_eq_false c24
          clear c24
          by_cases c28 : t138.toList = ([] : List UInt8)
          · rw [if_pos c28] at H
            have c28b0 : (t138.toList == ([] : List UInt8)) = true := beq_iff_eq.mpr c28
            have c28b1 : (t138.toList != ([] : List UInt8)) = false := bne_eq_false_iff_eq.mpr c28
            clear c28
            replace H := Option.bind_eq_some_iff.mp H
            obtain ⟨t140, A290, H⟩ := H
            replace H : (some t140) = some r := H
            have A29 := Aside0.mk A290
            clear A290
            obtain rfl := Option.some.inj H
            go_wp2_with (first | (go_at_call 7; (with_reducible refine (barbicanlaw06_sure.calls k1  t140 _ A29.out).mono ?_); rintro e w30 ⟨rfl, hb⟩; have n0_ := Aside0.mk (below_step (by repeat (first | (with_reducible first | exact HB.out | apply below_alloc | apply pw_below_drewN | apply below_drew1) | exact HB.out | exact below_undrew HB.out)) hb); clear HB; have HB := n0_; clear n0_; (try clear hb); (try clear hb2); (try clear hk); (try clear hi)))
            go_ret
            exact ⟨by first | rfl | (simp [errW_none, errW_some] <;> rfl) | (simp [*, errW_none, errW_some] <;> rfl), by repeat (first | (with_reducible first | exact HB.out | apply below_alloc | apply pw_below_drewN | apply below_drew1) | exact HB.out | exact below_undrew HB.out)⟩
          · rw [if_neg c28] at H
            have c28b0 : (t138.toList == ([] : List UInt8)) = false := beq_eq_false_iff_ne.mpr c28
            have c28b1 : (t138.toList != ([] : List UInt8)) = true := bne_iff_ne.mpr c28
            exact absurd (Option.some.inj H) (by rw [hT.out]; decide)

/-- THE ONE PURE STATEMENT of barbicanlaw06_OrderNext: yours. -/
def barbicanlaw06_OrderNext.Pure : Prop := ∀ (a0 : ByteArray) (a1 : ByteArray) (a2 : ByteArray), a0.size ≤ 140737488351232 → a1.size ≤ 140737488351232 → a2.size ≤ 140737488351232 → ∃ k, barbicanlaw06_OrderNext.f k a0 a1 a2 = some true
theorem barbicanlaw06_OrderNext.walk (P : barbicanlaw06_OrderNext.Pure) (a0 : ByteArray) (a1 : ByteArray) (a2 : ByteArray) (w : World) (w0 : a0.size ≤ 140737488351232) (w1 : a1.size ≤ 140737488351232) (w2 : a2.size ≤ 140737488351232) :
    Calls Try.prog 3 #[.string a0, .string a1, .string a2] w fun e w' => e = .returned (.bool true) ∧ Below w.heap.size w w' := by
  obtain ⟨k, h⟩ := P a0 a1 a2 w0 w1 w2
  refine (barbicanlaw06_OrderNext.calls k a0 a1 a2 true w h ⟨rfl⟩).mono ?_
  rintro e w' ⟨rfl, hd⟩
  exact ⟨rfl, hd⟩

end Go.Proofs.Ytcchjnadhjeniaa.XAll
