/- Printed by this session's program (wip/print) out of the translation, for the statement named in the file's name. -/
import Derived.Test.YtcchjnadhjeniaaDoorXAllx0
import Derived.Test.YtcchjnadhjeniaaDoorXAllx5
import Derived.Test.YtcchjnadhjeniaaDoorXAllx6
import Derived.Test.YtcchjnadhjeniaaDoorXAllx8
import Derived.Test.YtcchjnadhjeniaaDoorXAllx14
import Derived.Test.YtcchjnadhjeniaaDoorXAllx15
import Derived.Test.YtcchjnadhjeniaaDoorXAllx16
import Derived.Test.YtcchjnadhjeniaaDoorXAllx17
import Derived.Test.YtcchjnadhjeniaaDoorXAllx18
import Derived.Test.YtcchjnadhjeniaaDoorXAllx19
namespace Go.Proofs.YtcchjnadhjeniaaDoor.XAll
open Go.RowKit Go.Proofs.YtcchjnadhjeniaaDoorW.PrintWords Go.Proofs.YtcchjnadhjeniaaDoorW.PrintLast Go.Proofs.YtcchjnadhjeniaaDoorW.PrintMore Go.Proofs.YtcchjnadhjeniaaDoor.As
attribute [local go_sem] str_gtr str_leq str_geq max2_int min2_int max_two min_two max_three min_three max_four min_four   -- for this text's walks alone
set_option linter.unusedVariables false
set_option linter.unusedSimpArgs false

/-! ### barbicanlaw06_OrderTexts: function 3 -/
def barbicanlaw06_OrderTexts.f (k : Nat) (l0 : List (S41)) (a1 : ByteArray) : Option (Bool) := (barbicanlaw06_twin.f l0).bind fun t251 => ((order_Encode.f k t251).bind fun bt254 => ((barbicanref06_Encode.f k l0).bind fun bt256 => ((order_Decode.f k a1).bind fun bt258 => ((barbicanref06_Decode.f k a1).bind fun bt262 => ((order_Next.f a1).bind fun bt266 => ((barbicanref06_Next.f k a1).bind fun bt268 => (if bt254.1.toList = bt256.1.toList then ((barbicanlaw06_num.f bt254.2).bind fun t270 => (if t270 = bt256.2 then ((barbicanlaw06_values.f k bt258.1 bt262.1).bind fun t271 => (if t271 = true then ((barbicanlaw06_num.f bt258.2).bind fun t272 => (if t272 = bt262.2 then (if bt266.1.toList = bt268.1.toList then (if (bt266.2 == bt268.2) = true then ((barbicanlaw06_sure.f k).bind fun t273 => (some t273)) else (some false)) else (some false)) else (some false))) else (some false))) else (some false))) else (some false))))))))
theorem barbicanlaw06_OrderTexts.mono : ∀ a0 a1 k, LeO (barbicanlaw06_OrderTexts.f k a0 a1) (barbicanlaw06_OrderTexts.f (k + 1) a0 a1) := by
  intro a0 a1 k
  unfold barbicanlaw06_OrderTexts.f
  repeat' first
      | (with_reducible exact barbicanlaw06_sure.mono _)
      | (with_reducible exact barbicanlaw06_values.mono _ _ _)
      | (with_reducible exact barbicanref06_Decode.mono _ _)
      | (with_reducible exact barbicanref06_Encode.mono _ _)
      | (with_reducible exact barbicanref06_Next.mono _ _)
      | (with_reducible exact order_Decode.mono _ _)
      | (with_reducible exact order_Encode.mono _ _)
      | (with_reducible exact LeO.refl _)
      | (with_reducible exact LeO.none _)
      | (with_reducible refine LeO.ite ?_ ?_)
      | (with_reducible refine LeO.bind ?_ (fun _ => ?_))
      | exact barbicanlaw06_sure.mono _
      | exact barbicanlaw06_values.mono _ _ _
      | exact barbicanref06_Decode.mono _ _
      | exact barbicanref06_Encode.mono _ _
      | exact barbicanref06_Next.mono _ _
      | exact order_Decode.mono _ _
      | exact order_Encode.mono _ _
      | exact LeO.none _
      | refine LeO.ite ?_ ?_
      | refine LeO.bind ?_ (fun _ => ?_)
set_option maxHeartbeats 8000000 in
set_option maxRecDepth 100000 in
theorem barbicanlaw06_OrderTexts.calls (k : Nat) (A0 : Option Addr) (c0 : Nat) (l0 : List (S41)) (a1 : ByteArray) (r : Bool) (w : World) (hr0 : Kd.C k41 w A0 l0.length l0) (hc0 : l0.length ≤ c0) (hG : GE w) (h : barbicanlaw06_OrderTexts.f k l0 a1 = some r) (hT : Aside0 (r = true)) :
    Calls Tryd.prog 3 #[.slice A0 l0.length c0, .string a1] w fun e w' => e = .returned (.bool r) ∧ Below w.heap.size w w' := by
  have HR0 := Aside0.mk hr0
  have HC0 := Aside0.mk hc0
  clear hr0 hc0
  have HG := Aside0.mk hG
  clear hG
  have HB := Aside0.mk (Below.refl w.heap.size w)
  have H : ((barbicanlaw06_twin.f l0).bind fun t251 => ((order_Encode.f k t251).bind fun bt254 => ((barbicanref06_Encode.f k l0).bind fun bt256 => ((order_Decode.f k a1).bind fun bt258 => ((barbicanref06_Decode.f k a1).bind fun bt262 => ((order_Next.f a1).bind fun bt266 => ((barbicanref06_Next.f k a1).bind fun bt268 => (if bt254.1.toList = bt256.1.toList then ((barbicanlaw06_num.f bt254.2).bind fun t270 => (if t270 = bt256.2 then ((barbicanlaw06_values.f k bt258.1 bt262.1).bind fun t271 => (if t271 = true then ((barbicanlaw06_num.f bt258.2).bind fun t272 => (if t272 = bt262.2 then (if bt266.1.toList = bt268.1.toList then (if (bt266.2 == bt268.2) = true then ((barbicanlaw06_sure.f k).bind fun t273 => (some t273)) else (some false)) else (some false)) else (some false))) else (some false))) else (some false))) else (some false))))))))) = some r := h
  clear h
  replace H := Option.bind_eq_some_iff.mp H
  obtain ⟨t251, A30, H⟩ := H
  replace H : ((order_Encode.f k t251).bind fun bt254 => ((barbicanref06_Encode.f k l0).bind fun bt256 => ((order_Decode.f k a1).bind fun bt258 => ((barbicanref06_Decode.f k a1).bind fun bt262 => ((order_Next.f a1).bind fun bt266 => ((barbicanref06_Next.f k a1).bind fun bt268 => (if bt254.1.toList = bt256.1.toList then ((barbicanlaw06_num.f bt254.2).bind fun t270 => (if t270 = bt256.2 then ((barbicanlaw06_values.f k bt258.1 bt262.1).bind fun t271 => (if t271 = true then ((barbicanlaw06_num.f bt258.2).bind fun t272 => (if t272 = bt262.2 then (if bt266.1.toList = bt268.1.toList then (if (bt266.2 == bt268.2) = true then ((barbicanlaw06_sure.f k).bind fun t273 => (some t273)) else (some false)) else (some false)) else (some false))) else (some false))) else (some false))) else (some false)))))))) = some r := H
  have A3 := Aside0.mk A30
  clear A30
  replace H := Option.bind_eq_some_iff.mp H
  obtain ⟨⟨t254, t255⟩, A40, H⟩ := H
  replace H : ((barbicanref06_Encode.f k l0).bind fun bt256 => ((order_Decode.f k a1).bind fun bt258 => ((barbicanref06_Decode.f k a1).bind fun bt262 => ((order_Next.f a1).bind fun bt266 => ((barbicanref06_Next.f k a1).bind fun bt268 => (if t254.toList = bt256.1.toList then ((barbicanlaw06_num.f t255).bind fun t270 => (if t270 = bt256.2 then ((barbicanlaw06_values.f k bt258.1 bt262.1).bind fun t271 => (if t271 = true then ((barbicanlaw06_num.f bt258.2).bind fun t272 => (if t272 = bt262.2 then (if bt266.1.toList = bt268.1.toList then (if (bt266.2 == bt268.2) = true then ((barbicanlaw06_sure.f k).bind fun t273 => (some t273)) else (some false)) else (some false)) else (some false))) else (some false))) else (some false))) else (some false))))))) = some r := H
  have A4 := Aside0.mk A40
  clear A40
  replace H := Option.bind_eq_some_iff.mp H
  obtain ⟨⟨t256, t257⟩, A50, H⟩ := H
  replace H : ((order_Decode.f k a1).bind fun bt258 => ((barbicanref06_Decode.f k a1).bind fun bt262 => ((order_Next.f a1).bind fun bt266 => ((barbicanref06_Next.f k a1).bind fun bt268 => (if t254.toList = t256.toList then ((barbicanlaw06_num.f t255).bind fun t270 => (if t270 = t257 then ((barbicanlaw06_values.f k bt258.1 bt262.1).bind fun t271 => (if t271 = true then ((barbicanlaw06_num.f bt258.2).bind fun t272 => (if t272 = bt262.2 then (if bt266.1.toList = bt268.1.toList then (if (bt266.2 == bt268.2) = true then ((barbicanlaw06_sure.f k).bind fun t273 => (some t273)) else (some false)) else (some false)) else (some false))) else (some false))) else (some false))) else (some false)))))) = some r := H
  have A5 := Aside0.mk A50
  clear A50
  replace H := Option.bind_eq_some_iff.mp H
  obtain ⟨⟨t258, t259⟩, A60, H⟩ := H
  replace H : ((barbicanref06_Decode.f k a1).bind fun bt262 => ((order_Next.f a1).bind fun bt266 => ((barbicanref06_Next.f k a1).bind fun bt268 => (if t254.toList = t256.toList then ((barbicanlaw06_num.f t255).bind fun t270 => (if t270 = t257 then ((barbicanlaw06_values.f k t258 bt262.1).bind fun t271 => (if t271 = true then ((barbicanlaw06_num.f t259).bind fun t272 => (if t272 = bt262.2 then (if bt266.1.toList = bt268.1.toList then (if (bt266.2 == bt268.2) = true then ((barbicanlaw06_sure.f k).bind fun t273 => (some t273)) else (some false)) else (some false)) else (some false))) else (some false))) else (some false))) else (some false))))) = some r := H
  have A6 := Aside0.mk A60
  clear A60
  replace H := Option.bind_eq_some_iff.mp H
  obtain ⟨⟨t262, t263⟩, A70, H⟩ := H
  replace H : ((order_Next.f a1).bind fun bt266 => ((barbicanref06_Next.f k a1).bind fun bt268 => (if t254.toList = t256.toList then ((barbicanlaw06_num.f t255).bind fun t270 => (if t270 = t257 then ((barbicanlaw06_values.f k t258 t262).bind fun t271 => (if t271 = true then ((barbicanlaw06_num.f t259).bind fun t272 => (if t272 = t263 then (if bt266.1.toList = bt268.1.toList then (if (bt266.2 == bt268.2) = true then ((barbicanlaw06_sure.f k).bind fun t273 => (some t273)) else (some false)) else (some false)) else (some false))) else (some false))) else (some false))) else (some false)))) = some r := H
  have A7 := Aside0.mk A70
  clear A70
  replace H := Option.bind_eq_some_iff.mp H
  obtain ⟨⟨t266, t267⟩, A80, H⟩ := H
  replace H : ((barbicanref06_Next.f k a1).bind fun bt268 => (if t254.toList = t256.toList then ((barbicanlaw06_num.f t255).bind fun t270 => (if t270 = t257 then ((barbicanlaw06_values.f k t258 t262).bind fun t271 => (if t271 = true then ((barbicanlaw06_num.f t259).bind fun t272 => (if t272 = t263 then (if t266.toList = bt268.1.toList then (if (t267 == bt268.2) = true then ((barbicanlaw06_sure.f k).bind fun t273 => (some t273)) else (some false)) else (some false)) else (some false))) else (some false))) else (some false))) else (some false))) = some r := H
  have A8 := Aside0.mk A80
  clear A80
  replace H := Option.bind_eq_some_iff.mp H
  obtain ⟨⟨t268, t269⟩, A90, H⟩ := H
  replace H : (if t254.toList = t256.toList then ((barbicanlaw06_num.f t255).bind fun t270 => (if t270 = t257 then ((barbicanlaw06_values.f k t258 t262).bind fun t271 => (if t271 = true then ((barbicanlaw06_num.f t259).bind fun t272 => (if t272 = t263 then (if t266.toList = t268.toList then (if (t267 == t269) = true then ((barbicanlaw06_sure.f k).bind fun t273 => (some t273)) else (some false)) else (some false)) else (some false))) else (some false))) else (some false))) else (some false)) = some r := H
  have A9 := Aside0.mk A90
  clear A90
  by_cases c10 : t254.toList = t256.toList
  · rw [if_pos c10] at H
    have c10b0 : (t254.toList == t256.toList) = true := beq_iff_eq.mpr c10
    have c10b1 : (t254.toList != t256.toList) = false := bne_eq_false_iff_eq.mpr c10
    clear c10
    replace H := Option.bind_eq_some_iff.mp H
    obtain ⟨t270, A110, H⟩ := H
    replace H : (if t270 = t257 then ((barbicanlaw06_values.f k t258 t262).bind fun t271 => (if t271 = true then ((barbicanlaw06_num.f t259).bind fun t272 => (if t272 = t263 then (if t266.toList = t268.toList then (if (t267 == t269) = true then ((barbicanlaw06_sure.f k).bind fun t273 => (some t273)) else (some false)) else (some false)) else (some false))) else (some false))) else (some false)) = some r := H
    have A11 := Aside0.mk A110
    clear A110
    by_cases c12 : t270 = t257
    · rw [if_pos c12] at H
      have c12b0 : (t270 == t257) = true := beq_iff_eq.mpr c12
      have c12b1 : (t270 != t257) = false := bne_eq_false_iff_eq.mpr c12
      clear c12
      replace H := Option.bind_eq_some_iff.mp H
      obtain ⟨t271, A130, H⟩ := H
      replace H : (if t271 = true then ((barbicanlaw06_num.f t259).bind fun t272 => (if t272 = t263 then (if t266.toList = t268.toList then (if (t267 == t269) = true then ((barbicanlaw06_sure.f k).bind fun t273 => (some t273)) else (some false)) else (some false)) else (some false))) else (some false)) = some r := H
      have A13 := Aside0.mk A130
      clear A130
      by_cases c14 : t271 = true
      · subst c14
        have H1 : ((barbicanlaw06_num.f t259).bind fun t272 => (if t272 = t263 then (if t266.toList = t268.toList then (if (t267 == t269) = true then ((barbicanlaw06_sure.f k).bind fun t273 => (some t273)) else (some false)) else (some false)) else (some false))) = some r := by rw [if_pos rfl] at H; exact H
        clear H
        have H := H1
        clear H1
        replace H := Option.bind_eq_some_iff.mp H
        obtain ⟨t272, A150, H⟩ := H
        replace H : (if t272 = t263 then (if t266.toList = t268.toList then (if (t267 == t269) = true then ((barbicanlaw06_sure.f k).bind fun t273 => (some t273)) else (some false)) else (some false)) else (some false)) = some r := H
        have A15 := Aside0.mk A150
        clear A150
        by_cases c16 : t272 = t263
        · rw [if_pos c16] at H
          have c16b0 : (t272 == t263) = true := beq_iff_eq.mpr c16
          have c16b1 : (t272 != t263) = false := bne_eq_false_iff_eq.mpr c16
          clear c16
          by_cases c17 : t266.toList = t268.toList
          · rw [if_pos c17] at H
            have c17b0 : (t266.toList == t268.toList) = true := beq_iff_eq.mpr c17
            have c17b1 : (t266.toList != t268.toList) = false := bne_eq_false_iff_eq.mpr c17
            clear c17
            by_cases c18 : (t267 == t269) = true
            · rw [if_pos c18] at H
              have c18b0 : (t267 == t269) = true := c18
              (try (have c18b1 : decide (t267 = t269) = true := by simpa using c18))
              (try (have c18b2 : (t267 == t269) = true := by simpa using c18))
              clear c18
              replace H := Option.bind_eq_some_iff.mp H
              obtain ⟨t273, A190, H⟩ := H
              replace H : (some t273) = some r := H
              have A19 := Aside0.mk A190
              clear A190
              obtain rfl := Option.some.inj H
              go_enter Tryd.func3, Tryd.ntmps3
              go_wp2_with (first | ((with_reducible refine gate_callee (f := 5) rfl ?_); refine goesL_ (some 19) rfl rfl Tryd.func5 (by kernel_rfl) rfl #[.slice A0 l0.length c0] rfl (by (try simp only [List.map_toArray, List.map_cons, List.map_nil]); first | done | rfl | (simp only [List.length_drop, List.length_take]; rfl)) ?_; (with_reducible refine (barbicanlaw06_twin.calls _ _ l0 t251 _ ?side1 ?side2 A3.out).mono ?_); (case side1 => repeat (first | exact HR0.out | (with_reducible refine Kd.C_alloc ?_ _) | (with_reducible refine Kd.C_drewN ?_ _) | (with_reducible refine Kd.C_drew ?_))); (case side2 => exact HC0.out); rintro e w20 ⟨v252, rfl, ho0, hb⟩; refine ⟨_, rfl, ?_⟩; have n0_ := Aside0.mk (Kd.R_lower ho0 (below_size (by repeat (first | (with_reducible first | exact HB.out | apply below_alloc | apply pw_below_drewN | apply below_drew1) | exact HB.out | exact below_undrew HB.out)))); have n1_ := Aside0.mk (below_step (by repeat (first | (with_reducible first | exact HB.out | apply below_alloc | apply pw_below_drewN | apply below_drew1) | exact HB.out | exact below_undrew HB.out)) hb); clear HB; have HO253 := n0_; have HB := n1_; clear n0_ n1_; (try clear hb); (try clear hb2); (try clear hk); (try clear hi); (try clear ho0); obtain ⟨Ao21, co21, eo21⟩ := Kd.R_slice HO253.out; subst eo21) | ((with_reducible refine gate_callee (f := 4) rfl ?_); refine goesL_ (some 20) rfl rfl Tryd.func4 (by kernel_rfl) rfl #[.slice Ao21 t251.length co21] rfl (by (try simp only [List.map_toArray, List.map_cons, List.map_nil]); first | done | rfl | (simp only [List.length_drop, List.length_take]; rfl)) ?_; (with_reducible refine (order_Encode.calls k _ _ t251 t254 t255 _ ?side1 ?side2 A4.out).mono ?_); (case side1 => repeat (first | exact (Kd.R_reads' HO253.out).2.2 | (with_reducible refine Kd.C_alloc ?_ _) | (with_reducible refine Kd.C_drewN ?_ _) | (with_reducible refine Kd.C_drew ?_))); (case side2 => exact (Kd.R_reads' HO253.out).2.1); rintro e w22 ⟨rfl, hb⟩; refine ⟨_, rfl, ?_⟩; have n0_ := Aside0.mk (Kd.R_below (by (with_reducible repeat (first | apply Kd.R_alloc | apply Kd.R_drewN | apply Kd.R_drew)); exact HO253.out) hb); have n1_ := Aside0.mk (below_step (by repeat (first | (with_reducible first | exact HB.out | apply below_alloc | apply pw_below_drewN | apply below_drew1) | exact HB.out | exact below_undrew HB.out)) hb); clear HO253; clear HB; have HO253 := n0_; have HB := n1_; clear n0_ n1_; (try clear hb); (try clear hb2); (try clear hk); (try clear hi); (try simp only [errW_none, errW_some])) | ((with_reducible refine gate_callee (f := 6) rfl ?_); refine goesL_ (some 25) rfl rfl Tryd.func6 (by kernel_rfl) rfl #[.slice A0 l0.length c0] rfl (by (try simp only [List.map_toArray, List.map_cons, List.map_nil]); first | done | rfl | (simp only [List.length_drop, List.length_take]; rfl)) ?_; (with_reducible refine (barbicanref06_Encode.calls k _ _ l0 t256 t257 _ ?side1 ?side2 A5.out).mono ?_); (case side1 => repeat (first | exact (Kd.C_below HR0.out HB.out) | (with_reducible refine Kd.C_alloc ?_ _) | (with_reducible refine Kd.C_drewN ?_ _) | (with_reducible refine Kd.C_drew ?_))); (case side2 => exact HC0.out); rintro e w23 ⟨rfl, hb⟩; refine ⟨_, rfl, ?_⟩; have n0_ := Aside0.mk (Kd.R_below (by (with_reducible repeat (first | apply Kd.R_alloc | apply Kd.R_drewN | apply Kd.R_drew)); exact HO253.out) hb); have n1_ := Aside0.mk (below_step (by repeat (first | (with_reducible first | exact HB.out | apply below_alloc | apply pw_below_drewN | apply below_drew1) | exact HB.out | exact below_undrew HB.out)) hb); clear HO253; clear HB; have HO253 := n0_; have HB := n1_; clear n0_ n1_; (try clear hb); (try clear hb2); (try clear hk); (try clear hi)) | ((with_reducible refine gate_callee (f := 7) rfl ?_); refine goesL_ (some 30) rfl rfl Tryd.func7 (by kernel_rfl) rfl #[.string a1] rfl (by (try simp only [List.map_toArray, List.map_cons, List.map_nil]); first | done | rfl | (simp only [List.length_drop, List.length_take]; rfl)) ?_; (with_reducible refine (order_Decode.calls k a1 t258 t259 _ A6.out).mono ?_); rintro e w24 ⟨v260, rfl, ho0, hb⟩; refine ⟨_, rfl, ?_⟩; have n0_ := Aside0.mk (Kd.R_elder' (by (with_reducible repeat (first | apply Kd.R_alloc | apply Kd.R_drewN | apply Kd.R_drew)); exact HO253.out) (Kd.R_base ho0) hb); have n1_ := Aside0.mk (Kd.R_lower (Kd.R_new' ho0 (Kd.R_lt (by (with_reducible repeat (first | apply Kd.R_alloc | apply Kd.R_drewN | apply Kd.R_drew)); exact HO253.out))) (below_size (by repeat (first | (with_reducible first | exact HB.out | apply below_alloc | apply pw_below_drewN | apply below_drew1) | exact HB.out | exact below_undrew HB.out)))); have n2_ := Aside0.mk (below_step (by repeat (first | (with_reducible first | exact HB.out | apply below_alloc | apply pw_below_drewN | apply below_drew1) | exact HB.out | exact below_undrew HB.out)) hb); clear HO253; clear HB; have HO253 := n0_; have HO261 := n1_; have HB := n2_; clear n0_ n1_ n2_; (try clear hb); (try clear hb2); (try clear hk); (try clear hi); (try clear ho0); (try simp only [errW_none, errW_some])) | ((with_reducible refine gate_callee (f := 8) rfl ?_); refine goesL_ (some 35) rfl rfl Tryd.func8 (by kernel_rfl) rfl #[.string a1] rfl (by (try simp only [List.map_toArray, List.map_cons, List.map_nil]); first | done | rfl | (simp only [List.length_drop, List.length_take]; rfl)) ?_; (with_reducible refine (barbicanref06_Decode.calls k a1 t262 t263 _ A7.out).mono ?_); rintro e w25 ⟨v264, rfl, ho0, hb⟩; refine ⟨_, rfl, ?_⟩; have n0_ := Aside0.mk (Kd.R_elder' (by (with_reducible repeat (first | apply Kd.R_alloc | apply Kd.R_drewN | apply Kd.R_drew)); exact HO253.out) (Kd.R_base ho0) hb); have n1_ := Aside0.mk (Kd.R_elder' (by (with_reducible repeat (first | apply Kd.R_alloc | apply Kd.R_drewN | apply Kd.R_drew)); exact HO261.out) (Kd.R_base ho0) hb); have n2_ := Aside0.mk (Kd.R_lower (Kd.R_new' (Kd.R_new' ho0 (Kd.R_lt (by (with_reducible repeat (first | apply Kd.R_alloc | apply Kd.R_drewN | apply Kd.R_drew)); exact HO253.out))) (Kd.R_lt (by (with_reducible repeat (first | apply Kd.R_alloc | apply Kd.R_drewN | apply Kd.R_drew)); exact HO261.out))) (below_size (by repeat (first | (with_reducible first | exact HB.out | apply below_alloc | apply pw_below_drewN | apply below_drew1) | exact HB.out | exact below_undrew HB.out)))); have n3_ := Aside0.mk (below_step (by repeat (first | (with_reducible first | exact HB.out | apply below_alloc | apply pw_below_drewN | apply below_drew1) | exact HB.out | exact below_undrew HB.out)) hb); clear HO253; clear HO261; clear HB; have HO253 := n0_; have HO261 := n1_; have HO265 := n2_; have HB := n3_; clear n0_ n1_ n2_ n3_; (try clear hb); (try clear hb2); (try clear hk); (try clear hi); (try clear ho0)) | ((with_reducible refine gate_callee (f := 9) rfl ?_); refine goesL_ (some 40) rfl rfl Tryd.func9 (by kernel_rfl) rfl #[.string a1] rfl (by (try simp only [List.map_toArray, List.map_cons, List.map_nil]); first | done | rfl | (simp only [List.length_drop, List.length_take]; rfl)) ?_; (with_reducible refine (order_Next.calls a1 t266 t267 _ A8.out).mono ?_); rintro e w26 ⟨rfl, hb⟩; refine ⟨_, rfl, ?_⟩; have n0_ := Aside0.mk (Kd.R_below (by (with_reducible repeat (first | apply Kd.R_alloc | apply Kd.R_drewN | apply Kd.R_drew)); exact HO253.out) hb); have n1_ := Aside0.mk (Kd.R_below (by (with_reducible repeat (first | apply Kd.R_alloc | apply Kd.R_drewN | apply Kd.R_drew)); exact HO261.out) hb); have n2_ := Aside0.mk (Kd.R_below (by (with_reducible repeat (first | apply Kd.R_alloc | apply Kd.R_drewN | apply Kd.R_drew)); exact HO265.out) hb); have n3_ := Aside0.mk (below_step (by repeat (first | (with_reducible first | exact HB.out | apply below_alloc | apply pw_below_drewN | apply below_drew1) | exact HB.out | exact below_undrew HB.out)) hb); clear HO253; clear HO261; clear HO265; clear HB; have HO253 := n0_; have HO261 := n1_; have HO265 := n2_; have HB := n3_; clear n0_ n1_ n2_ n3_; (try clear hb); (try clear hb2); (try clear hk); (try clear hi)) | ((with_reducible refine gate_callee (f := 10) rfl ?_); refine goesL_ (some 45) rfl rfl Tryd.func10 (by kernel_rfl) rfl #[.string a1] rfl (by (try simp only [List.map_toArray, List.map_cons, List.map_nil]); first | done | rfl | (simp only [List.length_drop, List.length_take]; rfl)) ?_; (with_reducible refine (barbicanref06_Next.calls k a1 t268 t269 _ A9.out).mono ?_); rintro e w27 ⟨rfl, hb⟩; refine ⟨_, rfl, ?_⟩; have n0_ := Aside0.mk (Kd.R_below (by (with_reducible repeat (first | apply Kd.R_alloc | apply Kd.R_drewN | apply Kd.R_drew)); exact HO253.out) hb); have n1_ := Aside0.mk (Kd.R_below (by (with_reducible repeat (first | apply Kd.R_alloc | apply Kd.R_drewN | apply Kd.R_drew)); exact HO261.out) hb); have n2_ := Aside0.mk (Kd.R_below (by (with_reducible repeat (first | apply Kd.R_alloc | apply Kd.R_drewN | apply Kd.R_drew)); exact HO265.out) hb); have n3_ := Aside0.mk (below_step (by repeat (first | (with_reducible first | exact HB.out | apply below_alloc | apply pw_below_drewN | apply below_drew1) | exact HB.out | exact below_undrew HB.out)) hb); clear HO253; clear HO261; clear HO265; clear HB; have HO253 := n0_; have HO261 := n1_; have HO265 := n2_; have HB := n3_; clear n0_ n1_ n2_ n3_; (try clear hb); (try clear hb2); (try clear hk); (try clear hi); have CA11 := fun W hG_ => barbicanlaw06_num.calls t255 t270 W hG_ A11.out; try simp only [errW_none, errW_some] at CA11) | (go_at_call 11; (with_reducible refine (CA11 _ ?side1).mono ?_); (case side1 => exact GE.below HG.out (by repeat (first | (with_reducible first | exact HB.out | apply below_alloc | apply pw_below_drewN | apply below_drew1) | exact HB.out | exact below_undrew HB.out))); rintro e w28 ⟨rfl, hb⟩; have n0_ := Aside0.mk (Kd.R_below (by (with_reducible repeat (first | apply Kd.R_alloc | apply Kd.R_drewN | apply Kd.R_drew)); exact HO253.out) hb); have n1_ := Aside0.mk (Kd.R_below (by (with_reducible repeat (first | apply Kd.R_alloc | apply Kd.R_drewN | apply Kd.R_drew)); exact HO261.out) hb); have n2_ := Aside0.mk (Kd.R_below (by (with_reducible repeat (first | apply Kd.R_alloc | apply Kd.R_drewN | apply Kd.R_drew)); exact HO265.out) hb); have n3_ := Aside0.mk (below_step (by repeat (first | (with_reducible first | exact HB.out | apply below_alloc | apply pw_below_drewN | apply below_drew1) | exact HB.out | exact below_undrew HB.out)) hb); clear HO253; clear HO261; clear HO265; clear HB; have HO253 := n0_; have HO261 := n1_; have HO265 := n2_; have HB := n3_; clear n0_ n1_ n2_ n3_; (try clear hb); (try clear hb2); (try clear hk); (try clear hi); obtain ⟨Ao29, co29, eo29⟩ := Kd.R_slice HO261.out; subst eo29; obtain ⟨Ao30, co30, eo30⟩ := Kd.R_slice HO265.out; subst eo30) | (go_at_call 12; (with_reducible refine (barbicanlaw06_values.calls k _ _ t258 _ _ t262 true _ ?side1 ?side2 ?side3 ?side4 A13.out).mono ?_); (case side1 => repeat (first | exact (Kd.R_reads' HO261.out).2.2 | (with_reducible refine Kd.C_alloc ?_ _) | (with_reducible refine Kd.C_drewN ?_ _) | (with_reducible refine Kd.C_drew ?_))); (case side2 => exact (Kd.R_reads' HO261.out).2.1); (case side3 => repeat (first | exact (Kd.R_reads' HO265.out).2.2 | (with_reducible refine Kd.C_alloc ?_ _) | (with_reducible refine Kd.C_drewN ?_ _) | (with_reducible refine Kd.C_drew ?_))); (case side4 => exact (Kd.R_reads' HO265.out).2.1); rintro e w' ⟨rfl, ⟨nd, rfl⟩⟩; have CA15 := fun W hG_ => barbicanlaw06_num.calls t259 t272 W hG_ A15.out; try simp only [errW_none, errW_some] at CA15) | (go_at_call 11; (with_reducible refine (CA15 _ ?side1).mono ?_); (case side1 => exact GE.below HG.out (by repeat (first | (with_reducible first | exact HB.out | apply below_alloc | apply pw_below_drewN | apply below_drew1) | exact HB.out | exact below_undrew HB.out))); rintro e w31 ⟨rfl, hb⟩; have n0_ := Aside0.mk (Kd.R_below (by (with_reducible repeat (first | apply Kd.R_alloc | apply Kd.R_drewN | apply Kd.R_drew)); exact HO253.out) hb); have n1_ := Aside0.mk (Kd.R_below (by (with_reducible repeat (first | apply Kd.R_alloc | apply Kd.R_drewN | apply Kd.R_drew)); exact HO261.out) hb); have n2_ := Aside0.mk (Kd.R_below (by (with_reducible repeat (first | apply Kd.R_alloc | apply Kd.R_drewN | apply Kd.R_drew)); exact HO265.out) hb); have n3_ := Aside0.mk (below_step (by repeat (first | (with_reducible first | exact HB.out | apply below_alloc | apply pw_below_drewN | apply below_drew1) | exact HB.out | exact below_undrew HB.out)) hb); clear HO253; clear HO261; clear HO265; clear HB; have HO253 := n0_; have HO261 := n1_; have HO265 := n2_; have HB := n3_; clear n0_ n1_ n2_ n3_; (try clear hb); (try clear hb2); (try clear hk); (try clear hi)) | (go_at_call 13; (with_reducible refine (barbicanlaw06_sure.calls k  t273 _ A19.out).mono ?_); rintro e w32 ⟨rfl, hb⟩; have n0_ := Aside0.mk (Kd.R_below (by (with_reducible repeat (first | apply Kd.R_alloc | apply Kd.R_drewN | apply Kd.R_drew)); exact HO253.out) hb); have n1_ := Aside0.mk (Kd.R_below (by (with_reducible repeat (first | apply Kd.R_alloc | apply Kd.R_drewN | apply Kd.R_drew)); exact HO261.out) hb); have n2_ := Aside0.mk (Kd.R_below (by (with_reducible repeat (first | apply Kd.R_alloc | apply Kd.R_drewN | apply Kd.R_drew)); exact HO265.out) hb); have n3_ := Aside0.mk (below_step (by repeat (first | (with_reducible first | exact HB.out | apply below_alloc | apply pw_below_drewN | apply below_drew1) | exact HB.out | exact below_undrew HB.out)) hb); clear HO253; clear HO261; clear HO265; clear HB; have HO253 := n0_; have HO261 := n1_; have HO265 := n2_; have HB := n3_; clear n0_ n1_ n2_ n3_; (try clear hb); (try clear hb2); (try clear hk); (try clear hi)))
              go_ret
              exact ⟨by first | rfl | (simp [errW_none, errW_some] <;> rfl) | (simp [*, errW_none, errW_some] <;> rfl), by repeat (first | (with_reducible first | exact HB.out | apply below_alloc | apply pw_below_drewN | apply below_drew1) | exact HB.out | exact below_undrew HB.out)⟩
            · rw [if_neg c18] at H
              have c18b0 : (t267 == t269) = false := by simpa using c18
              (try (have c18b1 : decide (t267 = t269) = false := by simpa using c18))
              (try (have c18b2 : (t267 == t269) = false := by simpa using c18))
              (try (have c18b3 : ¬ (t267 = t269) := by simpa using c18))
              clear c18
              exact absurd (Option.some.inj H) (by rw [hT.out]; decide)
          · rw [if_neg c17] at H
            have c17b0 : (t266.toList == t268.toList) = false := beq_eq_false_iff_ne.mpr c17
            have c17b1 : (t266.toList != t268.toList) = true := bne_iff_ne.mpr c17
            exact absurd (Option.some.inj H) (by rw [hT.out]; decide)
        · rw [if_neg c16] at H
          have c16b0 : (t272 == t263) = false := beq_eq_false_iff_ne.mpr c16
          have c16b1 : (t272 != t263) = true := bne_iff_ne.mpr c16
          exact absurd (Option.some.inj H) (by rw [hT.out]; decide)
      · replace c14 := Bool.eq_false_iff.mpr c14
        subst c14
        have H1 : (some false) = some r := by rw [if_neg (show ¬ (false = true) by decide)] at H; exact H
        clear H
        have H := H1
        clear H1
        exact absurd (Option.some.inj H) (by rw [hT.out]; decide)
    · rw [if_neg c12] at H
      have c12b0 : (t270 == t257) = false := beq_eq_false_iff_ne.mpr c12
      have c12b1 : (t270 != t257) = true := bne_iff_ne.mpr c12
      exact absurd (Option.some.inj H) (by rw [hT.out]; decide)
  · rw [if_neg c10] at H
    have c10b0 : (t254.toList == t256.toList) = false := beq_eq_false_iff_ne.mpr c10
    have c10b1 : (t254.toList != t256.toList) = true := bne_iff_ne.mpr c10
    exact absurd (Option.some.inj H) (by rw [hT.out]; decide)

end Go.Proofs.YtcchjnadhjeniaaDoor.XAll
