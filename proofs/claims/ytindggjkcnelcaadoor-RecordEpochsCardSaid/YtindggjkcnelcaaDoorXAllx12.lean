/- Printed by this session's program (wip/print) out of the translation, for the statement named in the file's name. -/
import Derived.Test.YtindggjkcnelcaaDoorXAllx0
import Derived.Test.YtindggjkcnelcaaDoorXAllx10
namespace Go.Proofs.YtindggjkcnelcaaDoor.XAll
open Go.RowKit Go.Proofs.YtindggjkcnelcaaDoorW.PrintWords Go.Proofs.YtindggjkcnelcaaDoorW.PrintLast Go.Proofs.YtindggjkcnelcaaDoorW.PrintMore Go.Proofs.YtindggjkcnelcaaDoor.As
attribute [local go_sem] max2_int min2_int max_two min_two max_three min_three max_four min_four   -- for this text's walks alone
set_option linter.unusedVariables false
set_option linter.unusedSimpArgs false

/-! ### barbicanlaw10_sure: function 20 -/
def barbicanlaw10_sure.f (k : Nat)  : Option (Bool) := (record_Frame.f k 1 (([97] : List Int))).bind fun bt271 => (if bt271.2.isNone = true then (if (bt271.1.length : Int) = 7 then (if 3 ≤ (bt271.1.length : Int) then (some ((strOfNums (bt271.1.take 3)).toList == ([1, 1, 97] : List UInt8))) else (none)) else (some false)) else (some false))
theorem barbicanlaw10_sure.mono : ∀ k, LeO (barbicanlaw10_sure.f k ) (barbicanlaw10_sure.f (k + 1) ) := by
  intro  k
  unfold barbicanlaw10_sure.f
  repeat' first
      | (with_reducible exact record_Frame.mono _ _ _)
      | (with_reducible exact LeO.refl _)
      | (with_reducible exact LeO.none _)
      | (with_reducible refine LeO.ite ?_ ?_)
      | (with_reducible refine LeO.bind ?_ (fun _ => ?_))
      | exact record_Frame.mono _ _ _
      | exact LeO.none _
      | refine LeO.ite ?_ ?_
      | refine LeO.bind ?_ (fun _ => ?_)
set_option maxHeartbeats 8000000 in
set_option maxRecDepth 100000 in
theorem barbicanlaw10_sure.calls (k : Nat)  (r : Bool) (w : World) (h : barbicanlaw10_sure.f k  = some r) :
    Calls Tryd.prog 20 #[] w fun e w' => e = .returned (.bool r) ∧ Below w.heap.size w w' := by
  have hu25 := Tryd.underlying25
  have hu46 := Tryd.underlying46
  have HB := Aside0.mk (Below.refl w.heap.size w)
  have H : ((record_Frame.f k 1 (([97] : List Int))).bind fun bt271 => (if bt271.2.isNone = true then (if (bt271.1.length : Int) = 7 then (if 3 ≤ (bt271.1.length : Int) then (some ((strOfNums (bt271.1.take 3)).toList == ([1, 1, 97] : List UInt8))) else (none)) else (some false)) else (some false))) = some r := h
  clear h
  obtain ⟨y267, hy267⟩ : ∃ y_ : List Int, y_ = (([97] : List Int)) := ⟨_, rfl⟩
  replace H : ((record_Frame.f k 1 y267).bind fun bt271 => (if bt271.2.isNone = true then (if (bt271.1.length : Int) = 7 then (if 3 ≤ (bt271.1.length : Int) then (some ((strOfNums (bt271.1.take 3)).toList == ([1, 1, 97] : List UInt8))) else (none)) else (some false)) else (some false))) = some r := by first | (rw [hy267]; with_reducible exact H) | (have H2_ := (Option.bind_some _ _).symm.trans H; rw [hy267]; with_reducible exact H2_) | (have H2_ := (Option.bind_some _ _).symm.trans H; with_reducible exact H2_) | with_reducible exact H | (rw [hy267]; exact H) | exact H
  have Ny267 := Aside0.mk hy267
  clear hy267
  replace H := Option.bind_eq_some_iff.mp H
  obtain ⟨⟨t271, t272⟩, A10, H⟩ := H
  replace H : (if t272.isNone = true then (if (t271.length : Int) = 7 then (if 3 ≤ (t271.length : Int) then (some ((strOfNums (t271.take 3)).toList == ([1, 1, 97] : List UInt8))) else (none)) else (some false)) else (some false)) = some r := H
  have A1 := Aside0.mk A10
  clear A10
  rcases t272 with _ | q275
  · have H1 : (if (t271.length : Int) = 7 then (if 3 ≤ (t271.length : Int) then (some ((strOfNums (t271.take 3)).toList == ([1, 1, 97] : List UInt8))) else (none)) else (some false)) = some r := by rw [if_pos (show (none : Option Int).isNone = true by rfl)] at H; exact H
    clear H
    have H := H1
    clear H1
    try simp only [errW_none, errW_some]
    by_cases c2 : (t271.length : Int) = 7
    · rw [if_pos c2] at H
      have c2b0 : ((t271.length : Int) == 7) = true := beq_iff_eq.mpr c2
      have c2b1 : ((t271.length : Int) != 7) = false := bne_eq_false_iff_eq.mpr c2
      clear c2
      by_cases c3 : 3 ≤ (t271.length : Int)
      · rw [if_pos c3] at H
        have c3b0 := eq_true c3
        have c3b1 : decide (3 ≤ (t271.length : Int)) = true := decide_eq_true c3
        clear c3
        obtain ⟨y276, hy276⟩ : ∃ y_ : List Int, y_ = (t271.take 3) := ⟨_, rfl⟩
        replace H : (some ((strOfNums y276).toList == ([1, 1, 97] : List UInt8))) = some r := by first | (rw [hy276]; with_reducible exact H) | (have H2_ := (Option.bind_some _ _).symm.trans H; rw [hy276]; with_reducible exact H2_) | (have H2_ := (Option.bind_some _ _).symm.trans H; with_reducible exact H2_) | with_reducible exact H | (rw [hy276]; exact H) | exact H
        have Ny276 := Aside0.mk hy276
        clear hy276
        obtain rfl := Option.some.inj H
        go_enter Tryd.func20, Tryd.ntmps20
        go_wp2_with (first | ((with_reducible refine gate_dst (N := 5) rfl ?_); (try (refine gate_guard (by rfl) ?_; dsimp only)); refine Kd.C_convert _ 5 rfl (N := 5) rfl 22 (.tmp 4) rfl 1 rfl Tryd.underlying22 Tryd.underlying5 ([97] : List Int) _ (by rfl) rfl (by omega) (Below.refl _ _) (Nat.le_refl _) ?_; intro A270 c270 w4 hcc_ hcl_ hb; rw [← Ny267.out] at hcc_ hcl_; rw [← Ny267.out]; have n0_ := Aside0.mk (below_step (by repeat (first | (with_reducible first | exact HB.out | apply below_alloc | apply pw_below_drewN | apply below_drew1) | exact HB.out | exact below_undrew HB.out)) hb); clear HB; have HB := n0_; clear n0_; have HR270 := Aside0.mk hcc_; have HC270 := Aside0.mk hcl_; clear hcc_ hcl_ hb) | ((with_reducible refine gate_callee (f := 15) rfl ?_); refine goesL_ (some 6) rfl rfl Tryd.func15 (by kernel_rfl) rfl #[.int .u64 1, .slice A270 y267.length c270] rfl (by (try simp only [List.map_toArray, List.map_cons, List.map_nil]); first | done | rfl | (simp only [List.length_drop, List.length_take]; rfl)) ?_; (with_reducible refine (record_Frame.calls k 1 _ _ y267 t271 none _ ?side1 ?side2 A1.out).mono ?_); (case side1 => repeat (first | exact (by repeat (first | (with_reducible exact HR270.out) | (with_reducible refine Kd.C_alloc ?_ _) | (with_reducible refine Kd.C_drewN ?_ _) | (with_reducible refine Kd.C_drew ?_) | exact HR270.out)) | (with_reducible refine Kd.C_alloc ?_ _) | (with_reducible refine Kd.C_drewN ?_ _) | (with_reducible refine Kd.C_drew ?_))); (case side2 => exact HC270.out); rintro e w5 ⟨v273, rfl, ho0, hb⟩; refine ⟨_, rfl, ?_⟩; have n0_ := Aside0.mk (Kd.R_lower ho0 (below_size (by repeat (first | (with_reducible first | exact HB.out | apply below_alloc | apply pw_below_drewN | apply below_drew1) | exact HB.out | exact below_undrew HB.out)))); have n1_ := Aside0.mk (Kd.C_below (by repeat (first | (with_reducible exact HR270.out) | (with_reducible refine Kd.C_alloc ?_ _) | (with_reducible refine Kd.C_drewN ?_ _) | (with_reducible refine Kd.C_drew ?_) | exact HR270.out)) hb); have n2_ := Aside0.mk (below_step (by repeat (first | (with_reducible first | exact HB.out | apply below_alloc | apply pw_below_drewN | apply below_drew1) | exact HB.out | exact below_undrew HB.out)) hb); clear HR270; clear HB; have HO274 := n0_; have HR270 := n1_; have HB := n2_; clear n0_ n1_ n2_; (try clear hb); (try clear hb2); (try clear hk); (try clear hi); (try clear ho0); (try simp only [errW_none, errW_some]); obtain ⟨Ao6, co6, eo6⟩ := Kd.R_slice HO274.out; subst eo6; have q7 : (3 : Int) ≤ ((t271.length : Int) : Int) := of_decide_eq_true (by first | (with_reducible assumption) | assumption); obtain ⟨i07, hi07, _, hsz7, _⟩ := info_parts info5; have hroom7 : t271.length ≤ co6 := (Kd.R_reads' HO274.out).2.1; have hC7 : Kd.C (Kd.int .u8) _ Ao6 t271.length t271 := (Kd.R_reads' HO274.out).2.2; have hcut7 := cut_to (P := Tryd.prog) 22 5 .i64 Tryd.underlying22 hi07 Ao6 t271.length co6 3 (by omega) q7 hroom7; have hr7 := Kd.C_take (m := 3) hC7 (by omega); have hy7 : y276.length = (3 : Int).toNat := (by rw [Ny276.out, List.length_take]; omega); rw [← Ny276.out] at hr7; rw [← hy7] at hcut7; have HR279 := Aside0.mk hr7; have HC279 := Aside0.mk (show y276.length ≤ co6 from by omega); clear hr7 hC7 hroom7 hi07 hsz7; have KY7 := Aside0.mk hy7; clear hy7; have KL7 := Aside0.mk (show 3 ≤ t271.length from by omega); replace q7 := eq_true q7; have hcv8 := Kd.C_string (P := Tryd.prog) (A := Ao6) (c := co6) Tryd.underlying22 Tryd.underlying5 Tryd.underlying9 (by repeat (first | (with_reducible exact HR279.out) | (with_reducible refine Kd.C_alloc ?_ _) | (with_reducible refine Kd.C_drewN ?_ _) | (with_reducible refine Kd.C_drew ?_) | exact HR279.out)); have hcd8 := fun n_ : Nat => Kd.C_string (P := Tryd.prog) (A := Ao6) (c := co6) Tryd.underlying22 Tryd.underlying5 Tryd.underlying9 (Kd.C_drewN (by repeat (first | (with_reducible exact HR279.out) | (with_reducible refine Kd.C_alloc ?_ _) | (with_reducible refine Kd.C_drewN ?_ _) | (with_reducible refine Kd.C_drew ?_) | exact HR279.out)) n_)))
        go_ret
        exact ⟨by first | rfl | (simp [errW_none, errW_some] <;> rfl) | (simp [*, errW_none, errW_some] <;> rfl), by repeat (first | (with_reducible first | exact HB.out | apply below_alloc | apply pw_below_drewN | apply below_drew1) | exact HB.out | exact below_undrew HB.out)⟩
      · rw [if_neg c3] at H
        exact absurd H (by simp)
    · rw [if_neg c2] at H
      have c2b0 : ((t271.length : Int) == 7) = false := beq_eq_false_iff_ne.mpr c2
      have c2b1 : ((t271.length : Int) != 7) = true := bne_iff_ne.mpr c2
      obtain rfl := Option.some.inj H
      go_enter Tryd.func20, Tryd.ntmps20
      go_wp2_with (first | ((with_reducible refine gate_dst (N := 5) rfl ?_); (try (refine gate_guard (by rfl) ?_; dsimp only)); refine Kd.C_convert _ 5 rfl (N := 5) rfl 22 (.tmp 4) rfl 1 rfl Tryd.underlying22 Tryd.underlying5 ([97] : List Int) _ (by rfl) rfl (by omega) (Below.refl _ _) (Nat.le_refl _) ?_; intro A270 c270 w9 hcc_ hcl_ hb; rw [← Ny267.out] at hcc_ hcl_; rw [← Ny267.out]; have n0_ := Aside0.mk (below_step (by repeat (first | (with_reducible first | exact HB.out | apply below_alloc | apply pw_below_drewN | apply below_drew1) | exact HB.out | exact below_undrew HB.out)) hb); clear HB; have HB := n0_; clear n0_; have HR270 := Aside0.mk hcc_; have HC270 := Aside0.mk hcl_; clear hcc_ hcl_ hb) | ((with_reducible refine gate_callee (f := 15) rfl ?_); refine goesL_ (some 6) rfl rfl Tryd.func15 (by kernel_rfl) rfl #[.int .u64 1, .slice A270 y267.length c270] rfl (by (try simp only [List.map_toArray, List.map_cons, List.map_nil]); first | done | rfl | (simp only [List.length_drop, List.length_take]; rfl)) ?_; (with_reducible refine (record_Frame.calls k 1 _ _ y267 t271 none _ ?side1 ?side2 A1.out).mono ?_); (case side1 => repeat (first | exact (by repeat (first | (with_reducible exact HR270.out) | (with_reducible refine Kd.C_alloc ?_ _) | (with_reducible refine Kd.C_drewN ?_ _) | (with_reducible refine Kd.C_drew ?_) | exact HR270.out)) | (with_reducible refine Kd.C_alloc ?_ _) | (with_reducible refine Kd.C_drewN ?_ _) | (with_reducible refine Kd.C_drew ?_))); (case side2 => exact HC270.out); rintro e w10 ⟨v273, rfl, ho0, hb⟩; refine ⟨_, rfl, ?_⟩; have n0_ := Aside0.mk (Kd.R_lower ho0 (below_size (by repeat (first | (with_reducible first | exact HB.out | apply below_alloc | apply pw_below_drewN | apply below_drew1) | exact HB.out | exact below_undrew HB.out)))); have n1_ := Aside0.mk (Kd.C_below (by repeat (first | (with_reducible exact HR270.out) | (with_reducible refine Kd.C_alloc ?_ _) | (with_reducible refine Kd.C_drewN ?_ _) | (with_reducible refine Kd.C_drew ?_) | exact HR270.out)) hb); have n2_ := Aside0.mk (below_step (by repeat (first | (with_reducible first | exact HB.out | apply below_alloc | apply pw_below_drewN | apply below_drew1) | exact HB.out | exact below_undrew HB.out)) hb); clear HR270; clear HB; have HO274 := n0_; have HR270 := n1_; have HB := n2_; clear n0_ n1_ n2_; (try clear hb); (try clear hb2); (try clear hk); (try clear hi); (try clear ho0); (try simp only [errW_none, errW_some]); obtain ⟨Ao11, co11, eo11⟩ := Kd.R_slice HO274.out; subst eo11))
      go_ret
      exact ⟨by first | rfl | (simp [errW_none, errW_some] <;> rfl) | (simp [*, errW_none, errW_some] <;> rfl), by repeat (first | (with_reducible first | exact HB.out | apply below_alloc | apply pw_below_drewN | apply below_drew1) | exact HB.out | exact below_undrew HB.out)⟩
  · have H1 : (some false) = some r := by rw [if_neg (show ¬ (some q275).isNone = true by simp)] at H; exact H
    clear H
    have H := H1
    clear H1
    try simp only [errW_none, errW_some]
    obtain rfl := Option.some.inj H
    go_enter Tryd.func20, Tryd.ntmps20
    go_wp2_with (first | ((with_reducible refine gate_dst (N := 5) rfl ?_); (try (refine gate_guard (by rfl) ?_; dsimp only)); refine Kd.C_convert _ 5 rfl (N := 5) rfl 22 (.tmp 4) rfl 1 rfl Tryd.underlying22 Tryd.underlying5 ([97] : List Int) _ (by rfl) rfl (by omega) (Below.refl _ _) (Nat.le_refl _) ?_; intro A270 c270 w12 hcc_ hcl_ hb; rw [← Ny267.out] at hcc_ hcl_; rw [← Ny267.out]; have n0_ := Aside0.mk (below_step (by repeat (first | (with_reducible first | exact HB.out | apply below_alloc | apply pw_below_drewN | apply below_drew1) | exact HB.out | exact below_undrew HB.out)) hb); clear HB; have HB := n0_; clear n0_; have HR270 := Aside0.mk hcc_; have HC270 := Aside0.mk hcl_; clear hcc_ hcl_ hb) | ((with_reducible refine gate_callee (f := 15) rfl ?_); refine goesL_ (some 6) rfl rfl Tryd.func15 (by kernel_rfl) rfl #[.int .u64 1, .slice A270 y267.length c270] rfl (by (try simp only [List.map_toArray, List.map_cons, List.map_nil]); first | done | rfl | (simp only [List.length_drop, List.length_take]; rfl)) ?_; (with_reducible refine (record_Frame.calls k 1 _ _ y267 t271 (some q275) _ ?side1 ?side2 A1.out).mono ?_); (case side1 => repeat (first | exact (by repeat (first | (with_reducible exact HR270.out) | (with_reducible refine Kd.C_alloc ?_ _) | (with_reducible refine Kd.C_drewN ?_ _) | (with_reducible refine Kd.C_drew ?_) | exact HR270.out)) | (with_reducible refine Kd.C_alloc ?_ _) | (with_reducible refine Kd.C_drewN ?_ _) | (with_reducible refine Kd.C_drew ?_))); (case side2 => exact HC270.out); rintro e w13 ⟨v273, rfl, ho0, hb⟩; refine ⟨_, rfl, ?_⟩; have n0_ := Aside0.mk (Kd.R_lower ho0 (below_size (by repeat (first | (with_reducible first | exact HB.out | apply below_alloc | apply pw_below_drewN | apply below_drew1) | exact HB.out | exact below_undrew HB.out)))); have n1_ := Aside0.mk (Kd.C_below (by repeat (first | (with_reducible exact HR270.out) | (with_reducible refine Kd.C_alloc ?_ _) | (with_reducible refine Kd.C_drewN ?_ _) | (with_reducible refine Kd.C_drew ?_) | exact HR270.out)) hb); have n2_ := Aside0.mk (below_step (by repeat (first | (with_reducible first | exact HB.out | apply below_alloc | apply pw_below_drewN | apply below_drew1) | exact HB.out | exact below_undrew HB.out)) hb); clear HR270; clear HB; have HO274 := n0_; have HR270 := n1_; have HB := n2_; clear n0_ n1_ n2_; (try clear hb); (try clear hb2); (try clear hk); (try clear hi); (try clear ho0); (try simp only [errW_none, errW_some])))
    go_ret
    exact ⟨by first | rfl | (simp [errW_none, errW_some] <;> rfl) | (simp [*, errW_none, errW_some] <;> rfl), by repeat (first | (with_reducible first | exact HB.out | apply below_alloc | apply pw_below_drewN | apply below_drew1) | exact HB.out | exact below_undrew HB.out)⟩

end Go.Proofs.YtindggjkcnelcaaDoor.XAll
