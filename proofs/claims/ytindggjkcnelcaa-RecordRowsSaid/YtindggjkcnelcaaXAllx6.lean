/- Printed by this session's program (wip/print) out of the translation, for the statement named in the file's name. -/
import Derived.Test.YtindggjkcnelcaaXAllx0
import Derived.Test.YtindggjkcnelcaaXAllx3
import Derived.Test.YtindggjkcnelcaaXAllx4
import Derived.Test.YtindggjkcnelcaaXAllx5
namespace Go.Proofs.Ytindggjkcnelcaa.XAll
open Go.RowKit Go.Proofs.YtindggjkcnelcaaW.PrintWords Go.Proofs.YtindggjkcnelcaaW.PrintLast Go.Proofs.YtindggjkcnelcaaW.PrintMore
attribute [local go_sem] str_gtr str_leq str_geq max2_int min2_int max_two min_two max_three min_three max_four min_four   -- for this text's walks alone
set_option linter.unusedVariables false
set_option linter.unusedSimpArgs false

/-! ### record_One: function 40 -/
def record_One.j0 : Nat → Int → List Int → Bool → Option (List Int × Int × Option Int)
  | 0, _, _, _ => none
  | k + 1, x0, x1, x24 => if x24 = true then (some (([] : List Int), 0, some 8)) else ((pack_Uint.f k x1).bind fun bt163 => (if bt163.2.2.isNone = true then (if bt163.1 > 1048576 then (some (([] : List Int), 0, some 11)) else (if 0 ≤ bt163.2.1 then (if bt163.2.1 ≤ (x1.length : Int) then ((pack_Uint.f k (x1.drop (bt163.2.1 : Int).toNat)).bind fun bt169 => (if bt169.2.2.isNone = true then (if (wrap64 ((wrap64 ((wrap64 (bt163.2.1 + bt169.2.1)) + (wrap64 (bt163.1)))) + 4)) > (x1.length : Int) then (some (([] : List Int), 0, some 12)) else (if 0 ≤ (wrap64 ((wrap64 ((wrap64 (bt163.2.1 + bt169.2.1)) + (wrap64 (bt163.1)))) + 4)) then (if (wrap64 ((wrap64 ((wrap64 (bt163.2.1 + bt169.2.1)) + (wrap64 (bt163.1)))) + 4)) ≤ (x1.length : Int) then ((crc_Open.f (x1.take ((wrap64 ((wrap64 ((wrap64 (bt163.2.1 + bt169.2.1)) + (wrap64 (bt163.1)))) + 4)) : Int).toNat)).bind fun bt174 => (if bt174.2.isNone = true then (if bt169.1 = x0 then (if 0 ≤ (wrap64 (bt163.2.1 + bt169.2.1)) then (if (wrap64 (bt163.2.1 + bt169.2.1)) ≤ (wrap64 ((wrap64 ((wrap64 ((wrap64 (bt163.2.1 + bt169.2.1)) + (wrap64 (bt163.1)))) + 4)) - 4)) then (if (wrap64 ((wrap64 ((wrap64 ((wrap64 (bt163.2.1 + bt169.2.1)) + (wrap64 (bt163.1)))) + 4)) - 4)) ≤ (x1.length : Int) then ((bytes_Clone.f ((x1.take ((wrap64 ((wrap64 ((wrap64 ((wrap64 (bt163.2.1 + bt169.2.1)) + (wrap64 (bt163.1)))) + 4)) - 4)) : Int).toNat).drop ((wrap64 (bt163.2.1 + bt169.2.1)) : Int).toNat)).bind fun t180 => (some (t180, wrap64 ((wrap64 ((wrap64 (bt163.2.1 + bt169.2.1)) + (wrap64 (bt163.1)))) + 4), none))) else (none)) else (none)) else (none)) else (some (([] : List Int), 0, some 11))) else (some (([] : List Int), 0, some 11)))) else (none)) else (none))) else ((record_torn.f (some (bt169.2.2.getD 0))).bind fun t183 => (some (([] : List Int), 0, t183))))) else (none)) else (none))) else ((record_torn.f (some (bt163.2.2.getD 0))).bind fun t167 => (some (([] : List Int), 0, t167)))))
def record_One.f (k : Nat) (a0 : Int) (l1 : List Int) : Option (List Int × Int × Option Int) := if (l1.length : Int) = 0 then (record_One.j0 k a0 l1 true) else (if 0 < (l1.length : Int) then (record_One.j0 k a0 l1 ((rd l1 0) == 0)) else (none))
theorem record_One.mono_l : ∀ k, (∀ y0 y1 y2, LeO (record_One.j0 k y0 y1 y2) (record_One.j0 (k + 1) y0 y1 y2))
  | 0 => fun _ _ _ r h => by simp [record_One.j0] at h
  | k + 1 => by
    have ih0 := record_One.mono_l k
    · intro y0 y1 y2
      unfold record_One.j0
      repeat' first
      | (with_reducible exact ih0 _ _ _)
      | (with_reducible exact pack_Uint.mono _ _)
      | (with_reducible exact LeO.refl _)
      | (with_reducible exact LeO.none _)
      | (with_reducible refine LeO.ite ?_ ?_)
      | (with_reducible refine LeO.bind ?_ (fun _ => ?_))
      | exact ih0 _ _ _
      | exact pack_Uint.mono _ _
      | exact LeO.none _
      | refine LeO.ite ?_ ?_
      | refine LeO.bind ?_ (fun _ => ?_)
theorem record_One.mono : ∀ a0 a1 k, LeO (record_One.f k a0 a1) (record_One.f (k + 1) a0 a1) := by
  intro a0 a1 k
  have ih0 := record_One.mono_l k
  unfold record_One.f
  repeat' first
      | (with_reducible exact ih0 _ _ _)
      | (with_reducible exact pack_Uint.mono _ _)
      | (with_reducible exact LeO.refl _)
      | (with_reducible exact LeO.none _)
      | (with_reducible refine LeO.ite ?_ ?_)
      | (with_reducible refine LeO.bind ?_ (fun _ => ?_))
      | exact ih0 _ _ _
      | exact pack_Uint.mono _ _
      | exact LeO.none _
      | refine LeO.ite ?_ ?_
      | refine LeO.bind ?_ (fun _ => ?_)
set_option maxHeartbeats 8000000 in
set_option maxRecDepth 100000 in
theorem record_One.calls (k : Nat) (a0 : Int) (A1 : Option Addr) (c1 : Nat) (l1 : List Int) (r1 : List Int) (r2 : Int) (r3 : Option Int) (w : World) (hr1 : Kd.C (Kd.int .u8) w A1 l1.length l1) (hc1 : l1.length ≤ c1) (h : record_One.f k a0 l1 = some (r1, r2, r3)) :
    Calls Try.prog 40 #[.int .u64 a0, .slice A1 l1.length c1] w fun e w' => ∃ v0_ : Value, e = .returned (.tuple #[v0_, .int .i64 r2, errW r3]) ∧ Kd.R (Kd.int .u8) 5 w' w.heap.size (fun _ => True) v0_ r1 ∧ Below w.heap.size w w' := by
  have hu44 := Try.underlying44
  have hu63 := Try.underlying63
  have HR1 := Aside0.mk hr1
  have HC1 := Aside0.mk hc1
  clear hr1 hc1
  have HB := Aside0.mk (Below.refl w.heap.size w)
  have H : (if (l1.length : Int) = 0 then (record_One.j0 k a0 l1 true) else (if 0 < (l1.length : Int) then (record_One.j0 k a0 l1 ((rd l1 0) == 0)) else (none))) = some (r1, r2, r3) := h
  clear h
  have HC3 := Aside0.mk H
  clear H
  go_enter Try.func40, Try.ntmps40
  go_upto_region 1 with (fail)
  go_cut [24] (fun v24 wc => ∃ (kq : Nat) (x24_2 : Bool), v24 = .bool x24_2 ∧ Aside0 (record_One.j0 kq a0 l1 x24_2 = some (r1, r2, r3)) ∧ Aside0 (kq ≤ k) ∧ Aside0 (Below w.heap.size w wc))
  case first =>
    have H := HC3.out
    clear HC3
    by_cases c4 : (l1.length : Int) = 0
    · rw [if_pos c4] at H
      have c4b0 : ((l1.length : Int) == 0) = true := beq_iff_eq.mpr c4
      have c4b1 : ((l1.length : Int) != 0) = false := bne_eq_false_iff_eq.mpr c4
      clear c4
      (first | rw [c4b0] | (simp only [i64_w, i32_w]; rw [c4b0]) | skip)
      have H' := Aside0.mk H
      clear H
      go_wp2
      go_meet
      case rel => exact ⟨_, (true), (by first | rfl | (simp; done) | (simp [*]; done)), H', ⟨by first | omega | exact Nat.le_refl _⟩, ⟨by repeat (first | (with_reducible first | exact HB.out | apply below_alloc | apply pw_below_drewN | apply below_drew1) | exact HB.out | exact below_undrew HB.out)⟩⟩
    · rw [if_neg c4] at H
      have c4b0 : ((l1.length : Int) == 0) = false := beq_eq_false_iff_ne.mpr c4
      have c4b1 : ((l1.length : Int) != 0) = true := bne_iff_ne.mpr c4
      have c4b2 : ¬ (l1 = []) := fun h_ => c4 (by rw [h_]; rfl)
      (first | rw [c4b0] | (simp only [i64_w, i32_w]; rw [c4b0]) | skip)
      by_cases c5 : 0 < (l1.length : Int)
      · rw [if_pos c5] at H
        have c5b0 : decide (0 < (l1.length : Int)) = true := decide_eq_true c5
        have c5b1 : decide (0 < l1.length) = true := decide_eq_true (by omega)
        clear c5
        have H' := Aside0.mk H
        clear H
        have p162 : 0 ≤ (0 : Int) := (by omega)
        have q162 : 0 < (l1.length : Int) := of_decide_eq_true (by first | (with_reducible assumption) | assumption)
        obtain ⟨ad162, e162, hx162_0⟩ := Kd.at_int HR1.out 0 p162 q162
        cases e162
        have qi162 : (0 < l1.length) = True := eq_true (by omega)
        (try rw [show ((0 : Int)).toNat = 0 from rfl] at hx162_0)
        (try rw [Addr.add_zero'] at hx162_0)
        replace hx162_0 := (HB.out.cell (World.block_lt_of_cell? w _ hx162_0)).trans hx162_0
        replace p162 := eq_true p162
        replace q162 := eq_true q162
        go_wp2
        go_meet
        case rel => exact ⟨_, (((rd l1 0) == 0)), (by first | rfl | (simp; done) | (simp [*]; done)), H', ⟨by first | omega | exact Nat.le_refl _⟩, ⟨by repeat (first | (with_reducible first | exact HB.out | apply below_alloc | apply pw_below_drewN | apply below_drew1) | exact HB.out | exact below_undrew HB.out)⟩⟩
      · rw [if_neg c5] at H
        exact absurd H (by simp)
  case rest =>
    clear HC3
    try clear c1
    try clear p1
    try clear q1
    try clear hx1
    try clear qi1
    try clear p2
    try clear c4
    try clear c4b0
    try clear c4b1
    try clear c4b2
    try clear c5
    try clear c5b0
    try clear c5b1
    try clear hx162_0
    try clear p162
    try clear q162
    obtain ⟨kq, x24_2, rfl, HA, HJ2, HB⟩ := hcut
    cases kq with
    | zero => exact absurd HA.out (by simp [record_One.j0])
    | succ kj2 =>
      have H := HA.out
      clear HA
      simp only [record_One.j0] at H
      by_cases c6 : x24_2 = true
      · subst c6
        have H1 : (some (([] : List Int), 0, some 8)) = some (r1, r2, r3) := by rw [if_pos rfl] at H; exact H
        clear H
        have H := H1
        clear H1
        simp only [Option.some.injEq, Prod.mk.injEq] at H
        obtain ⟨rfl, rfl, rfl⟩ := H
        go_wp2
        go_ret3
        exact ⟨_, by first | rfl | (simp [errW_none, errW_some] <;> rfl) | (simp [*, errW_none, errW_some] <;> rfl), by first | exact Kd.R_nil _ _ _ _ _ | exact Kd.N_nil _ _ _ _ _ | exact Kd.V_nil _ _ _ _ _ | exact Kd.Q_nil _ _ _ _ _ | exact Kd.S_nil _ _ _ _ _, by repeat (first | (with_reducible first | exact HB.out | apply below_alloc | apply pw_below_drewN | apply below_drew1) | exact HB.out | exact below_undrew HB.out)⟩
      · replace c6 := Bool.eq_false_iff.mpr c6
        subst c6
        have H1 : ((pack_Uint.f kj2 l1).bind fun bt163 => (if bt163.2.2.isNone = true then (if bt163.1 > 1048576 then (some (([] : List Int), 0, some 11)) else (if 0 ≤ bt163.2.1 then (if bt163.2.1 ≤ (l1.length : Int) then ((pack_Uint.f kj2 (l1.drop (bt163.2.1 : Int).toNat)).bind fun bt169 => (if bt169.2.2.isNone = true then (if (wrap64 ((wrap64 ((wrap64 (bt163.2.1 + bt169.2.1)) + (wrap64 (bt163.1)))) + 4)) > (l1.length : Int) then (some (([] : List Int), 0, some 12)) else (if 0 ≤ (wrap64 ((wrap64 ((wrap64 (bt163.2.1 + bt169.2.1)) + (wrap64 (bt163.1)))) + 4)) then (if (wrap64 ((wrap64 ((wrap64 (bt163.2.1 + bt169.2.1)) + (wrap64 (bt163.1)))) + 4)) ≤ (l1.length : Int) then ((crc_Open.f (l1.take ((wrap64 ((wrap64 ((wrap64 (bt163.2.1 + bt169.2.1)) + (wrap64 (bt163.1)))) + 4)) : Int).toNat)).bind fun bt174 => (if bt174.2.isNone = true then (if bt169.1 = a0 then (if 0 ≤ (wrap64 (bt163.2.1 + bt169.2.1)) then (if (wrap64 (bt163.2.1 + bt169.2.1)) ≤ (wrap64 ((wrap64 ((wrap64 ((wrap64 (bt163.2.1 + bt169.2.1)) + (wrap64 (bt163.1)))) + 4)) - 4)) then (if (wrap64 ((wrap64 ((wrap64 ((wrap64 (bt163.2.1 + bt169.2.1)) + (wrap64 (bt163.1)))) + 4)) - 4)) ≤ (l1.length : Int) then ((bytes_Clone.f ((l1.take ((wrap64 ((wrap64 ((wrap64 ((wrap64 (bt163.2.1 + bt169.2.1)) + (wrap64 (bt163.1)))) + 4)) - 4)) : Int).toNat).drop ((wrap64 (bt163.2.1 + bt169.2.1)) : Int).toNat)).bind fun t180 => (some (t180, wrap64 ((wrap64 ((wrap64 (bt163.2.1 + bt169.2.1)) + (wrap64 (bt163.1)))) + 4), none))) else (none)) else (none)) else (none)) else (some (([] : List Int), 0, some 11))) else (some (([] : List Int), 0, some 11)))) else (none)) else (none))) else ((record_torn.f (some (bt169.2.2.getD 0))).bind fun t183 => (some (([] : List Int), 0, t183))))) else (none)) else (none))) else ((record_torn.f (some (bt163.2.2.getD 0))).bind fun t167 => (some (([] : List Int), 0, t167))))) = some (r1, r2, r3) := by rw [if_neg (show ¬ (false = true) by decide)] at H; exact H
        clear H
        have H := H1
        clear H1
        replace H := Option.bind_eq_some_iff.mp H
        obtain ⟨⟨t163, t164, t165⟩, A70, H⟩ := H
        replace H : (if t165.isNone = true then (if t163 > 1048576 then (some (([] : List Int), 0, some 11)) else (if 0 ≤ t164 then (if t164 ≤ (l1.length : Int) then ((pack_Uint.f kj2 (l1.drop (t164 : Int).toNat)).bind fun bt169 => (if bt169.2.2.isNone = true then (if (wrap64 ((wrap64 ((wrap64 (t164 + bt169.2.1)) + (wrap64 (t163)))) + 4)) > (l1.length : Int) then (some (([] : List Int), 0, some 12)) else (if 0 ≤ (wrap64 ((wrap64 ((wrap64 (t164 + bt169.2.1)) + (wrap64 (t163)))) + 4)) then (if (wrap64 ((wrap64 ((wrap64 (t164 + bt169.2.1)) + (wrap64 (t163)))) + 4)) ≤ (l1.length : Int) then ((crc_Open.f (l1.take ((wrap64 ((wrap64 ((wrap64 (t164 + bt169.2.1)) + (wrap64 (t163)))) + 4)) : Int).toNat)).bind fun bt174 => (if bt174.2.isNone = true then (if bt169.1 = a0 then (if 0 ≤ (wrap64 (t164 + bt169.2.1)) then (if (wrap64 (t164 + bt169.2.1)) ≤ (wrap64 ((wrap64 ((wrap64 ((wrap64 (t164 + bt169.2.1)) + (wrap64 (t163)))) + 4)) - 4)) then (if (wrap64 ((wrap64 ((wrap64 ((wrap64 (t164 + bt169.2.1)) + (wrap64 (t163)))) + 4)) - 4)) ≤ (l1.length : Int) then ((bytes_Clone.f ((l1.take ((wrap64 ((wrap64 ((wrap64 ((wrap64 (t164 + bt169.2.1)) + (wrap64 (t163)))) + 4)) - 4)) : Int).toNat).drop ((wrap64 (t164 + bt169.2.1)) : Int).toNat)).bind fun t180 => (some (t180, wrap64 ((wrap64 ((wrap64 (t164 + bt169.2.1)) + (wrap64 (t163)))) + 4), none))) else (none)) else (none)) else (none)) else (some (([] : List Int), 0, some 11))) else (some (([] : List Int), 0, some 11)))) else (none)) else (none))) else ((record_torn.f (some (bt169.2.2.getD 0))).bind fun t183 => (some (([] : List Int), 0, t183))))) else (none)) else (none))) else ((record_torn.f (some (t165.getD 0))).bind fun t167 => (some (([] : List Int), 0, t167)))) = some (r1, r2, r3) := H
        have A7 := Aside0.mk A70
        clear A70
        rcases t165 with _ | q166
        · have H1 : (if t163 > 1048576 then (some (([] : List Int), 0, some 11)) else (if 0 ≤ t164 then (if t164 ≤ (l1.length : Int) then ((pack_Uint.f kj2 (l1.drop (t164 : Int).toNat)).bind fun bt169 => (if bt169.2.2.isNone = true then (if (wrap64 ((wrap64 ((wrap64 (t164 + bt169.2.1)) + (wrap64 (t163)))) + 4)) > (l1.length : Int) then (some (([] : List Int), 0, some 12)) else (if 0 ≤ (wrap64 ((wrap64 ((wrap64 (t164 + bt169.2.1)) + (wrap64 (t163)))) + 4)) then (if (wrap64 ((wrap64 ((wrap64 (t164 + bt169.2.1)) + (wrap64 (t163)))) + 4)) ≤ (l1.length : Int) then ((crc_Open.f (l1.take ((wrap64 ((wrap64 ((wrap64 (t164 + bt169.2.1)) + (wrap64 (t163)))) + 4)) : Int).toNat)).bind fun bt174 => (if bt174.2.isNone = true then (if bt169.1 = a0 then (if 0 ≤ (wrap64 (t164 + bt169.2.1)) then (if (wrap64 (t164 + bt169.2.1)) ≤ (wrap64 ((wrap64 ((wrap64 ((wrap64 (t164 + bt169.2.1)) + (wrap64 (t163)))) + 4)) - 4)) then (if (wrap64 ((wrap64 ((wrap64 ((wrap64 (t164 + bt169.2.1)) + (wrap64 (t163)))) + 4)) - 4)) ≤ (l1.length : Int) then ((bytes_Clone.f ((l1.take ((wrap64 ((wrap64 ((wrap64 ((wrap64 (t164 + bt169.2.1)) + (wrap64 (t163)))) + 4)) - 4)) : Int).toNat).drop ((wrap64 (t164 + bt169.2.1)) : Int).toNat)).bind fun t180 => (some (t180, wrap64 ((wrap64 ((wrap64 (t164 + bt169.2.1)) + (wrap64 (t163)))) + 4), none))) else (none)) else (none)) else (none)) else (some (([] : List Int), 0, some 11))) else (some (([] : List Int), 0, some 11)))) else (none)) else (none))) else ((record_torn.f (some (bt169.2.2.getD 0))).bind fun t183 => (some (([] : List Int), 0, t183))))) else (none)) else (none))) = some (r1, r2, r3) := by rw [if_pos (show (none : Option Int).isNone = true by rfl)] at H; exact H
          clear H
          have H := H1
          clear H1
          try simp only [errW_none, errW_some]
          by_cases c8 : t163 > 1048576
          · rw [if_pos c8] at H
            have c8b0 : decide (1048576 < t163) = true := decide_eq_true c8
            clear c8
            simp only [Option.some.injEq, Prod.mk.injEq] at H
            obtain ⟨rfl, rfl, rfl⟩ := H
            go_wp2_with (first | ((with_reducible refine gate_callee (f := 30) rfl ?_); refine goesL_ (some 28) rfl rfl Try.func30 (by kernel_rfl) rfl #[.slice A1 l1.length c1] rfl (by (try simp only [List.map_toArray, List.map_cons, List.map_nil]); first | done | rfl | (simp only [List.length_drop, List.length_take]; rfl)) ?_; (with_reducible refine (pack_Uint.calls kj2 _ _ l1 t163 t164 none _ ?side1 ?side2 A7.out).mono ?_); (case side1 => repeat (first | exact (Kd.C_below HR1.out HB.out) | (with_reducible refine Kd.C_alloc ?_ _) | (with_reducible refine Kd.C_drewN ?_ _) | (with_reducible refine Kd.C_drew ?_))); (case side2 => exact HC1.out); rintro e w' ⟨rfl, ⟨nd, rfl⟩⟩; refine ⟨_, rfl, ?_⟩; (try simp only [errW_none, errW_some])))
            go_ret3
            exact ⟨_, by first | rfl | (simp [errW_none, errW_some] <;> rfl) | (simp [*, errW_none, errW_some] <;> rfl), by first | exact Kd.R_nil _ _ _ _ _ | exact Kd.N_nil _ _ _ _ _ | exact Kd.V_nil _ _ _ _ _ | exact Kd.Q_nil _ _ _ _ _ | exact Kd.S_nil _ _ _ _ _, by repeat (first | (with_reducible first | exact HB.out | apply below_alloc | apply pw_below_drewN | apply below_drew1) | exact HB.out | exact below_undrew HB.out)⟩
          · rw [if_neg c8] at H
            have c8b0 : decide (1048576 < t163) = false := decide_eq_false c8
            clear c8
            by_cases c9 : 0 ≤ t164
            · rw [if_pos c9] at H
              have c9b0 := eq_true c9
              have c9b1 : decide (0 ≤ t164) = true := decide_eq_true c9
              clear c9
              by_cases c10 : t164 ≤ (l1.length : Int)
              · rw [if_pos c10] at H
                have c10b0 := eq_true c10
                have c10b1 : decide (t164 ≤ (l1.length : Int)) = true := decide_eq_true c10
                clear c10
                replace H := Option.bind_eq_some_iff.mp H
                obtain ⟨⟨t169, t170, t171⟩, A110, H⟩ := H
                replace H : (if t171.isNone = true then (if (wrap64 ((wrap64 ((wrap64 (t164 + t170)) + (wrap64 (t163)))) + 4)) > (l1.length : Int) then (some (([] : List Int), 0, some 12)) else (if 0 ≤ (wrap64 ((wrap64 ((wrap64 (t164 + t170)) + (wrap64 (t163)))) + 4)) then (if (wrap64 ((wrap64 ((wrap64 (t164 + t170)) + (wrap64 (t163)))) + 4)) ≤ (l1.length : Int) then ((crc_Open.f (l1.take ((wrap64 ((wrap64 ((wrap64 (t164 + t170)) + (wrap64 (t163)))) + 4)) : Int).toNat)).bind fun bt174 => (if bt174.2.isNone = true then (if t169 = a0 then (if 0 ≤ (wrap64 (t164 + t170)) then (if (wrap64 (t164 + t170)) ≤ (wrap64 ((wrap64 ((wrap64 ((wrap64 (t164 + t170)) + (wrap64 (t163)))) + 4)) - 4)) then (if (wrap64 ((wrap64 ((wrap64 ((wrap64 (t164 + t170)) + (wrap64 (t163)))) + 4)) - 4)) ≤ (l1.length : Int) then ((bytes_Clone.f ((l1.take ((wrap64 ((wrap64 ((wrap64 ((wrap64 (t164 + t170)) + (wrap64 (t163)))) + 4)) - 4)) : Int).toNat).drop ((wrap64 (t164 + t170)) : Int).toNat)).bind fun t180 => (some (t180, wrap64 ((wrap64 ((wrap64 (t164 + t170)) + (wrap64 (t163)))) + 4), none))) else (none)) else (none)) else (none)) else (some (([] : List Int), 0, some 11))) else (some (([] : List Int), 0, some 11)))) else (none)) else (none))) else ((record_torn.f (some (t171.getD 0))).bind fun t183 => (some (([] : List Int), 0, t183)))) = some (r1, r2, r3) := H
                have A11 := Aside0.mk A110
                clear A110
                rcases t171 with _ | q172
                · have H1 : (if (wrap64 ((wrap64 ((wrap64 (t164 + t170)) + (wrap64 (t163)))) + 4)) > (l1.length : Int) then (some (([] : List Int), 0, some 12)) else (if 0 ≤ (wrap64 ((wrap64 ((wrap64 (t164 + t170)) + (wrap64 (t163)))) + 4)) then (if (wrap64 ((wrap64 ((wrap64 (t164 + t170)) + (wrap64 (t163)))) + 4)) ≤ (l1.length : Int) then ((crc_Open.f (l1.take ((wrap64 ((wrap64 ((wrap64 (t164 + t170)) + (wrap64 (t163)))) + 4)) : Int).toNat)).bind fun bt174 => (if bt174.2.isNone = true then (if t169 = a0 then (if 0 ≤ (wrap64 (t164 + t170)) then (if (wrap64 (t164 + t170)) ≤ (wrap64 ((wrap64 ((wrap64 ((wrap64 (t164 + t170)) + (wrap64 (t163)))) + 4)) - 4)) then (if (wrap64 ((wrap64 ((wrap64 ((wrap64 (t164 + t170)) + (wrap64 (t163)))) + 4)) - 4)) ≤ (l1.length : Int) then ((bytes_Clone.f ((l1.take ((wrap64 ((wrap64 ((wrap64 ((wrap64 (t164 + t170)) + (wrap64 (t163)))) + 4)) - 4)) : Int).toNat).drop ((wrap64 (t164 + t170)) : Int).toNat)).bind fun t180 => (some (t180, wrap64 ((wrap64 ((wrap64 (t164 + t170)) + (wrap64 (t163)))) + 4), none))) else (none)) else (none)) else (none)) else (some (([] : List Int), 0, some 11))) else (some (([] : List Int), 0, some 11)))) else (none)) else (none))) = some (r1, r2, r3) := by rw [if_pos (show (none : Option Int).isNone = true by rfl)] at H; exact H
                  clear H
                  have H := H1
                  clear H1
                  try simp only [errW_none, errW_some]
                  by_cases c12 : (wrap64 ((wrap64 ((wrap64 (t164 + t170)) + (wrap64 (t163)))) + 4)) > (l1.length : Int)
                  · rw [if_pos c12] at H
                    have c12b0 : decide ((l1.length : Int) < (wrap64 ((wrap64 ((wrap64 (t164 + t170)) + (wrap64 (t163)))) + 4))) = true := decide_eq_true c12
                    clear c12
                    simp only [Option.some.injEq, Prod.mk.injEq] at H
                    obtain ⟨rfl, rfl, rfl⟩ := H
                    go_wp2_with (first | ((with_reducible refine gate_callee (f := 30) rfl ?_); refine goesL_ (some 28) rfl rfl Try.func30 (by kernel_rfl) rfl #[.slice A1 l1.length c1] rfl (by (try simp only [List.map_toArray, List.map_cons, List.map_nil]); first | done | rfl | (simp only [List.length_drop, List.length_take]; rfl)) ?_; (with_reducible refine (pack_Uint.calls kj2 _ _ l1 t163 t164 none _ ?side1 ?side2 A7.out).mono ?_); (case side1 => repeat (first | exact (Kd.C_below HR1.out HB.out) | (with_reducible refine Kd.C_alloc ?_ _) | (with_reducible refine Kd.C_drewN ?_ _) | (with_reducible refine Kd.C_drew ?_))); (case side2 => exact HC1.out); rintro e w' ⟨rfl, ⟨nd, rfl⟩⟩; refine ⟨_, rfl, ?_⟩; (try simp only [errW_none, errW_some]); obtain ⟨i013, hi013, _, hsz13, _⟩ := info_parts info5; obtain ⟨A13, hcut13, hA13, hC13⟩ := print_drop_of (P := Try.prog) (Value.int .u8) 0 23 5 .i64 Try.underlying23 hi013 hsz13 A1 c1 l1 t164 (of_decide_eq_true (by first | (with_reducible assumption) | assumption)) (of_decide_eq_true (by first | (with_reducible assumption) | assumption)) HC1.out; have HR168 := Aside0.mk (Kd.C_of_reads (h1 := fun _ => rfl) (hA13 _ (Kd.reads_of_C HR1.out))); have HC168 := Aside0.mk hC13; clear hA13 hC13 hi013 hsz13) | ((with_reducible refine gate_callee (f := 30) rfl ?_); refine goesL_ (some 45) rfl rfl Try.func30 (by kernel_rfl) rfl #[.slice A13 (l1.drop (t164 : Int).toNat).length (c1 - t164.toNat)] rfl (by (try simp only [List.map_toArray, List.map_cons, List.map_nil]); first | done | (rw [show (l1.drop (t164 : Int).toNat).length = (l1.length - t164.toNat) from List.length_drop] <;> rfl) | rfl | (simp only [List.length_drop, List.length_take]; rfl)) ?_; (with_reducible refine (pack_Uint.calls kj2 _ _ (l1.drop (t164 : Int).toNat) t169 t170 none _ ?side1 ?side2 A11.out).mono ?_); (case side1 => repeat (first | exact (Kd.C_below HR168.out (by repeat (first | (with_reducible first | exact HB.out | apply below_alloc | apply pw_below_drewN | apply below_drew1) | exact HB.out | exact below_undrew HB.out))) | (with_reducible refine Kd.C_alloc ?_ _) | (with_reducible refine Kd.C_drewN ?_ _) | (with_reducible refine Kd.C_drew ?_))); (case side2 => exact HC168.out); rintro e w' ⟨rfl, ⟨nd, rfl⟩⟩; refine ⟨_, rfl, ?_⟩; (try simp only [errW_none, errW_some])))
                    go_ret3
                    exact ⟨_, by first | rfl | (simp [errW_none, errW_some] <;> rfl) | (simp [*, errW_none, errW_some] <;> rfl), by first | exact Kd.R_nil _ _ _ _ _ | exact Kd.N_nil _ _ _ _ _ | exact Kd.V_nil _ _ _ _ _ | exact Kd.Q_nil _ _ _ _ _ | exact Kd.S_nil _ _ _ _ _, by repeat (first | (with_reducible first | exact HB.out | apply below_alloc | apply pw_below_drewN | apply below_drew1) | exact HB.out | exact below_undrew HB.out)⟩
                  · rw [if_neg c12] at H
                    have c12b0 : decide ((l1.length : Int) < (wrap64 ((wrap64 ((wrap64 (t164 + t170)) + (wrap64 (t163)))) + 4))) = false := decide_eq_false c12
                    clear c12
                    obtain ⟨ji14, hji14⟩ : ∃ j_ : Int, (wrap64 ((wrap64 ((wrap64 (t164 + t170)) + (wrap64 (t163)))) + 4)) = j_ := ⟨_, rfl⟩
                    replace H : (if 0 ≤ (ji14) then (if (ji14) ≤ (l1.length : Int) then ((crc_Open.f (l1.take ((ji14) : Int).toNat)).bind fun bt174 => (if bt174.2.isNone = true then (if t169 = a0 then (if 0 ≤ (wrap64 (t164 + t170)) then (if (wrap64 (t164 + t170)) ≤ (wrap64 ((ji14) - 4)) then (if (wrap64 ((ji14) - 4)) ≤ (l1.length : Int) then ((bytes_Clone.f ((l1.take ((wrap64 ((ji14) - 4)) : Int).toNat).drop ((wrap64 (t164 + t170)) : Int).toNat)).bind fun t180 => (some (t180, ji14, none))) else (none)) else (none)) else (none)) else (some (([] : List Int), 0, some 11))) else (some (([] : List Int), 0, some 11)))) else (none)) else (none)) = some (r1, r2, r3) := by first | (rw [hji14] at H; exact H) | (simp only [hji14] at H ⊢; exact H)
                    (try rw [hji14] at c12b0)
                    (try rw [hji14] at A7)
                    (try rw [hji14] at A11)
                    have hji14w : (IntKind.i64.wrap ((wrap64 ((wrap64 (t164 + t170)) + (wrap64 (t163)))) + 4)) = ji14 := (i64_w _).trans hji14
                    by_cases c15 : 0 ≤ (ji14)
                    · rw [if_pos c15] at H
                      have c15b0 := eq_true c15
                      have c15b1 : decide (0 ≤ (ji14)) = true := decide_eq_true c15
                      clear c15
                      by_cases c16 : (ji14) ≤ (l1.length : Int)
                      · rw [if_pos c16] at H
                        have c16b0 := eq_true c16
                        have c16b1 : decide ((ji14) ≤ (l1.length : Int)) = true := decide_eq_true c16
                        clear c16
                        replace H := Option.bind_eq_some_iff.mp H
                        obtain ⟨⟨t174, t175⟩, A170, H⟩ := H
                        replace H : (if t175.isNone = true then (if t169 = a0 then (if 0 ≤ (wrap64 (t164 + t170)) then (if (wrap64 (t164 + t170)) ≤ (wrap64 ((ji14) - 4)) then (if (wrap64 ((ji14) - 4)) ≤ (l1.length : Int) then ((bytes_Clone.f ((l1.take ((wrap64 ((ji14) - 4)) : Int).toNat).drop ((wrap64 (t164 + t170)) : Int).toNat)).bind fun t180 => (some (t180, ji14, none))) else (none)) else (none)) else (none)) else (some (([] : List Int), 0, some 11))) else (some (([] : List Int), 0, some 11))) = some (r1, r2, r3) := H
                        have A17 := Aside0.mk A170
                        clear A170
                        rcases t175 with _ | q178
                        · have H1 : (if t169 = a0 then (if 0 ≤ (wrap64 (t164 + t170)) then (if (wrap64 (t164 + t170)) ≤ (wrap64 ((ji14) - 4)) then (if (wrap64 ((ji14) - 4)) ≤ (l1.length : Int) then ((bytes_Clone.f ((l1.take ((wrap64 ((ji14) - 4)) : Int).toNat).drop ((wrap64 (t164 + t170)) : Int).toNat)).bind fun t180 => (some (t180, ji14, none))) else (none)) else (none)) else (none)) else (some (([] : List Int), 0, some 11))) = some (r1, r2, r3) := by rw [if_pos (show (none : Option Int).isNone = true by rfl)] at H; exact H
                          clear H
                          have H := H1
                          clear H1
                          try simp only [errW_none, errW_some]
                          by_cases c18 : t169 = a0
                          · rw [if_pos c18] at H
                            have c18b0 : (t169 == a0) = true := beq_iff_eq.mpr c18
                            have c18b1 : (t169 != a0) = false := bne_eq_false_iff_eq.mpr c18
                            clear c18
                            obtain ⟨ji19, hji19⟩ : ∃ j_ : Int, (wrap64 (t164 + t170)) = j_ := ⟨_, rfl⟩
                            replace H : (if 0 ≤ (ji19) then (if (ji19) ≤ (wrap64 ((ji14) - 4)) then (if (wrap64 ((ji14) - 4)) ≤ (l1.length : Int) then ((bytes_Clone.f ((l1.take ((wrap64 ((ji14) - 4)) : Int).toNat).drop ((ji19) : Int).toNat)).bind fun t180 => (some (t180, ji14, none))) else (none)) else (none)) else (none)) = some (r1, r2, r3) := by first | (rw [hji19] at H; exact H) | (simp only [hji19] at H ⊢; exact H)
                            (try (have hji14_ji19 := hji14; rw [hji19] at hji14_ji19))
                            (try (have hji14w_ji19 := hji14w; rw [hji19] at hji14w_ji19))
                            (try rw [hji19] at c12b0)
                            (try rw [hji19] at A7)
                            (try rw [hji19] at A11)
                            (try rw [hji19] at A17)
                            have hji19w : (IntKind.i64.wrap (t164 + t170)) = ji19 := (i64_w _).trans hji19
                            by_cases c20 : 0 ≤ (ji19)
                            · rw [if_pos c20] at H
                              have c20b0 := eq_true c20
                              have c20b1 : decide (0 ≤ (ji19)) = true := decide_eq_true c20
                              clear c20
                              by_cases c21 : (ji19) ≤ (wrap64 ((ji14) - 4))
                              · rw [if_pos c21] at H
                                have c21b0 := eq_true c21
                                have c21b1 : decide ((ji19) ≤ (wrap64 ((ji14) - 4))) = true := decide_eq_true c21
                                clear c21
                                by_cases c22 : (wrap64 ((ji14) - 4)) ≤ (l1.length : Int)
                                · rw [if_pos c22] at H
                                  have c22b0 := eq_true c22
                                  have c22b1 : decide ((wrap64 ((ji14) - 4)) ≤ (l1.length : Int)) = true := decide_eq_true c22
                                  clear c22
                                  replace H := Option.bind_eq_some_iff.mp H
                                  obtain ⟨t180, A230, H⟩ := H
                                  replace H : (some (t180, ji14, none)) = some (r1, r2, r3) := H
                                  have A23 := Aside0.mk A230
                                  clear A230
                                  simp only [Option.some.injEq, Prod.mk.injEq] at H
                                  obtain ⟨rfl, rfl, rfl⟩ := H
                                  go_wp2_with (first | ((with_reducible refine gate_callee (f := 30) rfl ?_); refine goesL_ (some 28) rfl rfl Try.func30 (by kernel_rfl) rfl #[.slice A1 l1.length c1] rfl (by (try simp only [List.map_toArray, List.map_cons, List.map_nil]); first | done | rfl | (simp only [List.length_drop, List.length_take]; rfl)) ?_; (with_reducible refine (pack_Uint.calls kj2 _ _ l1 t163 t164 none _ ?side1 ?side2 A7.out).mono ?_); (case side1 => repeat (first | exact (Kd.C_below HR1.out HB.out) | (with_reducible refine Kd.C_alloc ?_ _) | (with_reducible refine Kd.C_drewN ?_ _) | (with_reducible refine Kd.C_drew ?_))); (case side2 => exact HC1.out); rintro e w' ⟨rfl, ⟨nd, rfl⟩⟩; refine ⟨_, rfl, ?_⟩; (try simp only [errW_none, errW_some]); obtain ⟨i024, hi024, _, hsz24, _⟩ := info_parts info5; obtain ⟨A24, hcut24, hA24, hC24⟩ := print_drop_of (P := Try.prog) (Value.int .u8) 0 23 5 .i64 Try.underlying23 hi024 hsz24 A1 c1 l1 t164 (of_decide_eq_true (by first | (with_reducible assumption) | assumption)) (of_decide_eq_true (by first | (with_reducible assumption) | assumption)) HC1.out; have HR168 := Aside0.mk (Kd.C_of_reads (h1 := fun _ => rfl) (hA24 _ (Kd.reads_of_C HR1.out))); have HC168 := Aside0.mk hC24; clear hA24 hC24 hi024 hsz24) | ((with_reducible refine gate_callee (f := 30) rfl ?_); refine goesL_ (some 45) rfl rfl Try.func30 (by kernel_rfl) rfl #[.slice A24 (l1.drop (t164 : Int).toNat).length (c1 - t164.toNat)] rfl (by (try simp only [List.map_toArray, List.map_cons, List.map_nil]); first | done | (rw [show (l1.drop (t164 : Int).toNat).length = (l1.length - t164.toNat) from List.length_drop] <;> rfl) | rfl | (simp only [List.length_drop, List.length_take]; rfl)) ?_; (with_reducible refine (pack_Uint.calls kj2 _ _ (l1.drop (t164 : Int).toNat) t169 t170 none _ ?side1 ?side2 A11.out).mono ?_); (case side1 => repeat (first | exact (Kd.C_below HR168.out (by repeat (first | (with_reducible first | exact HB.out | apply below_alloc | apply pw_below_drewN | apply below_drew1) | exact HB.out | exact below_undrew HB.out))) | (with_reducible refine Kd.C_alloc ?_ _) | (with_reducible refine Kd.C_drewN ?_ _) | (with_reducible refine Kd.C_drew ?_))); (case side2 => exact HC168.out); rintro e w' ⟨rfl, ⟨nd, rfl⟩⟩; refine ⟨_, rfl, ?_⟩; (try simp only [errW_none, errW_some]); obtain ⟨i025, hi025, _, hsz25, _⟩ := info_parts info5; obtain ⟨hcut25, hA25, hC25⟩ := print_take_of (P := Try.prog) (Value.int .u8) 0 23 5 .i64 Try.underlying23 hi025 hsz25 A1 c1 l1 (ji14) (of_decide_eq_true (by first | (with_reducible assumption) | assumption)) (of_decide_eq_true (by first | (with_reducible assumption) | assumption)) HC1.out; have HR173 := Aside0.mk (Kd.C_of_reads (h1 := fun _ => rfl) (hA25 _ (Kd.reads_of_C HR1.out))); have HC173 := Aside0.mk hC25; clear hA25 hC25 hi025 hsz25) | ((with_reducible refine gate_callee (f := 26) rfl ?_); refine goesL_ (some 70) rfl rfl Try.func26 (by kernel_rfl) rfl #[.slice A1 (l1.take ((ji14) : Int).toNat).length c1] rfl (by (try simp only [List.map_toArray, List.map_cons, List.map_nil]); first | done | (rw [show (l1.take ((ji14) : Int).toNat).length = (ji14).toNat from (by rw [List.length_take]; have h_ : ((ji14) : Int) ≤ (l1.length : Int) := of_decide_eq_true (by first | (with_reducible assumption) | assumption); omega)] <;> rfl) | (simp only [hji14]; rfl) | rfl | (simp only [List.length_drop, List.length_take]; rfl)) ?_; (with_reducible refine (crc_Open.calls _ _ (l1.take ((ji14) : Int).toNat) t174 none _ ?side1 ?side2 A17.out).mono ?_); (case side1 => repeat (first | exact (Kd.C_below HR173.out (by repeat (first | (with_reducible first | exact HB.out | apply below_alloc | apply pw_below_drewN | apply below_drew1) | exact HB.out | exact below_undrew HB.out))) | (with_reducible refine Kd.C_alloc ?_ _) | (with_reducible refine Kd.C_drewN ?_ _) | (with_reducible refine Kd.C_drew ?_))); (case side2 => exact HC173.out); rintro e w26 ⟨v176, rfl, ho0, hb⟩; refine ⟨_, rfl, ?_⟩; have n0_ := Aside0.mk (Kd.R_lower ho0 (below_size (by repeat (first | (with_reducible first | exact HB.out | apply below_alloc | apply pw_below_drewN | apply below_drew1) | exact HB.out | exact below_undrew HB.out)))); have n1_ := Aside0.mk (below_step (by repeat (first | (with_reducible first | exact HB.out | apply below_alloc | apply pw_below_drewN | apply below_drew1) | exact HB.out | exact below_undrew HB.out)) hb); clear HB; have HO177 := n0_; have HB := n1_; clear n0_ n1_; (try clear hb); (try clear hb2); (try clear hk); (try clear hi); (try clear ho0); (try simp only [errW_none, errW_some]); obtain ⟨i027, hi027, _, hsz27, _⟩ := info_parts info5; obtain ⟨A27, hcut27, hA27, hC27⟩ := print_mid_of (P := Try.prog) (Value.int .u8) 0 23 5 .i64 .i64 Try.underlying23 hi027 hsz27 A1 c1 l1 (ji19) (wrap64 ((ji14) - 4)) (of_decide_eq_true (by first | (with_reducible assumption) | assumption)) (by first | omega | exact of_decide_eq_true (by first | (with_reducible assumption) | assumption)) (of_decide_eq_true (by first | (with_reducible assumption) | assumption)) HC1.out; have HR179 := Aside0.mk (Kd.C_of_reads (h1 := fun _ => rfl) (hA27 _ (Kd.reads_of_C HR1.out))); have HC179 := Aside0.mk hC27; clear hA27 hC27 hi027 hsz27) | ((with_reducible refine gate_callee (f := 42) rfl ?_); refine goesL_ (some 86) rfl rfl Try.func42 (by kernel_rfl) rfl #[.slice A27 ((l1.take ((wrap64 ((ji14) - 4)) : Int).toNat).drop ((ji19) : Int).toNat).length (c1 - (ji19).toNat)] rfl (by (try simp only [List.map_toArray, List.map_cons, List.map_nil]); first | done | (rw [show ((l1.take ((wrap64 ((ji14) - 4)) : Int).toNat).drop ((ji19) : Int).toNat).length = ((wrap64 ((ji14) - 4)).toNat - (ji19).toNat) from (by rw [List.length_drop, List.length_take]; have h_ : ((wrap64 ((ji14) - 4)) : Int) ≤ (l1.length : Int) := of_decide_eq_true (by first | (with_reducible assumption) | assumption); omega)] <;> rfl) | (simp only [hji14, hji19]; rfl) | rfl | (simp only [List.length_drop, List.length_take]; rfl)) ?_; (with_reducible refine (bytes_Clone.calls _ _ ((l1.take ((wrap64 ((ji14) - 4)) : Int).toNat).drop ((ji19) : Int).toNat) t180 _ ?side1 ?side2 A23.out).mono ?_); (case side1 => repeat (first | exact (Kd.C_below HR179.out HB.out) | (with_reducible refine Kd.C_alloc ?_ _) | (with_reducible refine Kd.C_drewN ?_ _) | (with_reducible refine Kd.C_drew ?_))); (case side2 => exact HC179.out); rintro e w28 ⟨v181, rfl, ho0, hb⟩; refine ⟨_, rfl, ?_⟩; have n0_ := Aside0.mk (Kd.R_elder' (by (with_reducible repeat (first | apply Kd.R_alloc | apply Kd.R_drewN | apply Kd.R_drew)); exact HO177.out) (Kd.R_base ho0) hb); have n1_ := Aside0.mk (Kd.R_lower (Kd.R_new' ho0 (Kd.R_lt (by (with_reducible repeat (first | apply Kd.R_alloc | apply Kd.R_drewN | apply Kd.R_drew)); exact HO177.out))) (below_size (by repeat (first | (with_reducible first | exact HB.out | apply below_alloc | apply pw_below_drewN | apply below_drew1) | exact HB.out | exact below_undrew HB.out)))); have n2_ := Aside0.mk (below_step (by repeat (first | (with_reducible first | exact HB.out | apply below_alloc | apply pw_below_drewN | apply below_drew1) | exact HB.out | exact below_undrew HB.out)) hb); clear HO177; clear HB; have HO177 := n0_; have HO182 := n1_; have HB := n2_; clear n0_ n1_ n2_; (try clear hb); (try clear hb2); (try clear hk); (try clear hi); (try clear ho0)))
                                  go_ret3
                                  exact ⟨_, by first | rfl | (simp [errW_none, errW_some] <;> rfl) | (simp only [← hji14, ← hji19]; first | rfl | (simp [errW_none, errW_some] <;> rfl)) | (simp [*, errW_none, errW_some] <;> rfl), by (with_reducible repeat (first | apply Kd.R_alloc | apply Kd.R_drewN | apply Kd.R_drew)); exact Kd.R_mono HO182.out (fun _ hk => trivial), by repeat (first | (with_reducible first | exact HB.out | apply below_alloc | apply pw_below_drewN | apply below_drew1) | exact HB.out | exact below_undrew HB.out)⟩
                                · rw [if_neg c22] at H
                                  exact absurd H (by simp)
                              · rw [if_neg c21] at H
                                exact absurd H (by simp)
                            · rw [if_neg c20] at H
                              exact absurd H (by simp)
                          · rw [if_neg c18] at H
                            have c18b0 : (t169 == a0) = false := beq_eq_false_iff_ne.mpr c18
                            have c18b1 : (t169 != a0) = true := bne_iff_ne.mpr c18
                            simp only [Option.some.injEq, Prod.mk.injEq] at H
                            obtain ⟨rfl, rfl, rfl⟩ := H
                            go_wp2_with (first | ((with_reducible refine gate_callee (f := 30) rfl ?_); refine goesL_ (some 28) rfl rfl Try.func30 (by kernel_rfl) rfl #[.slice A1 l1.length c1] rfl (by (try simp only [List.map_toArray, List.map_cons, List.map_nil]); first | done | rfl | (simp only [List.length_drop, List.length_take]; rfl)) ?_; (with_reducible refine (pack_Uint.calls kj2 _ _ l1 t163 t164 none _ ?side1 ?side2 A7.out).mono ?_); (case side1 => repeat (first | exact (Kd.C_below HR1.out HB.out) | (with_reducible refine Kd.C_alloc ?_ _) | (with_reducible refine Kd.C_drewN ?_ _) | (with_reducible refine Kd.C_drew ?_))); (case side2 => exact HC1.out); rintro e w' ⟨rfl, ⟨nd, rfl⟩⟩; refine ⟨_, rfl, ?_⟩; (try simp only [errW_none, errW_some]); obtain ⟨i029, hi029, _, hsz29, _⟩ := info_parts info5; obtain ⟨A29, hcut29, hA29, hC29⟩ := print_drop_of (P := Try.prog) (Value.int .u8) 0 23 5 .i64 Try.underlying23 hi029 hsz29 A1 c1 l1 t164 (of_decide_eq_true (by first | (with_reducible assumption) | assumption)) (of_decide_eq_true (by first | (with_reducible assumption) | assumption)) HC1.out; have HR168 := Aside0.mk (Kd.C_of_reads (h1 := fun _ => rfl) (hA29 _ (Kd.reads_of_C HR1.out))); have HC168 := Aside0.mk hC29; clear hA29 hC29 hi029 hsz29) | ((with_reducible refine gate_callee (f := 30) rfl ?_); refine goesL_ (some 45) rfl rfl Try.func30 (by kernel_rfl) rfl #[.slice A29 (l1.drop (t164 : Int).toNat).length (c1 - t164.toNat)] rfl (by (try simp only [List.map_toArray, List.map_cons, List.map_nil]); first | done | (rw [show (l1.drop (t164 : Int).toNat).length = (l1.length - t164.toNat) from List.length_drop] <;> rfl) | rfl | (simp only [List.length_drop, List.length_take]; rfl)) ?_; (with_reducible refine (pack_Uint.calls kj2 _ _ (l1.drop (t164 : Int).toNat) t169 t170 none _ ?side1 ?side2 A11.out).mono ?_); (case side1 => repeat (first | exact (Kd.C_below HR168.out (by repeat (first | (with_reducible first | exact HB.out | apply below_alloc | apply pw_below_drewN | apply below_drew1) | exact HB.out | exact below_undrew HB.out))) | (with_reducible refine Kd.C_alloc ?_ _) | (with_reducible refine Kd.C_drewN ?_ _) | (with_reducible refine Kd.C_drew ?_))); (case side2 => exact HC168.out); rintro e w' ⟨rfl, ⟨nd, rfl⟩⟩; refine ⟨_, rfl, ?_⟩; (try simp only [errW_none, errW_some]); obtain ⟨i030, hi030, _, hsz30, _⟩ := info_parts info5; obtain ⟨hcut30, hA30, hC30⟩ := print_take_of (P := Try.prog) (Value.int .u8) 0 23 5 .i64 Try.underlying23 hi030 hsz30 A1 c1 l1 (ji14) (of_decide_eq_true (by first | (with_reducible assumption) | assumption)) (of_decide_eq_true (by first | (with_reducible assumption) | assumption)) HC1.out; have HR173 := Aside0.mk (Kd.C_of_reads (h1 := fun _ => rfl) (hA30 _ (Kd.reads_of_C HR1.out))); have HC173 := Aside0.mk hC30; clear hA30 hC30 hi030 hsz30) | ((with_reducible refine gate_callee (f := 26) rfl ?_); refine goesL_ (some 70) rfl rfl Try.func26 (by kernel_rfl) rfl #[.slice A1 (l1.take ((ji14) : Int).toNat).length c1] rfl (by (try simp only [List.map_toArray, List.map_cons, List.map_nil]); first | done | (rw [show (l1.take ((ji14) : Int).toNat).length = (ji14).toNat from (by rw [List.length_take]; have h_ : ((ji14) : Int) ≤ (l1.length : Int) := of_decide_eq_true (by first | (with_reducible assumption) | assumption); omega)] <;> rfl) | (simp only [hji14]; rfl) | rfl | (simp only [List.length_drop, List.length_take]; rfl)) ?_; (with_reducible refine (crc_Open.calls _ _ (l1.take ((ji14) : Int).toNat) t174 none _ ?side1 ?side2 A17.out).mono ?_); (case side1 => repeat (first | exact (Kd.C_below HR173.out (by repeat (first | (with_reducible first | exact HB.out | apply below_alloc | apply pw_below_drewN | apply below_drew1) | exact HB.out | exact below_undrew HB.out))) | (with_reducible refine Kd.C_alloc ?_ _) | (with_reducible refine Kd.C_drewN ?_ _) | (with_reducible refine Kd.C_drew ?_))); (case side2 => exact HC173.out); rintro e w31 ⟨v176, rfl, ho0, hb⟩; refine ⟨_, rfl, ?_⟩; have n0_ := Aside0.mk (Kd.R_lower ho0 (below_size (by repeat (first | (with_reducible first | exact HB.out | apply below_alloc | apply pw_below_drewN | apply below_drew1) | exact HB.out | exact below_undrew HB.out)))); have n1_ := Aside0.mk (below_step (by repeat (first | (with_reducible first | exact HB.out | apply below_alloc | apply pw_below_drewN | apply below_drew1) | exact HB.out | exact below_undrew HB.out)) hb); clear HB; have HO177 := n0_; have HB := n1_; clear n0_ n1_; (try clear hb); (try clear hb2); (try clear hk); (try clear hi); (try clear ho0); (try simp only [errW_none, errW_some])))
                            go_ret3
                            exact ⟨_, by first | rfl | (simp [errW_none, errW_some] <;> rfl) | (simp only [← hji14]; first | rfl | (simp [errW_none, errW_some] <;> rfl)) | (simp [*, errW_none, errW_some] <;> rfl), by first | exact Kd.R_nil _ _ _ _ _ | exact Kd.N_nil _ _ _ _ _ | exact Kd.V_nil _ _ _ _ _ | exact Kd.Q_nil _ _ _ _ _ | exact Kd.S_nil _ _ _ _ _, by repeat (first | (with_reducible first | exact HB.out | apply below_alloc | apply pw_below_drewN | apply below_drew1) | exact HB.out | exact below_undrew HB.out)⟩
                        · have H1 : (some (([] : List Int), 0, some 11)) = some (r1, r2, r3) := by rw [if_neg (show ¬ (some q178).isNone = true by simp)] at H; exact H
                          clear H
                          have H := H1
                          clear H1
                          try simp only [errW_none, errW_some]
                          simp only [Option.some.injEq, Prod.mk.injEq] at H
                          obtain ⟨rfl, rfl, rfl⟩ := H
                          go_wp2_with (first | ((with_reducible refine gate_callee (f := 30) rfl ?_); refine goesL_ (some 28) rfl rfl Try.func30 (by kernel_rfl) rfl #[.slice A1 l1.length c1] rfl (by (try simp only [List.map_toArray, List.map_cons, List.map_nil]); first | done | rfl | (simp only [List.length_drop, List.length_take]; rfl)) ?_; (with_reducible refine (pack_Uint.calls kj2 _ _ l1 t163 t164 none _ ?side1 ?side2 A7.out).mono ?_); (case side1 => repeat (first | exact (Kd.C_below HR1.out HB.out) | (with_reducible refine Kd.C_alloc ?_ _) | (with_reducible refine Kd.C_drewN ?_ _) | (with_reducible refine Kd.C_drew ?_))); (case side2 => exact HC1.out); rintro e w' ⟨rfl, ⟨nd, rfl⟩⟩; refine ⟨_, rfl, ?_⟩; (try simp only [errW_none, errW_some]); obtain ⟨i032, hi032, _, hsz32, _⟩ := info_parts info5; obtain ⟨A32, hcut32, hA32, hC32⟩ := print_drop_of (P := Try.prog) (Value.int .u8) 0 23 5 .i64 Try.underlying23 hi032 hsz32 A1 c1 l1 t164 (of_decide_eq_true (by first | (with_reducible assumption) | assumption)) (of_decide_eq_true (by first | (with_reducible assumption) | assumption)) HC1.out; have HR168 := Aside0.mk (Kd.C_of_reads (h1 := fun _ => rfl) (hA32 _ (Kd.reads_of_C HR1.out))); have HC168 := Aside0.mk hC32; clear hA32 hC32 hi032 hsz32) | ((with_reducible refine gate_callee (f := 30) rfl ?_); refine goesL_ (some 45) rfl rfl Try.func30 (by kernel_rfl) rfl #[.slice A32 (l1.drop (t164 : Int).toNat).length (c1 - t164.toNat)] rfl (by (try simp only [List.map_toArray, List.map_cons, List.map_nil]); first | done | (rw [show (l1.drop (t164 : Int).toNat).length = (l1.length - t164.toNat) from List.length_drop] <;> rfl) | rfl | (simp only [List.length_drop, List.length_take]; rfl)) ?_; (with_reducible refine (pack_Uint.calls kj2 _ _ (l1.drop (t164 : Int).toNat) t169 t170 none _ ?side1 ?side2 A11.out).mono ?_); (case side1 => repeat (first | exact (Kd.C_below HR168.out (by repeat (first | (with_reducible first | exact HB.out | apply below_alloc | apply pw_below_drewN | apply below_drew1) | exact HB.out | exact below_undrew HB.out))) | (with_reducible refine Kd.C_alloc ?_ _) | (with_reducible refine Kd.C_drewN ?_ _) | (with_reducible refine Kd.C_drew ?_))); (case side2 => exact HC168.out); rintro e w' ⟨rfl, ⟨nd, rfl⟩⟩; refine ⟨_, rfl, ?_⟩; (try simp only [errW_none, errW_some]); obtain ⟨i033, hi033, _, hsz33, _⟩ := info_parts info5; obtain ⟨hcut33, hA33, hC33⟩ := print_take_of (P := Try.prog) (Value.int .u8) 0 23 5 .i64 Try.underlying23 hi033 hsz33 A1 c1 l1 (ji14) (of_decide_eq_true (by first | (with_reducible assumption) | assumption)) (of_decide_eq_true (by first | (with_reducible assumption) | assumption)) HC1.out; have HR173 := Aside0.mk (Kd.C_of_reads (h1 := fun _ => rfl) (hA33 _ (Kd.reads_of_C HR1.out))); have HC173 := Aside0.mk hC33; clear hA33 hC33 hi033 hsz33) | ((with_reducible refine gate_callee (f := 26) rfl ?_); refine goesL_ (some 70) rfl rfl Try.func26 (by kernel_rfl) rfl #[.slice A1 (l1.take ((ji14) : Int).toNat).length c1] rfl (by (try simp only [List.map_toArray, List.map_cons, List.map_nil]); first | done | (rw [show (l1.take ((ji14) : Int).toNat).length = (ji14).toNat from (by rw [List.length_take]; have h_ : ((ji14) : Int) ≤ (l1.length : Int) := of_decide_eq_true (by first | (with_reducible assumption) | assumption); omega)] <;> rfl) | (simp only [hji14]; rfl) | rfl | (simp only [List.length_drop, List.length_take]; rfl)) ?_; (with_reducible refine (crc_Open.calls _ _ (l1.take ((ji14) : Int).toNat) t174 (some q178) _ ?side1 ?side2 A17.out).mono ?_); (case side1 => repeat (first | exact (Kd.C_below HR173.out (by repeat (first | (with_reducible first | exact HB.out | apply below_alloc | apply pw_below_drewN | apply below_drew1) | exact HB.out | exact below_undrew HB.out))) | (with_reducible refine Kd.C_alloc ?_ _) | (with_reducible refine Kd.C_drewN ?_ _) | (with_reducible refine Kd.C_drew ?_))); (case side2 => exact HC173.out); rintro e w34 ⟨v176, rfl, ho0, hb⟩; refine ⟨_, rfl, ?_⟩; have n0_ := Aside0.mk (Kd.R_lower ho0 (below_size (by repeat (first | (with_reducible first | exact HB.out | apply below_alloc | apply pw_below_drewN | apply below_drew1) | exact HB.out | exact below_undrew HB.out)))); have n1_ := Aside0.mk (below_step (by repeat (first | (with_reducible first | exact HB.out | apply below_alloc | apply pw_below_drewN | apply below_drew1) | exact HB.out | exact below_undrew HB.out)) hb); clear HB; have HO177 := n0_; have HB := n1_; clear n0_ n1_; (try clear hb); (try clear hb2); (try clear hk); (try clear hi); (try clear ho0); (try simp only [errW_none, errW_some])))
                          go_ret3
                          exact ⟨_, by first | rfl | (simp [errW_none, errW_some] <;> rfl) | (simp only [← hji14]; first | rfl | (simp [errW_none, errW_some] <;> rfl)) | (simp [*, errW_none, errW_some] <;> rfl), by first | exact Kd.R_nil _ _ _ _ _ | exact Kd.N_nil _ _ _ _ _ | exact Kd.V_nil _ _ _ _ _ | exact Kd.Q_nil _ _ _ _ _ | exact Kd.S_nil _ _ _ _ _, by repeat (first | (with_reducible first | exact HB.out | apply below_alloc | apply pw_below_drewN | apply below_drew1) | exact HB.out | exact below_undrew HB.out)⟩
                      · rw [if_neg c16] at H
                        exact absurd H (by simp)
                    · rw [if_neg c15] at H
                      exact absurd H (by simp)
                · have H1 : ((record_torn.f (some q172)).bind fun t183 => (some (([] : List Int), 0, t183))) = some (r1, r2, r3) := by rw [if_neg (show ¬ (some q172).isNone = true by simp)] at H; exact H
                  clear H
                  have H := H1
                  clear H1
                  try simp only [errW_none, errW_some]
                  replace H := Option.bind_eq_some_iff.mp H
                  obtain ⟨t183, A350, H⟩ := H
                  replace H : (some (([] : List Int), 0, t183)) = some (r1, r2, r3) := H
                  have A35 := Aside0.mk A350
                  clear A350
                  simp only [Option.some.injEq, Prod.mk.injEq] at H
                  obtain ⟨rfl, rfl, rfl⟩ := H
                  go_wp2_with (first | ((with_reducible refine gate_callee (f := 30) rfl ?_); refine goesL_ (some 28) rfl rfl Try.func30 (by kernel_rfl) rfl #[.slice A1 l1.length c1] rfl (by (try simp only [List.map_toArray, List.map_cons, List.map_nil]); first | done | rfl | (simp only [List.length_drop, List.length_take]; rfl)) ?_; (with_reducible refine (pack_Uint.calls kj2 _ _ l1 t163 t164 none _ ?side1 ?side2 A7.out).mono ?_); (case side1 => repeat (first | exact (Kd.C_below HR1.out HB.out) | (with_reducible refine Kd.C_alloc ?_ _) | (with_reducible refine Kd.C_drewN ?_ _) | (with_reducible refine Kd.C_drew ?_))); (case side2 => exact HC1.out); rintro e w' ⟨rfl, ⟨nd, rfl⟩⟩; refine ⟨_, rfl, ?_⟩; (try simp only [errW_none, errW_some]); obtain ⟨i036, hi036, _, hsz36, _⟩ := info_parts info5; obtain ⟨A36, hcut36, hA36, hC36⟩ := print_drop_of (P := Try.prog) (Value.int .u8) 0 23 5 .i64 Try.underlying23 hi036 hsz36 A1 c1 l1 t164 (of_decide_eq_true (by first | (with_reducible assumption) | assumption)) (of_decide_eq_true (by first | (with_reducible assumption) | assumption)) HC1.out; have HR168 := Aside0.mk (Kd.C_of_reads (h1 := fun _ => rfl) (hA36 _ (Kd.reads_of_C HR1.out))); have HC168 := Aside0.mk hC36; clear hA36 hC36 hi036 hsz36) | ((with_reducible refine gate_callee (f := 30) rfl ?_); refine goesL_ (some 45) rfl rfl Try.func30 (by kernel_rfl) rfl #[.slice A36 (l1.drop (t164 : Int).toNat).length (c1 - t164.toNat)] rfl (by (try simp only [List.map_toArray, List.map_cons, List.map_nil]); first | done | (rw [show (l1.drop (t164 : Int).toNat).length = (l1.length - t164.toNat) from List.length_drop] <;> rfl) | rfl | (simp only [List.length_drop, List.length_take]; rfl)) ?_; (with_reducible refine (pack_Uint.calls kj2 _ _ (l1.drop (t164 : Int).toNat) t169 t170 (some q172) _ ?side1 ?side2 A11.out).mono ?_); (case side1 => repeat (first | exact (Kd.C_below HR168.out (by repeat (first | (with_reducible first | exact HB.out | apply below_alloc | apply pw_below_drewN | apply below_drew1) | exact HB.out | exact below_undrew HB.out))) | (with_reducible refine Kd.C_alloc ?_ _) | (with_reducible refine Kd.C_drewN ?_ _) | (with_reducible refine Kd.C_drew ?_))); (case side2 => exact HC168.out); rintro e w' ⟨rfl, ⟨nd, rfl⟩⟩; refine ⟨_, rfl, ?_⟩; (try simp only [errW_none, errW_some]); have CA35 := fun W => record_torn.calls (some q172) t183 W A35.out; try simp only [errW_none, errW_some] at CA35) | (go_at_call 41; (with_reducible refine (CA35 _).mono ?_); rintro e w' ⟨rfl, ⟨nd, rfl⟩⟩; (try simp only [errW_none, errW_some])))
                  go_ret3
                  exact ⟨_, by first | rfl | (simp [errW_none, errW_some] <;> rfl) | (simp [*, errW_none, errW_some] <;> rfl), by first | exact Kd.R_nil _ _ _ _ _ | exact Kd.N_nil _ _ _ _ _ | exact Kd.V_nil _ _ _ _ _ | exact Kd.Q_nil _ _ _ _ _ | exact Kd.S_nil _ _ _ _ _, by repeat (first | (with_reducible first | exact HB.out | apply below_alloc | apply pw_below_drewN | apply below_drew1) | exact HB.out | exact below_undrew HB.out)⟩
              · rw [if_neg c10] at H
                exact absurd H (by simp)
            · rw [if_neg c9] at H
              exact absurd H (by simp)
        · have H1 : ((record_torn.f (some q166)).bind fun t167 => (some (([] : List Int), 0, t167))) = some (r1, r2, r3) := by rw [if_neg (show ¬ (some q166).isNone = true by simp)] at H; exact H
          clear H
          have H := H1
          clear H1
          try simp only [errW_none, errW_some]
          replace H := Option.bind_eq_some_iff.mp H
          obtain ⟨t167, A370, H⟩ := H
          replace H : (some (([] : List Int), 0, t167)) = some (r1, r2, r3) := H
          have A37 := Aside0.mk A370
          clear A370
          simp only [Option.some.injEq, Prod.mk.injEq] at H
          obtain ⟨rfl, rfl, rfl⟩ := H
          go_wp2_with (first | ((with_reducible refine gate_callee (f := 30) rfl ?_); refine goesL_ (some 28) rfl rfl Try.func30 (by kernel_rfl) rfl #[.slice A1 l1.length c1] rfl (by (try simp only [List.map_toArray, List.map_cons, List.map_nil]); first | done | rfl | (simp only [List.length_drop, List.length_take]; rfl)) ?_; (with_reducible refine (pack_Uint.calls kj2 _ _ l1 t163 t164 (some q166) _ ?side1 ?side2 A7.out).mono ?_); (case side1 => repeat (first | exact (Kd.C_below HR1.out HB.out) | (with_reducible refine Kd.C_alloc ?_ _) | (with_reducible refine Kd.C_drewN ?_ _) | (with_reducible refine Kd.C_drew ?_))); (case side2 => exact HC1.out); rintro e w' ⟨rfl, ⟨nd, rfl⟩⟩; refine ⟨_, rfl, ?_⟩; (try simp only [errW_none, errW_some]); have CA37 := fun W => record_torn.calls (some q166) t167 W A37.out; try simp only [errW_none, errW_some] at CA37) | (go_at_call 41; (with_reducible refine (CA37 _).mono ?_); rintro e w' ⟨rfl, ⟨nd, rfl⟩⟩; (try simp only [errW_none, errW_some])))
          go_ret3
          exact ⟨_, by first | rfl | (simp [errW_none, errW_some] <;> rfl) | (simp [*, errW_none, errW_some] <;> rfl), by first | exact Kd.R_nil _ _ _ _ _ | exact Kd.N_nil _ _ _ _ _ | exact Kd.V_nil _ _ _ _ _ | exact Kd.Q_nil _ _ _ _ _ | exact Kd.S_nil _ _ _ _ _, by repeat (first | (with_reducible first | exact HB.out | apply below_alloc | apply pw_below_drewN | apply below_drew1) | exact HB.out | exact below_undrew HB.out)⟩

end Go.Proofs.Ytindggjkcnelcaa.XAll
