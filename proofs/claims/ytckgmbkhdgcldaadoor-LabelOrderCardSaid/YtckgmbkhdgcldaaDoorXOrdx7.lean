/- Printed by this session's program (wip/print) out of the translation, for the statement named in the file's name. -/
import Derived.Test.YtckgmbkhdgcldaaDoorXOrdx0
import Derived.Test.YtckgmbkhdgcldaaDoorXOrdx1
import Derived.Test.YtckgmbkhdgcldaaDoorXOrdx2
import Derived.Test.YtckgmbkhdgcldaaDoorXOrdx6
namespace Go.Proofs.YtckgmbkhdgcldaaDoor.XOrd
open Go.RowKit Go.Proofs.YtckgmbkhdgcldaaDoorW.PrintWords Go.Proofs.YtckgmbkhdgcldaaDoorW.PrintLast Go.Proofs.YtckgmbkhdgcldaaDoorW.PrintMore Go.Proofs.YtckgmbkhdgcldaaDoor.Lab
attribute [local go_sem] str_gtr str_leq str_geq max2_int min2_int max_two min_two max_three min_three max_four min_four   -- for this text's walks alone
set_option linter.unusedVariables false
set_option linter.unusedSimpArgs false
set_option linter.unnecessarySimpa false

attribute [local go_sem high] eqA24
/-! ### barbicanlaw01_LabelOrder: function 5 -/
mutual
def barbicanlaw01_LabelOrder.j0 : Nat → Bool → Int → Int → Int → Int → Int → Int → Int → Int → Int → Int → Option (Bool)
  | 0, _, _, _, _, _, _, _, _, _, _, _ => none
  | k + 1, x9, x125000, x125001, x126000, x126001, x127000, x127001, x132000, x132001, x133000, x133001 => (label_Dominates.f x125000 x125001 x127000 x127001).bind fun t135 => (if t135 = true then ((label_Dominates.f x126000 x126001 x127000 x127001).bind fun t136 => (barbicanlaw01_LabelOrder.j1 k x9 t136 x125000 x125001 x126000 x126001 x127000 x127001 x132000 x132001 x133000 x133001)) else (barbicanlaw01_LabelOrder.j1 k x9 false x125000 x125001 x126000 x126001 x127000 x127001 x132000 x132001 x133000 x133001))
def barbicanlaw01_LabelOrder.j1 : Nat → Bool → Bool → Int → Int → Int → Int → Int → Int → Int → Int → Int → Int → Option (Bool)
  | 0, _, _, _, _, _, _, _, _, _, _, _, _ => none
  | k + 1, x9, x10, x125000, x125001, x126000, x126001, x127000, x127001, x132000, x132001, x133000, x133001 => (label_Dominates.f x125000 x125001 x125000 x125001).bind fun t137 => (if t137 = true then ((label_Dominates.f x125000 x125001 x126000 x126001).bind fun t138 => (if t138 = true then ((label_Dominates.f x126000 x126001 x125000 x125001).bind fun t139 => (if t139 = true then (if (!(x125000 == x126000) || (!(x125001 == x126001))) = true then (barbicanlaw01_LabelOrder.j2 k x9 x10 true x125000 x125001 x126000 x126001 x127000 x127001 x132000 x132001 x133000 x133001) else ((label_Dominates.f x125000 x125001 x126000 x126001).bind fun t140 => (if t140 = true then ((label_Dominates.f x126000 x126001 x127000 x127001).bind fun t141 => (if t141 = true then ((label_Dominates.f x125000 x125001 x127000 x127001).bind fun t142 => (barbicanlaw01_LabelOrder.j2 k x9 x10 (!t142) x125000 x125001 x126000 x126001 x127000 x127001 x132000 x132001 x133000 x133001)) else (barbicanlaw01_LabelOrder.j2 k x9 x10 false x125000 x125001 x126000 x126001 x127000 x127001 x132000 x132001 x133000 x133001))) else (barbicanlaw01_LabelOrder.j2 k x9 x10 false x125000 x125001 x126000 x126001 x127000 x127001 x132000 x132001 x133000 x133001)))) else ((label_Dominates.f x125000 x125001 x126000 x126001).bind fun t143 => (if t143 = true then ((label_Dominates.f x126000 x126001 x127000 x127001).bind fun t144 => (if t144 = true then ((label_Dominates.f x125000 x125001 x127000 x127001).bind fun t145 => (barbicanlaw01_LabelOrder.j2 k x9 x10 (!t145) x125000 x125001 x126000 x126001 x127000 x127001 x132000 x132001 x133000 x133001)) else (barbicanlaw01_LabelOrder.j2 k x9 x10 false x125000 x125001 x126000 x126001 x127000 x127001 x132000 x132001 x133000 x133001))) else (barbicanlaw01_LabelOrder.j2 k x9 x10 false x125000 x125001 x126000 x126001 x127000 x127001 x132000 x132001 x133000 x133001))))) else ((label_Dominates.f x125000 x125001 x126000 x126001).bind fun t146 => (if t146 = true then ((label_Dominates.f x126000 x126001 x127000 x127001).bind fun t147 => (if t147 = true then ((label_Dominates.f x125000 x125001 x127000 x127001).bind fun t148 => (barbicanlaw01_LabelOrder.j2 k x9 x10 (!t148) x125000 x125001 x126000 x126001 x127000 x127001 x132000 x132001 x133000 x133001)) else (barbicanlaw01_LabelOrder.j2 k x9 x10 false x125000 x125001 x126000 x126001 x127000 x127001 x132000 x132001 x133000 x133001))) else (barbicanlaw01_LabelOrder.j2 k x9 x10 false x125000 x125001 x126000 x126001 x127000 x127001 x132000 x132001 x133000 x133001))))) else (barbicanlaw01_LabelOrder.j2 k x9 x10 true x125000 x125001 x126000 x126001 x127000 x127001 x132000 x132001 x133000 x133001))
def barbicanlaw01_LabelOrder.j2 : Nat → Bool → Bool → Bool → Int → Int → Int → Int → Int → Int → Int → Int → Int → Int → Option (Bool)
  | 0, _, _, _, _, _, _, _, _, _, _, _, _, _ => none
  | k + 1, x9, x10, x67, x125000, x125001, x126000, x126001, x127000, x127001, x132000, x132001, x133000, x133001 => if x67 = true then (some false) else ((label_Dominates.f x132000 x132001 x125000 x125001).bind fun t149 => (if t149 = true then ((label_Dominates.f x132000 x132001 x126000 x126001).bind fun t150 => (if t150 = true then ((label_Dominates.f x125000 x125001 x133000 x133001).bind fun t151 => (if t151 = true then ((label_Dominates.f x126000 x126001 x133000 x133001).bind fun t152 => (barbicanlaw01_LabelOrder.j3 k x9 x10 (!t152) x125000 x125001 x126000 x126001 x127000 x127001 x132000 x132001 x133000 x133001)) else (barbicanlaw01_LabelOrder.j3 k x9 x10 true x125000 x125001 x126000 x126001 x127000 x127001 x132000 x132001 x133000 x133001))) else (barbicanlaw01_LabelOrder.j3 k x9 x10 true x125000 x125001 x126000 x126001 x127000 x127001 x132000 x132001 x133000 x133001))) else (barbicanlaw01_LabelOrder.j3 k x9 x10 true x125000 x125001 x126000 x126001 x127000 x127001 x132000 x132001 x133000 x133001)))
def barbicanlaw01_LabelOrder.j3 : Nat → Bool → Bool → Bool → Int → Int → Int → Int → Int → Int → Int → Int → Int → Int → Option (Bool)
  | 0, _, _, _, _, _, _, _, _, _, _, _, _, _ => none
  | k + 1, x9, x10, x89, x125000, x125001, x126000, x126001, x127000, x127001, x132000, x132001, x133000, x133001 => if x89 = true then (some false) else ((label_Dominates.f x127000 x127001 x132000 x132001).bind fun t153 => (if (t153 == x9) = true then ((label_Dominates.f x133000 x133001 x127000 x127001).bind fun t154 => (if (t154 == x10) = true then ((label_Join.f x126000 x126001 x125000 x125001).bind fun bt155 => (if (x132000 == bt155.1 && (x132001 == bt155.2)) = true then ((label_Meet.f x126000 x126001 x125000 x125001).bind fun bt157 => (if (x133000 == bt157.1 && (x133001 == bt157.2)) = true then ((barbicanlaw01_sure.f).bind fun t159 => (some t159)) else (some false))) else (some false))) else (some false))) else (some false)))
end
def barbicanlaw01_LabelOrder.f (k : Nat) (a0_0 : Int) (a0_1 : Int) (a1_0 : Int) (a1_1 : Int) (a2_0 : Int) (a2_1 : Int) : Option (Bool) := (label_Join.f a0_0 a0_1 a1_0 a1_1).bind fun bt127 => ((label_Meet.f a0_0 a0_1 a1_0 a1_1).bind fun bt129 => ((label_Dominates.f a2_0 a2_1 a0_0 a0_1).bind fun t133 => (if t133 = true then ((label_Dominates.f a2_0 a2_1 a1_0 a1_1).bind fun t134 => (barbicanlaw01_LabelOrder.j0 k t134 a0_0 a0_1 a1_0 a1_1 a2_0 a2_1 bt127.1 bt127.2 bt129.1 bt129.2)) else (barbicanlaw01_LabelOrder.j0 k false a0_0 a0_1 a1_0 a1_1 a2_0 a2_1 bt127.1 bt127.2 bt129.1 bt129.2))))
theorem barbicanlaw01_LabelOrder.mono_l : ∀ k, (∀ y0 y1 y2 y3 y4 y5 y6 y7 y8 y9 y10, LeO (barbicanlaw01_LabelOrder.j0 k y0 y1 y2 y3 y4 y5 y6 y7 y8 y9 y10) (barbicanlaw01_LabelOrder.j0 (k + 1) y0 y1 y2 y3 y4 y5 y6 y7 y8 y9 y10)) ∧ (∀ y0 y1 y2 y3 y4 y5 y6 y7 y8 y9 y10 y11, LeO (barbicanlaw01_LabelOrder.j1 k y0 y1 y2 y3 y4 y5 y6 y7 y8 y9 y10 y11) (barbicanlaw01_LabelOrder.j1 (k + 1) y0 y1 y2 y3 y4 y5 y6 y7 y8 y9 y10 y11)) ∧ (∀ y0 y1 y2 y3 y4 y5 y6 y7 y8 y9 y10 y11 y12, LeO (barbicanlaw01_LabelOrder.j2 k y0 y1 y2 y3 y4 y5 y6 y7 y8 y9 y10 y11 y12) (barbicanlaw01_LabelOrder.j2 (k + 1) y0 y1 y2 y3 y4 y5 y6 y7 y8 y9 y10 y11 y12)) ∧ (∀ y0 y1 y2 y3 y4 y5 y6 y7 y8 y9 y10 y11 y12, LeO (barbicanlaw01_LabelOrder.j3 k y0 y1 y2 y3 y4 y5 y6 y7 y8 y9 y10 y11 y12) (barbicanlaw01_LabelOrder.j3 (k + 1) y0 y1 y2 y3 y4 y5 y6 y7 y8 y9 y10 y11 y12))
  | 0 => ⟨fun _ _ _ _ _ _ _ _ _ _ _ r h => by simp [barbicanlaw01_LabelOrder.j0] at h, fun _ _ _ _ _ _ _ _ _ _ _ _ r h => by simp [barbicanlaw01_LabelOrder.j1] at h, fun _ _ _ _ _ _ _ _ _ _ _ _ _ r h => by simp [barbicanlaw01_LabelOrder.j2] at h, fun _ _ _ _ _ _ _ _ _ _ _ _ _ r h => by simp [barbicanlaw01_LabelOrder.j3] at h⟩
  | k + 1 => by
    obtain ⟨ih0, ih1, ih2, ih3⟩ := barbicanlaw01_LabelOrder.mono_l k
    refine ⟨?_, ?_, ?_, ?_⟩
    · intro y0 y1 y2 y3 y4 y5 y6 y7 y8 y9 y10
      unfold barbicanlaw01_LabelOrder.j0
      repeat' first
      | (with_reducible exact ih0 _ _ _ _ _ _ _ _ _ _ _)
      | (with_reducible exact ih1 _ _ _ _ _ _ _ _ _ _ _ _)
      | (with_reducible exact ih2 _ _ _ _ _ _ _ _ _ _ _ _ _)
      | (with_reducible exact ih3 _ _ _ _ _ _ _ _ _ _ _ _ _)
      | (with_reducible exact LeO.refl _)
      | (with_reducible exact LeO.none _)
      | (with_reducible refine LeO.ite ?_ ?_)
      | (with_reducible refine LeO.bind ?_ (fun _ => ?_))
      | exact ih0 _ _ _ _ _ _ _ _ _ _ _
      | exact ih1 _ _ _ _ _ _ _ _ _ _ _ _
      | exact ih2 _ _ _ _ _ _ _ _ _ _ _ _ _
      | exact ih3 _ _ _ _ _ _ _ _ _ _ _ _ _
      | exact LeO.none _
      | refine LeO.ite ?_ ?_
      | refine LeO.bind ?_ (fun _ => ?_)
    · intro y0 y1 y2 y3 y4 y5 y6 y7 y8 y9 y10 y11
      unfold barbicanlaw01_LabelOrder.j1
      repeat' first
      | (with_reducible exact ih0 _ _ _ _ _ _ _ _ _ _ _)
      | (with_reducible exact ih1 _ _ _ _ _ _ _ _ _ _ _ _)
      | (with_reducible exact ih2 _ _ _ _ _ _ _ _ _ _ _ _ _)
      | (with_reducible exact ih3 _ _ _ _ _ _ _ _ _ _ _ _ _)
      | (with_reducible exact LeO.refl _)
      | (with_reducible exact LeO.none _)
      | (with_reducible refine LeO.ite ?_ ?_)
      | (with_reducible refine LeO.bind ?_ (fun _ => ?_))
      | exact ih0 _ _ _ _ _ _ _ _ _ _ _
      | exact ih1 _ _ _ _ _ _ _ _ _ _ _ _
      | exact ih2 _ _ _ _ _ _ _ _ _ _ _ _ _
      | exact ih3 _ _ _ _ _ _ _ _ _ _ _ _ _
      | exact LeO.none _
      | refine LeO.ite ?_ ?_
      | refine LeO.bind ?_ (fun _ => ?_)
    · intro y0 y1 y2 y3 y4 y5 y6 y7 y8 y9 y10 y11 y12
      unfold barbicanlaw01_LabelOrder.j2
      repeat' first
      | (with_reducible exact ih0 _ _ _ _ _ _ _ _ _ _ _)
      | (with_reducible exact ih1 _ _ _ _ _ _ _ _ _ _ _ _)
      | (with_reducible exact ih2 _ _ _ _ _ _ _ _ _ _ _ _ _)
      | (with_reducible exact ih3 _ _ _ _ _ _ _ _ _ _ _ _ _)
      | (with_reducible exact LeO.refl _)
      | (with_reducible exact LeO.none _)
      | (with_reducible refine LeO.ite ?_ ?_)
      | (with_reducible refine LeO.bind ?_ (fun _ => ?_))
      | exact ih0 _ _ _ _ _ _ _ _ _ _ _
      | exact ih1 _ _ _ _ _ _ _ _ _ _ _ _
      | exact ih2 _ _ _ _ _ _ _ _ _ _ _ _ _
      | exact ih3 _ _ _ _ _ _ _ _ _ _ _ _ _
      | exact LeO.none _
      | refine LeO.ite ?_ ?_
      | refine LeO.bind ?_ (fun _ => ?_)
    · intro y0 y1 y2 y3 y4 y5 y6 y7 y8 y9 y10 y11 y12
      unfold barbicanlaw01_LabelOrder.j3
      repeat' first
      | (with_reducible exact ih0 _ _ _ _ _ _ _ _ _ _ _)
      | (with_reducible exact ih1 _ _ _ _ _ _ _ _ _ _ _ _)
      | (with_reducible exact ih2 _ _ _ _ _ _ _ _ _ _ _ _ _)
      | (with_reducible exact ih3 _ _ _ _ _ _ _ _ _ _ _ _ _)
      | (with_reducible exact LeO.refl _)
      | (with_reducible exact LeO.none _)
      | (with_reducible refine LeO.ite ?_ ?_)
      | (with_reducible refine LeO.bind ?_ (fun _ => ?_))
      | exact ih0 _ _ _ _ _ _ _ _ _ _ _
      | exact ih1 _ _ _ _ _ _ _ _ _ _ _ _
      | exact ih2 _ _ _ _ _ _ _ _ _ _ _ _ _
      | exact ih3 _ _ _ _ _ _ _ _ _ _ _ _ _
      | exact LeO.none _
      | refine LeO.ite ?_ ?_
      | refine LeO.bind ?_ (fun _ => ?_)
theorem barbicanlaw01_LabelOrder.mono : ∀ a0 a1 a2 a3 a4 a5 k, LeO (barbicanlaw01_LabelOrder.f k a0 a1 a2 a3 a4 a5) (barbicanlaw01_LabelOrder.f (k + 1) a0 a1 a2 a3 a4 a5) := by
  intro a0 a1 a2 a3 a4 a5 k
  obtain ⟨ih0, ih1, ih2, ih3⟩ := barbicanlaw01_LabelOrder.mono_l k
  unfold barbicanlaw01_LabelOrder.f
  repeat' first
      | (with_reducible exact ih0 _ _ _ _ _ _ _ _ _ _ _)
      | (with_reducible exact ih1 _ _ _ _ _ _ _ _ _ _ _ _)
      | (with_reducible exact ih2 _ _ _ _ _ _ _ _ _ _ _ _ _)
      | (with_reducible exact ih3 _ _ _ _ _ _ _ _ _ _ _ _ _)
      | (with_reducible exact LeO.refl _)
      | (with_reducible exact LeO.none _)
      | (with_reducible refine LeO.ite ?_ ?_)
      | (with_reducible refine LeO.bind ?_ (fun _ => ?_))
      | exact ih0 _ _ _ _ _ _ _ _ _ _ _
      | exact ih1 _ _ _ _ _ _ _ _ _ _ _ _
      | exact ih2 _ _ _ _ _ _ _ _ _ _ _ _ _
      | exact ih3 _ _ _ _ _ _ _ _ _ _ _ _ _
      | exact LeO.none _
      | refine LeO.ite ?_ ?_
      | refine LeO.bind ?_ (fun _ => ?_)
def barbicanlaw01_LabelOrder.T1 : Bool × List (List Nat × List Nat) := (true, [([], []), ([], []), ([0, 1], [0, 1]), ([], []), ([], []), ([3, 4, 2], [3, 4]), ([], []), ([], []), ([6, 2, 5, 0, 1, 2, 6, 7], [2, 6]), ([7, 5, 8, 0, 1, 2, 3, 4, 5, 6, 7, 8], [5, 7])])
def barbicanlaw01_LabelOrder.B1 : List Nat := [0, 0, 3, 0, 0, 31, 0, 0, 255, 511]
theorem barbicanlaw01_LabelOrder.tab1 : rtab .any (opsOf Tryd.f5 1) = barbicanlaw01_LabelOrder.T1 := by kernel_rfl
theorem barbicanlaw01_LabelOrder.bits1 : waitsOk barbicanlaw01_LabelOrder.T1.2 barbicanlaw01_LabelOrder.B1 = true := by kernel_rfl
def barbicanlaw01_LabelOrder.T8 : Bool × List (List Nat × List Nat) := (true, [([], []), ([], []), ([0, 1], [0, 1]), ([], []), ([2, 3], [2, 3]), ([4, 2], [4]), ([5], [5]), ([5], [5]), ([6, 7, 5, 5], [5, 6, 7]), ([5], [5]), ([8, 9, 5], [5, 8, 9]), ([5, 10], [5, 10]), ([11, 8], [11]), ([12], [12]), ([12], [12]), ([12], [12]), ([14, 15, 12, 12], [12, 14, 15]), ([13, 16, 12], [12, 13, 16]), ([12, 17], [12, 17]), ([18, 16], [18]), ([19], [19]), ([19], [19]), ([19], [19]), ([21, 22, 19, 19], [19, 21, 22]), ([20, 23, 19], [19, 20, 23]), ([19, 24], [19, 24]), ([25, 23], [25]), ([26, 26], [26]), ([26, 27], [26, 27]), ([28, 27, 0, 1, 2, 3, 4, 5, 6, 7, 8, 9, 10, 11, 12, 13, 14, 15, 16, 17, 18, 19, 20, 21, 22, 23, 24, 25, 26, 27, 28], [28])])
def barbicanlaw01_LabelOrder.B8 : List Nat := [0, 0, 3, 0, 15, 31, 63, 63, 255, 63, 1023, 2047, 4095, 8191, 8191, 8191, 57343, 131071, 262143, 524287, 1048575, 1048575, 1048575, 7340031, 16777215, 33554431, 67108863, 134217727, 268435455, 536870911]
theorem barbicanlaw01_LabelOrder.tab8 : rtab .any (opsOf Tryd.f5 8) = barbicanlaw01_LabelOrder.T8 := by kernel_rfl
theorem barbicanlaw01_LabelOrder.bits8 : waitsOk barbicanlaw01_LabelOrder.T8.2 barbicanlaw01_LabelOrder.B8 = true := by kernel_rfl
theorem bk_ {w0 w : World} {g : Nat} {o : Obj} (b : Aside0 (w0.heap[g]? = some o)) (h : w0.heap[g]? = some o → w.heap[g]? = some o := by intro h_; (with_reducible repeat (first | refine blk_drewN ?_ _ | refine blk_drew ?_ | refine blk_alloc ?_ _)); exact h_) : w.heap[g]? = some o := h b.out
theorem bh_ {w0 w1 w2 : World} {n : Nat} (b : Aside0 (Below n w0 w1)) (h : Below n w0 w1 → Below n w0 w2 := by intro h_; repeat (first | (with_reducible first | exact h_ | apply below_alloc | apply pw_below_drewN | apply below_drew1 | refine below_set ?_ (Aside0.out (by assumption))) | exact h_ | exact below_undrew h_)) : Below n w0 w2 := h b.out
set_option maxHeartbeats 40000000 in
set_option maxRecDepth 100000 in
theorem barbicanlaw01_LabelOrder.calls (k : Nat) (a0_0 : Int) (a0_1 : Int) (a1_0 : Int) (a1_1 : Int) (a2_0 : Int) (a2_1 : Int) (r : Bool) (w : World) (hG : GE w) (h : barbicanlaw01_LabelOrder.f k a0_0 a0_1 a1_0 a1_1 a2_0 a2_1 = some r) (hT : Aside0 (r = true)) :
    Calls Tryd.prog 5 #[.agg #[.int .i64 a0_0, .int .u32 a0_1], .agg #[.int .i64 a1_0, .int .u32 a1_1], .agg #[.int .i64 a2_0, .int .u32 a2_1]] w fun e w' => e = .returned (.bool r) ∧ Below w.heap.size w w' := by
 have hu24 := Tryd.underlying24
 have HG := Aside0.mk hG
 clear hG
 have HB := Aside0.mk (Below.refl w.heap.size w)
 have H : ((label_Join.f a0_0 a0_1 a1_0 a1_1).bind fun bt127 => ((label_Meet.f a0_0 a0_1 a1_0 a1_1).bind fun bt129 => ((label_Dominates.f a2_0 a2_1 a0_0 a0_1).bind fun t133 => (if t133 = true then ((label_Dominates.f a2_0 a2_1 a1_0 a1_1).bind fun t134 => (barbicanlaw01_LabelOrder.j0 k t134 a0_0 a0_1 a1_0 a1_1 a2_0 a2_1 bt127.1 bt127.2 bt129.1 bt129.2)) else (barbicanlaw01_LabelOrder.j0 k false a0_0 a0_1 a1_0 a1_1 a2_0 a2_1 bt127.1 bt127.2 bt129.1 bt129.2))))) = some r := h
 clear h
 replace H := Option.bind_eq_some_iff.mp H
 obtain ⟨⟨t127, t128⟩, A40, H⟩ := H
 replace H : ((label_Meet.f a0_0 a0_1 a1_0 a1_1).bind fun bt129 => ((label_Dominates.f a2_0 a2_1 a0_0 a0_1).bind fun t133 => (if t133 = true then ((label_Dominates.f a2_0 a2_1 a1_0 a1_1).bind fun t134 => (barbicanlaw01_LabelOrder.j0 k t134 a0_0 a0_1 a1_0 a1_1 a2_0 a2_1 t127 t128 bt129.1 bt129.2)) else (barbicanlaw01_LabelOrder.j0 k false a0_0 a0_1 a1_0 a1_1 a2_0 a2_1 t127 t128 bt129.1 bt129.2)))) = some r := H
 have A4 := Aside0.mk A40
 clear A40
 replace H := Option.bind_eq_some_iff.mp H
 obtain ⟨⟨t129, t130⟩, A50, H⟩ := H
 replace H : ((label_Dominates.f a2_0 a2_1 a0_0 a0_1).bind fun t133 => (if t133 = true then ((label_Dominates.f a2_0 a2_1 a1_0 a1_1).bind fun t134 => (barbicanlaw01_LabelOrder.j0 k t134 a0_0 a0_1 a1_0 a1_1 a2_0 a2_1 t127 t128 t129 t130)) else (barbicanlaw01_LabelOrder.j0 k false a0_0 a0_1 a1_0 a1_1 a2_0 a2_1 t127 t128 t129 t130))) = some r := H
 have A5 := Aside0.mk A50
 clear A50
 have HC6 := Aside0.mk H
 clear H
 go_enter Tryd.func5, Tryd.ntmps5
 try go_wp2_with (first | ((with_reducible refine gate_dst (N := 3) rfl ?_); refine box_event ?hg (N := 3) ?hd (cs := #[.int .i64 a0_0, .int .u32 a0_1]) (t := 24) ?hr ?_; (case hd => rfl); (case hg => rfl); (case hr => first | (go_simp; done) | (go_simp; rfl)); intro gb124 hg w7 hbox hb; have n0_ := Aside0.mk (below_step (bh_ HB) hb); have n1_ := Aside0.mk (hbox); have n2_ := Aside0.mk ((by rw [hg]; exact (below_size (bh_ HB)) : w.heap.size ≤ gb124)); have n3_ := Aside0.mk ((by rw [hg]; exact (below_size (bh_ HB)) : w.heap.size ≤ gb124)); clear HB; have HB := n0_; have BK124 := n1_; have GW124 := n2_; have GE124 := n3_; clear n0_ n1_ n2_ n3_; clear hb hbox hg) | ((with_reducible refine gate_dst (N := 4) rfl ?_); refine box_event ?hg (N := 4) ?hd (cs := #[.int .i64 a1_0, .int .u32 a1_1]) (t := 24) ?hr ?_; (case hd => rfl); (case hg => rfl); (case hr => first | (go_simp; done) | (go_simp; rfl)); intro gb125 hg w8 hbox hb; have n0_ := Aside0.mk (blk_below (g := gb124) (o := .cells #[.int .i64 a0_0, .int .u32 a0_1] 24 (0, 0)) (bk_ BK124) hb); have n1_ := Aside0.mk (below_step (bh_ HB) hb); have n2_ := Aside0.mk (hbox); have n3_ := Aside0.mk ((by rw [hg]; exact (below_size (bh_ HB)) : w.heap.size ≤ gb125)); have n4_ := Aside0.mk ((by rw [hg]; exact (below_size (bh_ HB)) : w.heap.size ≤ gb125)); have n5_ := Aside0.mk ((by rw [hg]; exact Nat.ne_of_lt (blk_lt (g := gb124) (o := .cells #[.int .i64 a0_0, .int .u32 a0_1] 24 (0, 0)) (bk_ BK124)) : gb124 ≠ gb125)); have n6_ := Aside0.mk ((by rw [hg]; exact Nat.ne_of_gt (blk_lt (g := gb124) (o := .cells #[.int .i64 a0_0, .int .u32 a0_1] 24 (0, 0)) (bk_ BK124)) : gb125 ≠ gb124)); clear BK124; clear HB; have BK124 := n0_; have HB := n1_; have BK125 := n2_; have GW125 := n3_; have GE125 := n4_; have NB124_125 := n5_; have NB125_124 := n6_; clear n0_ n1_ n2_ n3_ n4_ n5_ n6_; clear hb hbox hg) | ((with_reducible refine gate_dst (N := 5) rfl ?_); refine box_event ?hg (N := 5) ?hd (cs := #[.int .i64 a2_0, .int .u32 a2_1]) (t := 24) ?hr ?_; (case hd => rfl); (case hg => rfl); (case hr => first | (go_simp; done) | (go_simp; rfl)); intro gb126 hg w9 hbox hb; have n0_ := Aside0.mk (blk_below (g := gb124) (o := .cells #[.int .i64 a0_0, .int .u32 a0_1] 24 (0, 0)) (bk_ BK124) hb); have n1_ := Aside0.mk (blk_below (g := gb125) (o := .cells #[.int .i64 a1_0, .int .u32 a1_1] 24 (0, 0)) (bk_ BK125) hb); have n2_ := Aside0.mk (below_step (bh_ HB) hb); have n3_ := Aside0.mk (hbox); have n4_ := Aside0.mk ((by rw [hg]; exact (below_size (bh_ HB)) : w.heap.size ≤ gb126)); have n5_ := Aside0.mk ((by rw [hg]; exact (below_size (bh_ HB)) : w.heap.size ≤ gb126)); have n6_ := Aside0.mk ((by rw [hg]; exact Nat.ne_of_lt (blk_lt (g := gb124) (o := .cells #[.int .i64 a0_0, .int .u32 a0_1] 24 (0, 0)) (bk_ BK124)) : gb124 ≠ gb126)); have n7_ := Aside0.mk ((by rw [hg]; exact Nat.ne_of_gt (blk_lt (g := gb124) (o := .cells #[.int .i64 a0_0, .int .u32 a0_1] 24 (0, 0)) (bk_ BK124)) : gb126 ≠ gb124)); have n8_ := Aside0.mk ((by rw [hg]; exact Nat.ne_of_lt (blk_lt (g := gb125) (o := .cells #[.int .i64 a1_0, .int .u32 a1_1] 24 (0, 0)) (bk_ BK125)) : gb125 ≠ gb126)); have n9_ := Aside0.mk ((by rw [hg]; exact Nat.ne_of_gt (blk_lt (g := gb125) (o := .cells #[.int .i64 a1_0, .int .u32 a1_1] 24 (0, 0)) (bk_ BK125)) : gb126 ≠ gb125)); clear BK124; clear BK125; clear HB; have BK124 := n0_; have BK125 := n1_; have HB := n2_; have BK126 := n3_; have GW126 := n4_; have GE126 := n5_; have NB124_126 := n6_; have NB126_124 := n7_; have NB125_126 := n8_; have NB126_125 := n9_; clear n0_ n1_ n2_ n3_ n4_ n5_ n6_ n7_ n8_ n9_; clear hb hbox hg))
 have n0_ := Aside0.mk (blk_drew BK124.out)
 have n1_ := Aside0.mk (blk_drew BK125.out)
 have n2_ := Aside0.mk (blk_drew BK126.out)
 have n3_ := Aside0.mk (below_drew1 HB.out)
 clear BK124
 clear BK125
 clear BK126
 clear HB
 have BK124 := n0_
 have BK125 := n1_
 have BK126 := n2_
 have HB := n3_
 clear n0_ n1_ n2_ n3_
 refine start_ (n := 10) (S := fun w' => w'.cell? ⟨gb124, 0, none⟩ = some (.int .i64 a0_0) ∧ w'.cell? ⟨gb124, 1, none⟩ = some (.int .u32 a0_1) ∧ w'.cell? ⟨gb125, 0, none⟩ = some (.int .i64 a1_0) ∧ w'.cell? ⟨gb125, 1, none⟩ = some (.int .u32 a1_1)) (ds := []) #[false, false, false, false, false, false, false, false, false, false] (by kernel_rfl) rfl rfl ⟨(blk_cell BK124.out 0).trans rfl, (blk_cell BK124.out 1).trans rfl, (blk_cell BK125.out 0).trans rfl, (blk_cell BK125.out 1).trans rfl⟩ (fun hHeld => ?_); refine with_tabW barbicanlaw01_LabelOrder.tab1 barbicanlaw01_LabelOrder.bits1 (fun HT_ HW_ => ?_)
 generalize w9.drew = w10 at BK124 BK125 BK126 HB hHeld ⊢
 refine take_ (i := 0) (N := some 11) (v := ?_) (a' := ?_) #[true, false, false, false, false, false, false, false, false, false] rfl rfl (take_ofW HT_.out HW_.out (by kernel_rfl)) (fun _ _ _ h => h) (Or.inl ⟨by rfl, ?_⟩) hHeld ?_ ?_
 rotate_left
 ·rintro w' ⟨s0, s1, s2, s3⟩
  go_simp
  with_reducible rfl
 rotate_left
 ·simp only [Act.put, List.setIfInBounds_toArray, List.set_cons_zero, List.set_cons_succ, i64_w, i32_w]
  rfl
 refine take_ (i := 1) (N := some 12) (v := ?_) (a' := ?_) #[true, true, false, false, false, false, false, false, false, false] rfl rfl (take_ofW HT_.out HW_.out (by kernel_rfl)) (fun _ _ _ h => h) (Or.inl ⟨by rfl, ?_⟩) hHeld ?_ ?_
 rotate_left
 ·rintro w' ⟨s0, s1, s2, s3⟩
  go_simp
  with_reducible rfl
 rotate_left
 ·simp only [Act.put, List.setIfInBounds_toArray, List.set_cons_zero, List.set_cons_succ, i64_w, i32_w]
  rfl
 refine take_ (i := 3) (N := some 14) (v := ?_) (a' := ?_) #[true, true, false, true, false, false, false, false, false, false] rfl rfl (take_ofW HT_.out HW_.out (by kernel_rfl)) (fun _ _ _ h => h) (Or.inl ⟨by rfl, ?_⟩) hHeld ?_ ?_
 rotate_left
 ·rintro w' ⟨s0, s1, s2, s3⟩
  go_simp
  with_reducible rfl
 rotate_left
 ·simp only [Act.put, List.setIfInBounds_toArray, List.set_cons_zero, List.set_cons_succ, i64_w, i32_w]
  rfl
 refine take_ (i := 4) (N := some 15) (v := ?_) (a' := ?_) #[true, true, false, true, true, false, false, false, false, false] rfl rfl (take_ofW HT_.out HW_.out (by kernel_rfl)) (fun _ _ _ h => h) (Or.inl ⟨by rfl, ?_⟩) hHeld ?_ ?_
 rotate_left
 ·rintro w' ⟨s0, s1, s2, s3⟩
  go_simp
  with_reducible rfl
 rotate_left
 ·simp only [Act.put, List.setIfInBounds_toArray, List.set_cons_zero, List.set_cons_succ, i64_w, i32_w]
  rfl
 refine join_ (σ := Nat × Nat) 2 #[true, true, true, true, true, true, true, true, false, false] (fun s_ => [(13, .agg #[.int .i64 t127, .int .u32 t128]), (16, .agg #[.int .i64 t129, .int .u32 t130]), (7, .pointer (some ⟨s_.1, 0, none⟩)), (8, .pointer (some ⟨s_.2, 0, none⟩))]) (fun s_ w' => (w'.cell? ⟨gb124, 0, none⟩ = some (.int .i64 a0_0) ∧ w'.cell? ⟨gb124, 1, none⟩ = some (.int .u32 a0_1) ∧ w'.cell? ⟨gb125, 0, none⟩ = some (.int .i64 a1_0) ∧ w'.cell? ⟨gb125, 1, none⟩ = some (.int .u32 a1_1)) ∧ (w'.heap[gb124]? = some (.cells #[.int .i64 a0_0, .int .u32 a0_1] 24 (0, 0))) ∧ (w'.heap[gb125]? = some (.cells #[.int .i64 a1_0, .int .u32 a1_1] 24 (0, 0))) ∧ (w'.heap[gb126]? = some (.cells #[.int .i64 a2_0, .int .u32 a2_1] 24 (0, 0))) ∧ (w'.heap[s_.1]? = some (.cells #[.int .i64 0, .int .u32 0] 24 (0, 0))) ∧ (w'.heap[s_.2]? = some (.cells #[.int .i64 0, .int .u32 0] 24 (0, 0))) ∧ (w.heap.size ≤ s_.1) ∧ (w.heap.size ≤ s_.1) ∧ (gb124 ≠ s_.1) ∧ (s_.1 ≠ gb124) ∧ (gb125 ≠ s_.1) ∧ (s_.1 ≠ gb125) ∧ (gb126 ≠ s_.1) ∧ (s_.1 ≠ gb126) ∧ (s_.2 ≠ s_.1) ∧ (s_.1 ≠ s_.2) ∧ (w.heap.size ≤ s_.2) ∧ (w.heap.size ≤ s_.2) ∧ (gb124 ≠ s_.2) ∧ (s_.2 ≠ gb124) ∧ (gb125 ≠ s_.2) ∧ (s_.2 ≠ gb125) ∧ (gb126 ≠ s_.2) ∧ (s_.2 ≠ gb126) ∧ (Below w.heap.size w w')) ?_ ?_
 rotate_left
 ·intro hJ2_5_6_7
  refine join_ (σ := Nat) 3 #[true, true, true, true, true, true, true, false, false, false] (fun s_ => [(13, .agg #[.int .i64 t127, .int .u32 t128]), (16, .agg #[.int .i64 t129, .int .u32 t130]), (7, .pointer (some ⟨s_, 0, none⟩))]) (fun s_ w' => (w'.cell? ⟨gb124, 0, none⟩ = some (.int .i64 a0_0) ∧ w'.cell? ⟨gb124, 1, none⟩ = some (.int .u32 a0_1) ∧ w'.cell? ⟨gb125, 0, none⟩ = some (.int .i64 a1_0) ∧ w'.cell? ⟨gb125, 1, none⟩ = some (.int .u32 a1_1)) ∧ (w'.heap[gb124]? = some (.cells #[.int .i64 a0_0, .int .u32 a0_1] 24 (0, 0))) ∧ (w'.heap[gb125]? = some (.cells #[.int .i64 a1_0, .int .u32 a1_1] 24 (0, 0))) ∧ (w'.heap[gb126]? = some (.cells #[.int .i64 a2_0, .int .u32 a2_1] 24 (0, 0))) ∧ (w'.heap[s_]? = some (.cells #[.int .i64 0, .int .u32 0] 24 (0, 0))) ∧ (w.heap.size ≤ s_) ∧ (w.heap.size ≤ s_) ∧ (gb124 ≠ s_) ∧ (s_ ≠ gb124) ∧ (gb125 ≠ s_) ∧ (s_ ≠ gb125) ∧ (gb126 ≠ s_) ∧ (s_ ≠ gb126) ∧ (Below w.heap.size w w')) ?_ ?_
  rotate_left
  ·intro hJ2_5_6
   refine join_ (σ := Nat) 3 #[true, true, true, true, true, true, false, true, false, false] (fun s_ => [(13, .agg #[.int .i64 t127, .int .u32 t128]), (16, .agg #[.int .i64 t129, .int .u32 t130]), (8, .pointer (some ⟨s_, 0, none⟩))]) (fun s_ w' => (w'.cell? ⟨gb124, 0, none⟩ = some (.int .i64 a0_0) ∧ w'.cell? ⟨gb124, 1, none⟩ = some (.int .u32 a0_1) ∧ w'.cell? ⟨gb125, 0, none⟩ = some (.int .i64 a1_0) ∧ w'.cell? ⟨gb125, 1, none⟩ = some (.int .u32 a1_1)) ∧ (w'.heap[gb124]? = some (.cells #[.int .i64 a0_0, .int .u32 a0_1] 24 (0, 0))) ∧ (w'.heap[gb125]? = some (.cells #[.int .i64 a1_0, .int .u32 a1_1] 24 (0, 0))) ∧ (w'.heap[gb126]? = some (.cells #[.int .i64 a2_0, .int .u32 a2_1] 24 (0, 0))) ∧ (w'.heap[s_]? = some (.cells #[.int .i64 0, .int .u32 0] 24 (0, 0))) ∧ (w.heap.size ≤ s_) ∧ (w.heap.size ≤ s_) ∧ (gb124 ≠ s_) ∧ (s_ ≠ gb124) ∧ (gb125 ≠ s_) ∧ (s_ ≠ gb125) ∧ (gb126 ≠ s_) ∧ (s_ ≠ gb126) ∧ (Below w.heap.size w w')) ?_ ?_
   rotate_left
   ·intro hJ2_5_7
    refine join_ (σ := Nat × Nat) 3 #[true, true, true, true, true, false, true, true, false, false] (fun s_ => [(13, .agg #[.int .i64 t127, .int .u32 t128]), (7, .pointer (some ⟨s_.1, 0, none⟩)), (8, .pointer (some ⟨s_.2, 0, none⟩))]) (fun s_ w' => (w'.cell? ⟨gb124, 0, none⟩ = some (.int .i64 a0_0) ∧ w'.cell? ⟨gb124, 1, none⟩ = some (.int .u32 a0_1) ∧ w'.cell? ⟨gb125, 0, none⟩ = some (.int .i64 a1_0) ∧ w'.cell? ⟨gb125, 1, none⟩ = some (.int .u32 a1_1)) ∧ (w'.heap[gb124]? = some (.cells #[.int .i64 a0_0, .int .u32 a0_1] 24 (0, 0))) ∧ (w'.heap[gb125]? = some (.cells #[.int .i64 a1_0, .int .u32 a1_1] 24 (0, 0))) ∧ (w'.heap[gb126]? = some (.cells #[.int .i64 a2_0, .int .u32 a2_1] 24 (0, 0))) ∧ (w'.heap[s_.1]? = some (.cells #[.int .i64 0, .int .u32 0] 24 (0, 0))) ∧ (w'.heap[s_.2]? = some (.cells #[.int .i64 0, .int .u32 0] 24 (0, 0))) ∧ (w.heap.size ≤ s_.1) ∧ (w.heap.size ≤ s_.1) ∧ (gb124 ≠ s_.1) ∧ (s_.1 ≠ gb124) ∧ (gb125 ≠ s_.1) ∧ (s_.1 ≠ gb125) ∧ (gb126 ≠ s_.1) ∧ (s_.1 ≠ gb126) ∧ (s_.2 ≠ s_.1) ∧ (s_.1 ≠ s_.2) ∧ (w.heap.size ≤ s_.2) ∧ (w.heap.size ≤ s_.2) ∧ (gb124 ≠ s_.2) ∧ (s_.2 ≠ gb124) ∧ (gb125 ≠ s_.2) ∧ (s_.2 ≠ gb125) ∧ (gb126 ≠ s_.2) ∧ (s_.2 ≠ gb126) ∧ (Below w.heap.size w w')) ?_ ?_
    rotate_left
    ·intro hJ2_6_7
     refine join_ (σ := Unit) 4 #[true, true, true, true, true, true, false, false, false, false] (fun s_ => [(13, .agg #[.int .i64 t127, .int .u32 t128]), (16, .agg #[.int .i64 t129, .int .u32 t130])]) (fun s_ w' => (w'.cell? ⟨gb124, 0, none⟩ = some (.int .i64 a0_0) ∧ w'.cell? ⟨gb124, 1, none⟩ = some (.int .u32 a0_1) ∧ w'.cell? ⟨gb125, 0, none⟩ = some (.int .i64 a1_0) ∧ w'.cell? ⟨gb125, 1, none⟩ = some (.int .u32 a1_1)) ∧ (w'.heap[gb124]? = some (.cells #[.int .i64 a0_0, .int .u32 a0_1] 24 (0, 0))) ∧ (w'.heap[gb125]? = some (.cells #[.int .i64 a1_0, .int .u32 a1_1] 24 (0, 0))) ∧ (w'.heap[gb126]? = some (.cells #[.int .i64 a2_0, .int .u32 a2_1] 24 (0, 0))) ∧ (Below w.heap.size w w')) ?_ ?_
     rotate_left
     ·intro hJ2_5
      refine join_ (σ := Nat) 4 #[true, true, true, true, true, false, true, false, false, false] (fun s_ => [(13, .agg #[.int .i64 t127, .int .u32 t128]), (7, .pointer (some ⟨s_, 0, none⟩))]) (fun s_ w' => (w'.cell? ⟨gb124, 0, none⟩ = some (.int .i64 a0_0) ∧ w'.cell? ⟨gb124, 1, none⟩ = some (.int .u32 a0_1) ∧ w'.cell? ⟨gb125, 0, none⟩ = some (.int .i64 a1_0) ∧ w'.cell? ⟨gb125, 1, none⟩ = some (.int .u32 a1_1)) ∧ (w'.heap[gb124]? = some (.cells #[.int .i64 a0_0, .int .u32 a0_1] 24 (0, 0))) ∧ (w'.heap[gb125]? = some (.cells #[.int .i64 a1_0, .int .u32 a1_1] 24 (0, 0))) ∧ (w'.heap[gb126]? = some (.cells #[.int .i64 a2_0, .int .u32 a2_1] 24 (0, 0))) ∧ (w'.heap[s_]? = some (.cells #[.int .i64 0, .int .u32 0] 24 (0, 0))) ∧ (w.heap.size ≤ s_) ∧ (w.heap.size ≤ s_) ∧ (gb124 ≠ s_) ∧ (s_ ≠ gb124) ∧ (gb125 ≠ s_) ∧ (s_ ≠ gb125) ∧ (gb126 ≠ s_) ∧ (s_ ≠ gb126) ∧ (Below w.heap.size w w')) ?_ ?_
      rotate_left
      ·intro hJ2_6
       refine join_ (σ := Nat) 4 #[true, true, true, true, true, false, false, true, false, false] (fun s_ => [(13, .agg #[.int .i64 t127, .int .u32 t128]), (8, .pointer (some ⟨s_, 0, none⟩))]) (fun s_ w' => (w'.cell? ⟨gb124, 0, none⟩ = some (.int .i64 a0_0) ∧ w'.cell? ⟨gb124, 1, none⟩ = some (.int .u32 a0_1) ∧ w'.cell? ⟨gb125, 0, none⟩ = some (.int .i64 a1_0) ∧ w'.cell? ⟨gb125, 1, none⟩ = some (.int .u32 a1_1)) ∧ (w'.heap[gb124]? = some (.cells #[.int .i64 a0_0, .int .u32 a0_1] 24 (0, 0))) ∧ (w'.heap[gb125]? = some (.cells #[.int .i64 a1_0, .int .u32 a1_1] 24 (0, 0))) ∧ (w'.heap[gb126]? = some (.cells #[.int .i64 a2_0, .int .u32 a2_1] 24 (0, 0))) ∧ (w'.heap[s_]? = some (.cells #[.int .i64 0, .int .u32 0] 24 (0, 0))) ∧ (w.heap.size ≤ s_) ∧ (w.heap.size ≤ s_) ∧ (gb124 ≠ s_) ∧ (s_ ≠ gb124) ∧ (gb125 ≠ s_) ∧ (s_ ≠ gb125) ∧ (gb126 ≠ s_) ∧ (s_ ≠ gb126) ∧ (Below w.heap.size w w')) ?_ ?_
       rotate_left
       ·intro hJ2_7
        refine join_ (σ := Nat × Nat) 4 #[true, true, false, true, true, false, true, true, false, false] (fun s_ => [(7, .pointer (some ⟨s_.1, 0, none⟩)), (8, .pointer (some ⟨s_.2, 0, none⟩))]) (fun s_ w' => (w'.cell? ⟨gb124, 0, none⟩ = some (.int .i64 a0_0) ∧ w'.cell? ⟨gb124, 1, none⟩ = some (.int .u32 a0_1) ∧ w'.cell? ⟨gb125, 0, none⟩ = some (.int .i64 a1_0) ∧ w'.cell? ⟨gb125, 1, none⟩ = some (.int .u32 a1_1)) ∧ (w'.heap[gb124]? = some (.cells #[.int .i64 a0_0, .int .u32 a0_1] 24 (0, 0))) ∧ (w'.heap[gb125]? = some (.cells #[.int .i64 a1_0, .int .u32 a1_1] 24 (0, 0))) ∧ (w'.heap[gb126]? = some (.cells #[.int .i64 a2_0, .int .u32 a2_1] 24 (0, 0))) ∧ (w'.heap[s_.1]? = some (.cells #[.int .i64 0, .int .u32 0] 24 (0, 0))) ∧ (w'.heap[s_.2]? = some (.cells #[.int .i64 0, .int .u32 0] 24 (0, 0))) ∧ (w.heap.size ≤ s_.1) ∧ (w.heap.size ≤ s_.1) ∧ (gb124 ≠ s_.1) ∧ (s_.1 ≠ gb124) ∧ (gb125 ≠ s_.1) ∧ (s_.1 ≠ gb125) ∧ (gb126 ≠ s_.1) ∧ (s_.1 ≠ gb126) ∧ (s_.2 ≠ s_.1) ∧ (s_.1 ≠ s_.2) ∧ (w.heap.size ≤ s_.2) ∧ (w.heap.size ≤ s_.2) ∧ (gb124 ≠ s_.2) ∧ (s_.2 ≠ gb124) ∧ (gb125 ≠ s_.2) ∧ (s_.2 ≠ gb125) ∧ (gb126 ≠ s_.2) ∧ (s_.2 ≠ gb126) ∧ (Below w.heap.size w w')) ?_ ?_
        rotate_left
        ·intro hJ6_7
         refine join_ (σ := Unit) 5 #[true, true, true, true, true, false, false, false, false, false] (fun s_ => [(13, .agg #[.int .i64 t127, .int .u32 t128])]) (fun s_ w' => (w'.cell? ⟨gb124, 0, none⟩ = some (.int .i64 a0_0) ∧ w'.cell? ⟨gb124, 1, none⟩ = some (.int .u32 a0_1) ∧ w'.cell? ⟨gb125, 0, none⟩ = some (.int .i64 a1_0) ∧ w'.cell? ⟨gb125, 1, none⟩ = some (.int .u32 a1_1)) ∧ (w'.heap[gb124]? = some (.cells #[.int .i64 a0_0, .int .u32 a0_1] 24 (0, 0))) ∧ (w'.heap[gb125]? = some (.cells #[.int .i64 a1_0, .int .u32 a1_1] 24 (0, 0))) ∧ (w'.heap[gb126]? = some (.cells #[.int .i64 a2_0, .int .u32 a2_1] 24 (0, 0))) ∧ (Below w.heap.size w w')) ?_ ?_
         rotate_left
         ·intro hJ2
          refine join_ (σ := Nat) 5 #[true, true, false, true, true, false, true, false, false, false] (fun s_ => [(7, .pointer (some ⟨s_, 0, none⟩))]) (fun s_ w' => (w'.cell? ⟨gb124, 0, none⟩ = some (.int .i64 a0_0) ∧ w'.cell? ⟨gb124, 1, none⟩ = some (.int .u32 a0_1) ∧ w'.cell? ⟨gb125, 0, none⟩ = some (.int .i64 a1_0) ∧ w'.cell? ⟨gb125, 1, none⟩ = some (.int .u32 a1_1)) ∧ (w'.heap[gb124]? = some (.cells #[.int .i64 a0_0, .int .u32 a0_1] 24 (0, 0))) ∧ (w'.heap[gb125]? = some (.cells #[.int .i64 a1_0, .int .u32 a1_1] 24 (0, 0))) ∧ (w'.heap[gb126]? = some (.cells #[.int .i64 a2_0, .int .u32 a2_1] 24 (0, 0))) ∧ (w'.heap[s_]? = some (.cells #[.int .i64 0, .int .u32 0] 24 (0, 0))) ∧ (w.heap.size ≤ s_) ∧ (w.heap.size ≤ s_) ∧ (gb124 ≠ s_) ∧ (s_ ≠ gb124) ∧ (gb125 ≠ s_) ∧ (s_ ≠ gb125) ∧ (gb126 ≠ s_) ∧ (s_ ≠ gb126) ∧ (Below w.heap.size w w')) ?_ ?_
          rotate_left
          ·intro hJ6
           refine join_ (σ := Nat) 5 #[true, true, false, true, true, false, false, true, false, false] (fun s_ => [(8, .pointer (some ⟨s_, 0, none⟩))]) (fun s_ w' => (w'.cell? ⟨gb124, 0, none⟩ = some (.int .i64 a0_0) ∧ w'.cell? ⟨gb124, 1, none⟩ = some (.int .u32 a0_1) ∧ w'.cell? ⟨gb125, 0, none⟩ = some (.int .i64 a1_0) ∧ w'.cell? ⟨gb125, 1, none⟩ = some (.int .u32 a1_1)) ∧ (w'.heap[gb124]? = some (.cells #[.int .i64 a0_0, .int .u32 a0_1] 24 (0, 0))) ∧ (w'.heap[gb125]? = some (.cells #[.int .i64 a1_0, .int .u32 a1_1] 24 (0, 0))) ∧ (w'.heap[gb126]? = some (.cells #[.int .i64 a2_0, .int .u32 a2_1] 24 (0, 0))) ∧ (w'.heap[s_]? = some (.cells #[.int .i64 0, .int .u32 0] 24 (0, 0))) ∧ (w.heap.size ≤ s_) ∧ (w.heap.size ≤ s_) ∧ (gb124 ≠ s_) ∧ (s_ ≠ gb124) ∧ (gb125 ≠ s_) ∧ (s_ ≠ gb125) ∧ (gb126 ≠ s_) ∧ (s_ ≠ gb126) ∧ (Below w.heap.size w w')) ?_ ?_
           rotate_left
           ·intro hJ7
            refine three_ (i := 2) (j := 6) (k := 7) (Ni := some 13) (Nj := some 7) (Nk := some 8) #[true, true, true, true, true, false, false, false, false, false] #[true, true, false, true, true, false, true, false, false, false] #[true, true, false, true, true, false, false, true, false, false] rfl rfl rfl rfl rfl rfl (three_of HT_.out (by kernel_rfl)) (by decide) (by decide) (by decide) (fun K hK => ?_) (fun K hK => ?_) (fun K hK => ?_)
            ·skip
             refine goes_ Tryd.func15 (by kernel_rfl) rfl #[.agg #[.int .i64 a0_0, .int .u32 a0_1], .agg #[.int .i64 a1_0, .int .u32 a1_1]] (by rfl) rfl rfl (by (try simp only [List.map_toArray, List.map_cons, List.map_nil]); first | done | rfl | (simp only [List.length_drop, List.length_take]; rfl)) ?_
             with_reducible refine (label_Join.calls a0_0 a0_1 a1_0 a1_1 t127 t128 _ A4.out).mono ?_
             rintro e w11 ⟨rfl, hb⟩
             refine ⟨_, rfl, ?_⟩
             have n0_ := Aside0.mk (blk_below (g := gb124) (o := .cells #[.int .i64 a0_0, .int .u32 a0_1] 24 (0, 0)) (bk_ BK124) hb)
             have n1_ := Aside0.mk (blk_below (g := gb125) (o := .cells #[.int .i64 a1_0, .int .u32 a1_1] 24 (0, 0)) (bk_ BK125) hb)
             have n2_ := Aside0.mk (blk_below (g := gb126) (o := .cells #[.int .i64 a2_0, .int .u32 a2_1] 24 (0, 0)) (bk_ BK126) hb)
             have n3_ := Aside0.mk (below_step (bh_ HB) hb)
             clear BK124
             clear BK125
             clear BK126
             clear HB
             have BK124 := n0_
             have BK125 := n1_
             have BK126 := n2_
             have HB := n3_
             clear n0_ n1_ n2_ n3_
             (try clear hb); (try clear hb2); (try clear hk); (try clear hi)
             refine hK.out _ _ ⟨(blk_cell BK124.out 0).trans rfl, (blk_cell BK124.out 1).trans rfl, (blk_cell BK125.out 0).trans rfl, (blk_cell BK125.out 1).trans rfl⟩ (fun hHeld => ?_)
             clear hK K
             refine norm_ (a' := ?_) ?_ ?_
             rotate_left
             ·show Act.put _ (some 13) _ = _
              simp only [Act.put, List.setIfInBounds_toArray, List.set_cons_zero, List.set_cons_succ, i64_w, i32_w]
              rfl
             exact norm_ (by first | (simp only [putAll, Act.put, List.setIfInBounds_toArray, List.set_cons_zero, List.set_cons_succ]; done) | (simp only [putAll, Act.put, List.setIfInBounds_toArray, List.set_cons_zero, List.set_cons_succ]; rfl)) (hJ2 () _ ⟨hHeld, (bk_ BK124), (bk_ BK125), (bk_ BK126), (bh_ HB)⟩)
            ·skip
             refine box_step ?hg (N := 7) ?hd (cs := #[.int .i64 0, .int .u32 0]) (t := 24) ?hr ?_; (case hd => rfl); (case hg => rfl); (case hr => first | (go_simp; done) | (go_simp; rfl))
             intro gb131 hg w11 hbox hb
             have n0_ := Aside0.mk (blk_below (g := gb124) (o := .cells #[.int .i64 a0_0, .int .u32 a0_1] 24 (0, 0)) (bk_ BK124) hb)
             have n1_ := Aside0.mk (blk_below (g := gb125) (o := .cells #[.int .i64 a1_0, .int .u32 a1_1] 24 (0, 0)) (bk_ BK125) hb)
             have n2_ := Aside0.mk (blk_below (g := gb126) (o := .cells #[.int .i64 a2_0, .int .u32 a2_1] 24 (0, 0)) (bk_ BK126) hb)
             have n3_ := Aside0.mk (below_step (bh_ HB) hb)
             have n4_ := Aside0.mk (hbox)
             have n5_ := Aside0.mk ((by rw [hg]; exact (below_size (bh_ HB)) : w.heap.size ≤ gb131))
             have n6_ := Aside0.mk ((by rw [hg]; exact (below_size (bh_ HB)) : w.heap.size ≤ gb131))
             have n7_ := Aside0.mk ((by rw [hg]; exact Nat.ne_of_lt (blk_lt (g := gb124) (o := .cells #[.int .i64 a0_0, .int .u32 a0_1] 24 (0, 0)) (bk_ BK124)) : gb124 ≠ gb131))
             have n8_ := Aside0.mk ((by rw [hg]; exact Nat.ne_of_gt (blk_lt (g := gb124) (o := .cells #[.int .i64 a0_0, .int .u32 a0_1] 24 (0, 0)) (bk_ BK124)) : gb131 ≠ gb124))
             have n9_ := Aside0.mk ((by rw [hg]; exact Nat.ne_of_lt (blk_lt (g := gb125) (o := .cells #[.int .i64 a1_0, .int .u32 a1_1] 24 (0, 0)) (bk_ BK125)) : gb125 ≠ gb131))
             have n10_ := Aside0.mk ((by rw [hg]; exact Nat.ne_of_gt (blk_lt (g := gb125) (o := .cells #[.int .i64 a1_0, .int .u32 a1_1] 24 (0, 0)) (bk_ BK125)) : gb131 ≠ gb125))
             have n11_ := Aside0.mk ((by rw [hg]; exact Nat.ne_of_lt (blk_lt (g := gb126) (o := .cells #[.int .i64 a2_0, .int .u32 a2_1] 24 (0, 0)) (bk_ BK126)) : gb126 ≠ gb131))
             have n12_ := Aside0.mk ((by rw [hg]; exact Nat.ne_of_gt (blk_lt (g := gb126) (o := .cells #[.int .i64 a2_0, .int .u32 a2_1] 24 (0, 0)) (bk_ BK126)) : gb131 ≠ gb126))
             clear BK124
             clear BK125
             clear BK126
             clear HB
             have BK124 := n0_
             have BK125 := n1_
             have BK126 := n2_
             have HB := n3_
             have BK131 := n4_
             have GW131 := n5_
             have GE131 := n6_
             have NB124_131 := n7_
             have NB131_124 := n8_
             have NB125_131 := n9_
             have NB131_125 := n10_
             have NB126_131 := n11_
             have NB131_126 := n12_
             clear n0_ n1_ n2_ n3_ n4_ n5_ n6_ n7_ n8_ n9_ n10_ n11_ n12_
             clear hb hbox hg
             refine hK.out _ _ ⟨(blk_cell BK124.out 0).trans rfl, (blk_cell BK124.out 1).trans rfl, (blk_cell BK125.out 0).trans rfl, (blk_cell BK125.out 1).trans rfl⟩ (fun hHeld => ?_)
             clear hK K
             refine norm_ (a' := ?_) ?_ ?_
             rotate_left
             ·show Act.put _ (some 7) _ = _
              simp only [Act.put, List.setIfInBounds_toArray, List.set_cons_zero, List.set_cons_succ, i64_w, i32_w]
              rfl
             exact norm_ (by first | (simp only [putAll, Act.put, List.setIfInBounds_toArray, List.set_cons_zero, List.set_cons_succ]; done) | (simp only [putAll, Act.put, List.setIfInBounds_toArray, List.set_cons_zero, List.set_cons_succ]; rfl)) (hJ6 (gb131) _ ⟨hHeld, (bk_ BK124), (bk_ BK125), (bk_ BK126), (bk_ BK131), GW131.out, GE131.out, NB124_131.out, NB131_124.out, NB125_131.out, NB131_125.out, NB126_131.out, NB131_126.out, (bh_ HB)⟩)
            ·skip
             refine box_step ?hg (N := 8) ?hd (cs := #[.int .i64 0, .int .u32 0]) (t := 24) ?hr ?_; (case hd => rfl); (case hg => rfl); (case hr => first | (go_simp; done) | (go_simp; rfl))
             intro gb132 hg w11 hbox hb
             have n0_ := Aside0.mk (blk_below (g := gb124) (o := .cells #[.int .i64 a0_0, .int .u32 a0_1] 24 (0, 0)) (bk_ BK124) hb)
             have n1_ := Aside0.mk (blk_below (g := gb125) (o := .cells #[.int .i64 a1_0, .int .u32 a1_1] 24 (0, 0)) (bk_ BK125) hb)
             have n2_ := Aside0.mk (blk_below (g := gb126) (o := .cells #[.int .i64 a2_0, .int .u32 a2_1] 24 (0, 0)) (bk_ BK126) hb)
             have n3_ := Aside0.mk (below_step (bh_ HB) hb)
             have n4_ := Aside0.mk (hbox)
             have n5_ := Aside0.mk ((by rw [hg]; exact (below_size (bh_ HB)) : w.heap.size ≤ gb132))
             have n6_ := Aside0.mk ((by rw [hg]; exact (below_size (bh_ HB)) : w.heap.size ≤ gb132))
             have n7_ := Aside0.mk ((by rw [hg]; exact Nat.ne_of_lt (blk_lt (g := gb124) (o := .cells #[.int .i64 a0_0, .int .u32 a0_1] 24 (0, 0)) (bk_ BK124)) : gb124 ≠ gb132))
             have n8_ := Aside0.mk ((by rw [hg]; exact Nat.ne_of_gt (blk_lt (g := gb124) (o := .cells #[.int .i64 a0_0, .int .u32 a0_1] 24 (0, 0)) (bk_ BK124)) : gb132 ≠ gb124))
             have n9_ := Aside0.mk ((by rw [hg]; exact Nat.ne_of_lt (blk_lt (g := gb125) (o := .cells #[.int .i64 a1_0, .int .u32 a1_1] 24 (0, 0)) (bk_ BK125)) : gb125 ≠ gb132))
             have n10_ := Aside0.mk ((by rw [hg]; exact Nat.ne_of_gt (blk_lt (g := gb125) (o := .cells #[.int .i64 a1_0, .int .u32 a1_1] 24 (0, 0)) (bk_ BK125)) : gb132 ≠ gb125))
             have n11_ := Aside0.mk ((by rw [hg]; exact Nat.ne_of_lt (blk_lt (g := gb126) (o := .cells #[.int .i64 a2_0, .int .u32 a2_1] 24 (0, 0)) (bk_ BK126)) : gb126 ≠ gb132))
             have n12_ := Aside0.mk ((by rw [hg]; exact Nat.ne_of_gt (blk_lt (g := gb126) (o := .cells #[.int .i64 a2_0, .int .u32 a2_1] 24 (0, 0)) (bk_ BK126)) : gb132 ≠ gb126))
             clear BK124
             clear BK125
             clear BK126
             clear HB
             have BK124 := n0_
             have BK125 := n1_
             have BK126 := n2_
             have HB := n3_
             have BK132 := n4_
             have GW132 := n5_
             have GE132 := n6_
             have NB124_132 := n7_
             have NB132_124 := n8_
             have NB125_132 := n9_
             have NB132_125 := n10_
             have NB126_132 := n11_
             have NB132_126 := n12_
             clear n0_ n1_ n2_ n3_ n4_ n5_ n6_ n7_ n8_ n9_ n10_ n11_ n12_
             clear hb hbox hg
             refine hK.out _ _ ⟨(blk_cell BK124.out 0).trans rfl, (blk_cell BK124.out 1).trans rfl, (blk_cell BK125.out 0).trans rfl, (blk_cell BK125.out 1).trans rfl⟩ (fun hHeld => ?_)
             clear hK K
             refine norm_ (a' := ?_) ?_ ?_
             rotate_left
             ·show Act.put _ (some 8) _ = _
              simp only [Act.put, List.setIfInBounds_toArray, List.set_cons_zero, List.set_cons_succ, i64_w, i32_w]
              rfl
             exact norm_ (by first | (simp only [putAll, Act.put, List.setIfInBounds_toArray, List.set_cons_zero, List.set_cons_succ]; done) | (simp only [putAll, Act.put, List.setIfInBounds_toArray, List.set_cons_zero, List.set_cons_succ]; rfl)) (hJ7 (gb132) _ ⟨hHeld, (bk_ BK124), (bk_ BK125), (bk_ BK126), (bk_ BK132), GW132.out, GE132.out, NB124_132.out, NB132_124.out, NB125_132.out, NB132_125.out, NB126_132.out, NB132_126.out, (bh_ HB)⟩)
           ·skip
            rintro gb132 w12 ⟨hS_, h0_, h1_, h2_, h3_, h4_, h5_, h6_, h7_, h8_, h9_, h10_, h11_, h12_⟩
            have n0_ : Aside0 (w12.heap[gb124]? = some (.cells #[.int .i64 a0_0, .int .u32 a0_1] 24 (0, 0))) := ⟨h0_⟩
            have n1_ : Aside0 (w12.heap[gb125]? = some (.cells #[.int .i64 a1_0, .int .u32 a1_1] 24 (0, 0))) := ⟨h1_⟩
            have n2_ : Aside0 (w12.heap[gb126]? = some (.cells #[.int .i64 a2_0, .int .u32 a2_1] 24 (0, 0))) := ⟨h2_⟩
            have n3_ : Aside0 (w12.heap[gb132]? = some (.cells #[.int .i64 0, .int .u32 0] 24 (0, 0))) := ⟨h3_⟩
            have n4_ : Aside0 (w.heap.size ≤ gb132) := ⟨h4_⟩
            have n5_ : Aside0 (w.heap.size ≤ gb132) := ⟨h5_⟩
            have n6_ : Aside0 (gb124 ≠ gb132) := ⟨h6_⟩
            have n7_ : Aside0 (gb132 ≠ gb124) := ⟨h7_⟩
            have n8_ : Aside0 (gb125 ≠ gb132) := ⟨h8_⟩
            have n9_ : Aside0 (gb132 ≠ gb125) := ⟨h9_⟩
            have n10_ : Aside0 (gb126 ≠ gb132) := ⟨h10_⟩
            have n11_ : Aside0 (gb132 ≠ gb126) := ⟨h11_⟩
            have n12_ : Aside0 (Below w.heap.size w w12) := ⟨h12_⟩
            clear BK124
            clear BK125
            clear BK126
            clear HB
            clear h0_ h1_ h2_ h3_ h4_ h5_ h6_ h7_ h8_ h9_ h10_ h11_ h12_
            have BK124 := n0_
            have BK125 := n1_
            have BK126 := n2_
            have BK132 := n3_
            have GW132 := n4_
            have GE132 := n5_
            have NB124_132 := n6_
            have NB132_124 := n7_
            have NB125_132 := n8_
            have NB132_125 := n9_
            have NB126_132 := n10_
            have NB132_126 := n11_
            have HB := n12_
            clear n0_ n1_ n2_ n3_ n4_ n5_ n6_ n7_ n8_ n9_ n10_ n11_ n12_
            have hHeld : w12.cell? ⟨gb124, 0, none⟩ = some (.int .i64 a0_0) ∧ w12.cell? ⟨gb124, 1, none⟩ = some (.int .u32 a0_1) ∧ w12.cell? ⟨gb125, 0, none⟩ = some (.int .i64 a1_0) ∧ w12.cell? ⟨gb125, 1, none⟩ = some (.int .u32 a1_1) := hS_
            refine norm_ (a' := ?_) ?_ ?_
            rotate_left
            ·simp only [putAll, Act.put, List.setIfInBounds_toArray, List.set_cons_zero, List.set_cons_succ]
             rfl
            refine two_ (i := 2) (j := 6) (Ni := some 13) (Nj := some 7) #[true, true, true, true, true, false, false, true, false, false] #[true, true, false, true, true, false, true, true, false, false] rfl rfl rfl rfl (two_of HT_.out (by kernel_rfl)) (by decide) (by decide) (fun K hK => ?_) (fun K hK => ?_)
            ·skip
             refine goes_ Tryd.func15 (by kernel_rfl) rfl #[.agg #[.int .i64 a0_0, .int .u32 a0_1], .agg #[.int .i64 a1_0, .int .u32 a1_1]] (by rfl) rfl rfl (by (try simp only [List.map_toArray, List.map_cons, List.map_nil]); first | done | rfl | (simp only [List.length_drop, List.length_take]; rfl)) ?_
             with_reducible refine (label_Join.calls a0_0 a0_1 a1_0 a1_1 t127 t128 _ A4.out).mono ?_
             rintro e w13 ⟨rfl, hb⟩
             refine ⟨_, rfl, ?_⟩
             have n0_ := Aside0.mk (blk_below (g := gb124) (o := .cells #[.int .i64 a0_0, .int .u32 a0_1] 24 (0, 0)) (bk_ BK124) hb)
             have n1_ := Aside0.mk (blk_below (g := gb125) (o := .cells #[.int .i64 a1_0, .int .u32 a1_1] 24 (0, 0)) (bk_ BK125) hb)
             have n2_ := Aside0.mk (blk_below (g := gb126) (o := .cells #[.int .i64 a2_0, .int .u32 a2_1] 24 (0, 0)) (bk_ BK126) hb)
             have n3_ := Aside0.mk (blk_below (g := gb132) (o := .cells #[.int .i64 0, .int .u32 0] 24 (0, 0)) (bk_ BK132) hb)
             have n4_ := Aside0.mk (below_step (bh_ HB) hb)
             clear BK124
             clear BK125
             clear BK126
             clear BK132
             clear HB
             have BK124 := n0_
             have BK125 := n1_
             have BK126 := n2_
             have BK132 := n3_
             have HB := n4_
             clear n0_ n1_ n2_ n3_ n4_
             (try clear hb); (try clear hb2); (try clear hk); (try clear hi)
             refine hK.out _ _ ⟨(blk_cell BK124.out 0).trans rfl, (blk_cell BK124.out 1).trans rfl, (blk_cell BK125.out 0).trans rfl, (blk_cell BK125.out 1).trans rfl⟩ (fun hHeld => ?_)
             clear hK K
             refine norm_ (a' := ?_) ?_ ?_
             rotate_left
             ·show Act.put _ (some 13) _ = _
              simp only [Act.put, List.setIfInBounds_toArray, List.set_cons_zero, List.set_cons_succ, i64_w, i32_w]
              rfl
             exact norm_ (by first | (simp only [putAll, Act.put, List.setIfInBounds_toArray, List.set_cons_zero, List.set_cons_succ]; done) | (simp only [putAll, Act.put, List.setIfInBounds_toArray, List.set_cons_zero, List.set_cons_succ]; rfl)) (hJ2_7 (gb132) _ ⟨hHeld, (bk_ BK124), (bk_ BK125), (bk_ BK126), (bk_ BK132), GW132.out, GE132.out, NB124_132.out, NB132_124.out, NB125_132.out, NB132_125.out, NB126_132.out, NB132_126.out, (bh_ HB)⟩)
            ·skip
             refine box_step ?hg (N := 7) ?hd (cs := #[.int .i64 0, .int .u32 0]) (t := 24) ?hr ?_; (case hd => rfl); (case hg => rfl); (case hr => first | (go_simp; done) | (go_simp; rfl))
             intro gb131 hg w13 hbox hb
             have n0_ := Aside0.mk (blk_below (g := gb124) (o := .cells #[.int .i64 a0_0, .int .u32 a0_1] 24 (0, 0)) (bk_ BK124) hb)
             have n1_ := Aside0.mk (blk_below (g := gb125) (o := .cells #[.int .i64 a1_0, .int .u32 a1_1] 24 (0, 0)) (bk_ BK125) hb)
             have n2_ := Aside0.mk (blk_below (g := gb126) (o := .cells #[.int .i64 a2_0, .int .u32 a2_1] 24 (0, 0)) (bk_ BK126) hb)
             have n3_ := Aside0.mk (blk_below (g := gb132) (o := .cells #[.int .i64 0, .int .u32 0] 24 (0, 0)) (bk_ BK132) hb)
             have n4_ := Aside0.mk (below_step (bh_ HB) hb)
             have n5_ := Aside0.mk (hbox)
             have n6_ := Aside0.mk ((by rw [hg]; exact (below_size (bh_ HB)) : w.heap.size ≤ gb131))
             have n7_ := Aside0.mk ((by rw [hg]; exact (below_size (bh_ HB)) : w.heap.size ≤ gb131))
             have n8_ := Aside0.mk ((by rw [hg]; exact Nat.ne_of_lt (blk_lt (g := gb124) (o := .cells #[.int .i64 a0_0, .int .u32 a0_1] 24 (0, 0)) (bk_ BK124)) : gb124 ≠ gb131))
             have n9_ := Aside0.mk ((by rw [hg]; exact Nat.ne_of_gt (blk_lt (g := gb124) (o := .cells #[.int .i64 a0_0, .int .u32 a0_1] 24 (0, 0)) (bk_ BK124)) : gb131 ≠ gb124))
             have n10_ := Aside0.mk ((by rw [hg]; exact Nat.ne_of_lt (blk_lt (g := gb125) (o := .cells #[.int .i64 a1_0, .int .u32 a1_1] 24 (0, 0)) (bk_ BK125)) : gb125 ≠ gb131))
             have n11_ := Aside0.mk ((by rw [hg]; exact Nat.ne_of_gt (blk_lt (g := gb125) (o := .cells #[.int .i64 a1_0, .int .u32 a1_1] 24 (0, 0)) (bk_ BK125)) : gb131 ≠ gb125))
             have n12_ := Aside0.mk ((by rw [hg]; exact Nat.ne_of_lt (blk_lt (g := gb126) (o := .cells #[.int .i64 a2_0, .int .u32 a2_1] 24 (0, 0)) (bk_ BK126)) : gb126 ≠ gb131))
             have n13_ := Aside0.mk ((by rw [hg]; exact Nat.ne_of_gt (blk_lt (g := gb126) (o := .cells #[.int .i64 a2_0, .int .u32 a2_1] 24 (0, 0)) (bk_ BK126)) : gb131 ≠ gb126))
             have n14_ := Aside0.mk ((by rw [hg]; exact Nat.ne_of_lt (blk_lt (g := gb132) (o := .cells #[.int .i64 0, .int .u32 0] 24 (0, 0)) (bk_ BK132)) : gb132 ≠ gb131))
             have n15_ := Aside0.mk ((by rw [hg]; exact Nat.ne_of_gt (blk_lt (g := gb132) (o := .cells #[.int .i64 0, .int .u32 0] 24 (0, 0)) (bk_ BK132)) : gb131 ≠ gb132))
             clear BK124
             clear BK125
             clear BK126
             clear BK132
             clear HB
             have BK124 := n0_
             have BK125 := n1_
             have BK126 := n2_
             have BK132 := n3_
             have HB := n4_
             have BK131 := n5_
             have GW131 := n6_
             have GE131 := n7_
             have NB124_131 := n8_
             have NB131_124 := n9_
             have NB125_131 := n10_
             have NB131_125 := n11_
             have NB126_131 := n12_
             have NB131_126 := n13_
             have NB132_131 := n14_
             have NB131_132 := n15_
             clear n0_ n1_ n2_ n3_ n4_ n5_ n6_ n7_ n8_ n9_ n10_ n11_ n12_ n13_ n14_ n15_
             clear hb hbox hg
             refine hK.out _ _ ⟨(blk_cell BK124.out 0).trans rfl, (blk_cell BK124.out 1).trans rfl, (blk_cell BK125.out 0).trans rfl, (blk_cell BK125.out 1).trans rfl⟩ (fun hHeld => ?_)
             clear hK K
             refine norm_ (a' := ?_) ?_ ?_
             rotate_left
             ·show Act.put _ (some 7) _ = _
              simp only [Act.put, List.setIfInBounds_toArray, List.set_cons_zero, List.set_cons_succ, i64_w, i32_w]
              rfl
             exact norm_ (by first | (simp only [putAll, Act.put, List.setIfInBounds_toArray, List.set_cons_zero, List.set_cons_succ]; done) | (simp only [putAll, Act.put, List.setIfInBounds_toArray, List.set_cons_zero, List.set_cons_succ]; rfl)) (hJ6_7 (gb131, gb132) _ ⟨hHeld, (bk_ BK124), (bk_ BK125), (bk_ BK126), (bk_ BK131), (bk_ BK132), GW131.out, GE131.out, NB124_131.out, NB131_124.out, NB125_131.out, NB131_125.out, NB126_131.out, NB131_126.out, NB132_131.out, NB131_132.out, GW132.out, GE132.out, NB124_132.out, NB132_124.out, NB125_132.out, NB132_125.out, NB126_132.out, NB132_126.out, (bh_ HB)⟩)
          ·skip
           rintro gb131 w12 ⟨hS_, h0_, h1_, h2_, h3_, h4_, h5_, h6_, h7_, h8_, h9_, h10_, h11_, h12_⟩
           have n0_ : Aside0 (w12.heap[gb124]? = some (.cells #[.int .i64 a0_0, .int .u32 a0_1] 24 (0, 0))) := ⟨h0_⟩
           have n1_ : Aside0 (w12.heap[gb125]? = some (.cells #[.int .i64 a1_0, .int .u32 a1_1] 24 (0, 0))) := ⟨h1_⟩
           have n2_ : Aside0 (w12.heap[gb126]? = some (.cells #[.int .i64 a2_0, .int .u32 a2_1] 24 (0, 0))) := ⟨h2_⟩
           have n3_ : Aside0 (w12.heap[gb131]? = some (.cells #[.int .i64 0, .int .u32 0] 24 (0, 0))) := ⟨h3_⟩
           have n4_ : Aside0 (w.heap.size ≤ gb131) := ⟨h4_⟩
           have n5_ : Aside0 (w.heap.size ≤ gb131) := ⟨h5_⟩
           have n6_ : Aside0 (gb124 ≠ gb131) := ⟨h6_⟩
           have n7_ : Aside0 (gb131 ≠ gb124) := ⟨h7_⟩
           have n8_ : Aside0 (gb125 ≠ gb131) := ⟨h8_⟩
           have n9_ : Aside0 (gb131 ≠ gb125) := ⟨h9_⟩
           have n10_ : Aside0 (gb126 ≠ gb131) := ⟨h10_⟩
           have n11_ : Aside0 (gb131 ≠ gb126) := ⟨h11_⟩
           have n12_ : Aside0 (Below w.heap.size w w12) := ⟨h12_⟩
           clear BK124
           clear BK125
           clear BK126
           clear HB
           clear h0_ h1_ h2_ h3_ h4_ h5_ h6_ h7_ h8_ h9_ h10_ h11_ h12_
           have BK124 := n0_
           have BK125 := n1_
           have BK126 := n2_
           have BK131 := n3_
           have GW131 := n4_
           have GE131 := n5_
           have NB124_131 := n6_
           have NB131_124 := n7_
           have NB125_131 := n8_
           have NB131_125 := n9_
           have NB126_131 := n10_
           have NB131_126 := n11_
           have HB := n12_
           clear n0_ n1_ n2_ n3_ n4_ n5_ n6_ n7_ n8_ n9_ n10_ n11_ n12_
           have hHeld : w12.cell? ⟨gb124, 0, none⟩ = some (.int .i64 a0_0) ∧ w12.cell? ⟨gb124, 1, none⟩ = some (.int .u32 a0_1) ∧ w12.cell? ⟨gb125, 0, none⟩ = some (.int .i64 a1_0) ∧ w12.cell? ⟨gb125, 1, none⟩ = some (.int .u32 a1_1) := hS_
           refine norm_ (a' := ?_) ?_ ?_
           rotate_left
           ·simp only [putAll, Act.put, List.setIfInBounds_toArray, List.set_cons_zero, List.set_cons_succ]
            rfl
           refine two_ (i := 2) (j := 7) (Ni := some 13) (Nj := some 8) #[true, true, true, true, true, false, true, false, false, false] #[true, true, false, true, true, false, true, true, false, false] rfl rfl rfl rfl (two_of HT_.out (by kernel_rfl)) (by decide) (by decide) (fun K hK => ?_) (fun K hK => ?_)
           ·skip
            refine goes_ Tryd.func15 (by kernel_rfl) rfl #[.agg #[.int .i64 a0_0, .int .u32 a0_1], .agg #[.int .i64 a1_0, .int .u32 a1_1]] (by rfl) rfl rfl (by (try simp only [List.map_toArray, List.map_cons, List.map_nil]); first | done | rfl | (simp only [List.length_drop, List.length_take]; rfl)) ?_
            with_reducible refine (label_Join.calls a0_0 a0_1 a1_0 a1_1 t127 t128 _ A4.out).mono ?_
            rintro e w13 ⟨rfl, hb⟩
            refine ⟨_, rfl, ?_⟩
            have n0_ := Aside0.mk (blk_below (g := gb124) (o := .cells #[.int .i64 a0_0, .int .u32 a0_1] 24 (0, 0)) (bk_ BK124) hb)
            have n1_ := Aside0.mk (blk_below (g := gb125) (o := .cells #[.int .i64 a1_0, .int .u32 a1_1] 24 (0, 0)) (bk_ BK125) hb)
            have n2_ := Aside0.mk (blk_below (g := gb126) (o := .cells #[.int .i64 a2_0, .int .u32 a2_1] 24 (0, 0)) (bk_ BK126) hb)
            have n3_ := Aside0.mk (blk_below (g := gb131) (o := .cells #[.int .i64 0, .int .u32 0] 24 (0, 0)) (bk_ BK131) hb)
            have n4_ := Aside0.mk (below_step (bh_ HB) hb)
            clear BK124
            clear BK125
            clear BK126
            clear BK131
            clear HB
            have BK124 := n0_
            have BK125 := n1_
            have BK126 := n2_
            have BK131 := n3_
            have HB := n4_
            clear n0_ n1_ n2_ n3_ n4_
            (try clear hb); (try clear hb2); (try clear hk); (try clear hi)
            refine hK.out _ _ ⟨(blk_cell BK124.out 0).trans rfl, (blk_cell BK124.out 1).trans rfl, (blk_cell BK125.out 0).trans rfl, (blk_cell BK125.out 1).trans rfl⟩ (fun hHeld => ?_)
            clear hK K
            refine norm_ (a' := ?_) ?_ ?_
            rotate_left
            ·show Act.put _ (some 13) _ = _
             simp only [Act.put, List.setIfInBounds_toArray, List.set_cons_zero, List.set_cons_succ, i64_w, i32_w]
             rfl
            exact norm_ (by first | (simp only [putAll, Act.put, List.setIfInBounds_toArray, List.set_cons_zero, List.set_cons_succ]; done) | (simp only [putAll, Act.put, List.setIfInBounds_toArray, List.set_cons_zero, List.set_cons_succ]; rfl)) (hJ2_6 (gb131) _ ⟨hHeld, (bk_ BK124), (bk_ BK125), (bk_ BK126), (bk_ BK131), GW131.out, GE131.out, NB124_131.out, NB131_124.out, NB125_131.out, NB131_125.out, NB126_131.out, NB131_126.out, (bh_ HB)⟩)
           ·skip
            refine box_step ?hg (N := 8) ?hd (cs := #[.int .i64 0, .int .u32 0]) (t := 24) ?hr ?_; (case hd => rfl); (case hg => rfl); (case hr => first | (go_simp; done) | (go_simp; rfl))
            intro gb132 hg w13 hbox hb
            have n0_ := Aside0.mk (blk_below (g := gb124) (o := .cells #[.int .i64 a0_0, .int .u32 a0_1] 24 (0, 0)) (bk_ BK124) hb)
            have n1_ := Aside0.mk (blk_below (g := gb125) (o := .cells #[.int .i64 a1_0, .int .u32 a1_1] 24 (0, 0)) (bk_ BK125) hb)
            have n2_ := Aside0.mk (blk_below (g := gb126) (o := .cells #[.int .i64 a2_0, .int .u32 a2_1] 24 (0, 0)) (bk_ BK126) hb)
            have n3_ := Aside0.mk (blk_below (g := gb131) (o := .cells #[.int .i64 0, .int .u32 0] 24 (0, 0)) (bk_ BK131) hb)
            have n4_ := Aside0.mk (below_step (bh_ HB) hb)
            have n5_ := Aside0.mk (hbox)
            have n6_ := Aside0.mk ((by rw [hg]; exact (below_size (bh_ HB)) : w.heap.size ≤ gb132))
            have n7_ := Aside0.mk ((by rw [hg]; exact (below_size (bh_ HB)) : w.heap.size ≤ gb132))
            have n8_ := Aside0.mk ((by rw [hg]; exact Nat.ne_of_lt (blk_lt (g := gb124) (o := .cells #[.int .i64 a0_0, .int .u32 a0_1] 24 (0, 0)) (bk_ BK124)) : gb124 ≠ gb132))
            have n9_ := Aside0.mk ((by rw [hg]; exact Nat.ne_of_gt (blk_lt (g := gb124) (o := .cells #[.int .i64 a0_0, .int .u32 a0_1] 24 (0, 0)) (bk_ BK124)) : gb132 ≠ gb124))
            have n10_ := Aside0.mk ((by rw [hg]; exact Nat.ne_of_lt (blk_lt (g := gb125) (o := .cells #[.int .i64 a1_0, .int .u32 a1_1] 24 (0, 0)) (bk_ BK125)) : gb125 ≠ gb132))
            have n11_ := Aside0.mk ((by rw [hg]; exact Nat.ne_of_gt (blk_lt (g := gb125) (o := .cells #[.int .i64 a1_0, .int .u32 a1_1] 24 (0, 0)) (bk_ BK125)) : gb132 ≠ gb125))
            have n12_ := Aside0.mk ((by rw [hg]; exact Nat.ne_of_lt (blk_lt (g := gb126) (o := .cells #[.int .i64 a2_0, .int .u32 a2_1] 24 (0, 0)) (bk_ BK126)) : gb126 ≠ gb132))
            have n13_ := Aside0.mk ((by rw [hg]; exact Nat.ne_of_gt (blk_lt (g := gb126) (o := .cells #[.int .i64 a2_0, .int .u32 a2_1] 24 (0, 0)) (bk_ BK126)) : gb132 ≠ gb126))
            have n14_ := Aside0.mk ((by rw [hg]; exact Nat.ne_of_lt (blk_lt (g := gb131) (o := .cells #[.int .i64 0, .int .u32 0] 24 (0, 0)) (bk_ BK131)) : gb131 ≠ gb132))
            have n15_ := Aside0.mk ((by rw [hg]; exact Nat.ne_of_gt (blk_lt (g := gb131) (o := .cells #[.int .i64 0, .int .u32 0] 24 (0, 0)) (bk_ BK131)) : gb132 ≠ gb131))
            clear BK124
            clear BK125
            clear BK126
            clear BK131
            clear HB
            have BK124 := n0_
            have BK125 := n1_
            have BK126 := n2_
            have BK131 := n3_
            have HB := n4_
            have BK132 := n5_
            have GW132 := n6_
            have GE132 := n7_
            have NB124_132 := n8_
            have NB132_124 := n9_
            have NB125_132 := n10_
            have NB132_125 := n11_
            have NB126_132 := n12_
            have NB132_126 := n13_
            have NB131_132 := n14_
            have NB132_131 := n15_
            clear n0_ n1_ n2_ n3_ n4_ n5_ n6_ n7_ n8_ n9_ n10_ n11_ n12_ n13_ n14_ n15_
            clear hb hbox hg
            refine hK.out _ _ ⟨(blk_cell BK124.out 0).trans rfl, (blk_cell BK124.out 1).trans rfl, (blk_cell BK125.out 0).trans rfl, (blk_cell BK125.out 1).trans rfl⟩ (fun hHeld => ?_)
            clear hK K
            refine norm_ (a' := ?_) ?_ ?_
            rotate_left
            ·show Act.put _ (some 8) _ = _
             simp only [Act.put, List.setIfInBounds_toArray, List.set_cons_zero, List.set_cons_succ, i64_w, i32_w]
             rfl
            exact norm_ (by first | (simp only [putAll, Act.put, List.setIfInBounds_toArray, List.set_cons_zero, List.set_cons_succ]; done) | (simp only [putAll, Act.put, List.setIfInBounds_toArray, List.set_cons_zero, List.set_cons_succ]; rfl)) (hJ6_7 (gb131, gb132) _ ⟨hHeld, (bk_ BK124), (bk_ BK125), (bk_ BK126), (bk_ BK131), (bk_ BK132), GW131.out, GE131.out, NB124_131.out, NB131_124.out, NB125_131.out, NB131_125.out, NB126_131.out, NB131_126.out, NB132_131.out, NB131_132.out, GW132.out, GE132.out, NB124_132.out, NB132_124.out, NB125_132.out, NB132_125.out, NB126_132.out, NB132_126.out, (bh_ HB)⟩)
         ·skip
          rintro _ w12 ⟨hS_, h0_, h1_, h2_, h3_⟩
          have n0_ : Aside0 (w12.heap[gb124]? = some (.cells #[.int .i64 a0_0, .int .u32 a0_1] 24 (0, 0))) := ⟨h0_⟩
          have n1_ : Aside0 (w12.heap[gb125]? = some (.cells #[.int .i64 a1_0, .int .u32 a1_1] 24 (0, 0))) := ⟨h1_⟩
          have n2_ : Aside0 (w12.heap[gb126]? = some (.cells #[.int .i64 a2_0, .int .u32 a2_1] 24 (0, 0))) := ⟨h2_⟩
          have n3_ : Aside0 (Below w.heap.size w w12) := ⟨h3_⟩
          clear BK124
          clear BK125
          clear BK126
          clear HB
          clear h0_ h1_ h2_ h3_
          have BK124 := n0_
          have BK125 := n1_
          have BK126 := n2_
          have HB := n3_
          clear n0_ n1_ n2_ n3_
          have hHeld : w12.cell? ⟨gb124, 0, none⟩ = some (.int .i64 a0_0) ∧ w12.cell? ⟨gb124, 1, none⟩ = some (.int .u32 a0_1) ∧ w12.cell? ⟨gb125, 0, none⟩ = some (.int .i64 a1_0) ∧ w12.cell? ⟨gb125, 1, none⟩ = some (.int .u32 a1_1) := hS_
          refine norm_ (a' := ?_) ?_ ?_
          rotate_left
          ·simp only [putAll, Act.put, List.setIfInBounds_toArray, List.set_cons_zero, List.set_cons_succ]
           rfl
          refine three_ (i := 5) (j := 6) (k := 7) (Ni := some 16) (Nj := some 7) (Nk := some 8) #[true, true, true, true, true, true, false, false, false, false] #[true, true, true, true, true, false, true, false, false, false] #[true, true, true, true, true, false, false, true, false, false] rfl rfl rfl rfl rfl rfl (three_of HT_.out (by kernel_rfl)) (by decide) (by decide) (by decide) (fun K hK => ?_) (fun K hK => ?_) (fun K hK => ?_)
          ·skip
           refine goes_ Tryd.func16 (by kernel_rfl) rfl #[.agg #[.int .i64 a0_0, .int .u32 a0_1], .agg #[.int .i64 a1_0, .int .u32 a1_1]] (by rfl) rfl rfl (by (try simp only [List.map_toArray, List.map_cons, List.map_nil]); first | done | rfl | (simp only [List.length_drop, List.length_take]; rfl)) ?_
           with_reducible refine (label_Meet.calls a0_0 a0_1 a1_0 a1_1 t129 t130 _ A5.out).mono ?_
           rintro e w13 ⟨rfl, hb⟩
           refine ⟨_, rfl, ?_⟩
           have n0_ := Aside0.mk (blk_below (g := gb124) (o := .cells #[.int .i64 a0_0, .int .u32 a0_1] 24 (0, 0)) (bk_ BK124) hb)
           have n1_ := Aside0.mk (blk_below (g := gb125) (o := .cells #[.int .i64 a1_0, .int .u32 a1_1] 24 (0, 0)) (bk_ BK125) hb)
           have n2_ := Aside0.mk (blk_below (g := gb126) (o := .cells #[.int .i64 a2_0, .int .u32 a2_1] 24 (0, 0)) (bk_ BK126) hb)
           have n3_ := Aside0.mk (below_step (bh_ HB) hb)
           clear BK124
           clear BK125
           clear BK126
           clear HB
           have BK124 := n0_
           have BK125 := n1_
           have BK126 := n2_
           have HB := n3_
           clear n0_ n1_ n2_ n3_
           (try clear hb); (try clear hb2); (try clear hk); (try clear hi)
           refine hK.out _ _ ⟨(blk_cell BK124.out 0).trans rfl, (blk_cell BK124.out 1).trans rfl, (blk_cell BK125.out 0).trans rfl, (blk_cell BK125.out 1).trans rfl⟩ (fun hHeld => ?_)
           clear hK K
           refine norm_ (a' := ?_) ?_ ?_
           rotate_left
           ·show Act.put _ (some 16) _ = _
            simp only [Act.put, List.setIfInBounds_toArray, List.set_cons_zero, List.set_cons_succ, i64_w, i32_w]
            rfl
           exact norm_ (by first | (simp only [putAll, Act.put, List.setIfInBounds_toArray, List.set_cons_zero, List.set_cons_succ]; done) | (simp only [putAll, Act.put, List.setIfInBounds_toArray, List.set_cons_zero, List.set_cons_succ]; rfl)) (hJ2_5 () _ ⟨hHeld, (bk_ BK124), (bk_ BK125), (bk_ BK126), (bh_ HB)⟩)
          ·skip
           refine box_step ?hg (N := 7) ?hd (cs := #[.int .i64 0, .int .u32 0]) (t := 24) ?hr ?_; (case hd => rfl); (case hg => rfl); (case hr => first | (go_simp; done) | (go_simp; rfl))
           intro gb131 hg w13 hbox hb
           have n0_ := Aside0.mk (blk_below (g := gb124) (o := .cells #[.int .i64 a0_0, .int .u32 a0_1] 24 (0, 0)) (bk_ BK124) hb)
           have n1_ := Aside0.mk (blk_below (g := gb125) (o := .cells #[.int .i64 a1_0, .int .u32 a1_1] 24 (0, 0)) (bk_ BK125) hb)
           have n2_ := Aside0.mk (blk_below (g := gb126) (o := .cells #[.int .i64 a2_0, .int .u32 a2_1] 24 (0, 0)) (bk_ BK126) hb)
           have n3_ := Aside0.mk (below_step (bh_ HB) hb)
           have n4_ := Aside0.mk (hbox)
           have n5_ := Aside0.mk ((by rw [hg]; exact (below_size (bh_ HB)) : w.heap.size ≤ gb131))
           have n6_ := Aside0.mk ((by rw [hg]; exact (below_size (bh_ HB)) : w.heap.size ≤ gb131))
           have n7_ := Aside0.mk ((by rw [hg]; exact Nat.ne_of_lt (blk_lt (g := gb124) (o := .cells #[.int .i64 a0_0, .int .u32 a0_1] 24 (0, 0)) (bk_ BK124)) : gb124 ≠ gb131))
           have n8_ := Aside0.mk ((by rw [hg]; exact Nat.ne_of_gt (blk_lt (g := gb124) (o := .cells #[.int .i64 a0_0, .int .u32 a0_1] 24 (0, 0)) (bk_ BK124)) : gb131 ≠ gb124))
           have n9_ := Aside0.mk ((by rw [hg]; exact Nat.ne_of_lt (blk_lt (g := gb125) (o := .cells #[.int .i64 a1_0, .int .u32 a1_1] 24 (0, 0)) (bk_ BK125)) : gb125 ≠ gb131))
           have n10_ := Aside0.mk ((by rw [hg]; exact Nat.ne_of_gt (blk_lt (g := gb125) (o := .cells #[.int .i64 a1_0, .int .u32 a1_1] 24 (0, 0)) (bk_ BK125)) : gb131 ≠ gb125))
           have n11_ := Aside0.mk ((by rw [hg]; exact Nat.ne_of_lt (blk_lt (g := gb126) (o := .cells #[.int .i64 a2_0, .int .u32 a2_1] 24 (0, 0)) (bk_ BK126)) : gb126 ≠ gb131))
           have n12_ := Aside0.mk ((by rw [hg]; exact Nat.ne_of_gt (blk_lt (g := gb126) (o := .cells #[.int .i64 a2_0, .int .u32 a2_1] 24 (0, 0)) (bk_ BK126)) : gb131 ≠ gb126))
           clear BK124
           clear BK125
           clear BK126
           clear HB
           have BK124 := n0_
           have BK125 := n1_
           have BK126 := n2_
           have HB := n3_
           have BK131 := n4_
           have GW131 := n5_
           have GE131 := n6_
           have NB124_131 := n7_
           have NB131_124 := n8_
           have NB125_131 := n9_
           have NB131_125 := n10_
           have NB126_131 := n11_
           have NB131_126 := n12_
           clear n0_ n1_ n2_ n3_ n4_ n5_ n6_ n7_ n8_ n9_ n10_ n11_ n12_
           clear hb hbox hg
           refine hK.out _ _ ⟨(blk_cell BK124.out 0).trans rfl, (blk_cell BK124.out 1).trans rfl, (blk_cell BK125.out 0).trans rfl, (blk_cell BK125.out 1).trans rfl⟩ (fun hHeld => ?_)
           clear hK K
           refine norm_ (a' := ?_) ?_ ?_
           rotate_left
           ·show Act.put _ (some 7) _ = _
            simp only [Act.put, List.setIfInBounds_toArray, List.set_cons_zero, List.set_cons_succ, i64_w, i32_w]
            rfl
           exact norm_ (by first | (simp only [putAll, Act.put, List.setIfInBounds_toArray, List.set_cons_zero, List.set_cons_succ]; done) | (simp only [putAll, Act.put, List.setIfInBounds_toArray, List.set_cons_zero, List.set_cons_succ]; rfl)) (hJ2_6 (gb131) _ ⟨hHeld, (bk_ BK124), (bk_ BK125), (bk_ BK126), (bk_ BK131), GW131.out, GE131.out, NB124_131.out, NB131_124.out, NB125_131.out, NB131_125.out, NB126_131.out, NB131_126.out, (bh_ HB)⟩)
          ·skip
           refine box_step ?hg (N := 8) ?hd (cs := #[.int .i64 0, .int .u32 0]) (t := 24) ?hr ?_; (case hd => rfl); (case hg => rfl); (case hr => first | (go_simp; done) | (go_simp; rfl))
           intro gb132 hg w13 hbox hb
           have n0_ := Aside0.mk (blk_below (g := gb124) (o := .cells #[.int .i64 a0_0, .int .u32 a0_1] 24 (0, 0)) (bk_ BK124) hb)
           have n1_ := Aside0.mk (blk_below (g := gb125) (o := .cells #[.int .i64 a1_0, .int .u32 a1_1] 24 (0, 0)) (bk_ BK125) hb)
           have n2_ := Aside0.mk (blk_below (g := gb126) (o := .cells #[.int .i64 a2_0, .int .u32 a2_1] 24 (0, 0)) (bk_ BK126) hb)
           have n3_ := Aside0.mk (below_step (bh_ HB) hb)
           have n4_ := Aside0.mk (hbox)
           have n5_ := Aside0.mk ((by rw [hg]; exact (below_size (bh_ HB)) : w.heap.size ≤ gb132))
           have n6_ := Aside0.mk ((by rw [hg]; exact (below_size (bh_ HB)) : w.heap.size ≤ gb132))
           have n7_ := Aside0.mk ((by rw [hg]; exact Nat.ne_of_lt (blk_lt (g := gb124) (o := .cells #[.int .i64 a0_0, .int .u32 a0_1] 24 (0, 0)) (bk_ BK124)) : gb124 ≠ gb132))
           have n8_ := Aside0.mk ((by rw [hg]; exact Nat.ne_of_gt (blk_lt (g := gb124) (o := .cells #[.int .i64 a0_0, .int .u32 a0_1] 24 (0, 0)) (bk_ BK124)) : gb132 ≠ gb124))
           have n9_ := Aside0.mk ((by rw [hg]; exact Nat.ne_of_lt (blk_lt (g := gb125) (o := .cells #[.int .i64 a1_0, .int .u32 a1_1] 24 (0, 0)) (bk_ BK125)) : gb125 ≠ gb132))
           have n10_ := Aside0.mk ((by rw [hg]; exact Nat.ne_of_gt (blk_lt (g := gb125) (o := .cells #[.int .i64 a1_0, .int .u32 a1_1] 24 (0, 0)) (bk_ BK125)) : gb132 ≠ gb125))
           have n11_ := Aside0.mk ((by rw [hg]; exact Nat.ne_of_lt (blk_lt (g := gb126) (o := .cells #[.int .i64 a2_0, .int .u32 a2_1] 24 (0, 0)) (bk_ BK126)) : gb126 ≠ gb132))
           have n12_ := Aside0.mk ((by rw [hg]; exact Nat.ne_of_gt (blk_lt (g := gb126) (o := .cells #[.int .i64 a2_0, .int .u32 a2_1] 24 (0, 0)) (bk_ BK126)) : gb132 ≠ gb126))
           clear BK124
           clear BK125
           clear BK126
           clear HB
           have BK124 := n0_
           have BK125 := n1_
           have BK126 := n2_
           have HB := n3_
           have BK132 := n4_
           have GW132 := n5_
           have GE132 := n6_
           have NB124_132 := n7_
           have NB132_124 := n8_
           have NB125_132 := n9_
           have NB132_125 := n10_
           have NB126_132 := n11_
           have NB132_126 := n12_
           clear n0_ n1_ n2_ n3_ n4_ n5_ n6_ n7_ n8_ n9_ n10_ n11_ n12_
           clear hb hbox hg
           refine hK.out _ _ ⟨(blk_cell BK124.out 0).trans rfl, (blk_cell BK124.out 1).trans rfl, (blk_cell BK125.out 0).trans rfl, (blk_cell BK125.out 1).trans rfl⟩ (fun hHeld => ?_)
           clear hK K
           refine norm_ (a' := ?_) ?_ ?_
           rotate_left
           ·show Act.put _ (some 8) _ = _
            simp only [Act.put, List.setIfInBounds_toArray, List.set_cons_zero, List.set_cons_succ, i64_w, i32_w]
            rfl
           exact norm_ (by first | (simp only [putAll, Act.put, List.setIfInBounds_toArray, List.set_cons_zero, List.set_cons_succ]; done) | (simp only [putAll, Act.put, List.setIfInBounds_toArray, List.set_cons_zero, List.set_cons_succ]; rfl)) (hJ2_7 (gb132) _ ⟨hHeld, (bk_ BK124), (bk_ BK125), (bk_ BK126), (bk_ BK132), GW132.out, GE132.out, NB124_132.out, NB132_124.out, NB125_132.out, NB132_125.out, NB126_132.out, NB132_126.out, (bh_ HB)⟩)
        ·skip
         rintro ⟨gb131, gb132⟩ w13 ⟨hS_, h0_, h1_, h2_, h3_, h4_, h5_, h6_, h7_, h8_, h9_, h10_, h11_, h12_, h13_, h14_, h15_, h16_, h17_, h18_, h19_, h20_, h21_, h22_, h23_⟩
         have n0_ : Aside0 (w13.heap[gb124]? = some (.cells #[.int .i64 a0_0, .int .u32 a0_1] 24 (0, 0))) := ⟨h0_⟩
         have n1_ : Aside0 (w13.heap[gb125]? = some (.cells #[.int .i64 a1_0, .int .u32 a1_1] 24 (0, 0))) := ⟨h1_⟩
         have n2_ : Aside0 (w13.heap[gb126]? = some (.cells #[.int .i64 a2_0, .int .u32 a2_1] 24 (0, 0))) := ⟨h2_⟩
         have n3_ : Aside0 (w13.heap[gb131]? = some (.cells #[.int .i64 0, .int .u32 0] 24 (0, 0))) := ⟨h3_⟩
         have n4_ : Aside0 (w13.heap[gb132]? = some (.cells #[.int .i64 0, .int .u32 0] 24 (0, 0))) := ⟨h4_⟩
         have n5_ : Aside0 (w.heap.size ≤ gb131) := ⟨h5_⟩
         have n6_ : Aside0 (w.heap.size ≤ gb131) := ⟨h6_⟩
         have n7_ : Aside0 (gb124 ≠ gb131) := ⟨h7_⟩
         have n8_ : Aside0 (gb131 ≠ gb124) := ⟨h8_⟩
         have n9_ : Aside0 (gb125 ≠ gb131) := ⟨h9_⟩
         have n10_ : Aside0 (gb131 ≠ gb125) := ⟨h10_⟩
         have n11_ : Aside0 (gb126 ≠ gb131) := ⟨h11_⟩
         have n12_ : Aside0 (gb131 ≠ gb126) := ⟨h12_⟩
         have n13_ : Aside0 (gb132 ≠ gb131) := ⟨h13_⟩
         have n14_ : Aside0 (gb131 ≠ gb132) := ⟨h14_⟩
         have n15_ : Aside0 (w.heap.size ≤ gb132) := ⟨h15_⟩
         have n16_ : Aside0 (w.heap.size ≤ gb132) := ⟨h16_⟩
         have n17_ : Aside0 (gb124 ≠ gb132) := ⟨h17_⟩
         have n18_ : Aside0 (gb132 ≠ gb124) := ⟨h18_⟩
         have n19_ : Aside0 (gb125 ≠ gb132) := ⟨h19_⟩
         have n20_ : Aside0 (gb132 ≠ gb125) := ⟨h20_⟩
         have n21_ : Aside0 (gb126 ≠ gb132) := ⟨h21_⟩
         have n22_ : Aside0 (gb132 ≠ gb126) := ⟨h22_⟩
         have n23_ : Aside0 (Below w.heap.size w w13) := ⟨h23_⟩
         clear BK124
         clear BK125
         clear BK126
         clear HB
         clear h0_ h1_ h2_ h3_ h4_ h5_ h6_ h7_ h8_ h9_ h10_ h11_ h12_ h13_ h14_ h15_ h16_ h17_ h18_ h19_ h20_ h21_ h22_ h23_
         have BK124 := n0_
         have BK125 := n1_
         have BK126 := n2_
         have BK131 := n3_
         have BK132 := n4_
         have GW131 := n5_
         have GE131 := n6_
         have NB124_131 := n7_
         have NB131_124 := n8_
         have NB125_131 := n9_
         have NB131_125 := n10_
         have NB126_131 := n11_
         have NB131_126 := n12_
         have NB132_131 := n13_
         have NB131_132 := n14_
         have GW132 := n15_
         have GE132 := n16_
         have NB124_132 := n17_
         have NB132_124 := n18_
         have NB125_132 := n19_
         have NB132_125 := n20_
         have NB126_132 := n21_
         have NB132_126 := n22_
         have HB := n23_
         clear n0_ n1_ n2_ n3_ n4_ n5_ n6_ n7_ n8_ n9_ n10_ n11_ n12_ n13_ n14_ n15_ n16_ n17_ n18_ n19_ n20_ n21_ n22_ n23_
         have hHeld : w13.cell? ⟨gb124, 0, none⟩ = some (.int .i64 a0_0) ∧ w13.cell? ⟨gb124, 1, none⟩ = some (.int .u32 a0_1) ∧ w13.cell? ⟨gb125, 0, none⟩ = some (.int .i64 a1_0) ∧ w13.cell? ⟨gb125, 1, none⟩ = some (.int .u32 a1_1) := hS_
         refine norm_ (a' := ?_) ?_ ?_
         rotate_left
         ·simp only [putAll, Act.put, List.setIfInBounds_toArray, List.set_cons_zero, List.set_cons_succ]
          rfl
         refine one_ (i := 2) (N := some 13) #[true, true, true, true, true, false, true, true, false, false] rfl rfl (one_of HT_.out (by kernel_rfl)) (by decide) (fun K hK => ?_)
         refine goes_ Tryd.func15 (by kernel_rfl) rfl #[.agg #[.int .i64 a0_0, .int .u32 a0_1], .agg #[.int .i64 a1_0, .int .u32 a1_1]] (by rfl) rfl rfl (by (try simp only [List.map_toArray, List.map_cons, List.map_nil]); first | done | rfl | (simp only [List.length_drop, List.length_take]; rfl)) ?_
         with_reducible refine (label_Join.calls a0_0 a0_1 a1_0 a1_1 t127 t128 _ A4.out).mono ?_
         rintro e w14 ⟨rfl, hb⟩
         refine ⟨_, rfl, ?_⟩
         have n0_ := Aside0.mk (blk_below (g := gb124) (o := .cells #[.int .i64 a0_0, .int .u32 a0_1] 24 (0, 0)) (bk_ BK124) hb)
         have n1_ := Aside0.mk (blk_below (g := gb125) (o := .cells #[.int .i64 a1_0, .int .u32 a1_1] 24 (0, 0)) (bk_ BK125) hb)
         have n2_ := Aside0.mk (blk_below (g := gb126) (o := .cells #[.int .i64 a2_0, .int .u32 a2_1] 24 (0, 0)) (bk_ BK126) hb)
         have n3_ := Aside0.mk (blk_below (g := gb131) (o := .cells #[.int .i64 0, .int .u32 0] 24 (0, 0)) (bk_ BK131) hb)
         have n4_ := Aside0.mk (blk_below (g := gb132) (o := .cells #[.int .i64 0, .int .u32 0] 24 (0, 0)) (bk_ BK132) hb)
         have n5_ := Aside0.mk (below_step (bh_ HB) hb)
         clear BK124
         clear BK125
         clear BK126
         clear BK131
         clear BK132
         clear HB
         have BK124 := n0_
         have BK125 := n1_
         have BK126 := n2_
         have BK131 := n3_
         have BK132 := n4_
         have HB := n5_
         clear n0_ n1_ n2_ n3_ n4_ n5_
         (try clear hb); (try clear hb2); (try clear hk); (try clear hi)
         refine hK.out _ _ ⟨(blk_cell BK124.out 0).trans rfl, (blk_cell BK124.out 1).trans rfl, (blk_cell BK125.out 0).trans rfl, (blk_cell BK125.out 1).trans rfl⟩ (fun hHeld => ?_)
         clear hK K
         refine norm_ (a' := ?_) ?_ ?_
         rotate_left
         ·show Act.put _ (some 13) _ = _
          simp only [Act.put, List.setIfInBounds_toArray, List.set_cons_zero, List.set_cons_succ, i64_w, i32_w]
          rfl
         exact norm_ (by first | (simp only [putAll, Act.put, List.setIfInBounds_toArray, List.set_cons_zero, List.set_cons_succ]; done) | (simp only [putAll, Act.put, List.setIfInBounds_toArray, List.set_cons_zero, List.set_cons_succ]; rfl)) (hJ2_6_7 (gb131, gb132) _ ⟨hHeld, (bk_ BK124), (bk_ BK125), (bk_ BK126), (bk_ BK131), (bk_ BK132), GW131.out, GE131.out, NB124_131.out, NB131_124.out, NB125_131.out, NB131_125.out, NB126_131.out, NB131_126.out, NB132_131.out, NB131_132.out, GW132.out, GE132.out, NB124_132.out, NB132_124.out, NB125_132.out, NB132_125.out, NB126_132.out, NB132_126.out, (bh_ HB)⟩)
       ·skip
        rintro gb132 w13 ⟨hS_, h0_, h1_, h2_, h3_, h4_, h5_, h6_, h7_, h8_, h9_, h10_, h11_, h12_⟩
        have n0_ : Aside0 (w13.heap[gb124]? = some (.cells #[.int .i64 a0_0, .int .u32 a0_1] 24 (0, 0))) := ⟨h0_⟩
        have n1_ : Aside0 (w13.heap[gb125]? = some (.cells #[.int .i64 a1_0, .int .u32 a1_1] 24 (0, 0))) := ⟨h1_⟩
        have n2_ : Aside0 (w13.heap[gb126]? = some (.cells #[.int .i64 a2_0, .int .u32 a2_1] 24 (0, 0))) := ⟨h2_⟩
        have n3_ : Aside0 (w13.heap[gb132]? = some (.cells #[.int .i64 0, .int .u32 0] 24 (0, 0))) := ⟨h3_⟩
        have n4_ : Aside0 (w.heap.size ≤ gb132) := ⟨h4_⟩
        have n5_ : Aside0 (w.heap.size ≤ gb132) := ⟨h5_⟩
        have n6_ : Aside0 (gb124 ≠ gb132) := ⟨h6_⟩
        have n7_ : Aside0 (gb132 ≠ gb124) := ⟨h7_⟩
        have n8_ : Aside0 (gb125 ≠ gb132) := ⟨h8_⟩
        have n9_ : Aside0 (gb132 ≠ gb125) := ⟨h9_⟩
        have n10_ : Aside0 (gb126 ≠ gb132) := ⟨h10_⟩
        have n11_ : Aside0 (gb132 ≠ gb126) := ⟨h11_⟩
        have n12_ : Aside0 (Below w.heap.size w w13) := ⟨h12_⟩
        clear BK124
        clear BK125
        clear BK126
        clear HB
        clear h0_ h1_ h2_ h3_ h4_ h5_ h6_ h7_ h8_ h9_ h10_ h11_ h12_
        have BK124 := n0_
        have BK125 := n1_
        have BK126 := n2_
        have BK132 := n3_
        have GW132 := n4_
        have GE132 := n5_
        have NB124_132 := n6_
        have NB132_124 := n7_
        have NB125_132 := n8_
        have NB132_125 := n9_
        have NB126_132 := n10_
        have NB132_126 := n11_
        have HB := n12_
        clear n0_ n1_ n2_ n3_ n4_ n5_ n6_ n7_ n8_ n9_ n10_ n11_ n12_
        have hHeld : w13.cell? ⟨gb124, 0, none⟩ = some (.int .i64 a0_0) ∧ w13.cell? ⟨gb124, 1, none⟩ = some (.int .u32 a0_1) ∧ w13.cell? ⟨gb125, 0, none⟩ = some (.int .i64 a1_0) ∧ w13.cell? ⟨gb125, 1, none⟩ = some (.int .u32 a1_1) := hS_
        refine norm_ (a' := ?_) ?_ ?_
        rotate_left
        ·simp only [putAll, Act.put, List.setIfInBounds_toArray, List.set_cons_zero, List.set_cons_succ]
         rfl
        refine two_ (i := 5) (j := 6) (Ni := some 16) (Nj := some 7) #[true, true, true, true, true, true, false, true, false, false] #[true, true, true, true, true, false, true, true, false, false] rfl rfl rfl rfl (two_of HT_.out (by kernel_rfl)) (by decide) (by decide) (fun K hK => ?_) (fun K hK => ?_)
        ·skip
         refine goes_ Tryd.func16 (by kernel_rfl) rfl #[.agg #[.int .i64 a0_0, .int .u32 a0_1], .agg #[.int .i64 a1_0, .int .u32 a1_1]] (by rfl) rfl rfl (by (try simp only [List.map_toArray, List.map_cons, List.map_nil]); first | done | rfl | (simp only [List.length_drop, List.length_take]; rfl)) ?_
         with_reducible refine (label_Meet.calls a0_0 a0_1 a1_0 a1_1 t129 t130 _ A5.out).mono ?_
         rintro e w14 ⟨rfl, hb⟩
         refine ⟨_, rfl, ?_⟩
         have n0_ := Aside0.mk (blk_below (g := gb124) (o := .cells #[.int .i64 a0_0, .int .u32 a0_1] 24 (0, 0)) (bk_ BK124) hb)
         have n1_ := Aside0.mk (blk_below (g := gb125) (o := .cells #[.int .i64 a1_0, .int .u32 a1_1] 24 (0, 0)) (bk_ BK125) hb)
         have n2_ := Aside0.mk (blk_below (g := gb126) (o := .cells #[.int .i64 a2_0, .int .u32 a2_1] 24 (0, 0)) (bk_ BK126) hb)
         have n3_ := Aside0.mk (blk_below (g := gb132) (o := .cells #[.int .i64 0, .int .u32 0] 24 (0, 0)) (bk_ BK132) hb)
         have n4_ := Aside0.mk (below_step (bh_ HB) hb)
         clear BK124
         clear BK125
         clear BK126
         clear BK132
         clear HB
         have BK124 := n0_
         have BK125 := n1_
         have BK126 := n2_
         have BK132 := n3_
         have HB := n4_
         clear n0_ n1_ n2_ n3_ n4_
         (try clear hb); (try clear hb2); (try clear hk); (try clear hi)
         refine hK.out _ _ ⟨(blk_cell BK124.out 0).trans rfl, (blk_cell BK124.out 1).trans rfl, (blk_cell BK125.out 0).trans rfl, (blk_cell BK125.out 1).trans rfl⟩ (fun hHeld => ?_)
         clear hK K
         refine norm_ (a' := ?_) ?_ ?_
         rotate_left
         ·show Act.put _ (some 16) _ = _
          simp only [Act.put, List.setIfInBounds_toArray, List.set_cons_zero, List.set_cons_succ, i64_w, i32_w]
          rfl
         exact norm_ (by first | (simp only [putAll, Act.put, List.setIfInBounds_toArray, List.set_cons_zero, List.set_cons_succ]; done) | (simp only [putAll, Act.put, List.setIfInBounds_toArray, List.set_cons_zero, List.set_cons_succ]; rfl)) (hJ2_5_7 (gb132) _ ⟨hHeld, (bk_ BK124), (bk_ BK125), (bk_ BK126), (bk_ BK132), GW132.out, GE132.out, NB124_132.out, NB132_124.out, NB125_132.out, NB132_125.out, NB126_132.out, NB132_126.out, (bh_ HB)⟩)
        ·skip
         refine box_step ?hg (N := 7) ?hd (cs := #[.int .i64 0, .int .u32 0]) (t := 24) ?hr ?_; (case hd => rfl); (case hg => rfl); (case hr => first | (go_simp; done) | (go_simp; rfl))
         intro gb131 hg w14 hbox hb
         have n0_ := Aside0.mk (blk_below (g := gb124) (o := .cells #[.int .i64 a0_0, .int .u32 a0_1] 24 (0, 0)) (bk_ BK124) hb)
         have n1_ := Aside0.mk (blk_below (g := gb125) (o := .cells #[.int .i64 a1_0, .int .u32 a1_1] 24 (0, 0)) (bk_ BK125) hb)
         have n2_ := Aside0.mk (blk_below (g := gb126) (o := .cells #[.int .i64 a2_0, .int .u32 a2_1] 24 (0, 0)) (bk_ BK126) hb)
         have n3_ := Aside0.mk (blk_below (g := gb132) (o := .cells #[.int .i64 0, .int .u32 0] 24 (0, 0)) (bk_ BK132) hb)
         have n4_ := Aside0.mk (below_step (bh_ HB) hb)
         have n5_ := Aside0.mk (hbox)
         have n6_ := Aside0.mk ((by rw [hg]; exact (below_size (bh_ HB)) : w.heap.size ≤ gb131))
         have n7_ := Aside0.mk ((by rw [hg]; exact (below_size (bh_ HB)) : w.heap.size ≤ gb131))
         have n8_ := Aside0.mk ((by rw [hg]; exact Nat.ne_of_lt (blk_lt (g := gb124) (o := .cells #[.int .i64 a0_0, .int .u32 a0_1] 24 (0, 0)) (bk_ BK124)) : gb124 ≠ gb131))
         have n9_ := Aside0.mk ((by rw [hg]; exact Nat.ne_of_gt (blk_lt (g := gb124) (o := .cells #[.int .i64 a0_0, .int .u32 a0_1] 24 (0, 0)) (bk_ BK124)) : gb131 ≠ gb124))
         have n10_ := Aside0.mk ((by rw [hg]; exact Nat.ne_of_lt (blk_lt (g := gb125) (o := .cells #[.int .i64 a1_0, .int .u32 a1_1] 24 (0, 0)) (bk_ BK125)) : gb125 ≠ gb131))
         have n11_ := Aside0.mk ((by rw [hg]; exact Nat.ne_of_gt (blk_lt (g := gb125) (o := .cells #[.int .i64 a1_0, .int .u32 a1_1] 24 (0, 0)) (bk_ BK125)) : gb131 ≠ gb125))
         have n12_ := Aside0.mk ((by rw [hg]; exact Nat.ne_of_lt (blk_lt (g := gb126) (o := .cells #[.int .i64 a2_0, .int .u32 a2_1] 24 (0, 0)) (bk_ BK126)) : gb126 ≠ gb131))
         have n13_ := Aside0.mk ((by rw [hg]; exact Nat.ne_of_gt (blk_lt (g := gb126) (o := .cells #[.int .i64 a2_0, .int .u32 a2_1] 24 (0, 0)) (bk_ BK126)) : gb131 ≠ gb126))
         have n14_ := Aside0.mk ((by rw [hg]; exact Nat.ne_of_lt (blk_lt (g := gb132) (o := .cells #[.int .i64 0, .int .u32 0] 24 (0, 0)) (bk_ BK132)) : gb132 ≠ gb131))
         have n15_ := Aside0.mk ((by rw [hg]; exact Nat.ne_of_gt (blk_lt (g := gb132) (o := .cells #[.int .i64 0, .int .u32 0] 24 (0, 0)) (bk_ BK132)) : gb131 ≠ gb132))
         clear BK124
         clear BK125
         clear BK126
         clear BK132
         clear HB
         have BK124 := n0_
         have BK125 := n1_
         have BK126 := n2_
         have BK132 := n3_
         have HB := n4_
         have BK131 := n5_
         have GW131 := n6_
         have GE131 := n7_
         have NB124_131 := n8_
         have NB131_124 := n9_
         have NB125_131 := n10_
         have NB131_125 := n11_
         have NB126_131 := n12_
         have NB131_126 := n13_
         have NB132_131 := n14_
         have NB131_132 := n15_
         clear n0_ n1_ n2_ n3_ n4_ n5_ n6_ n7_ n8_ n9_ n10_ n11_ n12_ n13_ n14_ n15_
         clear hb hbox hg
         refine hK.out _ _ ⟨(blk_cell BK124.out 0).trans rfl, (blk_cell BK124.out 1).trans rfl, (blk_cell BK125.out 0).trans rfl, (blk_cell BK125.out 1).trans rfl⟩ (fun hHeld => ?_)
         clear hK K
         refine norm_ (a' := ?_) ?_ ?_
         rotate_left
         ·show Act.put _ (some 7) _ = _
          simp only [Act.put, List.setIfInBounds_toArray, List.set_cons_zero, List.set_cons_succ, i64_w, i32_w]
          rfl
         exact norm_ (by first | (simp only [putAll, Act.put, List.setIfInBounds_toArray, List.set_cons_zero, List.set_cons_succ]; done) | (simp only [putAll, Act.put, List.setIfInBounds_toArray, List.set_cons_zero, List.set_cons_succ]; rfl)) (hJ2_6_7 (gb131, gb132) _ ⟨hHeld, (bk_ BK124), (bk_ BK125), (bk_ BK126), (bk_ BK131), (bk_ BK132), GW131.out, GE131.out, NB124_131.out, NB131_124.out, NB125_131.out, NB131_125.out, NB126_131.out, NB131_126.out, NB132_131.out, NB131_132.out, GW132.out, GE132.out, NB124_132.out, NB132_124.out, NB125_132.out, NB132_125.out, NB126_132.out, NB132_126.out, (bh_ HB)⟩)
      ·skip
       rintro gb131 w13 ⟨hS_, h0_, h1_, h2_, h3_, h4_, h5_, h6_, h7_, h8_, h9_, h10_, h11_, h12_⟩
       have n0_ : Aside0 (w13.heap[gb124]? = some (.cells #[.int .i64 a0_0, .int .u32 a0_1] 24 (0, 0))) := ⟨h0_⟩
       have n1_ : Aside0 (w13.heap[gb125]? = some (.cells #[.int .i64 a1_0, .int .u32 a1_1] 24 (0, 0))) := ⟨h1_⟩
       have n2_ : Aside0 (w13.heap[gb126]? = some (.cells #[.int .i64 a2_0, .int .u32 a2_1] 24 (0, 0))) := ⟨h2_⟩
       have n3_ : Aside0 (w13.heap[gb131]? = some (.cells #[.int .i64 0, .int .u32 0] 24 (0, 0))) := ⟨h3_⟩
       have n4_ : Aside0 (w.heap.size ≤ gb131) := ⟨h4_⟩
       have n5_ : Aside0 (w.heap.size ≤ gb131) := ⟨h5_⟩
       have n6_ : Aside0 (gb124 ≠ gb131) := ⟨h6_⟩
       have n7_ : Aside0 (gb131 ≠ gb124) := ⟨h7_⟩
       have n8_ : Aside0 (gb125 ≠ gb131) := ⟨h8_⟩
       have n9_ : Aside0 (gb131 ≠ gb125) := ⟨h9_⟩
       have n10_ : Aside0 (gb126 ≠ gb131) := ⟨h10_⟩
       have n11_ : Aside0 (gb131 ≠ gb126) := ⟨h11_⟩
       have n12_ : Aside0 (Below w.heap.size w w13) := ⟨h12_⟩
       clear BK124
       clear BK125
       clear BK126
       clear HB
       clear h0_ h1_ h2_ h3_ h4_ h5_ h6_ h7_ h8_ h9_ h10_ h11_ h12_
       have BK124 := n0_
       have BK125 := n1_
       have BK126 := n2_
       have BK131 := n3_
       have GW131 := n4_
       have GE131 := n5_
       have NB124_131 := n6_
       have NB131_124 := n7_
       have NB125_131 := n8_
       have NB131_125 := n9_
       have NB126_131 := n10_
       have NB131_126 := n11_
       have HB := n12_
       clear n0_ n1_ n2_ n3_ n4_ n5_ n6_ n7_ n8_ n9_ n10_ n11_ n12_
       have hHeld : w13.cell? ⟨gb124, 0, none⟩ = some (.int .i64 a0_0) ∧ w13.cell? ⟨gb124, 1, none⟩ = some (.int .u32 a0_1) ∧ w13.cell? ⟨gb125, 0, none⟩ = some (.int .i64 a1_0) ∧ w13.cell? ⟨gb125, 1, none⟩ = some (.int .u32 a1_1) := hS_
       refine norm_ (a' := ?_) ?_ ?_
       rotate_left
       ·simp only [putAll, Act.put, List.setIfInBounds_toArray, List.set_cons_zero, List.set_cons_succ]
        rfl
       refine two_ (i := 5) (j := 7) (Ni := some 16) (Nj := some 8) #[true, true, true, true, true, true, true, false, false, false] #[true, true, true, true, true, false, true, true, false, false] rfl rfl rfl rfl (two_of HT_.out (by kernel_rfl)) (by decide) (by decide) (fun K hK => ?_) (fun K hK => ?_)
       ·skip
        refine goes_ Tryd.func16 (by kernel_rfl) rfl #[.agg #[.int .i64 a0_0, .int .u32 a0_1], .agg #[.int .i64 a1_0, .int .u32 a1_1]] (by rfl) rfl rfl (by (try simp only [List.map_toArray, List.map_cons, List.map_nil]); first | done | rfl | (simp only [List.length_drop, List.length_take]; rfl)) ?_
        with_reducible refine (label_Meet.calls a0_0 a0_1 a1_0 a1_1 t129 t130 _ A5.out).mono ?_
        rintro e w14 ⟨rfl, hb⟩
        refine ⟨_, rfl, ?_⟩
        have n0_ := Aside0.mk (blk_below (g := gb124) (o := .cells #[.int .i64 a0_0, .int .u32 a0_1] 24 (0, 0)) (bk_ BK124) hb)
        have n1_ := Aside0.mk (blk_below (g := gb125) (o := .cells #[.int .i64 a1_0, .int .u32 a1_1] 24 (0, 0)) (bk_ BK125) hb)
        have n2_ := Aside0.mk (blk_below (g := gb126) (o := .cells #[.int .i64 a2_0, .int .u32 a2_1] 24 (0, 0)) (bk_ BK126) hb)
        have n3_ := Aside0.mk (blk_below (g := gb131) (o := .cells #[.int .i64 0, .int .u32 0] 24 (0, 0)) (bk_ BK131) hb)
        have n4_ := Aside0.mk (below_step (bh_ HB) hb)
        clear BK124
        clear BK125
        clear BK126
        clear BK131
        clear HB
        have BK124 := n0_
        have BK125 := n1_
        have BK126 := n2_
        have BK131 := n3_
        have HB := n4_
        clear n0_ n1_ n2_ n3_ n4_
        (try clear hb); (try clear hb2); (try clear hk); (try clear hi)
        refine hK.out _ _ ⟨(blk_cell BK124.out 0).trans rfl, (blk_cell BK124.out 1).trans rfl, (blk_cell BK125.out 0).trans rfl, (blk_cell BK125.out 1).trans rfl⟩ (fun hHeld => ?_)
        clear hK K
        refine norm_ (a' := ?_) ?_ ?_
        rotate_left
        ·show Act.put _ (some 16) _ = _
         simp only [Act.put, List.setIfInBounds_toArray, List.set_cons_zero, List.set_cons_succ, i64_w, i32_w]
         rfl
        exact norm_ (by first | (simp only [putAll, Act.put, List.setIfInBounds_toArray, List.set_cons_zero, List.set_cons_succ]; done) | (simp only [putAll, Act.put, List.setIfInBounds_toArray, List.set_cons_zero, List.set_cons_succ]; rfl)) (hJ2_5_6 (gb131) _ ⟨hHeld, (bk_ BK124), (bk_ BK125), (bk_ BK126), (bk_ BK131), GW131.out, GE131.out, NB124_131.out, NB131_124.out, NB125_131.out, NB131_125.out, NB126_131.out, NB131_126.out, (bh_ HB)⟩)
       ·skip
        refine box_step ?hg (N := 8) ?hd (cs := #[.int .i64 0, .int .u32 0]) (t := 24) ?hr ?_; (case hd => rfl); (case hg => rfl); (case hr => first | (go_simp; done) | (go_simp; rfl))
        intro gb132 hg w14 hbox hb
        have n0_ := Aside0.mk (blk_below (g := gb124) (o := .cells #[.int .i64 a0_0, .int .u32 a0_1] 24 (0, 0)) (bk_ BK124) hb)
        have n1_ := Aside0.mk (blk_below (g := gb125) (o := .cells #[.int .i64 a1_0, .int .u32 a1_1] 24 (0, 0)) (bk_ BK125) hb)
        have n2_ := Aside0.mk (blk_below (g := gb126) (o := .cells #[.int .i64 a2_0, .int .u32 a2_1] 24 (0, 0)) (bk_ BK126) hb)
        have n3_ := Aside0.mk (blk_below (g := gb131) (o := .cells #[.int .i64 0, .int .u32 0] 24 (0, 0)) (bk_ BK131) hb)
        have n4_ := Aside0.mk (below_step (bh_ HB) hb)
        have n5_ := Aside0.mk (hbox)
        have n6_ := Aside0.mk ((by rw [hg]; exact (below_size (bh_ HB)) : w.heap.size ≤ gb132))
        have n7_ := Aside0.mk ((by rw [hg]; exact (below_size (bh_ HB)) : w.heap.size ≤ gb132))
        have n8_ := Aside0.mk ((by rw [hg]; exact Nat.ne_of_lt (blk_lt (g := gb124) (o := .cells #[.int .i64 a0_0, .int .u32 a0_1] 24 (0, 0)) (bk_ BK124)) : gb124 ≠ gb132))
        have n9_ := Aside0.mk ((by rw [hg]; exact Nat.ne_of_gt (blk_lt (g := gb124) (o := .cells #[.int .i64 a0_0, .int .u32 a0_1] 24 (0, 0)) (bk_ BK124)) : gb132 ≠ gb124))
        have n10_ := Aside0.mk ((by rw [hg]; exact Nat.ne_of_lt (blk_lt (g := gb125) (o := .cells #[.int .i64 a1_0, .int .u32 a1_1] 24 (0, 0)) (bk_ BK125)) : gb125 ≠ gb132))
        have n11_ := Aside0.mk ((by rw [hg]; exact Nat.ne_of_gt (blk_lt (g := gb125) (o := .cells #[.int .i64 a1_0, .int .u32 a1_1] 24 (0, 0)) (bk_ BK125)) : gb132 ≠ gb125))
        have n12_ := Aside0.mk ((by rw [hg]; exact Nat.ne_of_lt (blk_lt (g := gb126) (o := .cells #[.int .i64 a2_0, .int .u32 a2_1] 24 (0, 0)) (bk_ BK126)) : gb126 ≠ gb132))
        have n13_ := Aside0.mk ((by rw [hg]; exact Nat.ne_of_gt (blk_lt (g := gb126) (o := .cells #[.int .i64 a2_0, .int .u32 a2_1] 24 (0, 0)) (bk_ BK126)) : gb132 ≠ gb126))
        have n14_ := Aside0.mk ((by rw [hg]; exact Nat.ne_of_lt (blk_lt (g := gb131) (o := .cells #[.int .i64 0, .int .u32 0] 24 (0, 0)) (bk_ BK131)) : gb131 ≠ gb132))
        have n15_ := Aside0.mk ((by rw [hg]; exact Nat.ne_of_gt (blk_lt (g := gb131) (o := .cells #[.int .i64 0, .int .u32 0] 24 (0, 0)) (bk_ BK131)) : gb132 ≠ gb131))
        clear BK124
        clear BK125
        clear BK126
        clear BK131
        clear HB
        have BK124 := n0_
        have BK125 := n1_
        have BK126 := n2_
        have BK131 := n3_
        have HB := n4_
        have BK132 := n5_
        have GW132 := n6_
        have GE132 := n7_
        have NB124_132 := n8_
        have NB132_124 := n9_
        have NB125_132 := n10_
        have NB132_125 := n11_
        have NB126_132 := n12_
        have NB132_126 := n13_
        have NB131_132 := n14_
        have NB132_131 := n15_
        clear n0_ n1_ n2_ n3_ n4_ n5_ n6_ n7_ n8_ n9_ n10_ n11_ n12_ n13_ n14_ n15_
        clear hb hbox hg
        refine hK.out _ _ ⟨(blk_cell BK124.out 0).trans rfl, (blk_cell BK124.out 1).trans rfl, (blk_cell BK125.out 0).trans rfl, (blk_cell BK125.out 1).trans rfl⟩ (fun hHeld => ?_)
        clear hK K
        refine norm_ (a' := ?_) ?_ ?_
        rotate_left
        ·show Act.put _ (some 8) _ = _
         simp only [Act.put, List.setIfInBounds_toArray, List.set_cons_zero, List.set_cons_succ, i64_w, i32_w]
         rfl
        exact norm_ (by first | (simp only [putAll, Act.put, List.setIfInBounds_toArray, List.set_cons_zero, List.set_cons_succ]; done) | (simp only [putAll, Act.put, List.setIfInBounds_toArray, List.set_cons_zero, List.set_cons_succ]; rfl)) (hJ2_6_7 (gb131, gb132) _ ⟨hHeld, (bk_ BK124), (bk_ BK125), (bk_ BK126), (bk_ BK131), (bk_ BK132), GW131.out, GE131.out, NB124_131.out, NB131_124.out, NB125_131.out, NB131_125.out, NB126_131.out, NB131_126.out, NB132_131.out, NB131_132.out, GW132.out, GE132.out, NB124_132.out, NB132_124.out, NB125_132.out, NB132_125.out, NB126_132.out, NB132_126.out, (bh_ HB)⟩)
     ·skip
      rintro _ w13 ⟨hS_, h0_, h1_, h2_, h3_⟩
      have n0_ : Aside0 (w13.heap[gb124]? = some (.cells #[.int .i64 a0_0, .int .u32 a0_1] 24 (0, 0))) := ⟨h0_⟩
      have n1_ : Aside0 (w13.heap[gb125]? = some (.cells #[.int .i64 a1_0, .int .u32 a1_1] 24 (0, 0))) := ⟨h1_⟩
      have n2_ : Aside0 (w13.heap[gb126]? = some (.cells #[.int .i64 a2_0, .int .u32 a2_1] 24 (0, 0))) := ⟨h2_⟩
      have n3_ : Aside0 (Below w.heap.size w w13) := ⟨h3_⟩
      clear BK124
      clear BK125
      clear BK126
      clear HB
      clear h0_ h1_ h2_ h3_
      have BK124 := n0_
      have BK125 := n1_
      have BK126 := n2_
      have HB := n3_
      clear n0_ n1_ n2_ n3_
      have hHeld : w13.cell? ⟨gb124, 0, none⟩ = some (.int .i64 a0_0) ∧ w13.cell? ⟨gb124, 1, none⟩ = some (.int .u32 a0_1) ∧ w13.cell? ⟨gb125, 0, none⟩ = some (.int .i64 a1_0) ∧ w13.cell? ⟨gb125, 1, none⟩ = some (.int .u32 a1_1) := hS_
      refine norm_ (a' := ?_) ?_ ?_
      rotate_left
      ·simp only [putAll, Act.put, List.setIfInBounds_toArray, List.set_cons_zero, List.set_cons_succ]
       rfl
      refine two_ (i := 6) (j := 7) (Ni := some 7) (Nj := some 8) #[true, true, true, true, true, true, true, false, false, false] #[true, true, true, true, true, true, false, true, false, false] rfl rfl rfl rfl (two_of HT_.out (by kernel_rfl)) (by decide) (by decide) (fun K hK => ?_) (fun K hK => ?_)
      ·skip
       refine box_step ?hg (N := 7) ?hd (cs := #[.int .i64 0, .int .u32 0]) (t := 24) ?hr ?_; (case hd => rfl); (case hg => rfl); (case hr => first | (go_simp; done) | (go_simp; rfl))
       intro gb131 hg w14 hbox hb
       have n0_ := Aside0.mk (blk_below (g := gb124) (o := .cells #[.int .i64 a0_0, .int .u32 a0_1] 24 (0, 0)) (bk_ BK124) hb)
       have n1_ := Aside0.mk (blk_below (g := gb125) (o := .cells #[.int .i64 a1_0, .int .u32 a1_1] 24 (0, 0)) (bk_ BK125) hb)
       have n2_ := Aside0.mk (blk_below (g := gb126) (o := .cells #[.int .i64 a2_0, .int .u32 a2_1] 24 (0, 0)) (bk_ BK126) hb)
       have n3_ := Aside0.mk (below_step (bh_ HB) hb)
       have n4_ := Aside0.mk (hbox)
       have n5_ := Aside0.mk ((by rw [hg]; exact (below_size (bh_ HB)) : w.heap.size ≤ gb131))
       have n6_ := Aside0.mk ((by rw [hg]; exact (below_size (bh_ HB)) : w.heap.size ≤ gb131))
       have n7_ := Aside0.mk ((by rw [hg]; exact Nat.ne_of_lt (blk_lt (g := gb124) (o := .cells #[.int .i64 a0_0, .int .u32 a0_1] 24 (0, 0)) (bk_ BK124)) : gb124 ≠ gb131))
       have n8_ := Aside0.mk ((by rw [hg]; exact Nat.ne_of_gt (blk_lt (g := gb124) (o := .cells #[.int .i64 a0_0, .int .u32 a0_1] 24 (0, 0)) (bk_ BK124)) : gb131 ≠ gb124))
       have n9_ := Aside0.mk ((by rw [hg]; exact Nat.ne_of_lt (blk_lt (g := gb125) (o := .cells #[.int .i64 a1_0, .int .u32 a1_1] 24 (0, 0)) (bk_ BK125)) : gb125 ≠ gb131))
       have n10_ := Aside0.mk ((by rw [hg]; exact Nat.ne_of_gt (blk_lt (g := gb125) (o := .cells #[.int .i64 a1_0, .int .u32 a1_1] 24 (0, 0)) (bk_ BK125)) : gb131 ≠ gb125))
       have n11_ := Aside0.mk ((by rw [hg]; exact Nat.ne_of_lt (blk_lt (g := gb126) (o := .cells #[.int .i64 a2_0, .int .u32 a2_1] 24 (0, 0)) (bk_ BK126)) : gb126 ≠ gb131))
       have n12_ := Aside0.mk ((by rw [hg]; exact Nat.ne_of_gt (blk_lt (g := gb126) (o := .cells #[.int .i64 a2_0, .int .u32 a2_1] 24 (0, 0)) (bk_ BK126)) : gb131 ≠ gb126))
       clear BK124
       clear BK125
       clear BK126
       clear HB
       have BK124 := n0_
       have BK125 := n1_
       have BK126 := n2_
       have HB := n3_
       have BK131 := n4_
       have GW131 := n5_
       have GE131 := n6_
       have NB124_131 := n7_
       have NB131_124 := n8_
       have NB125_131 := n9_
       have NB131_125 := n10_
       have NB126_131 := n11_
       have NB131_126 := n12_
       clear n0_ n1_ n2_ n3_ n4_ n5_ n6_ n7_ n8_ n9_ n10_ n11_ n12_
       clear hb hbox hg
       refine hK.out _ _ ⟨(blk_cell BK124.out 0).trans rfl, (blk_cell BK124.out 1).trans rfl, (blk_cell BK125.out 0).trans rfl, (blk_cell BK125.out 1).trans rfl⟩ (fun hHeld => ?_)
       clear hK K
       refine norm_ (a' := ?_) ?_ ?_
       rotate_left
       ·show Act.put _ (some 7) _ = _
        simp only [Act.put, List.setIfInBounds_toArray, List.set_cons_zero, List.set_cons_succ, i64_w, i32_w]
        rfl
       exact norm_ (by first | (simp only [putAll, Act.put, List.setIfInBounds_toArray, List.set_cons_zero, List.set_cons_succ]; done) | (simp only [putAll, Act.put, List.setIfInBounds_toArray, List.set_cons_zero, List.set_cons_succ]; rfl)) (hJ2_5_6 (gb131) _ ⟨hHeld, (bk_ BK124), (bk_ BK125), (bk_ BK126), (bk_ BK131), GW131.out, GE131.out, NB124_131.out, NB131_124.out, NB125_131.out, NB131_125.out, NB126_131.out, NB131_126.out, (bh_ HB)⟩)
      ·skip
       refine box_step ?hg (N := 8) ?hd (cs := #[.int .i64 0, .int .u32 0]) (t := 24) ?hr ?_; (case hd => rfl); (case hg => rfl); (case hr => first | (go_simp; done) | (go_simp; rfl))
       intro gb132 hg w14 hbox hb
       have n0_ := Aside0.mk (blk_below (g := gb124) (o := .cells #[.int .i64 a0_0, .int .u32 a0_1] 24 (0, 0)) (bk_ BK124) hb)
       have n1_ := Aside0.mk (blk_below (g := gb125) (o := .cells #[.int .i64 a1_0, .int .u32 a1_1] 24 (0, 0)) (bk_ BK125) hb)
       have n2_ := Aside0.mk (blk_below (g := gb126) (o := .cells #[.int .i64 a2_0, .int .u32 a2_1] 24 (0, 0)) (bk_ BK126) hb)
       have n3_ := Aside0.mk (below_step (bh_ HB) hb)
       have n4_ := Aside0.mk (hbox)
       have n5_ := Aside0.mk ((by rw [hg]; exact (below_size (bh_ HB)) : w.heap.size ≤ gb132))
       have n6_ := Aside0.mk ((by rw [hg]; exact (below_size (bh_ HB)) : w.heap.size ≤ gb132))
       have n7_ := Aside0.mk ((by rw [hg]; exact Nat.ne_of_lt (blk_lt (g := gb124) (o := .cells #[.int .i64 a0_0, .int .u32 a0_1] 24 (0, 0)) (bk_ BK124)) : gb124 ≠ gb132))
       have n8_ := Aside0.mk ((by rw [hg]; exact Nat.ne_of_gt (blk_lt (g := gb124) (o := .cells #[.int .i64 a0_0, .int .u32 a0_1] 24 (0, 0)) (bk_ BK124)) : gb132 ≠ gb124))
       have n9_ := Aside0.mk ((by rw [hg]; exact Nat.ne_of_lt (blk_lt (g := gb125) (o := .cells #[.int .i64 a1_0, .int .u32 a1_1] 24 (0, 0)) (bk_ BK125)) : gb125 ≠ gb132))
       have n10_ := Aside0.mk ((by rw [hg]; exact Nat.ne_of_gt (blk_lt (g := gb125) (o := .cells #[.int .i64 a1_0, .int .u32 a1_1] 24 (0, 0)) (bk_ BK125)) : gb132 ≠ gb125))
       have n11_ := Aside0.mk ((by rw [hg]; exact Nat.ne_of_lt (blk_lt (g := gb126) (o := .cells #[.int .i64 a2_0, .int .u32 a2_1] 24 (0, 0)) (bk_ BK126)) : gb126 ≠ gb132))
       have n12_ := Aside0.mk ((by rw [hg]; exact Nat.ne_of_gt (blk_lt (g := gb126) (o := .cells #[.int .i64 a2_0, .int .u32 a2_1] 24 (0, 0)) (bk_ BK126)) : gb132 ≠ gb126))
       clear BK124
       clear BK125
       clear BK126
       clear HB
       have BK124 := n0_
       have BK125 := n1_
       have BK126 := n2_
       have HB := n3_
       have BK132 := n4_
       have GW132 := n5_
       have GE132 := n6_
       have NB124_132 := n7_
       have NB132_124 := n8_
       have NB125_132 := n9_
       have NB132_125 := n10_
       have NB126_132 := n11_
       have NB132_126 := n12_
       clear n0_ n1_ n2_ n3_ n4_ n5_ n6_ n7_ n8_ n9_ n10_ n11_ n12_
       clear hb hbox hg
       refine hK.out _ _ ⟨(blk_cell BK124.out 0).trans rfl, (blk_cell BK124.out 1).trans rfl, (blk_cell BK125.out 0).trans rfl, (blk_cell BK125.out 1).trans rfl⟩ (fun hHeld => ?_)
       clear hK K
       refine norm_ (a' := ?_) ?_ ?_
       rotate_left
       ·show Act.put _ (some 8) _ = _
        simp only [Act.put, List.setIfInBounds_toArray, List.set_cons_zero, List.set_cons_succ, i64_w, i32_w]
        rfl
       exact norm_ (by first | (simp only [putAll, Act.put, List.setIfInBounds_toArray, List.set_cons_zero, List.set_cons_succ]; done) | (simp only [putAll, Act.put, List.setIfInBounds_toArray, List.set_cons_zero, List.set_cons_succ]; rfl)) (hJ2_5_7 (gb132) _ ⟨hHeld, (bk_ BK124), (bk_ BK125), (bk_ BK126), (bk_ BK132), GW132.out, GE132.out, NB124_132.out, NB132_124.out, NB125_132.out, NB132_125.out, NB126_132.out, NB132_126.out, (bh_ HB)⟩)
    ·skip
     rintro ⟨gb131, gb132⟩ w14 ⟨hS_, h0_, h1_, h2_, h3_, h4_, h5_, h6_, h7_, h8_, h9_, h10_, h11_, h12_, h13_, h14_, h15_, h16_, h17_, h18_, h19_, h20_, h21_, h22_, h23_⟩
     have n0_ : Aside0 (w14.heap[gb124]? = some (.cells #[.int .i64 a0_0, .int .u32 a0_1] 24 (0, 0))) := ⟨h0_⟩
     have n1_ : Aside0 (w14.heap[gb125]? = some (.cells #[.int .i64 a1_0, .int .u32 a1_1] 24 (0, 0))) := ⟨h1_⟩
     have n2_ : Aside0 (w14.heap[gb126]? = some (.cells #[.int .i64 a2_0, .int .u32 a2_1] 24 (0, 0))) := ⟨h2_⟩
     have n3_ : Aside0 (w14.heap[gb131]? = some (.cells #[.int .i64 0, .int .u32 0] 24 (0, 0))) := ⟨h3_⟩
     have n4_ : Aside0 (w14.heap[gb132]? = some (.cells #[.int .i64 0, .int .u32 0] 24 (0, 0))) := ⟨h4_⟩
     have n5_ : Aside0 (w.heap.size ≤ gb131) := ⟨h5_⟩
     have n6_ : Aside0 (w.heap.size ≤ gb131) := ⟨h6_⟩
     have n7_ : Aside0 (gb124 ≠ gb131) := ⟨h7_⟩
     have n8_ : Aside0 (gb131 ≠ gb124) := ⟨h8_⟩
     have n9_ : Aside0 (gb125 ≠ gb131) := ⟨h9_⟩
     have n10_ : Aside0 (gb131 ≠ gb125) := ⟨h10_⟩
     have n11_ : Aside0 (gb126 ≠ gb131) := ⟨h11_⟩
     have n12_ : Aside0 (gb131 ≠ gb126) := ⟨h12_⟩
     have n13_ : Aside0 (gb132 ≠ gb131) := ⟨h13_⟩
     have n14_ : Aside0 (gb131 ≠ gb132) := ⟨h14_⟩
     have n15_ : Aside0 (w.heap.size ≤ gb132) := ⟨h15_⟩
     have n16_ : Aside0 (w.heap.size ≤ gb132) := ⟨h16_⟩
     have n17_ : Aside0 (gb124 ≠ gb132) := ⟨h17_⟩
     have n18_ : Aside0 (gb132 ≠ gb124) := ⟨h18_⟩
     have n19_ : Aside0 (gb125 ≠ gb132) := ⟨h19_⟩
     have n20_ : Aside0 (gb132 ≠ gb125) := ⟨h20_⟩
     have n21_ : Aside0 (gb126 ≠ gb132) := ⟨h21_⟩
     have n22_ : Aside0 (gb132 ≠ gb126) := ⟨h22_⟩
     have n23_ : Aside0 (Below w.heap.size w w14) := ⟨h23_⟩
     clear BK124
     clear BK125
     clear BK126
     clear HB
     clear h0_ h1_ h2_ h3_ h4_ h5_ h6_ h7_ h8_ h9_ h10_ h11_ h12_ h13_ h14_ h15_ h16_ h17_ h18_ h19_ h20_ h21_ h22_ h23_
     have BK124 := n0_
     have BK125 := n1_
     have BK126 := n2_
     have BK131 := n3_
     have BK132 := n4_
     have GW131 := n5_
     have GE131 := n6_
     have NB124_131 := n7_
     have NB131_124 := n8_
     have NB125_131 := n9_
     have NB131_125 := n10_
     have NB126_131 := n11_
     have NB131_126 := n12_
     have NB132_131 := n13_
     have NB131_132 := n14_
     have GW132 := n15_
     have GE132 := n16_
     have NB124_132 := n17_
     have NB132_124 := n18_
     have NB125_132 := n19_
     have NB132_125 := n20_
     have NB126_132 := n21_
     have NB132_126 := n22_
     have HB := n23_
     clear n0_ n1_ n2_ n3_ n4_ n5_ n6_ n7_ n8_ n9_ n10_ n11_ n12_ n13_ n14_ n15_ n16_ n17_ n18_ n19_ n20_ n21_ n22_ n23_
     have hHeld : w14.cell? ⟨gb124, 0, none⟩ = some (.int .i64 a0_0) ∧ w14.cell? ⟨gb124, 1, none⟩ = some (.int .u32 a0_1) ∧ w14.cell? ⟨gb125, 0, none⟩ = some (.int .i64 a1_0) ∧ w14.cell? ⟨gb125, 1, none⟩ = some (.int .u32 a1_1) := hS_
     refine norm_ (a' := ?_) ?_ ?_
     rotate_left
     ·simp only [putAll, Act.put, List.setIfInBounds_toArray, List.set_cons_zero, List.set_cons_succ]
      rfl
     refine one_ (i := 5) (N := some 16) #[true, true, true, true, true, true, true, true, false, false] rfl rfl (one_of HT_.out (by kernel_rfl)) (by decide) (fun K hK => ?_)
     refine goes_ Tryd.func16 (by kernel_rfl) rfl #[.agg #[.int .i64 a0_0, .int .u32 a0_1], .agg #[.int .i64 a1_0, .int .u32 a1_1]] (by rfl) rfl rfl (by (try simp only [List.map_toArray, List.map_cons, List.map_nil]); first | done | rfl | (simp only [List.length_drop, List.length_take]; rfl)) ?_
     with_reducible refine (label_Meet.calls a0_0 a0_1 a1_0 a1_1 t129 t130 _ A5.out).mono ?_
     rintro e w15 ⟨rfl, hb⟩
     refine ⟨_, rfl, ?_⟩
     have n0_ := Aside0.mk (blk_below (g := gb124) (o := .cells #[.int .i64 a0_0, .int .u32 a0_1] 24 (0, 0)) (bk_ BK124) hb)
     have n1_ := Aside0.mk (blk_below (g := gb125) (o := .cells #[.int .i64 a1_0, .int .u32 a1_1] 24 (0, 0)) (bk_ BK125) hb)
     have n2_ := Aside0.mk (blk_below (g := gb126) (o := .cells #[.int .i64 a2_0, .int .u32 a2_1] 24 (0, 0)) (bk_ BK126) hb)
     have n3_ := Aside0.mk (blk_below (g := gb131) (o := .cells #[.int .i64 0, .int .u32 0] 24 (0, 0)) (bk_ BK131) hb)
     have n4_ := Aside0.mk (blk_below (g := gb132) (o := .cells #[.int .i64 0, .int .u32 0] 24 (0, 0)) (bk_ BK132) hb)
     have n5_ := Aside0.mk (below_step (bh_ HB) hb)
     clear BK124
     clear BK125
     clear BK126
     clear BK131
     clear BK132
     clear HB
     have BK124 := n0_
     have BK125 := n1_
     have BK126 := n2_
     have BK131 := n3_
     have BK132 := n4_
     have HB := n5_
     clear n0_ n1_ n2_ n3_ n4_ n5_
     (try clear hb); (try clear hb2); (try clear hk); (try clear hi)
     refine hK.out _ _ ⟨(blk_cell BK124.out 0).trans rfl, (blk_cell BK124.out 1).trans rfl, (blk_cell BK125.out 0).trans rfl, (blk_cell BK125.out 1).trans rfl⟩ (fun hHeld => ?_)
     clear hK K
     refine norm_ (a' := ?_) ?_ ?_
     rotate_left
     ·show Act.put _ (some 16) _ = _
      simp only [Act.put, List.setIfInBounds_toArray, List.set_cons_zero, List.set_cons_succ, i64_w, i32_w]
      rfl
     exact norm_ (by first | (simp only [putAll, Act.put, List.setIfInBounds_toArray, List.set_cons_zero, List.set_cons_succ]; done) | (simp only [putAll, Act.put, List.setIfInBounds_toArray, List.set_cons_zero, List.set_cons_succ]; rfl)) (hJ2_5_6_7 (gb131, gb132) _ ⟨hHeld, (bk_ BK124), (bk_ BK125), (bk_ BK126), (bk_ BK131), (bk_ BK132), GW131.out, GE131.out, NB124_131.out, NB131_124.out, NB125_131.out, NB131_125.out, NB126_131.out, NB131_126.out, NB132_131.out, NB131_132.out, GW132.out, GE132.out, NB124_132.out, NB132_124.out, NB125_132.out, NB132_125.out, NB126_132.out, NB132_126.out, (bh_ HB)⟩)
   ·skip
    rintro gb132 w14 ⟨hS_, h0_, h1_, h2_, h3_, h4_, h5_, h6_, h7_, h8_, h9_, h10_, h11_, h12_⟩
    have n0_ : Aside0 (w14.heap[gb124]? = some (.cells #[.int .i64 a0_0, .int .u32 a0_1] 24 (0, 0))) := ⟨h0_⟩
    have n1_ : Aside0 (w14.heap[gb125]? = some (.cells #[.int .i64 a1_0, .int .u32 a1_1] 24 (0, 0))) := ⟨h1_⟩
    have n2_ : Aside0 (w14.heap[gb126]? = some (.cells #[.int .i64 a2_0, .int .u32 a2_1] 24 (0, 0))) := ⟨h2_⟩
    have n3_ : Aside0 (w14.heap[gb132]? = some (.cells #[.int .i64 0, .int .u32 0] 24 (0, 0))) := ⟨h3_⟩
    have n4_ : Aside0 (w.heap.size ≤ gb132) := ⟨h4_⟩
    have n5_ : Aside0 (w.heap.size ≤ gb132) := ⟨h5_⟩
    have n6_ : Aside0 (gb124 ≠ gb132) := ⟨h6_⟩
    have n7_ : Aside0 (gb132 ≠ gb124) := ⟨h7_⟩
    have n8_ : Aside0 (gb125 ≠ gb132) := ⟨h8_⟩
    have n9_ : Aside0 (gb132 ≠ gb125) := ⟨h9_⟩
    have n10_ : Aside0 (gb126 ≠ gb132) := ⟨h10_⟩
    have n11_ : Aside0 (gb132 ≠ gb126) := ⟨h11_⟩
    have n12_ : Aside0 (Below w.heap.size w w14) := ⟨h12_⟩
    clear BK124
    clear BK125
    clear BK126
    clear HB
    clear h0_ h1_ h2_ h3_ h4_ h5_ h6_ h7_ h8_ h9_ h10_ h11_ h12_
    have BK124 := n0_
    have BK125 := n1_
    have BK126 := n2_
    have BK132 := n3_
    have GW132 := n4_
    have GE132 := n5_
    have NB124_132 := n6_
    have NB132_124 := n7_
    have NB125_132 := n8_
    have NB132_125 := n9_
    have NB126_132 := n10_
    have NB132_126 := n11_
    have HB := n12_
    clear n0_ n1_ n2_ n3_ n4_ n5_ n6_ n7_ n8_ n9_ n10_ n11_ n12_
    have hHeld : w14.cell? ⟨gb124, 0, none⟩ = some (.int .i64 a0_0) ∧ w14.cell? ⟨gb124, 1, none⟩ = some (.int .u32 a0_1) ∧ w14.cell? ⟨gb125, 0, none⟩ = some (.int .i64 a1_0) ∧ w14.cell? ⟨gb125, 1, none⟩ = some (.int .u32 a1_1) := hS_
    refine norm_ (a' := ?_) ?_ ?_
    rotate_left
    ·simp only [putAll, Act.put, List.setIfInBounds_toArray, List.set_cons_zero, List.set_cons_succ]
     rfl
    refine one_ (i := 6) (N := some 7) #[true, true, true, true, true, true, true, true, false, false] rfl rfl (one_of HT_.out (by kernel_rfl)) (by decide) (fun K hK => ?_)
    refine box_step ?hg (N := 7) ?hd (cs := #[.int .i64 0, .int .u32 0]) (t := 24) ?hr ?_; (case hd => rfl); (case hg => rfl); (case hr => first | (go_simp; done) | (go_simp; rfl))
    intro gb131 hg w15 hbox hb
    have n0_ := Aside0.mk (blk_below (g := gb124) (o := .cells #[.int .i64 a0_0, .int .u32 a0_1] 24 (0, 0)) (bk_ BK124) hb)
    have n1_ := Aside0.mk (blk_below (g := gb125) (o := .cells #[.int .i64 a1_0, .int .u32 a1_1] 24 (0, 0)) (bk_ BK125) hb)
    have n2_ := Aside0.mk (blk_below (g := gb126) (o := .cells #[.int .i64 a2_0, .int .u32 a2_1] 24 (0, 0)) (bk_ BK126) hb)
    have n3_ := Aside0.mk (blk_below (g := gb132) (o := .cells #[.int .i64 0, .int .u32 0] 24 (0, 0)) (bk_ BK132) hb)
    have n4_ := Aside0.mk (below_step (bh_ HB) hb)
    have n5_ := Aside0.mk (hbox)
    have n6_ := Aside0.mk ((by rw [hg]; exact (below_size (bh_ HB)) : w.heap.size ≤ gb131))
    have n7_ := Aside0.mk ((by rw [hg]; exact (below_size (bh_ HB)) : w.heap.size ≤ gb131))
    have n8_ := Aside0.mk ((by rw [hg]; exact Nat.ne_of_lt (blk_lt (g := gb124) (o := .cells #[.int .i64 a0_0, .int .u32 a0_1] 24 (0, 0)) (bk_ BK124)) : gb124 ≠ gb131))
    have n9_ := Aside0.mk ((by rw [hg]; exact Nat.ne_of_gt (blk_lt (g := gb124) (o := .cells #[.int .i64 a0_0, .int .u32 a0_1] 24 (0, 0)) (bk_ BK124)) : gb131 ≠ gb124))
    have n10_ := Aside0.mk ((by rw [hg]; exact Nat.ne_of_lt (blk_lt (g := gb125) (o := .cells #[.int .i64 a1_0, .int .u32 a1_1] 24 (0, 0)) (bk_ BK125)) : gb125 ≠ gb131))
    have n11_ := Aside0.mk ((by rw [hg]; exact Nat.ne_of_gt (blk_lt (g := gb125) (o := .cells #[.int .i64 a1_0, .int .u32 a1_1] 24 (0, 0)) (bk_ BK125)) : gb131 ≠ gb125))
    have n12_ := Aside0.mk ((by rw [hg]; exact Nat.ne_of_lt (blk_lt (g := gb126) (o := .cells #[.int .i64 a2_0, .int .u32 a2_1] 24 (0, 0)) (bk_ BK126)) : gb126 ≠ gb131))
    have n13_ := Aside0.mk ((by rw [hg]; exact Nat.ne_of_gt (blk_lt (g := gb126) (o := .cells #[.int .i64 a2_0, .int .u32 a2_1] 24 (0, 0)) (bk_ BK126)) : gb131 ≠ gb126))
    have n14_ := Aside0.mk ((by rw [hg]; exact Nat.ne_of_lt (blk_lt (g := gb132) (o := .cells #[.int .i64 0, .int .u32 0] 24 (0, 0)) (bk_ BK132)) : gb132 ≠ gb131))
    have n15_ := Aside0.mk ((by rw [hg]; exact Nat.ne_of_gt (blk_lt (g := gb132) (o := .cells #[.int .i64 0, .int .u32 0] 24 (0, 0)) (bk_ BK132)) : gb131 ≠ gb132))
    clear BK124
    clear BK125
    clear BK126
    clear BK132
    clear HB
    have BK124 := n0_
    have BK125 := n1_
    have BK126 := n2_
    have BK132 := n3_
    have HB := n4_
    have BK131 := n5_
    have GW131 := n6_
    have GE131 := n7_
    have NB124_131 := n8_
    have NB131_124 := n9_
    have NB125_131 := n10_
    have NB131_125 := n11_
    have NB126_131 := n12_
    have NB131_126 := n13_
    have NB132_131 := n14_
    have NB131_132 := n15_
    clear n0_ n1_ n2_ n3_ n4_ n5_ n6_ n7_ n8_ n9_ n10_ n11_ n12_ n13_ n14_ n15_
    clear hb hbox hg
    refine hK.out _ _ ⟨(blk_cell BK124.out 0).trans rfl, (blk_cell BK124.out 1).trans rfl, (blk_cell BK125.out 0).trans rfl, (blk_cell BK125.out 1).trans rfl⟩ (fun hHeld => ?_)
    clear hK K
    refine norm_ (a' := ?_) ?_ ?_
    rotate_left
    ·show Act.put _ (some 7) _ = _
     simp only [Act.put, List.setIfInBounds_toArray, List.set_cons_zero, List.set_cons_succ, i64_w, i32_w]
     rfl
    exact norm_ (by first | (simp only [putAll, Act.put, List.setIfInBounds_toArray, List.set_cons_zero, List.set_cons_succ]; done) | (simp only [putAll, Act.put, List.setIfInBounds_toArray, List.set_cons_zero, List.set_cons_succ]; rfl)) (hJ2_5_6_7 (gb131, gb132) _ ⟨hHeld, (bk_ BK124), (bk_ BK125), (bk_ BK126), (bk_ BK131), (bk_ BK132), GW131.out, GE131.out, NB124_131.out, NB131_124.out, NB125_131.out, NB131_125.out, NB126_131.out, NB131_126.out, NB132_131.out, NB131_132.out, GW132.out, GE132.out, NB124_132.out, NB132_124.out, NB125_132.out, NB132_125.out, NB126_132.out, NB132_126.out, (bh_ HB)⟩)
  ·skip
   rintro gb131 w14 ⟨hS_, h0_, h1_, h2_, h3_, h4_, h5_, h6_, h7_, h8_, h9_, h10_, h11_, h12_⟩
   have n0_ : Aside0 (w14.heap[gb124]? = some (.cells #[.int .i64 a0_0, .int .u32 a0_1] 24 (0, 0))) := ⟨h0_⟩
   have n1_ : Aside0 (w14.heap[gb125]? = some (.cells #[.int .i64 a1_0, .int .u32 a1_1] 24 (0, 0))) := ⟨h1_⟩
   have n2_ : Aside0 (w14.heap[gb126]? = some (.cells #[.int .i64 a2_0, .int .u32 a2_1] 24 (0, 0))) := ⟨h2_⟩
   have n3_ : Aside0 (w14.heap[gb131]? = some (.cells #[.int .i64 0, .int .u32 0] 24 (0, 0))) := ⟨h3_⟩
   have n4_ : Aside0 (w.heap.size ≤ gb131) := ⟨h4_⟩
   have n5_ : Aside0 (w.heap.size ≤ gb131) := ⟨h5_⟩
   have n6_ : Aside0 (gb124 ≠ gb131) := ⟨h6_⟩
   have n7_ : Aside0 (gb131 ≠ gb124) := ⟨h7_⟩
   have n8_ : Aside0 (gb125 ≠ gb131) := ⟨h8_⟩
   have n9_ : Aside0 (gb131 ≠ gb125) := ⟨h9_⟩
   have n10_ : Aside0 (gb126 ≠ gb131) := ⟨h10_⟩
   have n11_ : Aside0 (gb131 ≠ gb126) := ⟨h11_⟩
   have n12_ : Aside0 (Below w.heap.size w w14) := ⟨h12_⟩
   clear BK124
   clear BK125
   clear BK126
   clear HB
   clear h0_ h1_ h2_ h3_ h4_ h5_ h6_ h7_ h8_ h9_ h10_ h11_ h12_
   have BK124 := n0_
   have BK125 := n1_
   have BK126 := n2_
   have BK131 := n3_
   have GW131 := n4_
   have GE131 := n5_
   have NB124_131 := n6_
   have NB131_124 := n7_
   have NB125_131 := n8_
   have NB131_125 := n9_
   have NB126_131 := n10_
   have NB131_126 := n11_
   have HB := n12_
   clear n0_ n1_ n2_ n3_ n4_ n5_ n6_ n7_ n8_ n9_ n10_ n11_ n12_
   have hHeld : w14.cell? ⟨gb124, 0, none⟩ = some (.int .i64 a0_0) ∧ w14.cell? ⟨gb124, 1, none⟩ = some (.int .u32 a0_1) ∧ w14.cell? ⟨gb125, 0, none⟩ = some (.int .i64 a1_0) ∧ w14.cell? ⟨gb125, 1, none⟩ = some (.int .u32 a1_1) := hS_
   refine norm_ (a' := ?_) ?_ ?_
   rotate_left
   ·simp only [putAll, Act.put, List.setIfInBounds_toArray, List.set_cons_zero, List.set_cons_succ]
    rfl
   refine one_ (i := 7) (N := some 8) #[true, true, true, true, true, true, true, true, false, false] rfl rfl (one_of HT_.out (by kernel_rfl)) (by decide) (fun K hK => ?_)
   refine box_step ?hg (N := 8) ?hd (cs := #[.int .i64 0, .int .u32 0]) (t := 24) ?hr ?_; (case hd => rfl); (case hg => rfl); (case hr => first | (go_simp; done) | (go_simp; rfl))
   intro gb132 hg w15 hbox hb
   have n0_ := Aside0.mk (blk_below (g := gb124) (o := .cells #[.int .i64 a0_0, .int .u32 a0_1] 24 (0, 0)) (bk_ BK124) hb)
   have n1_ := Aside0.mk (blk_below (g := gb125) (o := .cells #[.int .i64 a1_0, .int .u32 a1_1] 24 (0, 0)) (bk_ BK125) hb)
   have n2_ := Aside0.mk (blk_below (g := gb126) (o := .cells #[.int .i64 a2_0, .int .u32 a2_1] 24 (0, 0)) (bk_ BK126) hb)
   have n3_ := Aside0.mk (blk_below (g := gb131) (o := .cells #[.int .i64 0, .int .u32 0] 24 (0, 0)) (bk_ BK131) hb)
   have n4_ := Aside0.mk (below_step (bh_ HB) hb)
   have n5_ := Aside0.mk (hbox)
   have n6_ := Aside0.mk ((by rw [hg]; exact (below_size (bh_ HB)) : w.heap.size ≤ gb132))
   have n7_ := Aside0.mk ((by rw [hg]; exact (below_size (bh_ HB)) : w.heap.size ≤ gb132))
   have n8_ := Aside0.mk ((by rw [hg]; exact Nat.ne_of_lt (blk_lt (g := gb124) (o := .cells #[.int .i64 a0_0, .int .u32 a0_1] 24 (0, 0)) (bk_ BK124)) : gb124 ≠ gb132))
   have n9_ := Aside0.mk ((by rw [hg]; exact Nat.ne_of_gt (blk_lt (g := gb124) (o := .cells #[.int .i64 a0_0, .int .u32 a0_1] 24 (0, 0)) (bk_ BK124)) : gb132 ≠ gb124))
   have n10_ := Aside0.mk ((by rw [hg]; exact Nat.ne_of_lt (blk_lt (g := gb125) (o := .cells #[.int .i64 a1_0, .int .u32 a1_1] 24 (0, 0)) (bk_ BK125)) : gb125 ≠ gb132))
   have n11_ := Aside0.mk ((by rw [hg]; exact Nat.ne_of_gt (blk_lt (g := gb125) (o := .cells #[.int .i64 a1_0, .int .u32 a1_1] 24 (0, 0)) (bk_ BK125)) : gb132 ≠ gb125))
   have n12_ := Aside0.mk ((by rw [hg]; exact Nat.ne_of_lt (blk_lt (g := gb126) (o := .cells #[.int .i64 a2_0, .int .u32 a2_1] 24 (0, 0)) (bk_ BK126)) : gb126 ≠ gb132))
   have n13_ := Aside0.mk ((by rw [hg]; exact Nat.ne_of_gt (blk_lt (g := gb126) (o := .cells #[.int .i64 a2_0, .int .u32 a2_1] 24 (0, 0)) (bk_ BK126)) : gb132 ≠ gb126))
   have n14_ := Aside0.mk ((by rw [hg]; exact Nat.ne_of_lt (blk_lt (g := gb131) (o := .cells #[.int .i64 0, .int .u32 0] 24 (0, 0)) (bk_ BK131)) : gb131 ≠ gb132))
   have n15_ := Aside0.mk ((by rw [hg]; exact Nat.ne_of_gt (blk_lt (g := gb131) (o := .cells #[.int .i64 0, .int .u32 0] 24 (0, 0)) (bk_ BK131)) : gb132 ≠ gb131))
   clear BK124
   clear BK125
   clear BK126
   clear BK131
   clear HB
   have BK124 := n0_
   have BK125 := n1_
   have BK126 := n2_
   have BK131 := n3_
   have HB := n4_
   have BK132 := n5_
   have GW132 := n6_
   have GE132 := n7_
   have NB124_132 := n8_
   have NB132_124 := n9_
   have NB125_132 := n10_
   have NB132_125 := n11_
   have NB126_132 := n12_
   have NB132_126 := n13_
   have NB131_132 := n14_
   have NB132_131 := n15_
   clear n0_ n1_ n2_ n3_ n4_ n5_ n6_ n7_ n8_ n9_ n10_ n11_ n12_ n13_ n14_ n15_
   clear hb hbox hg
   refine hK.out _ _ ⟨(blk_cell BK124.out 0).trans rfl, (blk_cell BK124.out 1).trans rfl, (blk_cell BK125.out 0).trans rfl, (blk_cell BK125.out 1).trans rfl⟩ (fun hHeld => ?_)
   clear hK K
   refine norm_ (a' := ?_) ?_ ?_
   rotate_left
   ·show Act.put _ (some 8) _ = _
    simp only [Act.put, List.setIfInBounds_toArray, List.set_cons_zero, List.set_cons_succ, i64_w, i32_w]
    rfl
   exact norm_ (by first | (simp only [putAll, Act.put, List.setIfInBounds_toArray, List.set_cons_zero, List.set_cons_succ]; done) | (simp only [putAll, Act.put, List.setIfInBounds_toArray, List.set_cons_zero, List.set_cons_succ]; rfl)) (hJ2_5_6_7 (gb131, gb132) _ ⟨hHeld, (bk_ BK124), (bk_ BK125), (bk_ BK126), (bk_ BK131), (bk_ BK132), GW131.out, GE131.out, NB124_131.out, NB131_124.out, NB125_131.out, NB131_125.out, NB126_131.out, NB131_126.out, NB132_131.out, NB131_132.out, GW132.out, GE132.out, NB124_132.out, NB132_124.out, NB125_132.out, NB132_125.out, NB126_132.out, NB132_126.out, (bh_ HB)⟩)
 rintro ⟨gb131, gb132⟩ w15 ⟨hS_, h0_, h1_, h2_, h3_, h4_, h5_, h6_, h7_, h8_, h9_, h10_, h11_, h12_, h13_, h14_, h15_, h16_, h17_, h18_, h19_, h20_, h21_, h22_, h23_⟩
 have n0_ : Aside0 (w15.heap[gb124]? = some (.cells #[.int .i64 a0_0, .int .u32 a0_1] 24 (0, 0))) := ⟨h0_⟩
 have n1_ : Aside0 (w15.heap[gb125]? = some (.cells #[.int .i64 a1_0, .int .u32 a1_1] 24 (0, 0))) := ⟨h1_⟩
 have n2_ : Aside0 (w15.heap[gb126]? = some (.cells #[.int .i64 a2_0, .int .u32 a2_1] 24 (0, 0))) := ⟨h2_⟩
 have n3_ : Aside0 (w15.heap[gb131]? = some (.cells #[.int .i64 0, .int .u32 0] 24 (0, 0))) := ⟨h3_⟩
 have n4_ : Aside0 (w15.heap[gb132]? = some (.cells #[.int .i64 0, .int .u32 0] 24 (0, 0))) := ⟨h4_⟩
 have n5_ : Aside0 (w.heap.size ≤ gb131) := ⟨h5_⟩
 have n6_ : Aside0 (w.heap.size ≤ gb131) := ⟨h6_⟩
 have n7_ : Aside0 (gb124 ≠ gb131) := ⟨h7_⟩
 have n8_ : Aside0 (gb131 ≠ gb124) := ⟨h8_⟩
 have n9_ : Aside0 (gb125 ≠ gb131) := ⟨h9_⟩
 have n10_ : Aside0 (gb131 ≠ gb125) := ⟨h10_⟩
 have n11_ : Aside0 (gb126 ≠ gb131) := ⟨h11_⟩
 have n12_ : Aside0 (gb131 ≠ gb126) := ⟨h12_⟩
 have n13_ : Aside0 (gb132 ≠ gb131) := ⟨h13_⟩
 have n14_ : Aside0 (gb131 ≠ gb132) := ⟨h14_⟩
 have n15_ : Aside0 (w.heap.size ≤ gb132) := ⟨h15_⟩
 have n16_ : Aside0 (w.heap.size ≤ gb132) := ⟨h16_⟩
 have n17_ : Aside0 (gb124 ≠ gb132) := ⟨h17_⟩
 have n18_ : Aside0 (gb132 ≠ gb124) := ⟨h18_⟩
 have n19_ : Aside0 (gb125 ≠ gb132) := ⟨h19_⟩
 have n20_ : Aside0 (gb132 ≠ gb125) := ⟨h20_⟩
 have n21_ : Aside0 (gb126 ≠ gb132) := ⟨h21_⟩
 have n22_ : Aside0 (gb132 ≠ gb126) := ⟨h22_⟩
 have n23_ : Aside0 (Below w.heap.size w w15) := ⟨h23_⟩
 clear BK124
 clear BK125
 clear BK126
 clear HB
 clear h0_ h1_ h2_ h3_ h4_ h5_ h6_ h7_ h8_ h9_ h10_ h11_ h12_ h13_ h14_ h15_ h16_ h17_ h18_ h19_ h20_ h21_ h22_ h23_
 have BK124 := n0_
 have BK125 := n1_
 have BK126 := n2_
 have BK131 := n3_
 have BK132 := n4_
 have GW131 := n5_
 have GE131 := n6_
 have NB124_131 := n7_
 have NB131_124 := n8_
 have NB125_131 := n9_
 have NB131_125 := n10_
 have NB126_131 := n11_
 have NB131_126 := n12_
 have NB132_131 := n13_
 have NB131_132 := n14_
 have GW132 := n15_
 have GE132 := n16_
 have NB124_132 := n17_
 have NB132_124 := n18_
 have NB125_132 := n19_
 have NB132_125 := n20_
 have NB126_132 := n21_
 have NB132_126 := n22_
 have HB := n23_
 clear n0_ n1_ n2_ n3_ n4_ n5_ n6_ n7_ n8_ n9_ n10_ n11_ n12_ n13_ n14_ n15_ n16_ n17_ n18_ n19_ n20_ n21_ n22_ n23_
 have hHeld : w15.cell? ⟨gb124, 0, none⟩ = some (.int .i64 a0_0) ∧ w15.cell? ⟨gb124, 1, none⟩ = some (.int .u32 a0_1) ∧ w15.cell? ⟨gb125, 0, none⟩ = some (.int .i64 a1_0) ∧ w15.cell? ⟨gb125, 1, none⟩ = some (.int .u32 a1_1) := hS_
 refine norm_ (a' := ?_) ?_ ?_
 rotate_left
 ·simp only [putAll, Act.put, List.setIfInBounds_toArray, List.set_cons_zero, List.set_cons_succ]
  rfl
 refine one_ (i := 8) (N := none) #[true, true, true, true, true, true, true, true, true, false] rfl rfl (one_of HT_.out (by kernel_rfl)) (by decide) (fun K hK => ?_)
 have hs16 : w15.cell? ⟨gb131, 0, none⟩ = some (.int .i64 0) := (blk_cell BK131.out 0).trans rfl
 have hfs16 := blk_frozen BK131.out 0
 have hns16_0 := NB124_131.out
 have hns16_1 := NB125_131.out
 have hns16_2 := NB126_131.out
 have hns16_4 := NB132_131.out
 have hms16_0 := NB131_124.out
 have hms16_1 := NB131_125.out
 have hms16_2 := NB131_126.out
 have hms16_4 := NB131_132.out
 have hs17 : w15.cell? ⟨gb131, 1, none⟩ = some (.int .u32 0) := (blk_cell BK131.out 1).trans rfl
 have hfs17 := blk_frozen BK131.out 1
 have hns17_0 := NB124_131.out
 have hns17_1 := NB125_131.out
 have hns17_2 := NB126_131.out
 have hns17_4 := NB132_131.out
 have hms17_0 := NB131_124.out
 have hms17_1 := NB131_125.out
 have hms17_2 := NB131_126.out
 have hms17_4 := NB131_132.out
 refine skip_ (w1 := ?_) (by rfl) rfl ?_ ?_
 rotate_left
 ·go_simp
  rfl
 refine hK.out _ _ ⟨((cell_far (p := ⟨gb131, _, none⟩) NB124_131.out _).trans (((cell_far (p := ⟨gb131, _, none⟩) NB124_131.out _).trans (hHeld.1)))), ((cell_far (p := ⟨gb131, _, none⟩) NB124_131.out _).trans (((cell_far (p := ⟨gb131, _, none⟩) NB124_131.out _).trans (hHeld.2.1)))), ((cell_far (p := ⟨gb131, _, none⟩) NB125_131.out _).trans (((cell_far (p := ⟨gb131, _, none⟩) NB125_131.out _).trans (hHeld.2.2.1)))), ((cell_far (p := ⟨gb131, _, none⟩) NB125_131.out _).trans (((cell_far (p := ⟨gb131, _, none⟩) NB125_131.out _).trans (hHeld.2.2.2))))⟩ (fun hHeld => ?_)
 clear hK K
 refine one_ (i := 9) (N := none) #[true, true, true, true, true, true, true, true, true, true] rfl rfl (one_of HT_.out (by kernel_rfl)) (by decide) (fun K hK => ?_)
 have hs18 : w15.cell? ⟨gb132, 0, none⟩ = some (.int .i64 0) := (blk_cell BK132.out 0).trans rfl
 have hfs18 := blk_frozen BK132.out 0
 have hns18_0 := NB124_132.out
 have hns18_1 := NB125_132.out
 have hns18_2 := NB126_132.out
 have hns18_3 := NB131_132.out
 have hms18_0 := NB132_124.out
 have hms18_1 := NB132_125.out
 have hms18_2 := NB132_126.out
 have hms18_3 := NB132_131.out
 have hs19 : w15.cell? ⟨gb132, 1, none⟩ = some (.int .u32 0) := (blk_cell BK132.out 1).trans rfl
 have hfs19 := blk_frozen BK132.out 1
 have hns19_0 := NB124_132.out
 have hns19_1 := NB125_132.out
 have hns19_2 := NB126_132.out
 have hns19_3 := NB131_132.out
 have hms19_0 := NB132_124.out
 have hms19_1 := NB132_125.out
 have hms19_2 := NB132_126.out
 have hms19_3 := NB132_131.out
 refine skip_ (w1 := ?_) (by rfl) rfl ?_ ?_
 rotate_left
 ·go_simp
  rfl
 refine hK.out _ _ ⟨((cell_far (p := ⟨gb132, _, none⟩) NB124_132.out _).trans (((cell_far (p := ⟨gb132, _, none⟩) NB124_132.out _).trans (hHeld.1)))), ((cell_far (p := ⟨gb132, _, none⟩) NB124_132.out _).trans (((cell_far (p := ⟨gb132, _, none⟩) NB124_132.out _).trans (hHeld.2.1)))), ((cell_far (p := ⟨gb132, _, none⟩) NB125_132.out _).trans (((cell_far (p := ⟨gb132, _, none⟩) NB125_132.out _).trans (hHeld.2.2.1)))), ((cell_far (p := ⟨gb132, _, none⟩) NB125_132.out _).trans (((cell_far (p := ⟨gb132, _, none⟩) NB125_132.out _).trans (hHeld.2.2.2))))⟩ (fun hHeld => ?_)
 clear hK K
 refine done_ (done_of HT_.out (by kernel_rfl)) ?_
 go_upto_region 2 with (fail)
 go_cut [9] (fun v9 wc => ∃ (kq : Nat) (x9_5 : Bool), v9 = .bool x9_5 ∧ Aside0 (barbicanlaw01_LabelOrder.j0 kq x9_5 a0_0 a0_1 a1_0 a1_1 a2_0 a2_1 t127 t128 t129 t130 = some r) ∧ Aside0 (kq ≤ k) ∧ Aside0 (wc.heap[gb124]? = some (.cells #[.int .i64 a0_0, .int .u32 a0_1] 24 (0, 0))) ∧ Aside0 (wc.heap[gb125]? = some (.cells #[.int .i64 a1_0, .int .u32 a1_1] 24 (0, 0))) ∧ Aside0 (wc.heap[gb126]? = some (.cells #[.int .i64 a2_0, .int .u32 a2_1] 24 (0, 0))) ∧ Aside0 (wc.heap[gb131]? = some (.cells #[.int .i64 t127, .int .u32 t128] 24 (0, 0))) ∧ Aside0 (wc.heap[gb132]? = some (.cells #[.int .i64 t129, .int .u32 t130] 24 (0, 0))) ∧ Aside0 (Below w.heap.size w wc))
 case first =>
  have H := HC6.out
  clear HC6
  replace H := Option.bind_eq_some_iff.mp H
  obtain ⟨t133, A200, H⟩ := H
  replace H : (if t133 = true then ((label_Dominates.f a2_0 a2_1 a1_0 a1_1).bind fun t134 => (barbicanlaw01_LabelOrder.j0 k t134 a0_0 a0_1 a1_0 a1_1 a2_0 a2_1 t127 t128 t129 t130)) else (barbicanlaw01_LabelOrder.j0 k false a0_0 a0_1 a1_0 a1_1 a2_0 a2_1 t127 t128 t129 t130)) = some r := H
  have A20 := Aside0.mk A200
  clear A200
  by_cases c21 : t133 = true
  ·subst c21
   have H1 : ((label_Dominates.f a2_0 a2_1 a1_0 a1_1).bind fun t134 => (barbicanlaw01_LabelOrder.j0 k t134 a0_0 a0_1 a1_0 a1_1 a2_0 a2_1 t127 t128 t129 t130)) = some r := by rw [if_pos rfl] at H; exact H
   clear H
   have H := H1
   clear H1
   replace H := Option.bind_eq_some_iff.mp H
   obtain ⟨t134, A220, H⟩ := H
   replace H : (barbicanlaw01_LabelOrder.j0 k t134 a0_0 a0_1 a1_0 a1_1 a2_0 a2_1 t127 t128 t129 t130) = some r := H
   have A22 := Aside0.mk A220
   clear A220
   have H' := Aside0.mk H
   clear H
   have hnb23 := NB126_124.out
   have hnc23 := NB124_126.out
   have hnb24 := NB126_125.out
   have hnc24 := NB125_126.out
   have hnb25 := NB126_131.out
   have hnc25 := NB131_126.out
   have hnb26 := NB126_132.out
   have hnc26 := NB132_126.out
   have hcz27_0 : w15.cell? ⟨gb126, 0, none⟩ = some (.int .i64 a2_0) := (blk_cell BK126.out 0).trans rfl
   have hcz27_1 : w15.cell? ⟨gb126, 1, none⟩ = some (.int .u32 a2_1) := (blk_cell BK126.out 1).trans rfl
   have hfz27_0 := blk_frozen BK126.out 0
   have hfz27_1 := blk_frozen BK126.out 1
   have hnb28 := NB124_125.out
   have hnc28 := NB125_124.out
   have hnb29 := NB124_131.out
   have hnc29 := NB131_124.out
   have hnb30 := NB124_132.out
   have hnc30 := NB132_124.out
   have hcz31_0 : w15.cell? ⟨gb124, 0, none⟩ = some (.int .i64 a0_0) := (blk_cell BK124.out 0).trans rfl
   have hcz31_1 : w15.cell? ⟨gb124, 1, none⟩ = some (.int .u32 a0_1) := (blk_cell BK124.out 1).trans rfl
   have hfz31_0 := blk_frozen BK124.out 0
   have hfz31_1 := blk_frozen BK124.out 1
   go_wp2_with (first | ((with_reducible refine gate_callee (f := 7) rfl ?_); refine goesL_ (some 19) rfl rfl Tryd.func7 (by kernel_rfl) rfl #[.agg #[.int .i64 a2_0, .int .u32 a2_1], .agg #[.int .i64 a0_0, .int .u32 a0_1]] rfl (by (try simp only [List.map_toArray, List.map_cons, List.map_nil]); first | done | rfl | (simp only [List.length_drop, List.length_take]; rfl)) ?_; (with_reducible refine (label_Dominates.calls a2_0 a2_1 a0_0 a0_1 true _ A20.out).mono ?_); rintro e w32 ⟨rfl, hb⟩; refine ⟨_, rfl, ?_⟩; have n0_ := Aside0.mk (blk_below (g := gb124) (o := .cells #[.int .i64 a0_0, .int .u32 a0_1] 24 (0, 0)) (by (with_reducible repeat (first | refine blk_drewN ?_ _ | refine blk_drew ?_ | refine blk_alloc ?_ _)); refine blk_far ?_ NB124_132.out _; (with_reducible repeat (first | refine blk_drewN ?_ _ | refine blk_drew ?_ | refine blk_alloc ?_ _)); refine blk_far ?_ NB124_132.out _; (with_reducible repeat (first | refine blk_drewN ?_ _ | refine blk_drew ?_ | refine blk_alloc ?_ _)); refine blk_far ?_ NB124_131.out _; (with_reducible repeat (first | refine blk_drewN ?_ _ | refine blk_drew ?_ | refine blk_alloc ?_ _)); refine blk_far ?_ NB124_131.out _; (with_reducible repeat (first | refine blk_drewN ?_ _ | refine blk_drew ?_ | refine blk_alloc ?_ _)); exact BK124.out) hb); have n1_ := Aside0.mk (blk_below (g := gb125) (o := .cells #[.int .i64 a1_0, .int .u32 a1_1] 24 (0, 0)) (by (with_reducible repeat (first | refine blk_drewN ?_ _ | refine blk_drew ?_ | refine blk_alloc ?_ _)); refine blk_far ?_ NB125_132.out _; (with_reducible repeat (first | refine blk_drewN ?_ _ | refine blk_drew ?_ | refine blk_alloc ?_ _)); refine blk_far ?_ NB125_132.out _; (with_reducible repeat (first | refine blk_drewN ?_ _ | refine blk_drew ?_ | refine blk_alloc ?_ _)); refine blk_far ?_ NB125_131.out _; (with_reducible repeat (first | refine blk_drewN ?_ _ | refine blk_drew ?_ | refine blk_alloc ?_ _)); refine blk_far ?_ NB125_131.out _; (with_reducible repeat (first | refine blk_drewN ?_ _ | refine blk_drew ?_ | refine blk_alloc ?_ _)); exact BK125.out) hb); have n2_ := Aside0.mk (blk_below (g := gb126) (o := .cells #[.int .i64 a2_0, .int .u32 a2_1] 24 (0, 0)) (by (with_reducible repeat (first | refine blk_drewN ?_ _ | refine blk_drew ?_ | refine blk_alloc ?_ _)); refine blk_far ?_ NB126_132.out _; (with_reducible repeat (first | refine blk_drewN ?_ _ | refine blk_drew ?_ | refine blk_alloc ?_ _)); refine blk_far ?_ NB126_132.out _; (with_reducible repeat (first | refine blk_drewN ?_ _ | refine blk_drew ?_ | refine blk_alloc ?_ _)); refine blk_far ?_ NB126_131.out _; (with_reducible repeat (first | refine blk_drewN ?_ _ | refine blk_drew ?_ | refine blk_alloc ?_ _)); refine blk_far ?_ NB126_131.out _; (with_reducible repeat (first | refine blk_drewN ?_ _ | refine blk_drew ?_ | refine blk_alloc ?_ _)); exact BK126.out) hb); have n3_ := Aside0.mk (blk_below (g := gb131) (o := .cells #[.int .i64 t127, .int .u32 t128] 24 (0, 0)) (by (with_reducible repeat (first | refine blk_drewN ?_ _ | refine blk_drew ?_ | refine blk_alloc ?_ _)); refine blk_far ?_ NB131_132.out _; (with_reducible repeat (first | refine blk_drewN ?_ _ | refine blk_drew ?_ | refine blk_alloc ?_ _)); refine blk_far ?_ NB131_132.out _; (with_reducible repeat (first | refine blk_drewN ?_ _ | refine blk_drew ?_ | refine blk_alloc ?_ _)); refine blk_put (cs := #[.int .i64 t127, .int .u32 0]) ?_ 1 _ (by first | rfl | (simp only [w64_256, wu64_256]; rfl) | (subst_vars; simp only [w64_256, wu64_256, shl, wu32_mod, Int.one_mul]; rfl)); (with_reducible repeat (first | refine blk_drewN ?_ _ | refine blk_drew ?_ | refine blk_alloc ?_ _)); refine blk_put (cs := #[.int .i64 0, .int .u32 0]) ?_ 0 _ (by first | rfl | (simp only [w64_256, wu64_256]; rfl) | (subst_vars; simp only [w64_256, wu64_256, shl, wu32_mod, Int.one_mul]; rfl)); (with_reducible repeat (first | refine blk_drewN ?_ _ | refine blk_drew ?_ | refine blk_alloc ?_ _)); exact BK131.out) hb); have n4_ := Aside0.mk (blk_below (g := gb132) (o := .cells #[.int .i64 t129, .int .u32 t130] 24 (0, 0)) (by (with_reducible repeat (first | refine blk_drewN ?_ _ | refine blk_drew ?_ | refine blk_alloc ?_ _)); refine blk_put (cs := #[.int .i64 t129, .int .u32 0]) ?_ 1 _ (by first | rfl | (simp only [w64_256, wu64_256]; rfl) | (subst_vars; simp only [w64_256, wu64_256, shl, wu32_mod, Int.one_mul]; rfl)); (with_reducible repeat (first | refine blk_drewN ?_ _ | refine blk_drew ?_ | refine blk_alloc ?_ _)); refine blk_put (cs := #[.int .i64 0, .int .u32 0]) ?_ 0 _ (by first | rfl | (simp only [w64_256, wu64_256]; rfl) | (subst_vars; simp only [w64_256, wu64_256, shl, wu32_mod, Int.one_mul]; rfl)); (with_reducible repeat (first | refine blk_drewN ?_ _ | refine blk_drew ?_ | refine blk_alloc ?_ _)); refine blk_far ?_ NB132_131.out _; (with_reducible repeat (first | refine blk_drewN ?_ _ | refine blk_drew ?_ | refine blk_alloc ?_ _)); refine blk_far ?_ NB132_131.out _; (with_reducible repeat (first | refine blk_drewN ?_ _ | refine blk_drew ?_ | refine blk_alloc ?_ _)); exact BK132.out) hb); have n5_ := Aside0.mk (below_step (bh_ HB) hb); clear BK124; clear BK125; clear BK126; clear BK131; clear BK132; clear HB; have BK124 := n0_; have BK125 := n1_; have BK126 := n2_; have BK131 := n3_; have BK132 := n4_; have HB := n5_; clear n0_ n1_ n2_ n3_ n4_ n5_; (try clear hb); (try clear hb2); (try clear hk); (try clear hi); have hcz33_0 : w32.cell? ⟨gb126, 0, none⟩ = some (.int .i64 a2_0) := (blk_cell BK126.out 0).trans rfl; have hcz33_1 : w32.cell? ⟨gb126, 1, none⟩ = some (.int .u32 a2_1) := (blk_cell BK126.out 1).trans rfl; have hfz33_0 := blk_frozen BK126.out 0; have hfz33_1 := blk_frozen BK126.out 1; have hnb34 := NB125_131.out; have hnc34 := NB131_125.out; have hnb35 := NB125_132.out; have hnc35 := NB132_125.out; have hcz36_0 : w32.cell? ⟨gb125, 0, none⟩ = some (.int .i64 a1_0) := (blk_cell BK125.out 0).trans rfl; have hcz36_1 : w32.cell? ⟨gb125, 1, none⟩ = some (.int .u32 a1_1) := (blk_cell BK125.out 1).trans rfl; have hfz36_0 := blk_frozen BK125.out 0; have hfz36_1 := blk_frozen BK125.out 1) | (go_at_call 7; (first | ((with_reducible refine (label_Dominates.calls a2_0 a2_1 a1_0 a1_1 t134 _ A22.out).mono ?_))); rintro e wz ⟨rfl, hb⟩; have n0_ := Aside0.mk (blk_below (g := gb124) (o := .cells #[.int .i64 a0_0, .int .u32 a0_1] 24 (0, 0)) (bk_ BK124) hb); have n1_ := Aside0.mk (blk_below (g := gb125) (o := .cells #[.int .i64 a1_0, .int .u32 a1_1] 24 (0, 0)) (bk_ BK125) hb); have n2_ := Aside0.mk (blk_below (g := gb126) (o := .cells #[.int .i64 a2_0, .int .u32 a2_1] 24 (0, 0)) (bk_ BK126) hb); have n3_ := Aside0.mk (blk_below (g := gb131) (o := .cells #[.int .i64 t127, .int .u32 t128] 24 (0, 0)) (bk_ BK131) hb); have n4_ := Aside0.mk (blk_below (g := gb132) (o := .cells #[.int .i64 t129, .int .u32 t130] 24 (0, 0)) (bk_ BK132) hb); have n5_ := Aside0.mk (below_step (bh_ HB) hb); clear BK124; clear BK125; clear BK126; clear BK131; clear BK132; clear HB; have BK124 := n0_; have BK125 := n1_; have BK126 := n2_; have BK131 := n3_; have BK132 := n4_; have HB := n5_; clear n0_ n1_ n2_ n3_ n4_ n5_; (try clear hb); (try clear hb2); (try clear hk); (try clear hi)))
   go_meet
   case rel => exact ⟨_, (t134), (by first | rfl | (simp; done) | (simp [*]; done)), H', ⟨by first | omega | exact Nat.le_refl _⟩, ⟨bk_ BK124⟩, ⟨bk_ BK125⟩, ⟨bk_ BK126⟩, ⟨bk_ BK131⟩, ⟨bk_ BK132⟩, ⟨by repeat (first | (with_reducible first | exact HB.out | apply below_alloc | apply pw_below_drewN | apply below_drew1 | refine below_set ?_ GE124.out | refine below_set ?_ GE125.out | refine below_set ?_ GE126.out | refine below_set ?_ GE131.out | refine below_set ?_ GE132.out) | exact HB.out | exact below_undrew HB.out)⟩⟩
  ·replace c21 := Bool.eq_false_iff.mpr c21
   subst c21
   have H1 : (barbicanlaw01_LabelOrder.j0 k false a0_0 a0_1 a1_0 a1_1 a2_0 a2_1 t127 t128 t129 t130) = some r := by rw [if_neg (show ¬ (false = true) by decide)] at H; exact H
   clear H
   have H := H1
   clear H1
   have H' := Aside0.mk H
   clear H
   have hnb38 := NB126_124.out
   have hnc38 := NB124_126.out
   have hnb39 := NB126_125.out
   have hnc39 := NB125_126.out
   have hnb40 := NB126_131.out
   have hnc40 := NB131_126.out
   have hnb41 := NB126_132.out
   have hnc41 := NB132_126.out
   have hcz42_0 : w15.cell? ⟨gb126, 0, none⟩ = some (.int .i64 a2_0) := (blk_cell BK126.out 0).trans rfl
   have hcz42_1 : w15.cell? ⟨gb126, 1, none⟩ = some (.int .u32 a2_1) := (blk_cell BK126.out 1).trans rfl
   have hfz42_0 := blk_frozen BK126.out 0
   have hfz42_1 := blk_frozen BK126.out 1
   have hnb43 := NB124_125.out
   have hnc43 := NB125_124.out
   have hnb44 := NB124_131.out
   have hnc44 := NB131_124.out
   have hnb45 := NB124_132.out
   have hnc45 := NB132_124.out
   have hcz46_0 : w15.cell? ⟨gb124, 0, none⟩ = some (.int .i64 a0_0) := (blk_cell BK124.out 0).trans rfl
   have hcz46_1 : w15.cell? ⟨gb124, 1, none⟩ = some (.int .u32 a0_1) := (blk_cell BK124.out 1).trans rfl
   have hfz46_0 := blk_frozen BK124.out 0
   have hfz46_1 := blk_frozen BK124.out 1
   go_wp2_with (first | ((with_reducible refine gate_callee (f := 7) rfl ?_); refine goesL_ (some 19) rfl rfl Tryd.func7 (by kernel_rfl) rfl #[.agg #[.int .i64 a2_0, .int .u32 a2_1], .agg #[.int .i64 a0_0, .int .u32 a0_1]] rfl (by (try simp only [List.map_toArray, List.map_cons, List.map_nil]); first | done | rfl | (simp only [List.length_drop, List.length_take]; rfl)) ?_; (with_reducible refine (label_Dominates.calls a2_0 a2_1 a0_0 a0_1 false _ A20.out).mono ?_); rintro e w47 ⟨rfl, hb⟩; refine ⟨_, rfl, ?_⟩; have n0_ := Aside0.mk (blk_below (g := gb124) (o := .cells #[.int .i64 a0_0, .int .u32 a0_1] 24 (0, 0)) (by (with_reducible repeat (first | refine blk_drewN ?_ _ | refine blk_drew ?_ | refine blk_alloc ?_ _)); refine blk_far ?_ NB124_132.out _; (with_reducible repeat (first | refine blk_drewN ?_ _ | refine blk_drew ?_ | refine blk_alloc ?_ _)); refine blk_far ?_ NB124_132.out _; (with_reducible repeat (first | refine blk_drewN ?_ _ | refine blk_drew ?_ | refine blk_alloc ?_ _)); refine blk_far ?_ NB124_131.out _; (with_reducible repeat (first | refine blk_drewN ?_ _ | refine blk_drew ?_ | refine blk_alloc ?_ _)); refine blk_far ?_ NB124_131.out _; (with_reducible repeat (first | refine blk_drewN ?_ _ | refine blk_drew ?_ | refine blk_alloc ?_ _)); exact BK124.out) hb); have n1_ := Aside0.mk (blk_below (g := gb125) (o := .cells #[.int .i64 a1_0, .int .u32 a1_1] 24 (0, 0)) (by (with_reducible repeat (first | refine blk_drewN ?_ _ | refine blk_drew ?_ | refine blk_alloc ?_ _)); refine blk_far ?_ NB125_132.out _; (with_reducible repeat (first | refine blk_drewN ?_ _ | refine blk_drew ?_ | refine blk_alloc ?_ _)); refine blk_far ?_ NB125_132.out _; (with_reducible repeat (first | refine blk_drewN ?_ _ | refine blk_drew ?_ | refine blk_alloc ?_ _)); refine blk_far ?_ NB125_131.out _; (with_reducible repeat (first | refine blk_drewN ?_ _ | refine blk_drew ?_ | refine blk_alloc ?_ _)); refine blk_far ?_ NB125_131.out _; (with_reducible repeat (first | refine blk_drewN ?_ _ | refine blk_drew ?_ | refine blk_alloc ?_ _)); exact BK125.out) hb); have n2_ := Aside0.mk (blk_below (g := gb126) (o := .cells #[.int .i64 a2_0, .int .u32 a2_1] 24 (0, 0)) (by (with_reducible repeat (first | refine blk_drewN ?_ _ | refine blk_drew ?_ | refine blk_alloc ?_ _)); refine blk_far ?_ NB126_132.out _; (with_reducible repeat (first | refine blk_drewN ?_ _ | refine blk_drew ?_ | refine blk_alloc ?_ _)); refine blk_far ?_ NB126_132.out _; (with_reducible repeat (first | refine blk_drewN ?_ _ | refine blk_drew ?_ | refine blk_alloc ?_ _)); refine blk_far ?_ NB126_131.out _; (with_reducible repeat (first | refine blk_drewN ?_ _ | refine blk_drew ?_ | refine blk_alloc ?_ _)); refine blk_far ?_ NB126_131.out _; (with_reducible repeat (first | refine blk_drewN ?_ _ | refine blk_drew ?_ | refine blk_alloc ?_ _)); exact BK126.out) hb); have n3_ := Aside0.mk (blk_below (g := gb131) (o := .cells #[.int .i64 t127, .int .u32 t128] 24 (0, 0)) (by (with_reducible repeat (first | refine blk_drewN ?_ _ | refine blk_drew ?_ | refine blk_alloc ?_ _)); refine blk_far ?_ NB131_132.out _; (with_reducible repeat (first | refine blk_drewN ?_ _ | refine blk_drew ?_ | refine blk_alloc ?_ _)); refine blk_far ?_ NB131_132.out _; (with_reducible repeat (first | refine blk_drewN ?_ _ | refine blk_drew ?_ | refine blk_alloc ?_ _)); refine blk_put (cs := #[.int .i64 t127, .int .u32 0]) ?_ 1 _ (by first | rfl | (simp only [w64_256, wu64_256]; rfl) | (subst_vars; simp only [w64_256, wu64_256, shl, wu32_mod, Int.one_mul]; rfl)); (with_reducible repeat (first | refine blk_drewN ?_ _ | refine blk_drew ?_ | refine blk_alloc ?_ _)); refine blk_put (cs := #[.int .i64 0, .int .u32 0]) ?_ 0 _ (by first | rfl | (simp only [w64_256, wu64_256]; rfl) | (subst_vars; simp only [w64_256, wu64_256, shl, wu32_mod, Int.one_mul]; rfl)); (with_reducible repeat (first | refine blk_drewN ?_ _ | refine blk_drew ?_ | refine blk_alloc ?_ _)); exact BK131.out) hb); have n4_ := Aside0.mk (blk_below (g := gb132) (o := .cells #[.int .i64 t129, .int .u32 t130] 24 (0, 0)) (by (with_reducible repeat (first | refine blk_drewN ?_ _ | refine blk_drew ?_ | refine blk_alloc ?_ _)); refine blk_put (cs := #[.int .i64 t129, .int .u32 0]) ?_ 1 _ (by first | rfl | (simp only [w64_256, wu64_256]; rfl) | (subst_vars; simp only [w64_256, wu64_256, shl, wu32_mod, Int.one_mul]; rfl)); (with_reducible repeat (first | refine blk_drewN ?_ _ | refine blk_drew ?_ | refine blk_alloc ?_ _)); refine blk_put (cs := #[.int .i64 0, .int .u32 0]) ?_ 0 _ (by first | rfl | (simp only [w64_256, wu64_256]; rfl) | (subst_vars; simp only [w64_256, wu64_256, shl, wu32_mod, Int.one_mul]; rfl)); (with_reducible repeat (first | refine blk_drewN ?_ _ | refine blk_drew ?_ | refine blk_alloc ?_ _)); refine blk_far ?_ NB132_131.out _; (with_reducible repeat (first | refine blk_drewN ?_ _ | refine blk_drew ?_ | refine blk_alloc ?_ _)); refine blk_far ?_ NB132_131.out _; (with_reducible repeat (first | refine blk_drewN ?_ _ | refine blk_drew ?_ | refine blk_alloc ?_ _)); exact BK132.out) hb); have n5_ := Aside0.mk (below_step (bh_ HB) hb); clear BK124; clear BK125; clear BK126; clear BK131; clear BK132; clear HB; have BK124 := n0_; have BK125 := n1_; have BK126 := n2_; have BK131 := n3_; have BK132 := n4_; have HB := n5_; clear n0_ n1_ n2_ n3_ n4_ n5_; (try clear hb); (try clear hb2); (try clear hk); (try clear hi)))
   go_meet
   case rel => exact ⟨_, (false), (by first | rfl | (simp; done) | (simp [*]; done)), H', ⟨by first | omega | exact Nat.le_refl _⟩, ⟨bk_ BK124⟩, ⟨bk_ BK125⟩, ⟨bk_ BK126⟩, ⟨bk_ BK131⟩, ⟨bk_ BK132⟩, ⟨by repeat (first | (with_reducible first | exact HB.out | apply below_alloc | apply pw_below_drewN | apply below_drew1 | refine below_set ?_ GE124.out | refine below_set ?_ GE125.out | refine below_set ?_ GE126.out | refine below_set ?_ GE131.out | refine below_set ?_ GE132.out) | exact HB.out | exact below_undrew HB.out)⟩⟩
 case rest =>
  clear HC6
  (try clear c1); (try clear c2); (try clear p2); (try clear c3); (try clear c4); (try clear c7); (try clear c16); (try clear c21); (try clear c23); (try clear c24); (try clear c25); (try clear c26); (try clear c28); (try clear c29); (try clear c30); (try clear c34); (try clear c35); (try clear c38); (try clear c39); (try clear c40); (try clear c41); (try clear c43); (try clear c44); (try clear c45)
  obtain ⟨kq, x9_5, rfl, HA, HJ5, BK124, BK125, BK126, BK131, BK132, HB⟩ := hcut
  cases kq with
  | zero => exact absurd HA.out (by simp [barbicanlaw01_LabelOrder.j0])
  | succ kj5 =>
   have H := HA.out
   clear HA
   simp only [barbicanlaw01_LabelOrder.j0] at H
   have HC48 := Aside0.mk H
   clear H
   go_upto_region 3 with (fail)
   go_cut [10] (fun v10 wc => ∃ (kq : Nat) (x10_47 : Bool), v10 = .bool x10_47 ∧ Aside0 (barbicanlaw01_LabelOrder.j1 kq x9_5 x10_47 a0_0 a0_1 a1_0 a1_1 a2_0 a2_1 t127 t128 t129 t130 = some r) ∧ Aside0 (kq ≤ kj5) ∧ Aside0 (wc.heap[gb124]? = some (.cells #[.int .i64 a0_0, .int .u32 a0_1] 24 (0, 0))) ∧ Aside0 (wc.heap[gb125]? = some (.cells #[.int .i64 a1_0, .int .u32 a1_1] 24 (0, 0))) ∧ Aside0 (wc.heap[gb126]? = some (.cells #[.int .i64 a2_0, .int .u32 a2_1] 24 (0, 0))) ∧ Aside0 (wc.heap[gb131]? = some (.cells #[.int .i64 t127, .int .u32 t128] 24 (0, 0))) ∧ Aside0 (wc.heap[gb132]? = some (.cells #[.int .i64 t129, .int .u32 t130] 24 (0, 0))) ∧ Aside0 (Below w.heap.size w wc))
   case first =>
    have H := HC48.out
    clear HC48
    replace H := Option.bind_eq_some_iff.mp H
    obtain ⟨t135, A490, H⟩ := H
    replace H : (if t135 = true then ((label_Dominates.f a1_0 a1_1 a2_0 a2_1).bind fun t136 => (barbicanlaw01_LabelOrder.j1 kj5 x9_5 t136 a0_0 a0_1 a1_0 a1_1 a2_0 a2_1 t127 t128 t129 t130)) else (barbicanlaw01_LabelOrder.j1 kj5 x9_5 false a0_0 a0_1 a1_0 a1_1 a2_0 a2_1 t127 t128 t129 t130)) = some r := H
    have A49 := Aside0.mk A490
    clear A490
    by_cases c50 : t135 = true
    ·subst c50
     have H1 : ((label_Dominates.f a1_0 a1_1 a2_0 a2_1).bind fun t136 => (barbicanlaw01_LabelOrder.j1 kj5 x9_5 t136 a0_0 a0_1 a1_0 a1_1 a2_0 a2_1 t127 t128 t129 t130)) = some r := by rw [if_pos rfl] at H; exact H
     clear H
     have H := H1
     clear H1
     replace H := Option.bind_eq_some_iff.mp H
     obtain ⟨t136, A510, H⟩ := H
     replace H : (barbicanlaw01_LabelOrder.j1 kj5 x9_5 t136 a0_0 a0_1 a1_0 a1_1 a2_0 a2_1 t127 t128 t129 t130) = some r := H
     have A51 := Aside0.mk A510
     clear A510
     have H' := Aside0.mk H
     clear H
     have hnb52 := NB124_125.out
     have hnc52 := NB125_124.out
     have hnb53 := NB124_126.out
     have hnc53 := NB126_124.out
     have hnb54 := NB124_131.out
     have hnc54 := NB131_124.out
     have hnb55 := NB124_132.out
     have hnc55 := NB132_124.out
     have hcz56_0 : wc.cell? ⟨gb124, 0, none⟩ = some (.int .i64 a0_0) := (blk_cell BK124.out 0).trans rfl
     have hcz56_1 : wc.cell? ⟨gb124, 1, none⟩ = some (.int .u32 a0_1) := (blk_cell BK124.out 1).trans rfl
     have hfz56_0 := blk_frozen BK124.out 0
     have hfz56_1 := blk_frozen BK124.out 1
     have hnb57 := NB126_125.out
     have hnc57 := NB125_126.out
     have hnb58 := NB126_131.out
     have hnc58 := NB131_126.out
     have hnb59 := NB126_132.out
     have hnc59 := NB132_126.out
     have hcz60_0 : wc.cell? ⟨gb126, 0, none⟩ = some (.int .i64 a2_0) := (blk_cell BK126.out 0).trans rfl
     have hcz60_1 : wc.cell? ⟨gb126, 1, none⟩ = some (.int .u32 a2_1) := (blk_cell BK126.out 1).trans rfl
     have hfz60_0 := blk_frozen BK126.out 0
     have hfz60_1 := blk_frozen BK126.out 1
     go_wp2_with (first | ((with_reducible refine gate_callee (f := 7) rfl ?_); refine goesL_ (some 27) rfl rfl Tryd.func7 (by kernel_rfl) rfl #[.agg #[.int .i64 a0_0, .int .u32 a0_1], .agg #[.int .i64 a2_0, .int .u32 a2_1]] rfl (by (try simp only [List.map_toArray, List.map_cons, List.map_nil]); first | done | rfl | (simp only [List.length_drop, List.length_take]; rfl)) ?_; (with_reducible refine (label_Dominates.calls a0_0 a0_1 a2_0 a2_1 true _ A49.out).mono ?_); rintro e w61 ⟨rfl, hb⟩; refine ⟨_, rfl, ?_⟩; have n0_ := Aside0.mk (blk_below (g := gb124) (o := .cells #[.int .i64 a0_0, .int .u32 a0_1] 24 (0, 0)) (bk_ BK124) hb); have n1_ := Aside0.mk (blk_below (g := gb125) (o := .cells #[.int .i64 a1_0, .int .u32 a1_1] 24 (0, 0)) (bk_ BK125) hb); have n2_ := Aside0.mk (blk_below (g := gb126) (o := .cells #[.int .i64 a2_0, .int .u32 a2_1] 24 (0, 0)) (bk_ BK126) hb); have n3_ := Aside0.mk (blk_below (g := gb131) (o := .cells #[.int .i64 t127, .int .u32 t128] 24 (0, 0)) (bk_ BK131) hb); have n4_ := Aside0.mk (blk_below (g := gb132) (o := .cells #[.int .i64 t129, .int .u32 t130] 24 (0, 0)) (bk_ BK132) hb); have n5_ := Aside0.mk (below_step (bh_ HB) hb); clear BK124; clear BK125; clear BK126; clear BK131; clear BK132; clear HB; have BK124 := n0_; have BK125 := n1_; have BK126 := n2_; have BK131 := n3_; have BK132 := n4_; have HB := n5_; clear n0_ n1_ n2_ n3_ n4_ n5_; (try clear hb); (try clear hb2); (try clear hk); (try clear hi); have hnb62 := NB125_131.out; have hnc62 := NB131_125.out; have hnb63 := NB125_132.out; have hnc63 := NB132_125.out; have hcz64_0 : w61.cell? ⟨gb125, 0, none⟩ = some (.int .i64 a1_0) := (blk_cell BK125.out 0).trans rfl; have hcz64_1 : w61.cell? ⟨gb125, 1, none⟩ = some (.int .u32 a1_1) := (blk_cell BK125.out 1).trans rfl; have hfz64_0 := blk_frozen BK125.out 0; have hfz64_1 := blk_frozen BK125.out 1; have hcz65_0 : w61.cell? ⟨gb126, 0, none⟩ = some (.int .i64 a2_0) := (blk_cell BK126.out 0).trans rfl; have hcz65_1 : w61.cell? ⟨gb126, 1, none⟩ = some (.int .u32 a2_1) := (blk_cell BK126.out 1).trans rfl; have hfz65_0 := blk_frozen BK126.out 0; have hfz65_1 := blk_frozen BK126.out 1) | (go_at_call 7; (first | ((with_reducible refine (label_Dominates.calls a1_0 a1_1 a2_0 a2_1 t136 _ A51.out).mono ?_))); rintro e wz ⟨rfl, hb⟩; have n0_ := Aside0.mk (blk_below (g := gb124) (o := .cells #[.int .i64 a0_0, .int .u32 a0_1] 24 (0, 0)) (bk_ BK124) hb); have n1_ := Aside0.mk (blk_below (g := gb125) (o := .cells #[.int .i64 a1_0, .int .u32 a1_1] 24 (0, 0)) (bk_ BK125) hb); have n2_ := Aside0.mk (blk_below (g := gb126) (o := .cells #[.int .i64 a2_0, .int .u32 a2_1] 24 (0, 0)) (bk_ BK126) hb); have n3_ := Aside0.mk (blk_below (g := gb131) (o := .cells #[.int .i64 t127, .int .u32 t128] 24 (0, 0)) (bk_ BK131) hb); have n4_ := Aside0.mk (blk_below (g := gb132) (o := .cells #[.int .i64 t129, .int .u32 t130] 24 (0, 0)) (bk_ BK132) hb); have n5_ := Aside0.mk (below_step (bh_ HB) hb); clear BK124; clear BK125; clear BK126; clear BK131; clear BK132; clear HB; have BK124 := n0_; have BK125 := n1_; have BK126 := n2_; have BK131 := n3_; have BK132 := n4_; have HB := n5_; clear n0_ n1_ n2_ n3_ n4_ n5_; (try clear hb); (try clear hb2); (try clear hk); (try clear hi)))
     go_meet
     case rel => exact ⟨_, (t136), (by first | rfl | (simp; done) | (simp [*]; done)), H', ⟨by have := HJ5.out; first | omega | exact Nat.le_refl _⟩, ⟨bk_ BK124⟩, ⟨bk_ BK125⟩, ⟨bk_ BK126⟩, ⟨bk_ BK131⟩, ⟨bk_ BK132⟩, ⟨by repeat (first | (with_reducible first | exact HB.out | apply below_alloc | apply pw_below_drewN | apply below_drew1 | refine below_set ?_ GE124.out | refine below_set ?_ GE125.out | refine below_set ?_ GE126.out | refine below_set ?_ GE131.out | refine below_set ?_ GE132.out) | exact HB.out | exact below_undrew HB.out)⟩⟩
    ·replace c50 := Bool.eq_false_iff.mpr c50
     subst c50
     have H1 : (barbicanlaw01_LabelOrder.j1 kj5 x9_5 false a0_0 a0_1 a1_0 a1_1 a2_0 a2_1 t127 t128 t129 t130) = some r := by rw [if_neg (show ¬ (false = true) by decide)] at H; exact H
     clear H
     have H := H1
     clear H1
     have H' := Aside0.mk H
     clear H
     have hnb67 := NB124_125.out
     have hnc67 := NB125_124.out
     have hnb68 := NB124_126.out
     have hnc68 := NB126_124.out
     have hnb69 := NB124_131.out
     have hnc69 := NB131_124.out
     have hnb70 := NB124_132.out
     have hnc70 := NB132_124.out
     have hcz71_0 : wc.cell? ⟨gb124, 0, none⟩ = some (.int .i64 a0_0) := (blk_cell BK124.out 0).trans rfl
     have hcz71_1 : wc.cell? ⟨gb124, 1, none⟩ = some (.int .u32 a0_1) := (blk_cell BK124.out 1).trans rfl
     have hfz71_0 := blk_frozen BK124.out 0
     have hfz71_1 := blk_frozen BK124.out 1
     have hnb72 := NB126_125.out
     have hnc72 := NB125_126.out
     have hnb73 := NB126_131.out
     have hnc73 := NB131_126.out
     have hnb74 := NB126_132.out
     have hnc74 := NB132_126.out
     have hcz75_0 : wc.cell? ⟨gb126, 0, none⟩ = some (.int .i64 a2_0) := (blk_cell BK126.out 0).trans rfl
     have hcz75_1 : wc.cell? ⟨gb126, 1, none⟩ = some (.int .u32 a2_1) := (blk_cell BK126.out 1).trans rfl
     have hfz75_0 := blk_frozen BK126.out 0
     have hfz75_1 := blk_frozen BK126.out 1
     go_wp2_with (first | ((with_reducible refine gate_callee (f := 7) rfl ?_); refine goesL_ (some 27) rfl rfl Tryd.func7 (by kernel_rfl) rfl #[.agg #[.int .i64 a0_0, .int .u32 a0_1], .agg #[.int .i64 a2_0, .int .u32 a2_1]] rfl (by (try simp only [List.map_toArray, List.map_cons, List.map_nil]); first | done | rfl | (simp only [List.length_drop, List.length_take]; rfl)) ?_; (with_reducible refine (label_Dominates.calls a0_0 a0_1 a2_0 a2_1 false _ A49.out).mono ?_); rintro e w76 ⟨rfl, hb⟩; refine ⟨_, rfl, ?_⟩; have n0_ := Aside0.mk (blk_below (g := gb124) (o := .cells #[.int .i64 a0_0, .int .u32 a0_1] 24 (0, 0)) (bk_ BK124) hb); have n1_ := Aside0.mk (blk_below (g := gb125) (o := .cells #[.int .i64 a1_0, .int .u32 a1_1] 24 (0, 0)) (bk_ BK125) hb); have n2_ := Aside0.mk (blk_below (g := gb126) (o := .cells #[.int .i64 a2_0, .int .u32 a2_1] 24 (0, 0)) (bk_ BK126) hb); have n3_ := Aside0.mk (blk_below (g := gb131) (o := .cells #[.int .i64 t127, .int .u32 t128] 24 (0, 0)) (bk_ BK131) hb); have n4_ := Aside0.mk (blk_below (g := gb132) (o := .cells #[.int .i64 t129, .int .u32 t130] 24 (0, 0)) (bk_ BK132) hb); have n5_ := Aside0.mk (below_step (bh_ HB) hb); clear BK124; clear BK125; clear BK126; clear BK131; clear BK132; clear HB; have BK124 := n0_; have BK125 := n1_; have BK126 := n2_; have BK131 := n3_; have BK132 := n4_; have HB := n5_; clear n0_ n1_ n2_ n3_ n4_ n5_; (try clear hb); (try clear hb2); (try clear hk); (try clear hi)))
     go_meet
     case rel => exact ⟨_, (false), (by first | rfl | (simp; done) | (simp [*]; done)), H', ⟨by have := HJ5.out; first | omega | exact Nat.le_refl _⟩, ⟨bk_ BK124⟩, ⟨bk_ BK125⟩, ⟨bk_ BK126⟩, ⟨bk_ BK131⟩, ⟨bk_ BK132⟩, ⟨by repeat (first | (with_reducible first | exact HB.out | apply below_alloc | apply pw_below_drewN | apply below_drew1 | refine below_set ?_ GE124.out | refine below_set ?_ GE125.out | refine below_set ?_ GE126.out | refine below_set ?_ GE131.out | refine below_set ?_ GE132.out) | exact HB.out | exact below_undrew HB.out)⟩⟩
   case rest =>
    clear HC48
    (try clear c1); (try clear c2); (try clear p2); (try clear c3); (try clear c4); (try clear c5); (try clear c6); (try clear c7); (try clear c16); (try clear c21); (try clear c23); (try clear c24); (try clear c25); (try clear c26); (try clear c28); (try clear c29); (try clear c30); (try clear c34); (try clear c35); (try clear c38); (try clear c39); (try clear c40); (try clear c41); (try clear c43); (try clear c44); (try clear c45); (try clear c50); (try clear c52); (try clear c53); (try clear c54); (try clear c55); (try clear c57); (try clear c58); (try clear c59); (try clear c62); (try clear c63); (try clear c67); (try clear c68); (try clear c69); (try clear c70); (try clear c72); (try clear c73); (try clear c74); (try clear p2)
    obtain ⟨kq, x10_47, rfl, HA, HJ47, BK124, BK125, BK126, BK131, BK132, HB⟩ := hcut
    cases kq with
    | zero => exact absurd HA.out (by simp [barbicanlaw01_LabelOrder.j1])
    | succ kj47 =>
     have H := HA.out
     clear HA
     simp only [barbicanlaw01_LabelOrder.j1] at H
     have HC77 := Aside0.mk H
     clear H
     go_upto_region 4 with (fail)
     go_cut [67] (fun v67 wc => ∃ (kq : Nat) (x67_76 : Bool), v67 = .bool x67_76 ∧ Aside0 (barbicanlaw01_LabelOrder.j2 kq x9_5 x10_47 x67_76 a0_0 a0_1 a1_0 a1_1 a2_0 a2_1 t127 t128 t129 t130 = some r) ∧ Aside0 (kq ≤ kj47) ∧ Aside0 (wc.heap[gb124]? = some (.cells #[.int .i64 a0_0, .int .u32 a0_1] 24 (0, 0))) ∧ Aside0 (wc.heap[gb125]? = some (.cells #[.int .i64 a1_0, .int .u32 a1_1] 24 (0, 0))) ∧ Aside0 (wc.heap[gb126]? = some (.cells #[.int .i64 a2_0, .int .u32 a2_1] 24 (0, 0))) ∧ Aside0 (wc.heap[gb131]? = some (.cells #[.int .i64 t127, .int .u32 t128] 24 (0, 0))) ∧ Aside0 (wc.heap[gb132]? = some (.cells #[.int .i64 t129, .int .u32 t130] 24 (0, 0))) ∧ Aside0 (Below w.heap.size w wc))
     case first =>
      have H := HC77.out
      clear HC77
      replace H := Option.bind_eq_some_iff.mp H
      obtain ⟨t137, A780, H⟩ := H
      replace H : (if t137 = true then ((label_Dominates.f a0_0 a0_1 a1_0 a1_1).bind fun t138 => (if t138 = true then ((label_Dominates.f a1_0 a1_1 a0_0 a0_1).bind fun t139 => (if t139 = true then (if (!(a0_0 == a1_0) || (!(a0_1 == a1_1))) = true then (barbicanlaw01_LabelOrder.j2 kj47 x9_5 x10_47 true a0_0 a0_1 a1_0 a1_1 a2_0 a2_1 t127 t128 t129 t130) else ((label_Dominates.f a0_0 a0_1 a1_0 a1_1).bind fun t140 => (if t140 = true then ((label_Dominates.f a1_0 a1_1 a2_0 a2_1).bind fun t141 => (if t141 = true then ((label_Dominates.f a0_0 a0_1 a2_0 a2_1).bind fun t142 => (barbicanlaw01_LabelOrder.j2 kj47 x9_5 x10_47 (!t142) a0_0 a0_1 a1_0 a1_1 a2_0 a2_1 t127 t128 t129 t130)) else (barbicanlaw01_LabelOrder.j2 kj47 x9_5 x10_47 false a0_0 a0_1 a1_0 a1_1 a2_0 a2_1 t127 t128 t129 t130))) else (barbicanlaw01_LabelOrder.j2 kj47 x9_5 x10_47 false a0_0 a0_1 a1_0 a1_1 a2_0 a2_1 t127 t128 t129 t130)))) else ((label_Dominates.f a0_0 a0_1 a1_0 a1_1).bind fun t143 => (if t143 = true then ((label_Dominates.f a1_0 a1_1 a2_0 a2_1).bind fun t144 => (if t144 = true then ((label_Dominates.f a0_0 a0_1 a2_0 a2_1).bind fun t145 => (barbicanlaw01_LabelOrder.j2 kj47 x9_5 x10_47 (!t145) a0_0 a0_1 a1_0 a1_1 a2_0 a2_1 t127 t128 t129 t130)) else (barbicanlaw01_LabelOrder.j2 kj47 x9_5 x10_47 false a0_0 a0_1 a1_0 a1_1 a2_0 a2_1 t127 t128 t129 t130))) else (barbicanlaw01_LabelOrder.j2 kj47 x9_5 x10_47 false a0_0 a0_1 a1_0 a1_1 a2_0 a2_1 t127 t128 t129 t130))))) else ((label_Dominates.f a0_0 a0_1 a1_0 a1_1).bind fun t146 => (if t146 = true then ((label_Dominates.f a1_0 a1_1 a2_0 a2_1).bind fun t147 => (if t147 = true then ((label_Dominates.f a0_0 a0_1 a2_0 a2_1).bind fun t148 => (barbicanlaw01_LabelOrder.j2 kj47 x9_5 x10_47 (!t148) a0_0 a0_1 a1_0 a1_1 a2_0 a2_1 t127 t128 t129 t130)) else (barbicanlaw01_LabelOrder.j2 kj47 x9_5 x10_47 false a0_0 a0_1 a1_0 a1_1 a2_0 a2_1 t127 t128 t129 t130))) else (barbicanlaw01_LabelOrder.j2 kj47 x9_5 x10_47 false a0_0 a0_1 a1_0 a1_1 a2_0 a2_1 t127 t128 t129 t130))))) else (barbicanlaw01_LabelOrder.j2 kj47 x9_5 x10_47 true a0_0 a0_1 a1_0 a1_1 a2_0 a2_1 t127 t128 t129 t130)) = some r := H
      have A78 := Aside0.mk A780
      clear A780
      by_cases c79 : t137 = true
      ·subst c79
       have H1 : ((label_Dominates.f a0_0 a0_1 a1_0 a1_1).bind fun t138 => (if t138 = true then ((label_Dominates.f a1_0 a1_1 a0_0 a0_1).bind fun t139 => (if t139 = true then (if (!(a0_0 == a1_0) || (!(a0_1 == a1_1))) = true then (barbicanlaw01_LabelOrder.j2 kj47 x9_5 x10_47 true a0_0 a0_1 a1_0 a1_1 a2_0 a2_1 t127 t128 t129 t130) else ((label_Dominates.f a0_0 a0_1 a1_0 a1_1).bind fun t140 => (if t140 = true then ((label_Dominates.f a1_0 a1_1 a2_0 a2_1).bind fun t141 => (if t141 = true then ((label_Dominates.f a0_0 a0_1 a2_0 a2_1).bind fun t142 => (barbicanlaw01_LabelOrder.j2 kj47 x9_5 x10_47 (!t142) a0_0 a0_1 a1_0 a1_1 a2_0 a2_1 t127 t128 t129 t130)) else (barbicanlaw01_LabelOrder.j2 kj47 x9_5 x10_47 false a0_0 a0_1 a1_0 a1_1 a2_0 a2_1 t127 t128 t129 t130))) else (barbicanlaw01_LabelOrder.j2 kj47 x9_5 x10_47 false a0_0 a0_1 a1_0 a1_1 a2_0 a2_1 t127 t128 t129 t130)))) else ((label_Dominates.f a0_0 a0_1 a1_0 a1_1).bind fun t143 => (if t143 = true then ((label_Dominates.f a1_0 a1_1 a2_0 a2_1).bind fun t144 => (if t144 = true then ((label_Dominates.f a0_0 a0_1 a2_0 a2_1).bind fun t145 => (barbicanlaw01_LabelOrder.j2 kj47 x9_5 x10_47 (!t145) a0_0 a0_1 a1_0 a1_1 a2_0 a2_1 t127 t128 t129 t130)) else (barbicanlaw01_LabelOrder.j2 kj47 x9_5 x10_47 false a0_0 a0_1 a1_0 a1_1 a2_0 a2_1 t127 t128 t129 t130))) else (barbicanlaw01_LabelOrder.j2 kj47 x9_5 x10_47 false a0_0 a0_1 a1_0 a1_1 a2_0 a2_1 t127 t128 t129 t130))))) else ((label_Dominates.f a0_0 a0_1 a1_0 a1_1).bind fun t146 => (if t146 = true then ((label_Dominates.f a1_0 a1_1 a2_0 a2_1).bind fun t147 => (if t147 = true then ((label_Dominates.f a0_0 a0_1 a2_0 a2_1).bind fun t148 => (barbicanlaw01_LabelOrder.j2 kj47 x9_5 x10_47 (!t148) a0_0 a0_1 a1_0 a1_1 a2_0 a2_1 t127 t128 t129 t130)) else (barbicanlaw01_LabelOrder.j2 kj47 x9_5 x10_47 false a0_0 a0_1 a1_0 a1_1 a2_0 a2_1 t127 t128 t129 t130))) else (barbicanlaw01_LabelOrder.j2 kj47 x9_5 x10_47 false a0_0 a0_1 a1_0 a1_1 a2_0 a2_1 t127 t128 t129 t130))))) = some r := by rw [if_pos rfl] at H; exact H
       clear H
       have H := H1
       clear H1
       replace H := Option.bind_eq_some_iff.mp H
       obtain ⟨t138, A800, H⟩ := H
       replace H : (if t138 = true then ((label_Dominates.f a1_0 a1_1 a0_0 a0_1).bind fun t139 => (if t139 = true then (if (!(a0_0 == a1_0) || (!(a0_1 == a1_1))) = true then (barbicanlaw01_LabelOrder.j2 kj47 x9_5 x10_47 true a0_0 a0_1 a1_0 a1_1 a2_0 a2_1 t127 t128 t129 t130) else ((label_Dominates.f a0_0 a0_1 a1_0 a1_1).bind fun t140 => (if t140 = true then ((label_Dominates.f a1_0 a1_1 a2_0 a2_1).bind fun t141 => (if t141 = true then ((label_Dominates.f a0_0 a0_1 a2_0 a2_1).bind fun t142 => (barbicanlaw01_LabelOrder.j2 kj47 x9_5 x10_47 (!t142) a0_0 a0_1 a1_0 a1_1 a2_0 a2_1 t127 t128 t129 t130)) else (barbicanlaw01_LabelOrder.j2 kj47 x9_5 x10_47 false a0_0 a0_1 a1_0 a1_1 a2_0 a2_1 t127 t128 t129 t130))) else (barbicanlaw01_LabelOrder.j2 kj47 x9_5 x10_47 false a0_0 a0_1 a1_0 a1_1 a2_0 a2_1 t127 t128 t129 t130)))) else ((label_Dominates.f a0_0 a0_1 a1_0 a1_1).bind fun t143 => (if t143 = true then ((label_Dominates.f a1_0 a1_1 a2_0 a2_1).bind fun t144 => (if t144 = true then ((label_Dominates.f a0_0 a0_1 a2_0 a2_1).bind fun t145 => (barbicanlaw01_LabelOrder.j2 kj47 x9_5 x10_47 (!t145) a0_0 a0_1 a1_0 a1_1 a2_0 a2_1 t127 t128 t129 t130)) else (barbicanlaw01_LabelOrder.j2 kj47 x9_5 x10_47 false a0_0 a0_1 a1_0 a1_1 a2_0 a2_1 t127 t128 t129 t130))) else (barbicanlaw01_LabelOrder.j2 kj47 x9_5 x10_47 false a0_0 a0_1 a1_0 a1_1 a2_0 a2_1 t127 t128 t129 t130))))) else ((label_Dominates.f a0_0 a0_1 a1_0 a1_1).bind fun t146 => (if t146 = true then ((label_Dominates.f a1_0 a1_1 a2_0 a2_1).bind fun t147 => (if t147 = true then ((label_Dominates.f a0_0 a0_1 a2_0 a2_1).bind fun t148 => (barbicanlaw01_LabelOrder.j2 kj47 x9_5 x10_47 (!t148) a0_0 a0_1 a1_0 a1_1 a2_0 a2_1 t127 t128 t129 t130)) else (barbicanlaw01_LabelOrder.j2 kj47 x9_5 x10_47 false a0_0 a0_1 a1_0 a1_1 a2_0 a2_1 t127 t128 t129 t130))) else (barbicanlaw01_LabelOrder.j2 kj47 x9_5 x10_47 false a0_0 a0_1 a1_0 a1_1 a2_0 a2_1 t127 t128 t129 t130)))) = some r := H
       have A80 := Aside0.mk A800
       clear A800
       by_cases c81 : t138 = true
       ·subst c81
        have H1 : ((label_Dominates.f a1_0 a1_1 a0_0 a0_1).bind fun t139 => (if t139 = true then (if (!(a0_0 == a1_0) || (!(a0_1 == a1_1))) = true then (barbicanlaw01_LabelOrder.j2 kj47 x9_5 x10_47 true a0_0 a0_1 a1_0 a1_1 a2_0 a2_1 t127 t128 t129 t130) else ((label_Dominates.f a0_0 a0_1 a1_0 a1_1).bind fun t140 => (if t140 = true then ((label_Dominates.f a1_0 a1_1 a2_0 a2_1).bind fun t141 => (if t141 = true then ((label_Dominates.f a0_0 a0_1 a2_0 a2_1).bind fun t142 => (barbicanlaw01_LabelOrder.j2 kj47 x9_5 x10_47 (!t142) a0_0 a0_1 a1_0 a1_1 a2_0 a2_1 t127 t128 t129 t130)) else (barbicanlaw01_LabelOrder.j2 kj47 x9_5 x10_47 false a0_0 a0_1 a1_0 a1_1 a2_0 a2_1 t127 t128 t129 t130))) else (barbicanlaw01_LabelOrder.j2 kj47 x9_5 x10_47 false a0_0 a0_1 a1_0 a1_1 a2_0 a2_1 t127 t128 t129 t130)))) else ((label_Dominates.f a0_0 a0_1 a1_0 a1_1).bind fun t143 => (if t143 = true then ((label_Dominates.f a1_0 a1_1 a2_0 a2_1).bind fun t144 => (if t144 = true then ((label_Dominates.f a0_0 a0_1 a2_0 a2_1).bind fun t145 => (barbicanlaw01_LabelOrder.j2 kj47 x9_5 x10_47 (!t145) a0_0 a0_1 a1_0 a1_1 a2_0 a2_1 t127 t128 t129 t130)) else (barbicanlaw01_LabelOrder.j2 kj47 x9_5 x10_47 false a0_0 a0_1 a1_0 a1_1 a2_0 a2_1 t127 t128 t129 t130))) else (barbicanlaw01_LabelOrder.j2 kj47 x9_5 x10_47 false a0_0 a0_1 a1_0 a1_1 a2_0 a2_1 t127 t128 t129 t130))))) = some r := by rw [if_pos rfl] at H; exact H
        clear H
        have H := H1
        clear H1
        replace H := Option.bind_eq_some_iff.mp H
        obtain ⟨t139, A820, H⟩ := H
        replace H : (if t139 = true then (if (!(a0_0 == a1_0) || (!(a0_1 == a1_1))) = true then (barbicanlaw01_LabelOrder.j2 kj47 x9_5 x10_47 true a0_0 a0_1 a1_0 a1_1 a2_0 a2_1 t127 t128 t129 t130) else ((label_Dominates.f a0_0 a0_1 a1_0 a1_1).bind fun t140 => (if t140 = true then ((label_Dominates.f a1_0 a1_1 a2_0 a2_1).bind fun t141 => (if t141 = true then ((label_Dominates.f a0_0 a0_1 a2_0 a2_1).bind fun t142 => (barbicanlaw01_LabelOrder.j2 kj47 x9_5 x10_47 (!t142) a0_0 a0_1 a1_0 a1_1 a2_0 a2_1 t127 t128 t129 t130)) else (barbicanlaw01_LabelOrder.j2 kj47 x9_5 x10_47 false a0_0 a0_1 a1_0 a1_1 a2_0 a2_1 t127 t128 t129 t130))) else (barbicanlaw01_LabelOrder.j2 kj47 x9_5 x10_47 false a0_0 a0_1 a1_0 a1_1 a2_0 a2_1 t127 t128 t129 t130)))) else ((label_Dominates.f a0_0 a0_1 a1_0 a1_1).bind fun t143 => (if t143 = true then ((label_Dominates.f a1_0 a1_1 a2_0 a2_1).bind fun t144 => (if t144 = true then ((label_Dominates.f a0_0 a0_1 a2_0 a2_1).bind fun t145 => (barbicanlaw01_LabelOrder.j2 kj47 x9_5 x10_47 (!t145) a0_0 a0_1 a1_0 a1_1 a2_0 a2_1 t127 t128 t129 t130)) else (barbicanlaw01_LabelOrder.j2 kj47 x9_5 x10_47 false a0_0 a0_1 a1_0 a1_1 a2_0 a2_1 t127 t128 t129 t130))) else (barbicanlaw01_LabelOrder.j2 kj47 x9_5 x10_47 false a0_0 a0_1 a1_0 a1_1 a2_0 a2_1 t127 t128 t129 t130)))) = some r := H
        have A82 := Aside0.mk A820
        clear A820
        by_cases c83 : t139 = true
        ·subst c83
         have H1 : (if (!(a0_0 == a1_0) || (!(a0_1 == a1_1))) = true then (barbicanlaw01_LabelOrder.j2 kj47 x9_5 x10_47 true a0_0 a0_1 a1_0 a1_1 a2_0 a2_1 t127 t128 t129 t130) else ((label_Dominates.f a0_0 a0_1 a1_0 a1_1).bind fun t140 => (if t140 = true then ((label_Dominates.f a1_0 a1_1 a2_0 a2_1).bind fun t141 => (if t141 = true then ((label_Dominates.f a0_0 a0_1 a2_0 a2_1).bind fun t142 => (barbicanlaw01_LabelOrder.j2 kj47 x9_5 x10_47 (!t142) a0_0 a0_1 a1_0 a1_1 a2_0 a2_1 t127 t128 t129 t130)) else (barbicanlaw01_LabelOrder.j2 kj47 x9_5 x10_47 false a0_0 a0_1 a1_0 a1_1 a2_0 a2_1 t127 t128 t129 t130))) else (barbicanlaw01_LabelOrder.j2 kj47 x9_5 x10_47 false a0_0 a0_1 a1_0 a1_1 a2_0 a2_1 t127 t128 t129 t130)))) = some r := by rw [if_pos rfl] at H; exact H
         clear H
         have H := H1
         clear H1
         by_cases c84 : (!(a0_0 == a1_0) || (!(a0_1 == a1_1))) = true
         ·rw [if_pos c84] at H
          have c84b0 : (!(a0_0 == a1_0) || (!(a0_1 == a1_1))) = true := c84
          clear c84
          (first | rw [c84b0] | (simp only [i64_w, i32_w]; rw [c84b0]) | skip)
          exact absurd H (by cases kj47 <;> simp [barbicanlaw01_LabelOrder.j2, hT.out])
         ·rw [if_neg c84] at H
          have c84b0 : (!(a0_0 == a1_0) || (!(a0_1 == a1_1))) = false := by simpa using c84
          clear c84
          (first | rw [c84b0] | (simp only [i64_w, i32_w]; rw [c84b0]) | skip)
          replace H := Option.bind_eq_some_iff.mp H
          obtain ⟨t140, A850, H⟩ := H
          replace H : (if t140 = true then ((label_Dominates.f a1_0 a1_1 a2_0 a2_1).bind fun t141 => (if t141 = true then ((label_Dominates.f a0_0 a0_1 a2_0 a2_1).bind fun t142 => (barbicanlaw01_LabelOrder.j2 kj47 x9_5 x10_47 (!t142) a0_0 a0_1 a1_0 a1_1 a2_0 a2_1 t127 t128 t129 t130)) else (barbicanlaw01_LabelOrder.j2 kj47 x9_5 x10_47 false a0_0 a0_1 a1_0 a1_1 a2_0 a2_1 t127 t128 t129 t130))) else (barbicanlaw01_LabelOrder.j2 kj47 x9_5 x10_47 false a0_0 a0_1 a1_0 a1_1 a2_0 a2_1 t127 t128 t129 t130)) = some r := H
          have A85 := Aside0.mk A850
          clear A850
          by_cases c86 : t140 = true
          ·subst c86
           have H1 : ((label_Dominates.f a1_0 a1_1 a2_0 a2_1).bind fun t141 => (if t141 = true then ((label_Dominates.f a0_0 a0_1 a2_0 a2_1).bind fun t142 => (barbicanlaw01_LabelOrder.j2 kj47 x9_5 x10_47 (!t142) a0_0 a0_1 a1_0 a1_1 a2_0 a2_1 t127 t128 t129 t130)) else (barbicanlaw01_LabelOrder.j2 kj47 x9_5 x10_47 false a0_0 a0_1 a1_0 a1_1 a2_0 a2_1 t127 t128 t129 t130))) = some r := by rw [if_pos rfl] at H; exact H
           clear H
           have H := H1
           clear H1
           replace H := Option.bind_eq_some_iff.mp H
           obtain ⟨t141, A870, H⟩ := H
           replace H : (if t141 = true then ((label_Dominates.f a0_0 a0_1 a2_0 a2_1).bind fun t142 => (barbicanlaw01_LabelOrder.j2 kj47 x9_5 x10_47 (!t142) a0_0 a0_1 a1_0 a1_1 a2_0 a2_1 t127 t128 t129 t130)) else (barbicanlaw01_LabelOrder.j2 kj47 x9_5 x10_47 false a0_0 a0_1 a1_0 a1_1 a2_0 a2_1 t127 t128 t129 t130)) = some r := H
           have A87 := Aside0.mk A870
           clear A870
           by_cases c88 : t141 = true
           ·subst c88
            have H1 : ((label_Dominates.f a0_0 a0_1 a2_0 a2_1).bind fun t142 => (barbicanlaw01_LabelOrder.j2 kj47 x9_5 x10_47 (!t142) a0_0 a0_1 a1_0 a1_1 a2_0 a2_1 t127 t128 t129 t130)) = some r := by rw [if_pos rfl] at H; exact H
            clear H
            have H := H1
            clear H1
            replace H := Option.bind_eq_some_iff.mp H
            obtain ⟨t142, A890, H⟩ := H
            replace H : (barbicanlaw01_LabelOrder.j2 kj47 x9_5 x10_47 (!t142) a0_0 a0_1 a1_0 a1_1 a2_0 a2_1 t127 t128 t129 t130) = some r := H
            have A89 := Aside0.mk A890
            clear A890
            have H' := Aside0.mk H
            clear H
            have hnb90 := NB124_125.out
            have hnc90 := NB125_124.out
            have hnb91 := NB124_126.out
            have hnc91 := NB126_124.out
            have hnb92 := NB124_131.out
            have hnc92 := NB131_124.out
            have hnb93 := NB124_132.out
            have hnc93 := NB132_124.out
            have hcz94_0 : wc.cell? ⟨gb124, 0, none⟩ = some (.int .i64 a0_0) := (blk_cell BK124.out 0).trans rfl
            have hcz94_1 : wc.cell? ⟨gb124, 1, none⟩ = some (.int .u32 a0_1) := (blk_cell BK124.out 1).trans rfl
            have hfz94_0 := blk_frozen BK124.out 0
            have hfz94_1 := blk_frozen BK124.out 1
            go_wp2_with (first | ((with_reducible refine gate_callee (f := 7) rfl ?_); refine goesL_ (some 35) rfl rfl Tryd.func7 (by kernel_rfl) rfl #[.agg #[.int .i64 a0_0, .int .u32 a0_1], .agg #[.int .i64 a0_0, .int .u32 a0_1]] rfl (by (try simp only [List.map_toArray, List.map_cons, List.map_nil]); first | done | rfl | (simp only [List.length_drop, List.length_take]; rfl)) ?_; (with_reducible refine (label_Dominates.calls a0_0 a0_1 a0_0 a0_1 true _ A78.out).mono ?_); rintro e w95 ⟨rfl, hb⟩; refine ⟨_, rfl, ?_⟩; have n0_ := Aside0.mk (blk_below (g := gb124) (o := .cells #[.int .i64 a0_0, .int .u32 a0_1] 24 (0, 0)) (bk_ BK124) hb); have n1_ := Aside0.mk (blk_below (g := gb125) (o := .cells #[.int .i64 a1_0, .int .u32 a1_1] 24 (0, 0)) (bk_ BK125) hb); have n2_ := Aside0.mk (blk_below (g := gb126) (o := .cells #[.int .i64 a2_0, .int .u32 a2_1] 24 (0, 0)) (bk_ BK126) hb); have n3_ := Aside0.mk (blk_below (g := gb131) (o := .cells #[.int .i64 t127, .int .u32 t128] 24 (0, 0)) (bk_ BK131) hb); have n4_ := Aside0.mk (blk_below (g := gb132) (o := .cells #[.int .i64 t129, .int .u32 t130] 24 (0, 0)) (bk_ BK132) hb); have n5_ := Aside0.mk (below_step (bh_ HB) hb); clear BK124; clear BK125; clear BK126; clear BK131; clear BK132; clear HB; have BK124 := n0_; have BK125 := n1_; have BK126 := n2_; have BK131 := n3_; have BK132 := n4_; have HB := n5_; clear n0_ n1_ n2_ n3_ n4_ n5_; (try clear hb); (try clear hb2); (try clear hk); (try clear hi); have hcz96_0 : w95.cell? ⟨gb124, 0, none⟩ = some (.int .i64 a0_0) := (blk_cell BK124.out 0).trans rfl; have hcz96_1 : w95.cell? ⟨gb124, 1, none⟩ = some (.int .u32 a0_1) := (blk_cell BK124.out 1).trans rfl; have hfz96_0 := blk_frozen BK124.out 0; have hfz96_1 := blk_frozen BK124.out 1; have hnb97 := NB125_126.out; have hnc97 := NB126_125.out; have hnb98 := NB125_131.out; have hnc98 := NB131_125.out; have hnb99 := NB125_132.out; have hnc99 := NB132_125.out; have hcz100_0 : w95.cell? ⟨gb125, 0, none⟩ = some (.int .i64 a1_0) := (blk_cell BK125.out 0).trans rfl; have hcz100_1 : w95.cell? ⟨gb125, 1, none⟩ = some (.int .u32 a1_1) := (blk_cell BK125.out 1).trans rfl; have hfz100_0 := blk_frozen BK125.out 0; have hfz100_1 := blk_frozen BK125.out 1) | (go_at_call 7; (first | ((with_reducible refine (label_Dominates.calls a0_0 a0_1 a1_0 a1_1 true _ A80.out).mono ?_); (try clear A80)) | ((with_reducible refine (label_Dominates.calls a1_0 a1_1 a0_0 a0_1 true _ A82.out).mono ?_)) | ((with_reducible refine (label_Dominates.calls a0_0 a0_1 a1_0 a1_1 true _ A85.out).mono ?_); (try clear A85)) | ((with_reducible refine (label_Dominates.calls a1_0 a1_1 a2_0 a2_1 true _ A87.out).mono ?_)) | ((with_reducible refine (label_Dominates.calls a0_0 a0_1 a2_0 a2_1 t142 _ A89.out).mono ?_))); rintro e wz ⟨rfl, hb⟩; have n0_ := Aside0.mk (blk_below (g := gb124) (o := .cells #[.int .i64 a0_0, .int .u32 a0_1] 24 (0, 0)) (bk_ BK124) hb); have n1_ := Aside0.mk (blk_below (g := gb125) (o := .cells #[.int .i64 a1_0, .int .u32 a1_1] 24 (0, 0)) (bk_ BK125) hb); have n2_ := Aside0.mk (blk_below (g := gb126) (o := .cells #[.int .i64 a2_0, .int .u32 a2_1] 24 (0, 0)) (bk_ BK126) hb); have n3_ := Aside0.mk (blk_below (g := gb131) (o := .cells #[.int .i64 t127, .int .u32 t128] 24 (0, 0)) (bk_ BK131) hb); have n4_ := Aside0.mk (blk_below (g := gb132) (o := .cells #[.int .i64 t129, .int .u32 t130] 24 (0, 0)) (bk_ BK132) hb); have n5_ := Aside0.mk (below_step (bh_ HB) hb); clear BK124; clear BK125; clear BK126; clear BK131; clear BK132; clear HB; have BK124 := n0_; have BK125 := n1_; have BK126 := n2_; have BK131 := n3_; have BK132 := n4_; have HB := n5_; clear n0_ n1_ n2_ n3_ n4_ n5_; (try clear hb); (try clear hb2); (try clear hk); (try clear hi); have hcz102_0 : wz.cell? ⟨gb125, 0, none⟩ = some (.int .i64 a1_0) := (blk_cell BK125.out 0).trans rfl; have hcz102_1 : wz.cell? ⟨gb125, 1, none⟩ = some (.int .u32 a1_1) := (blk_cell BK125.out 1).trans rfl; have hfz102_0 := blk_frozen BK125.out 0; have hfz102_1 := blk_frozen BK125.out 1; have hcz103_0 : wz.cell? ⟨gb124, 0, none⟩ = some (.int .i64 a0_0) := (blk_cell BK124.out 0).trans rfl; have hcz103_1 : wz.cell? ⟨gb124, 1, none⟩ = some (.int .u32 a0_1) := (blk_cell BK124.out 1).trans rfl; have hfz103_0 := blk_frozen BK124.out 0; have hfz103_1 := blk_frozen BK124.out 1; have hnb109 := NB126_131.out; have hnc109 := NB131_126.out; have hnb110 := NB126_132.out; have hnc110 := NB132_126.out; have hcz111_0 : wz.cell? ⟨gb126, 0, none⟩ = some (.int .i64 a2_0) := (blk_cell BK126.out 0).trans rfl; have hcz111_1 : wz.cell? ⟨gb126, 1, none⟩ = some (.int .u32 a2_1) := (blk_cell BK126.out 1).trans rfl; have hfz111_0 := blk_frozen BK126.out 0; have hfz111_1 := blk_frozen BK126.out 1))
            go_meet
            case rel => exact ⟨_, (!t142), (by first | rfl | (simp; done) | (simp [*]; done)), H', ⟨by have := HJ5.out; have := HJ47.out; first | omega | exact Nat.le_refl _⟩, ⟨bk_ BK124⟩, ⟨bk_ BK125⟩, ⟨bk_ BK126⟩, ⟨bk_ BK131⟩, ⟨bk_ BK132⟩, ⟨by repeat (first | (with_reducible first | exact HB.out | apply below_alloc | apply pw_below_drewN | apply below_drew1 | refine below_set ?_ GE124.out | refine below_set ?_ GE125.out | refine below_set ?_ GE126.out | refine below_set ?_ GE131.out | refine below_set ?_ GE132.out) | exact HB.out | exact below_undrew HB.out)⟩⟩
           ·replace c88 := Bool.eq_false_iff.mpr c88
            subst c88
            have H1 : (barbicanlaw01_LabelOrder.j2 kj47 x9_5 x10_47 false a0_0 a0_1 a1_0 a1_1 a2_0 a2_1 t127 t128 t129 t130) = some r := by rw [if_neg (show ¬ (false = true) by decide)] at H; exact H
            clear H
            have H := H1
            clear H1
            have H' := Aside0.mk H
            clear H
            have hnb116 := NB124_125.out
            have hnc116 := NB125_124.out
            have hnb117 := NB124_126.out
            have hnc117 := NB126_124.out
            have hnb118 := NB124_131.out
            have hnc118 := NB131_124.out
            have hnb119 := NB124_132.out
            have hnc119 := NB132_124.out
            have hcz120_0 : wc.cell? ⟨gb124, 0, none⟩ = some (.int .i64 a0_0) := (blk_cell BK124.out 0).trans rfl
            have hcz120_1 : wc.cell? ⟨gb124, 1, none⟩ = some (.int .u32 a0_1) := (blk_cell BK124.out 1).trans rfl
            have hfz120_0 := blk_frozen BK124.out 0
            have hfz120_1 := blk_frozen BK124.out 1
            go_wp2_with (first | ((with_reducible refine gate_callee (f := 7) rfl ?_); refine goesL_ (some 35) rfl rfl Tryd.func7 (by kernel_rfl) rfl #[.agg #[.int .i64 a0_0, .int .u32 a0_1], .agg #[.int .i64 a0_0, .int .u32 a0_1]] rfl (by (try simp only [List.map_toArray, List.map_cons, List.map_nil]); first | done | rfl | (simp only [List.length_drop, List.length_take]; rfl)) ?_; (with_reducible refine (label_Dominates.calls a0_0 a0_1 a0_0 a0_1 true _ A78.out).mono ?_); rintro e w121 ⟨rfl, hb⟩; refine ⟨_, rfl, ?_⟩; have n0_ := Aside0.mk (blk_below (g := gb124) (o := .cells #[.int .i64 a0_0, .int .u32 a0_1] 24 (0, 0)) (bk_ BK124) hb); have n1_ := Aside0.mk (blk_below (g := gb125) (o := .cells #[.int .i64 a1_0, .int .u32 a1_1] 24 (0, 0)) (bk_ BK125) hb); have n2_ := Aside0.mk (blk_below (g := gb126) (o := .cells #[.int .i64 a2_0, .int .u32 a2_1] 24 (0, 0)) (bk_ BK126) hb); have n3_ := Aside0.mk (blk_below (g := gb131) (o := .cells #[.int .i64 t127, .int .u32 t128] 24 (0, 0)) (bk_ BK131) hb); have n4_ := Aside0.mk (blk_below (g := gb132) (o := .cells #[.int .i64 t129, .int .u32 t130] 24 (0, 0)) (bk_ BK132) hb); have n5_ := Aside0.mk (below_step (bh_ HB) hb); clear BK124; clear BK125; clear BK126; clear BK131; clear BK132; clear HB; have BK124 := n0_; have BK125 := n1_; have BK126 := n2_; have BK131 := n3_; have BK132 := n4_; have HB := n5_; clear n0_ n1_ n2_ n3_ n4_ n5_; (try clear hb); (try clear hb2); (try clear hk); (try clear hi); have hcz122_0 : w121.cell? ⟨gb124, 0, none⟩ = some (.int .i64 a0_0) := (blk_cell BK124.out 0).trans rfl; have hcz122_1 : w121.cell? ⟨gb124, 1, none⟩ = some (.int .u32 a0_1) := (blk_cell BK124.out 1).trans rfl; have hfz122_0 := blk_frozen BK124.out 0; have hfz122_1 := blk_frozen BK124.out 1; have hnb123 := NB125_126.out; have hnc123 := NB126_125.out; have hnb124 := NB125_131.out; have hnc124 := NB131_125.out; have hnb125 := NB125_132.out; have hnc125 := NB132_125.out; have hcz126_0 : w121.cell? ⟨gb125, 0, none⟩ = some (.int .i64 a1_0) := (blk_cell BK125.out 0).trans rfl; have hcz126_1 : w121.cell? ⟨gb125, 1, none⟩ = some (.int .u32 a1_1) := (blk_cell BK125.out 1).trans rfl; have hfz126_0 := blk_frozen BK125.out 0; have hfz126_1 := blk_frozen BK125.out 1) | (go_at_call 7; (first | ((with_reducible refine (label_Dominates.calls a0_0 a0_1 a1_0 a1_1 true _ A80.out).mono ?_); (try clear A80)) | ((with_reducible refine (label_Dominates.calls a1_0 a1_1 a0_0 a0_1 true _ A82.out).mono ?_)) | ((with_reducible refine (label_Dominates.calls a0_0 a0_1 a1_0 a1_1 true _ A85.out).mono ?_); (try clear A85)) | ((with_reducible refine (label_Dominates.calls a1_0 a1_1 a2_0 a2_1 false _ A87.out).mono ?_))); rintro e wz ⟨rfl, hb⟩; have n0_ := Aside0.mk (blk_below (g := gb124) (o := .cells #[.int .i64 a0_0, .int .u32 a0_1] 24 (0, 0)) (bk_ BK124) hb); have n1_ := Aside0.mk (blk_below (g := gb125) (o := .cells #[.int .i64 a1_0, .int .u32 a1_1] 24 (0, 0)) (bk_ BK125) hb); have n2_ := Aside0.mk (blk_below (g := gb126) (o := .cells #[.int .i64 a2_0, .int .u32 a2_1] 24 (0, 0)) (bk_ BK126) hb); have n3_ := Aside0.mk (blk_below (g := gb131) (o := .cells #[.int .i64 t127, .int .u32 t128] 24 (0, 0)) (bk_ BK131) hb); have n4_ := Aside0.mk (blk_below (g := gb132) (o := .cells #[.int .i64 t129, .int .u32 t130] 24 (0, 0)) (bk_ BK132) hb); have n5_ := Aside0.mk (below_step (bh_ HB) hb); clear BK124; clear BK125; clear BK126; clear BK131; clear BK132; clear HB; have BK124 := n0_; have BK125 := n1_; have BK126 := n2_; have BK131 := n3_; have BK132 := n4_; have HB := n5_; clear n0_ n1_ n2_ n3_ n4_ n5_; (try clear hb); (try clear hb2); (try clear hk); (try clear hi); have hcz128_0 : wz.cell? ⟨gb125, 0, none⟩ = some (.int .i64 a1_0) := (blk_cell BK125.out 0).trans rfl; have hcz128_1 : wz.cell? ⟨gb125, 1, none⟩ = some (.int .u32 a1_1) := (blk_cell BK125.out 1).trans rfl; have hfz128_0 := blk_frozen BK125.out 0; have hfz128_1 := blk_frozen BK125.out 1; have hcz129_0 : wz.cell? ⟨gb124, 0, none⟩ = some (.int .i64 a0_0) := (blk_cell BK124.out 0).trans rfl; have hcz129_1 : wz.cell? ⟨gb124, 1, none⟩ = some (.int .u32 a0_1) := (blk_cell BK124.out 1).trans rfl; have hfz129_0 := blk_frozen BK124.out 0; have hfz129_1 := blk_frozen BK124.out 1; have hnb135 := NB126_131.out; have hnc135 := NB131_126.out; have hnb136 := NB126_132.out; have hnc136 := NB132_126.out; have hcz137_0 : wz.cell? ⟨gb126, 0, none⟩ = some (.int .i64 a2_0) := (blk_cell BK126.out 0).trans rfl; have hcz137_1 : wz.cell? ⟨gb126, 1, none⟩ = some (.int .u32 a2_1) := (blk_cell BK126.out 1).trans rfl; have hfz137_0 := blk_frozen BK126.out 0; have hfz137_1 := blk_frozen BK126.out 1))
            go_meet
            case rel => exact ⟨_, (false), (by first | rfl | (simp; done) | (simp [*]; done)), H', ⟨by have := HJ5.out; have := HJ47.out; first | omega | exact Nat.le_refl _⟩, ⟨bk_ BK124⟩, ⟨bk_ BK125⟩, ⟨bk_ BK126⟩, ⟨bk_ BK131⟩, ⟨bk_ BK132⟩, ⟨by repeat (first | (with_reducible first | exact HB.out | apply below_alloc | apply pw_below_drewN | apply below_drew1 | refine below_set ?_ GE124.out | refine below_set ?_ GE125.out | refine below_set ?_ GE126.out | refine below_set ?_ GE131.out | refine below_set ?_ GE132.out) | exact HB.out | exact below_undrew HB.out)⟩⟩
          ·replace c86 := Bool.eq_false_iff.mpr c86
           subst c86
           have H1 : (barbicanlaw01_LabelOrder.j2 kj47 x9_5 x10_47 false a0_0 a0_1 a1_0 a1_1 a2_0 a2_1 t127 t128 t129 t130) = some r := by rw [if_neg (show ¬ (false = true) by decide)] at H; exact H
           clear H
           have H := H1
           clear H1
           have H' := Aside0.mk H
           clear H
           have hnb139 := NB124_125.out
           have hnc139 := NB125_124.out
           have hnb140 := NB124_126.out
           have hnc140 := NB126_124.out
           have hnb141 := NB124_131.out
           have hnc141 := NB131_124.out
           have hnb142 := NB124_132.out
           have hnc142 := NB132_124.out
           have hcz143_0 : wc.cell? ⟨gb124, 0, none⟩ = some (.int .i64 a0_0) := (blk_cell BK124.out 0).trans rfl
           have hcz143_1 : wc.cell? ⟨gb124, 1, none⟩ = some (.int .u32 a0_1) := (blk_cell BK124.out 1).trans rfl
           have hfz143_0 := blk_frozen BK124.out 0
           have hfz143_1 := blk_frozen BK124.out 1
           go_wp2_with (first | ((with_reducible refine gate_callee (f := 7) rfl ?_); refine goesL_ (some 35) rfl rfl Tryd.func7 (by kernel_rfl) rfl #[.agg #[.int .i64 a0_0, .int .u32 a0_1], .agg #[.int .i64 a0_0, .int .u32 a0_1]] rfl (by (try simp only [List.map_toArray, List.map_cons, List.map_nil]); first | done | rfl | (simp only [List.length_drop, List.length_take]; rfl)) ?_; (with_reducible refine (label_Dominates.calls a0_0 a0_1 a0_0 a0_1 true _ A78.out).mono ?_); rintro e w144 ⟨rfl, hb⟩; refine ⟨_, rfl, ?_⟩; have n0_ := Aside0.mk (blk_below (g := gb124) (o := .cells #[.int .i64 a0_0, .int .u32 a0_1] 24 (0, 0)) (bk_ BK124) hb); have n1_ := Aside0.mk (blk_below (g := gb125) (o := .cells #[.int .i64 a1_0, .int .u32 a1_1] 24 (0, 0)) (bk_ BK125) hb); have n2_ := Aside0.mk (blk_below (g := gb126) (o := .cells #[.int .i64 a2_0, .int .u32 a2_1] 24 (0, 0)) (bk_ BK126) hb); have n3_ := Aside0.mk (blk_below (g := gb131) (o := .cells #[.int .i64 t127, .int .u32 t128] 24 (0, 0)) (bk_ BK131) hb); have n4_ := Aside0.mk (blk_below (g := gb132) (o := .cells #[.int .i64 t129, .int .u32 t130] 24 (0, 0)) (bk_ BK132) hb); have n5_ := Aside0.mk (below_step (bh_ HB) hb); clear BK124; clear BK125; clear BK126; clear BK131; clear BK132; clear HB; have BK124 := n0_; have BK125 := n1_; have BK126 := n2_; have BK131 := n3_; have BK132 := n4_; have HB := n5_; clear n0_ n1_ n2_ n3_ n4_ n5_; (try clear hb); (try clear hb2); (try clear hk); (try clear hi); have hcz145_0 : w144.cell? ⟨gb124, 0, none⟩ = some (.int .i64 a0_0) := (blk_cell BK124.out 0).trans rfl; have hcz145_1 : w144.cell? ⟨gb124, 1, none⟩ = some (.int .u32 a0_1) := (blk_cell BK124.out 1).trans rfl; have hfz145_0 := blk_frozen BK124.out 0; have hfz145_1 := blk_frozen BK124.out 1; have hnb146 := NB125_126.out; have hnc146 := NB126_125.out; have hnb147 := NB125_131.out; have hnc147 := NB131_125.out; have hnb148 := NB125_132.out; have hnc148 := NB132_125.out; have hcz149_0 : w144.cell? ⟨gb125, 0, none⟩ = some (.int .i64 a1_0) := (blk_cell BK125.out 0).trans rfl; have hcz149_1 : w144.cell? ⟨gb125, 1, none⟩ = some (.int .u32 a1_1) := (blk_cell BK125.out 1).trans rfl; have hfz149_0 := blk_frozen BK125.out 0; have hfz149_1 := blk_frozen BK125.out 1) | (go_at_call 7; (first | ((with_reducible refine (label_Dominates.calls a0_0 a0_1 a1_0 a1_1 true _ A80.out).mono ?_); (try clear A80)) | ((with_reducible refine (label_Dominates.calls a1_0 a1_1 a0_0 a0_1 true _ A82.out).mono ?_)) | ((with_reducible refine (label_Dominates.calls a0_0 a0_1 a1_0 a1_1 false _ A85.out).mono ?_); (try clear A85))); rintro e wz ⟨rfl, hb⟩; have n0_ := Aside0.mk (blk_below (g := gb124) (o := .cells #[.int .i64 a0_0, .int .u32 a0_1] 24 (0, 0)) (bk_ BK124) hb); have n1_ := Aside0.mk (blk_below (g := gb125) (o := .cells #[.int .i64 a1_0, .int .u32 a1_1] 24 (0, 0)) (bk_ BK125) hb); have n2_ := Aside0.mk (blk_below (g := gb126) (o := .cells #[.int .i64 a2_0, .int .u32 a2_1] 24 (0, 0)) (bk_ BK126) hb); have n3_ := Aside0.mk (blk_below (g := gb131) (o := .cells #[.int .i64 t127, .int .u32 t128] 24 (0, 0)) (bk_ BK131) hb); have n4_ := Aside0.mk (blk_below (g := gb132) (o := .cells #[.int .i64 t129, .int .u32 t130] 24 (0, 0)) (bk_ BK132) hb); have n5_ := Aside0.mk (below_step (bh_ HB) hb); clear BK124; clear BK125; clear BK126; clear BK131; clear BK132; clear HB; have BK124 := n0_; have BK125 := n1_; have BK126 := n2_; have BK131 := n3_; have BK132 := n4_; have HB := n5_; clear n0_ n1_ n2_ n3_ n4_ n5_; (try clear hb); (try clear hb2); (try clear hk); (try clear hi); have hcz151_0 : wz.cell? ⟨gb125, 0, none⟩ = some (.int .i64 a1_0) := (blk_cell BK125.out 0).trans rfl; have hcz151_1 : wz.cell? ⟨gb125, 1, none⟩ = some (.int .u32 a1_1) := (blk_cell BK125.out 1).trans rfl; have hfz151_0 := blk_frozen BK125.out 0; have hfz151_1 := blk_frozen BK125.out 1; have hcz152_0 : wz.cell? ⟨gb124, 0, none⟩ = some (.int .i64 a0_0) := (blk_cell BK124.out 0).trans rfl; have hcz152_1 : wz.cell? ⟨gb124, 1, none⟩ = some (.int .u32 a0_1) := (blk_cell BK124.out 1).trans rfl; have hfz152_0 := blk_frozen BK124.out 0; have hfz152_1 := blk_frozen BK124.out 1))
           go_meet
           case rel => exact ⟨_, (false), (by first | rfl | (simp; done) | (simp [*]; done)), H', ⟨by have := HJ5.out; have := HJ47.out; first | omega | exact Nat.le_refl _⟩, ⟨bk_ BK124⟩, ⟨bk_ BK125⟩, ⟨bk_ BK126⟩, ⟨bk_ BK131⟩, ⟨bk_ BK132⟩, ⟨by repeat (first | (with_reducible first | exact HB.out | apply below_alloc | apply pw_below_drewN | apply below_drew1 | refine below_set ?_ GE124.out | refine below_set ?_ GE125.out | refine below_set ?_ GE126.out | refine below_set ?_ GE131.out | refine below_set ?_ GE132.out) | exact HB.out | exact below_undrew HB.out)⟩⟩
        ·replace c83 := Bool.eq_false_iff.mpr c83
         subst c83
         have H1 : ((label_Dominates.f a0_0 a0_1 a1_0 a1_1).bind fun t143 => (if t143 = true then ((label_Dominates.f a1_0 a1_1 a2_0 a2_1).bind fun t144 => (if t144 = true then ((label_Dominates.f a0_0 a0_1 a2_0 a2_1).bind fun t145 => (barbicanlaw01_LabelOrder.j2 kj47 x9_5 x10_47 (!t145) a0_0 a0_1 a1_0 a1_1 a2_0 a2_1 t127 t128 t129 t130)) else (barbicanlaw01_LabelOrder.j2 kj47 x9_5 x10_47 false a0_0 a0_1 a1_0 a1_1 a2_0 a2_1 t127 t128 t129 t130))) else (barbicanlaw01_LabelOrder.j2 kj47 x9_5 x10_47 false a0_0 a0_1 a1_0 a1_1 a2_0 a2_1 t127 t128 t129 t130))) = some r := by rw [if_neg (show ¬ (false = true) by decide)] at H; exact H
         clear H
         have H := H1
         clear H1
         replace H := Option.bind_eq_some_iff.mp H
         obtain ⟨t143, A1570, H⟩ := H
         replace H : (if t143 = true then ((label_Dominates.f a1_0 a1_1 a2_0 a2_1).bind fun t144 => (if t144 = true then ((label_Dominates.f a0_0 a0_1 a2_0 a2_1).bind fun t145 => (barbicanlaw01_LabelOrder.j2 kj47 x9_5 x10_47 (!t145) a0_0 a0_1 a1_0 a1_1 a2_0 a2_1 t127 t128 t129 t130)) else (barbicanlaw01_LabelOrder.j2 kj47 x9_5 x10_47 false a0_0 a0_1 a1_0 a1_1 a2_0 a2_1 t127 t128 t129 t130))) else (barbicanlaw01_LabelOrder.j2 kj47 x9_5 x10_47 false a0_0 a0_1 a1_0 a1_1 a2_0 a2_1 t127 t128 t129 t130)) = some r := H
         have A157 := Aside0.mk A1570
         clear A1570
         by_cases c158 : t143 = true
         ·subst c158
          have H1 : ((label_Dominates.f a1_0 a1_1 a2_0 a2_1).bind fun t144 => (if t144 = true then ((label_Dominates.f a0_0 a0_1 a2_0 a2_1).bind fun t145 => (barbicanlaw01_LabelOrder.j2 kj47 x9_5 x10_47 (!t145) a0_0 a0_1 a1_0 a1_1 a2_0 a2_1 t127 t128 t129 t130)) else (barbicanlaw01_LabelOrder.j2 kj47 x9_5 x10_47 false a0_0 a0_1 a1_0 a1_1 a2_0 a2_1 t127 t128 t129 t130))) = some r := by rw [if_pos rfl] at H; exact H
          clear H
          have H := H1
          clear H1
          replace H := Option.bind_eq_some_iff.mp H
          obtain ⟨t144, A1590, H⟩ := H
          replace H : (if t144 = true then ((label_Dominates.f a0_0 a0_1 a2_0 a2_1).bind fun t145 => (barbicanlaw01_LabelOrder.j2 kj47 x9_5 x10_47 (!t145) a0_0 a0_1 a1_0 a1_1 a2_0 a2_1 t127 t128 t129 t130)) else (barbicanlaw01_LabelOrder.j2 kj47 x9_5 x10_47 false a0_0 a0_1 a1_0 a1_1 a2_0 a2_1 t127 t128 t129 t130)) = some r := H
          have A159 := Aside0.mk A1590
          clear A1590
          by_cases c160 : t144 = true
          ·subst c160
           have H1 : ((label_Dominates.f a0_0 a0_1 a2_0 a2_1).bind fun t145 => (barbicanlaw01_LabelOrder.j2 kj47 x9_5 x10_47 (!t145) a0_0 a0_1 a1_0 a1_1 a2_0 a2_1 t127 t128 t129 t130)) = some r := by rw [if_pos rfl] at H; exact H
           clear H
           have H := H1
           clear H1
           replace H := Option.bind_eq_some_iff.mp H
           obtain ⟨t145, A1610, H⟩ := H
           replace H : (barbicanlaw01_LabelOrder.j2 kj47 x9_5 x10_47 (!t145) a0_0 a0_1 a1_0 a1_1 a2_0 a2_1 t127 t128 t129 t130) = some r := H
           have A161 := Aside0.mk A1610
           clear A1610
           have H' := Aside0.mk H
           clear H
           have hnb162 := NB124_125.out
           have hnc162 := NB125_124.out
           have hnb163 := NB124_126.out
           have hnc163 := NB126_124.out
           have hnb164 := NB124_131.out
           have hnc164 := NB131_124.out
           have hnb165 := NB124_132.out
           have hnc165 := NB132_124.out
           have hcz166_0 : wc.cell? ⟨gb124, 0, none⟩ = some (.int .i64 a0_0) := (blk_cell BK124.out 0).trans rfl
           have hcz166_1 : wc.cell? ⟨gb124, 1, none⟩ = some (.int .u32 a0_1) := (blk_cell BK124.out 1).trans rfl
           have hfz166_0 := blk_frozen BK124.out 0
           have hfz166_1 := blk_frozen BK124.out 1
           go_wp2_with (first | ((with_reducible refine gate_callee (f := 7) rfl ?_); refine goesL_ (some 35) rfl rfl Tryd.func7 (by kernel_rfl) rfl #[.agg #[.int .i64 a0_0, .int .u32 a0_1], .agg #[.int .i64 a0_0, .int .u32 a0_1]] rfl (by (try simp only [List.map_toArray, List.map_cons, List.map_nil]); first | done | rfl | (simp only [List.length_drop, List.length_take]; rfl)) ?_; (with_reducible refine (label_Dominates.calls a0_0 a0_1 a0_0 a0_1 true _ A78.out).mono ?_); rintro e w167 ⟨rfl, hb⟩; refine ⟨_, rfl, ?_⟩; have n0_ := Aside0.mk (blk_below (g := gb124) (o := .cells #[.int .i64 a0_0, .int .u32 a0_1] 24 (0, 0)) (bk_ BK124) hb); have n1_ := Aside0.mk (blk_below (g := gb125) (o := .cells #[.int .i64 a1_0, .int .u32 a1_1] 24 (0, 0)) (bk_ BK125) hb); have n2_ := Aside0.mk (blk_below (g := gb126) (o := .cells #[.int .i64 a2_0, .int .u32 a2_1] 24 (0, 0)) (bk_ BK126) hb); have n3_ := Aside0.mk (blk_below (g := gb131) (o := .cells #[.int .i64 t127, .int .u32 t128] 24 (0, 0)) (bk_ BK131) hb); have n4_ := Aside0.mk (blk_below (g := gb132) (o := .cells #[.int .i64 t129, .int .u32 t130] 24 (0, 0)) (bk_ BK132) hb); have n5_ := Aside0.mk (below_step (bh_ HB) hb); clear BK124; clear BK125; clear BK126; clear BK131; clear BK132; clear HB; have BK124 := n0_; have BK125 := n1_; have BK126 := n2_; have BK131 := n3_; have BK132 := n4_; have HB := n5_; clear n0_ n1_ n2_ n3_ n4_ n5_; (try clear hb); (try clear hb2); (try clear hk); (try clear hi); have hcz168_0 : w167.cell? ⟨gb124, 0, none⟩ = some (.int .i64 a0_0) := (blk_cell BK124.out 0).trans rfl; have hcz168_1 : w167.cell? ⟨gb124, 1, none⟩ = some (.int .u32 a0_1) := (blk_cell BK124.out 1).trans rfl; have hfz168_0 := blk_frozen BK124.out 0; have hfz168_1 := blk_frozen BK124.out 1; have hnb169 := NB125_126.out; have hnc169 := NB126_125.out; have hnb170 := NB125_131.out; have hnc170 := NB131_125.out; have hnb171 := NB125_132.out; have hnc171 := NB132_125.out; have hcz172_0 : w167.cell? ⟨gb125, 0, none⟩ = some (.int .i64 a1_0) := (blk_cell BK125.out 0).trans rfl; have hcz172_1 : w167.cell? ⟨gb125, 1, none⟩ = some (.int .u32 a1_1) := (blk_cell BK125.out 1).trans rfl; have hfz172_0 := blk_frozen BK125.out 0; have hfz172_1 := blk_frozen BK125.out 1) | (go_at_call 7; (first | ((with_reducible refine (label_Dominates.calls a0_0 a0_1 a1_0 a1_1 true _ A80.out).mono ?_); (try clear A80)) | ((with_reducible refine (label_Dominates.calls a1_0 a1_1 a0_0 a0_1 false _ A82.out).mono ?_)) | ((with_reducible refine (label_Dominates.calls a0_0 a0_1 a1_0 a1_1 true _ A157.out).mono ?_); (try clear A157)) | ((with_reducible refine (label_Dominates.calls a1_0 a1_1 a2_0 a2_1 true _ A159.out).mono ?_)) | ((with_reducible refine (label_Dominates.calls a0_0 a0_1 a2_0 a2_1 t145 _ A161.out).mono ?_))); rintro e wz ⟨rfl, hb⟩; have n0_ := Aside0.mk (blk_below (g := gb124) (o := .cells #[.int .i64 a0_0, .int .u32 a0_1] 24 (0, 0)) (bk_ BK124) hb); have n1_ := Aside0.mk (blk_below (g := gb125) (o := .cells #[.int .i64 a1_0, .int .u32 a1_1] 24 (0, 0)) (bk_ BK125) hb); have n2_ := Aside0.mk (blk_below (g := gb126) (o := .cells #[.int .i64 a2_0, .int .u32 a2_1] 24 (0, 0)) (bk_ BK126) hb); have n3_ := Aside0.mk (blk_below (g := gb131) (o := .cells #[.int .i64 t127, .int .u32 t128] 24 (0, 0)) (bk_ BK131) hb); have n4_ := Aside0.mk (blk_below (g := gb132) (o := .cells #[.int .i64 t129, .int .u32 t130] 24 (0, 0)) (bk_ BK132) hb); have n5_ := Aside0.mk (below_step (bh_ HB) hb); clear BK124; clear BK125; clear BK126; clear BK131; clear BK132; clear HB; have BK124 := n0_; have BK125 := n1_; have BK126 := n2_; have BK131 := n3_; have BK132 := n4_; have HB := n5_; clear n0_ n1_ n2_ n3_ n4_ n5_; (try clear hb); (try clear hb2); (try clear hk); (try clear hi); have hcz174_0 : wz.cell? ⟨gb125, 0, none⟩ = some (.int .i64 a1_0) := (blk_cell BK125.out 0).trans rfl; have hcz174_1 : wz.cell? ⟨gb125, 1, none⟩ = some (.int .u32 a1_1) := (blk_cell BK125.out 1).trans rfl; have hfz174_0 := blk_frozen BK125.out 0; have hfz174_1 := blk_frozen BK125.out 1; have hcz175_0 : wz.cell? ⟨gb124, 0, none⟩ = some (.int .i64 a0_0) := (blk_cell BK124.out 0).trans rfl; have hcz175_1 : wz.cell? ⟨gb124, 1, none⟩ = some (.int .u32 a0_1) := (blk_cell BK124.out 1).trans rfl; have hfz175_0 := blk_frozen BK124.out 0; have hfz175_1 := blk_frozen BK124.out 1; have hnb181 := NB126_131.out; have hnc181 := NB131_126.out; have hnb182 := NB126_132.out; have hnc182 := NB132_126.out; have hcz183_0 : wz.cell? ⟨gb126, 0, none⟩ = some (.int .i64 a2_0) := (blk_cell BK126.out 0).trans rfl; have hcz183_1 : wz.cell? ⟨gb126, 1, none⟩ = some (.int .u32 a2_1) := (blk_cell BK126.out 1).trans rfl; have hfz183_0 := blk_frozen BK126.out 0; have hfz183_1 := blk_frozen BK126.out 1))
           go_meet
           case rel => exact ⟨_, (!t145), (by first | rfl | (simp; done) | (simp [*]; done)), H', ⟨by have := HJ5.out; have := HJ47.out; first | omega | exact Nat.le_refl _⟩, ⟨bk_ BK124⟩, ⟨bk_ BK125⟩, ⟨bk_ BK126⟩, ⟨bk_ BK131⟩, ⟨bk_ BK132⟩, ⟨by repeat (first | (with_reducible first | exact HB.out | apply below_alloc | apply pw_below_drewN | apply below_drew1 | refine below_set ?_ GE124.out | refine below_set ?_ GE125.out | refine below_set ?_ GE126.out | refine below_set ?_ GE131.out | refine below_set ?_ GE132.out) | exact HB.out | exact below_undrew HB.out)⟩⟩
          ·replace c160 := Bool.eq_false_iff.mpr c160
           subst c160
           have H1 : (barbicanlaw01_LabelOrder.j2 kj47 x9_5 x10_47 false a0_0 a0_1 a1_0 a1_1 a2_0 a2_1 t127 t128 t129 t130) = some r := by rw [if_neg (show ¬ (false = true) by decide)] at H; exact H
           clear H
           have H := H1
           clear H1
           have H' := Aside0.mk H
           clear H
           have hnb188 := NB124_125.out
           have hnc188 := NB125_124.out
           have hnb189 := NB124_126.out
           have hnc189 := NB126_124.out
           have hnb190 := NB124_131.out
           have hnc190 := NB131_124.out
           have hnb191 := NB124_132.out
           have hnc191 := NB132_124.out
           have hcz192_0 : wc.cell? ⟨gb124, 0, none⟩ = some (.int .i64 a0_0) := (blk_cell BK124.out 0).trans rfl
           have hcz192_1 : wc.cell? ⟨gb124, 1, none⟩ = some (.int .u32 a0_1) := (blk_cell BK124.out 1).trans rfl
           have hfz192_0 := blk_frozen BK124.out 0
           have hfz192_1 := blk_frozen BK124.out 1
           go_wp2_with (first | ((with_reducible refine gate_callee (f := 7) rfl ?_); refine goesL_ (some 35) rfl rfl Tryd.func7 (by kernel_rfl) rfl #[.agg #[.int .i64 a0_0, .int .u32 a0_1], .agg #[.int .i64 a0_0, .int .u32 a0_1]] rfl (by (try simp only [List.map_toArray, List.map_cons, List.map_nil]); first | done | rfl | (simp only [List.length_drop, List.length_take]; rfl)) ?_; (with_reducible refine (label_Dominates.calls a0_0 a0_1 a0_0 a0_1 true _ A78.out).mono ?_); rintro e w193 ⟨rfl, hb⟩; refine ⟨_, rfl, ?_⟩; have n0_ := Aside0.mk (blk_below (g := gb124) (o := .cells #[.int .i64 a0_0, .int .u32 a0_1] 24 (0, 0)) (bk_ BK124) hb); have n1_ := Aside0.mk (blk_below (g := gb125) (o := .cells #[.int .i64 a1_0, .int .u32 a1_1] 24 (0, 0)) (bk_ BK125) hb); have n2_ := Aside0.mk (blk_below (g := gb126) (o := .cells #[.int .i64 a2_0, .int .u32 a2_1] 24 (0, 0)) (bk_ BK126) hb); have n3_ := Aside0.mk (blk_below (g := gb131) (o := .cells #[.int .i64 t127, .int .u32 t128] 24 (0, 0)) (bk_ BK131) hb); have n4_ := Aside0.mk (blk_below (g := gb132) (o := .cells #[.int .i64 t129, .int .u32 t130] 24 (0, 0)) (bk_ BK132) hb); have n5_ := Aside0.mk (below_step (bh_ HB) hb); clear BK124; clear BK125; clear BK126; clear BK131; clear BK132; clear HB; have BK124 := n0_; have BK125 := n1_; have BK126 := n2_; have BK131 := n3_; have BK132 := n4_; have HB := n5_; clear n0_ n1_ n2_ n3_ n4_ n5_; (try clear hb); (try clear hb2); (try clear hk); (try clear hi); have hcz194_0 : w193.cell? ⟨gb124, 0, none⟩ = some (.int .i64 a0_0) := (blk_cell BK124.out 0).trans rfl; have hcz194_1 : w193.cell? ⟨gb124, 1, none⟩ = some (.int .u32 a0_1) := (blk_cell BK124.out 1).trans rfl; have hfz194_0 := blk_frozen BK124.out 0; have hfz194_1 := blk_frozen BK124.out 1; have hnb195 := NB125_126.out; have hnc195 := NB126_125.out; have hnb196 := NB125_131.out; have hnc196 := NB131_125.out; have hnb197 := NB125_132.out; have hnc197 := NB132_125.out; have hcz198_0 : w193.cell? ⟨gb125, 0, none⟩ = some (.int .i64 a1_0) := (blk_cell BK125.out 0).trans rfl; have hcz198_1 : w193.cell? ⟨gb125, 1, none⟩ = some (.int .u32 a1_1) := (blk_cell BK125.out 1).trans rfl; have hfz198_0 := blk_frozen BK125.out 0; have hfz198_1 := blk_frozen BK125.out 1) | (go_at_call 7; (first | ((with_reducible refine (label_Dominates.calls a0_0 a0_1 a1_0 a1_1 true _ A80.out).mono ?_); (try clear A80)) | ((with_reducible refine (label_Dominates.calls a1_0 a1_1 a0_0 a0_1 false _ A82.out).mono ?_)) | ((with_reducible refine (label_Dominates.calls a0_0 a0_1 a1_0 a1_1 true _ A157.out).mono ?_); (try clear A157)) | ((with_reducible refine (label_Dominates.calls a1_0 a1_1 a2_0 a2_1 false _ A159.out).mono ?_))); rintro e wz ⟨rfl, hb⟩; have n0_ := Aside0.mk (blk_below (g := gb124) (o := .cells #[.int .i64 a0_0, .int .u32 a0_1] 24 (0, 0)) (bk_ BK124) hb); have n1_ := Aside0.mk (blk_below (g := gb125) (o := .cells #[.int .i64 a1_0, .int .u32 a1_1] 24 (0, 0)) (bk_ BK125) hb); have n2_ := Aside0.mk (blk_below (g := gb126) (o := .cells #[.int .i64 a2_0, .int .u32 a2_1] 24 (0, 0)) (bk_ BK126) hb); have n3_ := Aside0.mk (blk_below (g := gb131) (o := .cells #[.int .i64 t127, .int .u32 t128] 24 (0, 0)) (bk_ BK131) hb); have n4_ := Aside0.mk (blk_below (g := gb132) (o := .cells #[.int .i64 t129, .int .u32 t130] 24 (0, 0)) (bk_ BK132) hb); have n5_ := Aside0.mk (below_step (bh_ HB) hb); clear BK124; clear BK125; clear BK126; clear BK131; clear BK132; clear HB; have BK124 := n0_; have BK125 := n1_; have BK126 := n2_; have BK131 := n3_; have BK132 := n4_; have HB := n5_; clear n0_ n1_ n2_ n3_ n4_ n5_; (try clear hb); (try clear hb2); (try clear hk); (try clear hi); have hcz200_0 : wz.cell? ⟨gb125, 0, none⟩ = some (.int .i64 a1_0) := (blk_cell BK125.out 0).trans rfl; have hcz200_1 : wz.cell? ⟨gb125, 1, none⟩ = some (.int .u32 a1_1) := (blk_cell BK125.out 1).trans rfl; have hfz200_0 := blk_frozen BK125.out 0; have hfz200_1 := blk_frozen BK125.out 1; have hcz201_0 : wz.cell? ⟨gb124, 0, none⟩ = some (.int .i64 a0_0) := (blk_cell BK124.out 0).trans rfl; have hcz201_1 : wz.cell? ⟨gb124, 1, none⟩ = some (.int .u32 a0_1) := (blk_cell BK124.out 1).trans rfl; have hfz201_0 := blk_frozen BK124.out 0; have hfz201_1 := blk_frozen BK124.out 1; have hnb207 := NB126_131.out; have hnc207 := NB131_126.out; have hnb208 := NB126_132.out; have hnc208 := NB132_126.out; have hcz209_0 : wz.cell? ⟨gb126, 0, none⟩ = some (.int .i64 a2_0) := (blk_cell BK126.out 0).trans rfl; have hcz209_1 : wz.cell? ⟨gb126, 1, none⟩ = some (.int .u32 a2_1) := (blk_cell BK126.out 1).trans rfl; have hfz209_0 := blk_frozen BK126.out 0; have hfz209_1 := blk_frozen BK126.out 1))
           go_meet
           case rel => exact ⟨_, (false), (by first | rfl | (simp; done) | (simp [*]; done)), H', ⟨by have := HJ5.out; have := HJ47.out; first | omega | exact Nat.le_refl _⟩, ⟨bk_ BK124⟩, ⟨bk_ BK125⟩, ⟨bk_ BK126⟩, ⟨bk_ BK131⟩, ⟨bk_ BK132⟩, ⟨by repeat (first | (with_reducible first | exact HB.out | apply below_alloc | apply pw_below_drewN | apply below_drew1 | refine below_set ?_ GE124.out | refine below_set ?_ GE125.out | refine below_set ?_ GE126.out | refine below_set ?_ GE131.out | refine below_set ?_ GE132.out) | exact HB.out | exact below_undrew HB.out)⟩⟩
         ·replace c158 := Bool.eq_false_iff.mpr c158
          subst c158
          have H1 : (barbicanlaw01_LabelOrder.j2 kj47 x9_5 x10_47 false a0_0 a0_1 a1_0 a1_1 a2_0 a2_1 t127 t128 t129 t130) = some r := by rw [if_neg (show ¬ (false = true) by decide)] at H; exact H
          clear H
          have H := H1
          clear H1
          have H' := Aside0.mk H
          clear H
          have hnb211 := NB124_125.out
          have hnc211 := NB125_124.out
          have hnb212 := NB124_126.out
          have hnc212 := NB126_124.out
          have hnb213 := NB124_131.out
          have hnc213 := NB131_124.out
          have hnb214 := NB124_132.out
          have hnc214 := NB132_124.out
          have hcz215_0 : wc.cell? ⟨gb124, 0, none⟩ = some (.int .i64 a0_0) := (blk_cell BK124.out 0).trans rfl
          have hcz215_1 : wc.cell? ⟨gb124, 1, none⟩ = some (.int .u32 a0_1) := (blk_cell BK124.out 1).trans rfl
          have hfz215_0 := blk_frozen BK124.out 0
          have hfz215_1 := blk_frozen BK124.out 1
          go_wp2_with (first | ((with_reducible refine gate_callee (f := 7) rfl ?_); refine goesL_ (some 35) rfl rfl Tryd.func7 (by kernel_rfl) rfl #[.agg #[.int .i64 a0_0, .int .u32 a0_1], .agg #[.int .i64 a0_0, .int .u32 a0_1]] rfl (by (try simp only [List.map_toArray, List.map_cons, List.map_nil]); first | done | rfl | (simp only [List.length_drop, List.length_take]; rfl)) ?_; (with_reducible refine (label_Dominates.calls a0_0 a0_1 a0_0 a0_1 true _ A78.out).mono ?_); rintro e w216 ⟨rfl, hb⟩; refine ⟨_, rfl, ?_⟩; have n0_ := Aside0.mk (blk_below (g := gb124) (o := .cells #[.int .i64 a0_0, .int .u32 a0_1] 24 (0, 0)) (bk_ BK124) hb); have n1_ := Aside0.mk (blk_below (g := gb125) (o := .cells #[.int .i64 a1_0, .int .u32 a1_1] 24 (0, 0)) (bk_ BK125) hb); have n2_ := Aside0.mk (blk_below (g := gb126) (o := .cells #[.int .i64 a2_0, .int .u32 a2_1] 24 (0, 0)) (bk_ BK126) hb); have n3_ := Aside0.mk (blk_below (g := gb131) (o := .cells #[.int .i64 t127, .int .u32 t128] 24 (0, 0)) (bk_ BK131) hb); have n4_ := Aside0.mk (blk_below (g := gb132) (o := .cells #[.int .i64 t129, .int .u32 t130] 24 (0, 0)) (bk_ BK132) hb); have n5_ := Aside0.mk (below_step (bh_ HB) hb); clear BK124; clear BK125; clear BK126; clear BK131; clear BK132; clear HB; have BK124 := n0_; have BK125 := n1_; have BK126 := n2_; have BK131 := n3_; have BK132 := n4_; have HB := n5_; clear n0_ n1_ n2_ n3_ n4_ n5_; (try clear hb); (try clear hb2); (try clear hk); (try clear hi); have hcz217_0 : w216.cell? ⟨gb124, 0, none⟩ = some (.int .i64 a0_0) := (blk_cell BK124.out 0).trans rfl; have hcz217_1 : w216.cell? ⟨gb124, 1, none⟩ = some (.int .u32 a0_1) := (blk_cell BK124.out 1).trans rfl; have hfz217_0 := blk_frozen BK124.out 0; have hfz217_1 := blk_frozen BK124.out 1; have hnb218 := NB125_126.out; have hnc218 := NB126_125.out; have hnb219 := NB125_131.out; have hnc219 := NB131_125.out; have hnb220 := NB125_132.out; have hnc220 := NB132_125.out; have hcz221_0 : w216.cell? ⟨gb125, 0, none⟩ = some (.int .i64 a1_0) := (blk_cell BK125.out 0).trans rfl; have hcz221_1 : w216.cell? ⟨gb125, 1, none⟩ = some (.int .u32 a1_1) := (blk_cell BK125.out 1).trans rfl; have hfz221_0 := blk_frozen BK125.out 0; have hfz221_1 := blk_frozen BK125.out 1) | (go_at_call 7; (first | ((with_reducible refine (label_Dominates.calls a0_0 a0_1 a1_0 a1_1 true _ A80.out).mono ?_); (try clear A80)) | ((with_reducible refine (label_Dominates.calls a1_0 a1_1 a0_0 a0_1 false _ A82.out).mono ?_)) | ((with_reducible refine (label_Dominates.calls a0_0 a0_1 a1_0 a1_1 false _ A157.out).mono ?_); (try clear A157))); rintro e wz ⟨rfl, hb⟩; have n0_ := Aside0.mk (blk_below (g := gb124) (o := .cells #[.int .i64 a0_0, .int .u32 a0_1] 24 (0, 0)) (bk_ BK124) hb); have n1_ := Aside0.mk (blk_below (g := gb125) (o := .cells #[.int .i64 a1_0, .int .u32 a1_1] 24 (0, 0)) (bk_ BK125) hb); have n2_ := Aside0.mk (blk_below (g := gb126) (o := .cells #[.int .i64 a2_0, .int .u32 a2_1] 24 (0, 0)) (bk_ BK126) hb); have n3_ := Aside0.mk (blk_below (g := gb131) (o := .cells #[.int .i64 t127, .int .u32 t128] 24 (0, 0)) (bk_ BK131) hb); have n4_ := Aside0.mk (blk_below (g := gb132) (o := .cells #[.int .i64 t129, .int .u32 t130] 24 (0, 0)) (bk_ BK132) hb); have n5_ := Aside0.mk (below_step (bh_ HB) hb); clear BK124; clear BK125; clear BK126; clear BK131; clear BK132; clear HB; have BK124 := n0_; have BK125 := n1_; have BK126 := n2_; have BK131 := n3_; have BK132 := n4_; have HB := n5_; clear n0_ n1_ n2_ n3_ n4_ n5_; (try clear hb); (try clear hb2); (try clear hk); (try clear hi); have hcz223_0 : wz.cell? ⟨gb125, 0, none⟩ = some (.int .i64 a1_0) := (blk_cell BK125.out 0).trans rfl; have hcz223_1 : wz.cell? ⟨gb125, 1, none⟩ = some (.int .u32 a1_1) := (blk_cell BK125.out 1).trans rfl; have hfz223_0 := blk_frozen BK125.out 0; have hfz223_1 := blk_frozen BK125.out 1; have hcz224_0 : wz.cell? ⟨gb124, 0, none⟩ = some (.int .i64 a0_0) := (blk_cell BK124.out 0).trans rfl; have hcz224_1 : wz.cell? ⟨gb124, 1, none⟩ = some (.int .u32 a0_1) := (blk_cell BK124.out 1).trans rfl; have hfz224_0 := blk_frozen BK124.out 0; have hfz224_1 := blk_frozen BK124.out 1))
          go_meet
          case rel => exact ⟨_, (false), (by first | rfl | (simp; done) | (simp [*]; done)), H', ⟨by have := HJ5.out; have := HJ47.out; first | omega | exact Nat.le_refl _⟩, ⟨bk_ BK124⟩, ⟨bk_ BK125⟩, ⟨bk_ BK126⟩, ⟨bk_ BK131⟩, ⟨bk_ BK132⟩, ⟨by repeat (first | (with_reducible first | exact HB.out | apply below_alloc | apply pw_below_drewN | apply below_drew1 | refine below_set ?_ GE124.out | refine below_set ?_ GE125.out | refine below_set ?_ GE126.out | refine below_set ?_ GE131.out | refine below_set ?_ GE132.out) | exact HB.out | exact below_undrew HB.out)⟩⟩
       ·replace c81 := Bool.eq_false_iff.mpr c81
        subst c81
        have H1 : ((label_Dominates.f a0_0 a0_1 a1_0 a1_1).bind fun t146 => (if t146 = true then ((label_Dominates.f a1_0 a1_1 a2_0 a2_1).bind fun t147 => (if t147 = true then ((label_Dominates.f a0_0 a0_1 a2_0 a2_1).bind fun t148 => (barbicanlaw01_LabelOrder.j2 kj47 x9_5 x10_47 (!t148) a0_0 a0_1 a1_0 a1_1 a2_0 a2_1 t127 t128 t129 t130)) else (barbicanlaw01_LabelOrder.j2 kj47 x9_5 x10_47 false a0_0 a0_1 a1_0 a1_1 a2_0 a2_1 t127 t128 t129 t130))) else (barbicanlaw01_LabelOrder.j2 kj47 x9_5 x10_47 false a0_0 a0_1 a1_0 a1_1 a2_0 a2_1 t127 t128 t129 t130))) = some r := by rw [if_neg (show ¬ (false = true) by decide)] at H; exact H
        clear H
        have H := H1
        clear H1
        replace H := Option.bind_eq_some_iff.mp H
        obtain ⟨t146, A2290, H⟩ := H
        replace H : (if t146 = true then ((label_Dominates.f a1_0 a1_1 a2_0 a2_1).bind fun t147 => (if t147 = true then ((label_Dominates.f a0_0 a0_1 a2_0 a2_1).bind fun t148 => (barbicanlaw01_LabelOrder.j2 kj47 x9_5 x10_47 (!t148) a0_0 a0_1 a1_0 a1_1 a2_0 a2_1 t127 t128 t129 t130)) else (barbicanlaw01_LabelOrder.j2 kj47 x9_5 x10_47 false a0_0 a0_1 a1_0 a1_1 a2_0 a2_1 t127 t128 t129 t130))) else (barbicanlaw01_LabelOrder.j2 kj47 x9_5 x10_47 false a0_0 a0_1 a1_0 a1_1 a2_0 a2_1 t127 t128 t129 t130)) = some r := H
        have A229 := Aside0.mk A2290
        clear A2290
        by_cases c230 : t146 = true
        ·subst c230
         have H1 : ((label_Dominates.f a1_0 a1_1 a2_0 a2_1).bind fun t147 => (if t147 = true then ((label_Dominates.f a0_0 a0_1 a2_0 a2_1).bind fun t148 => (barbicanlaw01_LabelOrder.j2 kj47 x9_5 x10_47 (!t148) a0_0 a0_1 a1_0 a1_1 a2_0 a2_1 t127 t128 t129 t130)) else (barbicanlaw01_LabelOrder.j2 kj47 x9_5 x10_47 false a0_0 a0_1 a1_0 a1_1 a2_0 a2_1 t127 t128 t129 t130))) = some r := by rw [if_pos rfl] at H; exact H
         clear H
         have H := H1
         clear H1
         replace H := Option.bind_eq_some_iff.mp H
         obtain ⟨t147, A2310, H⟩ := H
         replace H : (if t147 = true then ((label_Dominates.f a0_0 a0_1 a2_0 a2_1).bind fun t148 => (barbicanlaw01_LabelOrder.j2 kj47 x9_5 x10_47 (!t148) a0_0 a0_1 a1_0 a1_1 a2_0 a2_1 t127 t128 t129 t130)) else (barbicanlaw01_LabelOrder.j2 kj47 x9_5 x10_47 false a0_0 a0_1 a1_0 a1_1 a2_0 a2_1 t127 t128 t129 t130)) = some r := H
         have A231 := Aside0.mk A2310
         clear A2310
         by_cases c232 : t147 = true
         ·subst c232
          have H1 : ((label_Dominates.f a0_0 a0_1 a2_0 a2_1).bind fun t148 => (barbicanlaw01_LabelOrder.j2 kj47 x9_5 x10_47 (!t148) a0_0 a0_1 a1_0 a1_1 a2_0 a2_1 t127 t128 t129 t130)) = some r := by rw [if_pos rfl] at H; exact H
          clear H
          have H := H1
          clear H1
          replace H := Option.bind_eq_some_iff.mp H
          obtain ⟨t148, A2330, H⟩ := H
          replace H : (barbicanlaw01_LabelOrder.j2 kj47 x9_5 x10_47 (!t148) a0_0 a0_1 a1_0 a1_1 a2_0 a2_1 t127 t128 t129 t130) = some r := H
          have A233 := Aside0.mk A2330
          clear A2330
          have H' := Aside0.mk H
          clear H
          have hnb234 := NB124_125.out
          have hnc234 := NB125_124.out
          have hnb235 := NB124_126.out
          have hnc235 := NB126_124.out
          have hnb236 := NB124_131.out
          have hnc236 := NB131_124.out
          have hnb237 := NB124_132.out
          have hnc237 := NB132_124.out
          have hcz238_0 : wc.cell? ⟨gb124, 0, none⟩ = some (.int .i64 a0_0) := (blk_cell BK124.out 0).trans rfl
          have hcz238_1 : wc.cell? ⟨gb124, 1, none⟩ = some (.int .u32 a0_1) := (blk_cell BK124.out 1).trans rfl
          have hfz238_0 := blk_frozen BK124.out 0
          have hfz238_1 := blk_frozen BK124.out 1
          go_wp2_with (first | ((with_reducible refine gate_callee (f := 7) rfl ?_); refine goesL_ (some 35) rfl rfl Tryd.func7 (by kernel_rfl) rfl #[.agg #[.int .i64 a0_0, .int .u32 a0_1], .agg #[.int .i64 a0_0, .int .u32 a0_1]] rfl (by (try simp only [List.map_toArray, List.map_cons, List.map_nil]); first | done | rfl | (simp only [List.length_drop, List.length_take]; rfl)) ?_; (with_reducible refine (label_Dominates.calls a0_0 a0_1 a0_0 a0_1 true _ A78.out).mono ?_); rintro e w239 ⟨rfl, hb⟩; refine ⟨_, rfl, ?_⟩; have n0_ := Aside0.mk (blk_below (g := gb124) (o := .cells #[.int .i64 a0_0, .int .u32 a0_1] 24 (0, 0)) (bk_ BK124) hb); have n1_ := Aside0.mk (blk_below (g := gb125) (o := .cells #[.int .i64 a1_0, .int .u32 a1_1] 24 (0, 0)) (bk_ BK125) hb); have n2_ := Aside0.mk (blk_below (g := gb126) (o := .cells #[.int .i64 a2_0, .int .u32 a2_1] 24 (0, 0)) (bk_ BK126) hb); have n3_ := Aside0.mk (blk_below (g := gb131) (o := .cells #[.int .i64 t127, .int .u32 t128] 24 (0, 0)) (bk_ BK131) hb); have n4_ := Aside0.mk (blk_below (g := gb132) (o := .cells #[.int .i64 t129, .int .u32 t130] 24 (0, 0)) (bk_ BK132) hb); have n5_ := Aside0.mk (below_step (bh_ HB) hb); clear BK124; clear BK125; clear BK126; clear BK131; clear BK132; clear HB; have BK124 := n0_; have BK125 := n1_; have BK126 := n2_; have BK131 := n3_; have BK132 := n4_; have HB := n5_; clear n0_ n1_ n2_ n3_ n4_ n5_; (try clear hb); (try clear hb2); (try clear hk); (try clear hi); have hcz240_0 : w239.cell? ⟨gb124, 0, none⟩ = some (.int .i64 a0_0) := (blk_cell BK124.out 0).trans rfl; have hcz240_1 : w239.cell? ⟨gb124, 1, none⟩ = some (.int .u32 a0_1) := (blk_cell BK124.out 1).trans rfl; have hfz240_0 := blk_frozen BK124.out 0; have hfz240_1 := blk_frozen BK124.out 1; have hnb241 := NB125_126.out; have hnc241 := NB126_125.out; have hnb242 := NB125_131.out; have hnc242 := NB131_125.out; have hnb243 := NB125_132.out; have hnc243 := NB132_125.out; have hcz244_0 : w239.cell? ⟨gb125, 0, none⟩ = some (.int .i64 a1_0) := (blk_cell BK125.out 0).trans rfl; have hcz244_1 : w239.cell? ⟨gb125, 1, none⟩ = some (.int .u32 a1_1) := (blk_cell BK125.out 1).trans rfl; have hfz244_0 := blk_frozen BK125.out 0; have hfz244_1 := blk_frozen BK125.out 1) | (go_at_call 7; (first | ((with_reducible refine (label_Dominates.calls a0_0 a0_1 a1_0 a1_1 false _ A80.out).mono ?_); (try clear A80)) | ((with_reducible refine (label_Dominates.calls a0_0 a0_1 a1_0 a1_1 true _ A229.out).mono ?_); (try clear A229)) | ((with_reducible refine (label_Dominates.calls a1_0 a1_1 a2_0 a2_1 true _ A231.out).mono ?_)) | ((with_reducible refine (label_Dominates.calls a0_0 a0_1 a2_0 a2_1 t148 _ A233.out).mono ?_))); rintro e wz ⟨rfl, hb⟩; have n0_ := Aside0.mk (blk_below (g := gb124) (o := .cells #[.int .i64 a0_0, .int .u32 a0_1] 24 (0, 0)) (bk_ BK124) hb); have n1_ := Aside0.mk (blk_below (g := gb125) (o := .cells #[.int .i64 a1_0, .int .u32 a1_1] 24 (0, 0)) (bk_ BK125) hb); have n2_ := Aside0.mk (blk_below (g := gb126) (o := .cells #[.int .i64 a2_0, .int .u32 a2_1] 24 (0, 0)) (bk_ BK126) hb); have n3_ := Aside0.mk (blk_below (g := gb131) (o := .cells #[.int .i64 t127, .int .u32 t128] 24 (0, 0)) (bk_ BK131) hb); have n4_ := Aside0.mk (blk_below (g := gb132) (o := .cells #[.int .i64 t129, .int .u32 t130] 24 (0, 0)) (bk_ BK132) hb); have n5_ := Aside0.mk (below_step (bh_ HB) hb); clear BK124; clear BK125; clear BK126; clear BK131; clear BK132; clear HB; have BK124 := n0_; have BK125 := n1_; have BK126 := n2_; have BK131 := n3_; have BK132 := n4_; have HB := n5_; clear n0_ n1_ n2_ n3_ n4_ n5_; (try clear hb); (try clear hb2); (try clear hk); (try clear hi); have hcz246_0 : wz.cell? ⟨gb124, 0, none⟩ = some (.int .i64 a0_0) := (blk_cell BK124.out 0).trans rfl; have hcz246_1 : wz.cell? ⟨gb124, 1, none⟩ = some (.int .u32 a0_1) := (blk_cell BK124.out 1).trans rfl; have hfz246_0 := blk_frozen BK124.out 0; have hfz246_1 := blk_frozen BK124.out 1; have hcz247_0 : wz.cell? ⟨gb125, 0, none⟩ = some (.int .i64 a1_0) := (blk_cell BK125.out 0).trans rfl; have hcz247_1 : wz.cell? ⟨gb125, 1, none⟩ = some (.int .u32 a1_1) := (blk_cell BK125.out 1).trans rfl; have hfz247_0 := blk_frozen BK125.out 0; have hfz247_1 := blk_frozen BK125.out 1; have hnb250 := NB126_131.out; have hnc250 := NB131_126.out; have hnb251 := NB126_132.out; have hnc251 := NB132_126.out; have hcz252_0 : wz.cell? ⟨gb126, 0, none⟩ = some (.int .i64 a2_0) := (blk_cell BK126.out 0).trans rfl; have hcz252_1 : wz.cell? ⟨gb126, 1, none⟩ = some (.int .u32 a2_1) := (blk_cell BK126.out 1).trans rfl; have hfz252_0 := blk_frozen BK126.out 0; have hfz252_1 := blk_frozen BK126.out 1))
          go_meet
          case rel => exact ⟨_, (!t148), (by first | rfl | (simp; done) | (simp [*]; done)), H', ⟨by have := HJ5.out; have := HJ47.out; first | omega | exact Nat.le_refl _⟩, ⟨bk_ BK124⟩, ⟨bk_ BK125⟩, ⟨bk_ BK126⟩, ⟨bk_ BK131⟩, ⟨bk_ BK132⟩, ⟨by repeat (first | (with_reducible first | exact HB.out | apply below_alloc | apply pw_below_drewN | apply below_drew1 | refine below_set ?_ GE124.out | refine below_set ?_ GE125.out | refine below_set ?_ GE126.out | refine below_set ?_ GE131.out | refine below_set ?_ GE132.out) | exact HB.out | exact below_undrew HB.out)⟩⟩
         ·replace c232 := Bool.eq_false_iff.mpr c232
          subst c232
          have H1 : (barbicanlaw01_LabelOrder.j2 kj47 x9_5 x10_47 false a0_0 a0_1 a1_0 a1_1 a2_0 a2_1 t127 t128 t129 t130) = some r := by rw [if_neg (show ¬ (false = true) by decide)] at H; exact H
          clear H
          have H := H1
          clear H1
          have H' := Aside0.mk H
          clear H
          have hnb257 := NB124_125.out
          have hnc257 := NB125_124.out
          have hnb258 := NB124_126.out
          have hnc258 := NB126_124.out
          have hnb259 := NB124_131.out
          have hnc259 := NB131_124.out
          have hnb260 := NB124_132.out
          have hnc260 := NB132_124.out
          have hcz261_0 : wc.cell? ⟨gb124, 0, none⟩ = some (.int .i64 a0_0) := (blk_cell BK124.out 0).trans rfl
          have hcz261_1 : wc.cell? ⟨gb124, 1, none⟩ = some (.int .u32 a0_1) := (blk_cell BK124.out 1).trans rfl
          have hfz261_0 := blk_frozen BK124.out 0
          have hfz261_1 := blk_frozen BK124.out 1
          go_wp2_with (first | ((with_reducible refine gate_callee (f := 7) rfl ?_); refine goesL_ (some 35) rfl rfl Tryd.func7 (by kernel_rfl) rfl #[.agg #[.int .i64 a0_0, .int .u32 a0_1], .agg #[.int .i64 a0_0, .int .u32 a0_1]] rfl (by (try simp only [List.map_toArray, List.map_cons, List.map_nil]); first | done | rfl | (simp only [List.length_drop, List.length_take]; rfl)) ?_; (with_reducible refine (label_Dominates.calls a0_0 a0_1 a0_0 a0_1 true _ A78.out).mono ?_); rintro e w262 ⟨rfl, hb⟩; refine ⟨_, rfl, ?_⟩; have n0_ := Aside0.mk (blk_below (g := gb124) (o := .cells #[.int .i64 a0_0, .int .u32 a0_1] 24 (0, 0)) (bk_ BK124) hb); have n1_ := Aside0.mk (blk_below (g := gb125) (o := .cells #[.int .i64 a1_0, .int .u32 a1_1] 24 (0, 0)) (bk_ BK125) hb); have n2_ := Aside0.mk (blk_below (g := gb126) (o := .cells #[.int .i64 a2_0, .int .u32 a2_1] 24 (0, 0)) (bk_ BK126) hb); have n3_ := Aside0.mk (blk_below (g := gb131) (o := .cells #[.int .i64 t127, .int .u32 t128] 24 (0, 0)) (bk_ BK131) hb); have n4_ := Aside0.mk (blk_below (g := gb132) (o := .cells #[.int .i64 t129, .int .u32 t130] 24 (0, 0)) (bk_ BK132) hb); have n5_ := Aside0.mk (below_step (bh_ HB) hb); clear BK124; clear BK125; clear BK126; clear BK131; clear BK132; clear HB; have BK124 := n0_; have BK125 := n1_; have BK126 := n2_; have BK131 := n3_; have BK132 := n4_; have HB := n5_; clear n0_ n1_ n2_ n3_ n4_ n5_; (try clear hb); (try clear hb2); (try clear hk); (try clear hi); have hcz263_0 : w262.cell? ⟨gb124, 0, none⟩ = some (.int .i64 a0_0) := (blk_cell BK124.out 0).trans rfl; have hcz263_1 : w262.cell? ⟨gb124, 1, none⟩ = some (.int .u32 a0_1) := (blk_cell BK124.out 1).trans rfl; have hfz263_0 := blk_frozen BK124.out 0; have hfz263_1 := blk_frozen BK124.out 1; have hnb264 := NB125_126.out; have hnc264 := NB126_125.out; have hnb265 := NB125_131.out; have hnc265 := NB131_125.out; have hnb266 := NB125_132.out; have hnc266 := NB132_125.out; have hcz267_0 : w262.cell? ⟨gb125, 0, none⟩ = some (.int .i64 a1_0) := (blk_cell BK125.out 0).trans rfl; have hcz267_1 : w262.cell? ⟨gb125, 1, none⟩ = some (.int .u32 a1_1) := (blk_cell BK125.out 1).trans rfl; have hfz267_0 := blk_frozen BK125.out 0; have hfz267_1 := blk_frozen BK125.out 1) | (go_at_call 7; (first | ((with_reducible refine (label_Dominates.calls a0_0 a0_1 a1_0 a1_1 false _ A80.out).mono ?_); (try clear A80)) | ((with_reducible refine (label_Dominates.calls a0_0 a0_1 a1_0 a1_1 true _ A229.out).mono ?_); (try clear A229)) | ((with_reducible refine (label_Dominates.calls a1_0 a1_1 a2_0 a2_1 false _ A231.out).mono ?_))); rintro e wz ⟨rfl, hb⟩; have n0_ := Aside0.mk (blk_below (g := gb124) (o := .cells #[.int .i64 a0_0, .int .u32 a0_1] 24 (0, 0)) (bk_ BK124) hb); have n1_ := Aside0.mk (blk_below (g := gb125) (o := .cells #[.int .i64 a1_0, .int .u32 a1_1] 24 (0, 0)) (bk_ BK125) hb); have n2_ := Aside0.mk (blk_below (g := gb126) (o := .cells #[.int .i64 a2_0, .int .u32 a2_1] 24 (0, 0)) (bk_ BK126) hb); have n3_ := Aside0.mk (blk_below (g := gb131) (o := .cells #[.int .i64 t127, .int .u32 t128] 24 (0, 0)) (bk_ BK131) hb); have n4_ := Aside0.mk (blk_below (g := gb132) (o := .cells #[.int .i64 t129, .int .u32 t130] 24 (0, 0)) (bk_ BK132) hb); have n5_ := Aside0.mk (below_step (bh_ HB) hb); clear BK124; clear BK125; clear BK126; clear BK131; clear BK132; clear HB; have BK124 := n0_; have BK125 := n1_; have BK126 := n2_; have BK131 := n3_; have BK132 := n4_; have HB := n5_; clear n0_ n1_ n2_ n3_ n4_ n5_; (try clear hb); (try clear hb2); (try clear hk); (try clear hi); have hcz269_0 : wz.cell? ⟨gb124, 0, none⟩ = some (.int .i64 a0_0) := (blk_cell BK124.out 0).trans rfl; have hcz269_1 : wz.cell? ⟨gb124, 1, none⟩ = some (.int .u32 a0_1) := (blk_cell BK124.out 1).trans rfl; have hfz269_0 := blk_frozen BK124.out 0; have hfz269_1 := blk_frozen BK124.out 1; have hcz270_0 : wz.cell? ⟨gb125, 0, none⟩ = some (.int .i64 a1_0) := (blk_cell BK125.out 0).trans rfl; have hcz270_1 : wz.cell? ⟨gb125, 1, none⟩ = some (.int .u32 a1_1) := (blk_cell BK125.out 1).trans rfl; have hfz270_0 := blk_frozen BK125.out 0; have hfz270_1 := blk_frozen BK125.out 1; have hnb273 := NB126_131.out; have hnc273 := NB131_126.out; have hnb274 := NB126_132.out; have hnc274 := NB132_126.out; have hcz275_0 : wz.cell? ⟨gb126, 0, none⟩ = some (.int .i64 a2_0) := (blk_cell BK126.out 0).trans rfl; have hcz275_1 : wz.cell? ⟨gb126, 1, none⟩ = some (.int .u32 a2_1) := (blk_cell BK126.out 1).trans rfl; have hfz275_0 := blk_frozen BK126.out 0; have hfz275_1 := blk_frozen BK126.out 1))
          go_meet
          case rel => exact ⟨_, (false), (by first | rfl | (simp; done) | (simp [*]; done)), H', ⟨by have := HJ5.out; have := HJ47.out; first | omega | exact Nat.le_refl _⟩, ⟨bk_ BK124⟩, ⟨bk_ BK125⟩, ⟨bk_ BK126⟩, ⟨bk_ BK131⟩, ⟨bk_ BK132⟩, ⟨by repeat (first | (with_reducible first | exact HB.out | apply below_alloc | apply pw_below_drewN | apply below_drew1 | refine below_set ?_ GE124.out | refine below_set ?_ GE125.out | refine below_set ?_ GE126.out | refine below_set ?_ GE131.out | refine below_set ?_ GE132.out) | exact HB.out | exact below_undrew HB.out)⟩⟩
        ·replace c230 := Bool.eq_false_iff.mpr c230
         subst c230
         have H1 : (barbicanlaw01_LabelOrder.j2 kj47 x9_5 x10_47 false a0_0 a0_1 a1_0 a1_1 a2_0 a2_1 t127 t128 t129 t130) = some r := by rw [if_neg (show ¬ (false = true) by decide)] at H; exact H
         clear H
         have H := H1
         clear H1
         have H' := Aside0.mk H
         clear H
         have hnb277 := NB124_125.out
         have hnc277 := NB125_124.out
         have hnb278 := NB124_126.out
         have hnc278 := NB126_124.out
         have hnb279 := NB124_131.out
         have hnc279 := NB131_124.out
         have hnb280 := NB124_132.out
         have hnc280 := NB132_124.out
         have hcz281_0 : wc.cell? ⟨gb124, 0, none⟩ = some (.int .i64 a0_0) := (blk_cell BK124.out 0).trans rfl
         have hcz281_1 : wc.cell? ⟨gb124, 1, none⟩ = some (.int .u32 a0_1) := (blk_cell BK124.out 1).trans rfl
         have hfz281_0 := blk_frozen BK124.out 0
         have hfz281_1 := blk_frozen BK124.out 1
         go_wp2_with (first | ((with_reducible refine gate_callee (f := 7) rfl ?_); refine goesL_ (some 35) rfl rfl Tryd.func7 (by kernel_rfl) rfl #[.agg #[.int .i64 a0_0, .int .u32 a0_1], .agg #[.int .i64 a0_0, .int .u32 a0_1]] rfl (by (try simp only [List.map_toArray, List.map_cons, List.map_nil]); first | done | rfl | (simp only [List.length_drop, List.length_take]; rfl)) ?_; (with_reducible refine (label_Dominates.calls a0_0 a0_1 a0_0 a0_1 true _ A78.out).mono ?_); rintro e w282 ⟨rfl, hb⟩; refine ⟨_, rfl, ?_⟩; have n0_ := Aside0.mk (blk_below (g := gb124) (o := .cells #[.int .i64 a0_0, .int .u32 a0_1] 24 (0, 0)) (bk_ BK124) hb); have n1_ := Aside0.mk (blk_below (g := gb125) (o := .cells #[.int .i64 a1_0, .int .u32 a1_1] 24 (0, 0)) (bk_ BK125) hb); have n2_ := Aside0.mk (blk_below (g := gb126) (o := .cells #[.int .i64 a2_0, .int .u32 a2_1] 24 (0, 0)) (bk_ BK126) hb); have n3_ := Aside0.mk (blk_below (g := gb131) (o := .cells #[.int .i64 t127, .int .u32 t128] 24 (0, 0)) (bk_ BK131) hb); have n4_ := Aside0.mk (blk_below (g := gb132) (o := .cells #[.int .i64 t129, .int .u32 t130] 24 (0, 0)) (bk_ BK132) hb); have n5_ := Aside0.mk (below_step (bh_ HB) hb); clear BK124; clear BK125; clear BK126; clear BK131; clear BK132; clear HB; have BK124 := n0_; have BK125 := n1_; have BK126 := n2_; have BK131 := n3_; have BK132 := n4_; have HB := n5_; clear n0_ n1_ n2_ n3_ n4_ n5_; (try clear hb); (try clear hb2); (try clear hk); (try clear hi); have hcz283_0 : w282.cell? ⟨gb124, 0, none⟩ = some (.int .i64 a0_0) := (blk_cell BK124.out 0).trans rfl; have hcz283_1 : w282.cell? ⟨gb124, 1, none⟩ = some (.int .u32 a0_1) := (blk_cell BK124.out 1).trans rfl; have hfz283_0 := blk_frozen BK124.out 0; have hfz283_1 := blk_frozen BK124.out 1; have hnb284 := NB125_126.out; have hnc284 := NB126_125.out; have hnb285 := NB125_131.out; have hnc285 := NB131_125.out; have hnb286 := NB125_132.out; have hnc286 := NB132_125.out; have hcz287_0 : w282.cell? ⟨gb125, 0, none⟩ = some (.int .i64 a1_0) := (blk_cell BK125.out 0).trans rfl; have hcz287_1 : w282.cell? ⟨gb125, 1, none⟩ = some (.int .u32 a1_1) := (blk_cell BK125.out 1).trans rfl; have hfz287_0 := blk_frozen BK125.out 0; have hfz287_1 := blk_frozen BK125.out 1) | (go_at_call 7; (first | ((with_reducible refine (label_Dominates.calls a0_0 a0_1 a1_0 a1_1 false _ A80.out).mono ?_); (try clear A80)) | ((with_reducible refine (label_Dominates.calls a0_0 a0_1 a1_0 a1_1 false _ A229.out).mono ?_); (try clear A229))); rintro e wz ⟨rfl, hb⟩; have n0_ := Aside0.mk (blk_below (g := gb124) (o := .cells #[.int .i64 a0_0, .int .u32 a0_1] 24 (0, 0)) (bk_ BK124) hb); have n1_ := Aside0.mk (blk_below (g := gb125) (o := .cells #[.int .i64 a1_0, .int .u32 a1_1] 24 (0, 0)) (bk_ BK125) hb); have n2_ := Aside0.mk (blk_below (g := gb126) (o := .cells #[.int .i64 a2_0, .int .u32 a2_1] 24 (0, 0)) (bk_ BK126) hb); have n3_ := Aside0.mk (blk_below (g := gb131) (o := .cells #[.int .i64 t127, .int .u32 t128] 24 (0, 0)) (bk_ BK131) hb); have n4_ := Aside0.mk (blk_below (g := gb132) (o := .cells #[.int .i64 t129, .int .u32 t130] 24 (0, 0)) (bk_ BK132) hb); have n5_ := Aside0.mk (below_step (bh_ HB) hb); clear BK124; clear BK125; clear BK126; clear BK131; clear BK132; clear HB; have BK124 := n0_; have BK125 := n1_; have BK126 := n2_; have BK131 := n3_; have BK132 := n4_; have HB := n5_; clear n0_ n1_ n2_ n3_ n4_ n5_; (try clear hb); (try clear hb2); (try clear hk); (try clear hi); have hcz289_0 : wz.cell? ⟨gb124, 0, none⟩ = some (.int .i64 a0_0) := (blk_cell BK124.out 0).trans rfl; have hcz289_1 : wz.cell? ⟨gb124, 1, none⟩ = some (.int .u32 a0_1) := (blk_cell BK124.out 1).trans rfl; have hfz289_0 := blk_frozen BK124.out 0; have hfz289_1 := blk_frozen BK124.out 1; have hcz290_0 : wz.cell? ⟨gb125, 0, none⟩ = some (.int .i64 a1_0) := (blk_cell BK125.out 0).trans rfl; have hcz290_1 : wz.cell? ⟨gb125, 1, none⟩ = some (.int .u32 a1_1) := (blk_cell BK125.out 1).trans rfl; have hfz290_0 := blk_frozen BK125.out 0; have hfz290_1 := blk_frozen BK125.out 1))
         go_meet
         case rel => exact ⟨_, (false), (by first | rfl | (simp; done) | (simp [*]; done)), H', ⟨by have := HJ5.out; have := HJ47.out; first | omega | exact Nat.le_refl _⟩, ⟨bk_ BK124⟩, ⟨bk_ BK125⟩, ⟨bk_ BK126⟩, ⟨bk_ BK131⟩, ⟨bk_ BK132⟩, ⟨by repeat (first | (with_reducible first | exact HB.out | apply below_alloc | apply pw_below_drewN | apply below_drew1 | refine below_set ?_ GE124.out | refine below_set ?_ GE125.out | refine below_set ?_ GE126.out | refine below_set ?_ GE131.out | refine below_set ?_ GE132.out) | exact HB.out | exact below_undrew HB.out)⟩⟩
      ·replace c79 := Bool.eq_false_iff.mpr c79
       subst c79
       have H1 : (barbicanlaw01_LabelOrder.j2 kj47 x9_5 x10_47 true a0_0 a0_1 a1_0 a1_1 a2_0 a2_1 t127 t128 t129 t130) = some r := by rw [if_neg (show ¬ (false = true) by decide)] at H; exact H
       clear H
       have H := H1
       clear H1
       exact absurd H (by cases kj47 <;> simp [barbicanlaw01_LabelOrder.j2, hT.out])
     case rest =>
      clear HC77
      (try clear c1); (try clear c2); (try clear p2); (try clear c3); (try clear c4); (try clear c5); (try clear c6); (try clear c7); (try clear c8); (try clear c9); (try clear c10); (try clear c11); (try clear c12); (try clear c13); (try clear c14); (try clear c15); (try clear c16); (try clear c17); (try clear c18); (try clear c19); (try clear c20); (try clear c21); (try clear c22); (try clear c23); (try clear c24); (try clear c25); (try clear c26); (try clear c27); (try clear c28); (try clear c29); (try clear c30); (try clear c34); (try clear c35); (try clear c38); (try clear c39); (try clear c40); (try clear c41); (try clear c43); (try clear c44); (try clear c45); (try clear c50); (try clear c52); (try clear c53); (try clear c54); (try clear c55); (try clear c57); (try clear c58); (try clear c59); (try clear c62); (try clear c63); (try clear c67); (try clear c68); (try clear c69); (try clear c70); (try clear c72); (try clear c73); (try clear c74); (try clear c79); (try clear c81); (try clear c83); (try clear c84); (try clear c84b0); (try clear c86); (try clear c88); (try clear c90); (try clear c91); (try clear c92); (try clear c93); (try clear c97); (try clear c98); (try clear c99); (try clear c109); (try clear c110); (try clear c116); (try clear c117); (try clear c118); (try clear c119); (try clear c123); (try clear c124); (try clear c125); (try clear c135); (try clear c136); (try clear c139); (try clear c140); (try clear c141); (try clear c142); (try clear c146); (try clear c147); (try clear c148); (try clear c158); (try clear c160); (try clear c162); (try clear c163); (try clear c164); (try clear c165); (try clear c169); (try clear c170); (try clear c171); (try clear c181); (try clear c182); (try clear c188); (try clear c189); (try clear c190); (try clear c191); (try clear c195); (try clear c196); (try clear c197); (try clear c207); (try clear c208); (try clear c211); (try clear c212); (try clear c213); (try clear c214); (try clear c218); (try clear c219); (try clear c220); (try clear c230); (try clear c232); (try clear c234); (try clear c235); (try clear c236); (try clear c237); (try clear c241); (try clear c242); (try clear c243); (try clear c250); (try clear c251); (try clear c257); (try clear c258); (try clear c259); (try clear c260); (try clear c264); (try clear c265); (try clear c266); (try clear c273); (try clear c274); (try clear c277); (try clear c278); (try clear c279); (try clear c280); (try clear c284); (try clear c285); (try clear c286); (try clear p2)
      obtain ⟨kq, x67_76, rfl, HA, HJ76, BK124, BK125, BK126, BK131, BK132, HB⟩ := hcut
      cases kq with
      | zero => exact absurd HA.out (by simp [barbicanlaw01_LabelOrder.j2])
      | succ kj76 =>
       have H := HA.out
       clear HA
       simp only [barbicanlaw01_LabelOrder.j2] at H
       by_cases c292 : x67_76 = true
       ·subst c292
        have H1 : (some false) = some r := by rw [if_pos rfl] at H; exact H
        clear H
        have H := H1
        clear H1
        exact absurd (Option.some.inj H) (by rw [hT.out]; decide)
       ·replace c292 := Bool.eq_false_iff.mpr c292
        subst c292
        have H1 : ((label_Dominates.f t127 t128 a0_0 a0_1).bind fun t149 => (if t149 = true then ((label_Dominates.f t127 t128 a1_0 a1_1).bind fun t150 => (if t150 = true then ((label_Dominates.f a0_0 a0_1 t129 t130).bind fun t151 => (if t151 = true then ((label_Dominates.f a1_0 a1_1 t129 t130).bind fun t152 => (barbicanlaw01_LabelOrder.j3 kj76 x9_5 x10_47 (!t152) a0_0 a0_1 a1_0 a1_1 a2_0 a2_1 t127 t128 t129 t130)) else (barbicanlaw01_LabelOrder.j3 kj76 x9_5 x10_47 true a0_0 a0_1 a1_0 a1_1 a2_0 a2_1 t127 t128 t129 t130))) else (barbicanlaw01_LabelOrder.j3 kj76 x9_5 x10_47 true a0_0 a0_1 a1_0 a1_1 a2_0 a2_1 t127 t128 t129 t130))) else (barbicanlaw01_LabelOrder.j3 kj76 x9_5 x10_47 true a0_0 a0_1 a1_0 a1_1 a2_0 a2_1 t127 t128 t129 t130))) = some r := by rw [if_neg (show ¬ (false = true) by decide)] at H; exact H
        clear H
        have H := H1
        clear H1
        have HC293 := Aside0.mk H
        clear H
        go_upto_region 6 with (fail)
        go_cut [89] (fun v89 wc => ∃ (kq : Nat) (x89_292 : Bool), v89 = .bool x89_292 ∧ Aside0 (barbicanlaw01_LabelOrder.j3 kq x9_5 x10_47 x89_292 a0_0 a0_1 a1_0 a1_1 a2_0 a2_1 t127 t128 t129 t130 = some r) ∧ Aside0 (kq ≤ kj76) ∧ Aside0 (wc.heap[gb124]? = some (.cells #[.int .i64 a0_0, .int .u32 a0_1] 24 (0, 0))) ∧ Aside0 (wc.heap[gb125]? = some (.cells #[.int .i64 a1_0, .int .u32 a1_1] 24 (0, 0))) ∧ Aside0 (wc.heap[gb126]? = some (.cells #[.int .i64 a2_0, .int .u32 a2_1] 24 (0, 0))) ∧ Aside0 (wc.heap[gb131]? = some (.cells #[.int .i64 t127, .int .u32 t128] 24 (0, 0))) ∧ Aside0 (wc.heap[gb132]? = some (.cells #[.int .i64 t129, .int .u32 t130] 24 (0, 0))) ∧ Aside0 (Below w.heap.size w wc))
        case first =>
         have H := HC293.out
         clear HC293
         replace H := Option.bind_eq_some_iff.mp H
         obtain ⟨t149, A2940, H⟩ := H
         replace H : (if t149 = true then ((label_Dominates.f t127 t128 a1_0 a1_1).bind fun t150 => (if t150 = true then ((label_Dominates.f a0_0 a0_1 t129 t130).bind fun t151 => (if t151 = true then ((label_Dominates.f a1_0 a1_1 t129 t130).bind fun t152 => (barbicanlaw01_LabelOrder.j3 kj76 x9_5 x10_47 (!t152) a0_0 a0_1 a1_0 a1_1 a2_0 a2_1 t127 t128 t129 t130)) else (barbicanlaw01_LabelOrder.j3 kj76 x9_5 x10_47 true a0_0 a0_1 a1_0 a1_1 a2_0 a2_1 t127 t128 t129 t130))) else (barbicanlaw01_LabelOrder.j3 kj76 x9_5 x10_47 true a0_0 a0_1 a1_0 a1_1 a2_0 a2_1 t127 t128 t129 t130))) else (barbicanlaw01_LabelOrder.j3 kj76 x9_5 x10_47 true a0_0 a0_1 a1_0 a1_1 a2_0 a2_1 t127 t128 t129 t130)) = some r := H
         have A294 := Aside0.mk A2940
         clear A2940
         by_cases c295 : t149 = true
         ·subst c295
          have H1 : ((label_Dominates.f t127 t128 a1_0 a1_1).bind fun t150 => (if t150 = true then ((label_Dominates.f a0_0 a0_1 t129 t130).bind fun t151 => (if t151 = true then ((label_Dominates.f a1_0 a1_1 t129 t130).bind fun t152 => (barbicanlaw01_LabelOrder.j3 kj76 x9_5 x10_47 (!t152) a0_0 a0_1 a1_0 a1_1 a2_0 a2_1 t127 t128 t129 t130)) else (barbicanlaw01_LabelOrder.j3 kj76 x9_5 x10_47 true a0_0 a0_1 a1_0 a1_1 a2_0 a2_1 t127 t128 t129 t130))) else (barbicanlaw01_LabelOrder.j3 kj76 x9_5 x10_47 true a0_0 a0_1 a1_0 a1_1 a2_0 a2_1 t127 t128 t129 t130))) = some r := by rw [if_pos rfl] at H; exact H
          clear H
          have H := H1
          clear H1
          replace H := Option.bind_eq_some_iff.mp H
          obtain ⟨t150, A2960, H⟩ := H
          replace H : (if t150 = true then ((label_Dominates.f a0_0 a0_1 t129 t130).bind fun t151 => (if t151 = true then ((label_Dominates.f a1_0 a1_1 t129 t130).bind fun t152 => (barbicanlaw01_LabelOrder.j3 kj76 x9_5 x10_47 (!t152) a0_0 a0_1 a1_0 a1_1 a2_0 a2_1 t127 t128 t129 t130)) else (barbicanlaw01_LabelOrder.j3 kj76 x9_5 x10_47 true a0_0 a0_1 a1_0 a1_1 a2_0 a2_1 t127 t128 t129 t130))) else (barbicanlaw01_LabelOrder.j3 kj76 x9_5 x10_47 true a0_0 a0_1 a1_0 a1_1 a2_0 a2_1 t127 t128 t129 t130)) = some r := H
          have A296 := Aside0.mk A2960
          clear A2960
          by_cases c297 : t150 = true
          ·subst c297
           have H1 : ((label_Dominates.f a0_0 a0_1 t129 t130).bind fun t151 => (if t151 = true then ((label_Dominates.f a1_0 a1_1 t129 t130).bind fun t152 => (barbicanlaw01_LabelOrder.j3 kj76 x9_5 x10_47 (!t152) a0_0 a0_1 a1_0 a1_1 a2_0 a2_1 t127 t128 t129 t130)) else (barbicanlaw01_LabelOrder.j3 kj76 x9_5 x10_47 true a0_0 a0_1 a1_0 a1_1 a2_0 a2_1 t127 t128 t129 t130))) = some r := by rw [if_pos rfl] at H; exact H
           clear H
           have H := H1
           clear H1
           replace H := Option.bind_eq_some_iff.mp H
           obtain ⟨t151, A2980, H⟩ := H
           replace H : (if t151 = true then ((label_Dominates.f a1_0 a1_1 t129 t130).bind fun t152 => (barbicanlaw01_LabelOrder.j3 kj76 x9_5 x10_47 (!t152) a0_0 a0_1 a1_0 a1_1 a2_0 a2_1 t127 t128 t129 t130)) else (barbicanlaw01_LabelOrder.j3 kj76 x9_5 x10_47 true a0_0 a0_1 a1_0 a1_1 a2_0 a2_1 t127 t128 t129 t130)) = some r := H
           have A298 := Aside0.mk A2980
           clear A2980
           by_cases c299 : t151 = true
           ·subst c299
            have H1 : ((label_Dominates.f a1_0 a1_1 t129 t130).bind fun t152 => (barbicanlaw01_LabelOrder.j3 kj76 x9_5 x10_47 (!t152) a0_0 a0_1 a1_0 a1_1 a2_0 a2_1 t127 t128 t129 t130)) = some r := by rw [if_pos rfl] at H; exact H
            clear H
            have H := H1
            clear H1
            replace H := Option.bind_eq_some_iff.mp H
            obtain ⟨t152, A3000, H⟩ := H
            replace H : (barbicanlaw01_LabelOrder.j3 kj76 x9_5 x10_47 (!t152) a0_0 a0_1 a1_0 a1_1 a2_0 a2_1 t127 t128 t129 t130) = some r := H
            have A300 := Aside0.mk A3000
            clear A3000
            have H' := Aside0.mk H
            clear H
            have hnb301 := NB131_124.out
            have hnc301 := NB124_131.out
            have hnb302 := NB131_125.out
            have hnc302 := NB125_131.out
            have hnb303 := NB131_126.out
            have hnc303 := NB126_131.out
            have hnb304 := NB131_132.out
            have hnc304 := NB132_131.out
            have hcz305_0 : wc.cell? ⟨gb131, 0, none⟩ = some (.int .i64 t127) := (blk_cell BK131.out 0).trans rfl
            have hcz305_1 : wc.cell? ⟨gb131, 1, none⟩ = some (.int .u32 t128) := (blk_cell BK131.out 1).trans rfl
            have hfz305_0 := blk_frozen BK131.out 0
            have hfz305_1 := blk_frozen BK131.out 1
            have hnb306 := NB124_125.out
            have hnc306 := NB125_124.out
            have hnb307 := NB124_126.out
            have hnc307 := NB126_124.out
            have hnb308 := NB124_132.out
            have hnc308 := NB132_124.out
            have hcz309_0 : wc.cell? ⟨gb124, 0, none⟩ = some (.int .i64 a0_0) := (blk_cell BK124.out 0).trans rfl
            have hcz309_1 : wc.cell? ⟨gb124, 1, none⟩ = some (.int .u32 a0_1) := (blk_cell BK124.out 1).trans rfl
            have hfz309_0 := blk_frozen BK124.out 0
            have hfz309_1 := blk_frozen BK124.out 1
            go_wp2_with (first | ((with_reducible refine gate_callee (f := 7) rfl ?_); refine goesL_ (some 70) rfl rfl Tryd.func7 (by kernel_rfl) rfl #[.agg #[.int .i64 t127, .int .u32 t128], .agg #[.int .i64 a0_0, .int .u32 a0_1]] rfl (by (try simp only [List.map_toArray, List.map_cons, List.map_nil]); first | done | rfl | (simp only [List.length_drop, List.length_take]; rfl)) ?_; (with_reducible refine (label_Dominates.calls t127 t128 a0_0 a0_1 true _ A294.out).mono ?_); rintro e w310 ⟨rfl, hb⟩; refine ⟨_, rfl, ?_⟩; have n0_ := Aside0.mk (blk_below (g := gb124) (o := .cells #[.int .i64 a0_0, .int .u32 a0_1] 24 (0, 0)) (bk_ BK124) hb); have n1_ := Aside0.mk (blk_below (g := gb125) (o := .cells #[.int .i64 a1_0, .int .u32 a1_1] 24 (0, 0)) (bk_ BK125) hb); have n2_ := Aside0.mk (blk_below (g := gb126) (o := .cells #[.int .i64 a2_0, .int .u32 a2_1] 24 (0, 0)) (bk_ BK126) hb); have n3_ := Aside0.mk (blk_below (g := gb131) (o := .cells #[.int .i64 t127, .int .u32 t128] 24 (0, 0)) (bk_ BK131) hb); have n4_ := Aside0.mk (blk_below (g := gb132) (o := .cells #[.int .i64 t129, .int .u32 t130] 24 (0, 0)) (bk_ BK132) hb); have n5_ := Aside0.mk (below_step (bh_ HB) hb); clear BK124; clear BK125; clear BK126; clear BK131; clear BK132; clear HB; have BK124 := n0_; have BK125 := n1_; have BK126 := n2_; have BK131 := n3_; have BK132 := n4_; have HB := n5_; clear n0_ n1_ n2_ n3_ n4_ n5_; (try clear hb); (try clear hb2); (try clear hk); (try clear hi); have hcz311_0 : w310.cell? ⟨gb131, 0, none⟩ = some (.int .i64 t127) := (blk_cell BK131.out 0).trans rfl; have hcz311_1 : w310.cell? ⟨gb131, 1, none⟩ = some (.int .u32 t128) := (blk_cell BK131.out 1).trans rfl; have hfz311_0 := blk_frozen BK131.out 0; have hfz311_1 := blk_frozen BK131.out 1; have hnb312 := NB125_126.out; have hnc312 := NB126_125.out; have hnb313 := NB125_132.out; have hnc313 := NB132_125.out; have hcz314_0 : w310.cell? ⟨gb125, 0, none⟩ = some (.int .i64 a1_0) := (blk_cell BK125.out 0).trans rfl; have hcz314_1 : w310.cell? ⟨gb125, 1, none⟩ = some (.int .u32 a1_1) := (blk_cell BK125.out 1).trans rfl; have hfz314_0 := blk_frozen BK125.out 0; have hfz314_1 := blk_frozen BK125.out 1) | (go_at_call 7; (first | ((with_reducible refine (label_Dominates.calls t127 t128 a1_0 a1_1 true _ A296.out).mono ?_)) | ((with_reducible refine (label_Dominates.calls a0_0 a0_1 t129 t130 true _ A298.out).mono ?_)) | ((with_reducible refine (label_Dominates.calls a1_0 a1_1 t129 t130 t152 _ A300.out).mono ?_))); rintro e wz ⟨rfl, hb⟩; have n0_ := Aside0.mk (blk_below (g := gb124) (o := .cells #[.int .i64 a0_0, .int .u32 a0_1] 24 (0, 0)) (bk_ BK124) hb); have n1_ := Aside0.mk (blk_below (g := gb125) (o := .cells #[.int .i64 a1_0, .int .u32 a1_1] 24 (0, 0)) (bk_ BK125) hb); have n2_ := Aside0.mk (blk_below (g := gb126) (o := .cells #[.int .i64 a2_0, .int .u32 a2_1] 24 (0, 0)) (bk_ BK126) hb); have n3_ := Aside0.mk (blk_below (g := gb131) (o := .cells #[.int .i64 t127, .int .u32 t128] 24 (0, 0)) (bk_ BK131) hb); have n4_ := Aside0.mk (blk_below (g := gb132) (o := .cells #[.int .i64 t129, .int .u32 t130] 24 (0, 0)) (bk_ BK132) hb); have n5_ := Aside0.mk (below_step (bh_ HB) hb); clear BK124; clear BK125; clear BK126; clear BK131; clear BK132; clear HB; have BK124 := n0_; have BK125 := n1_; have BK126 := n2_; have BK131 := n3_; have BK132 := n4_; have HB := n5_; clear n0_ n1_ n2_ n3_ n4_ n5_; (try clear hb); (try clear hb2); (try clear hk); (try clear hi); have hcz316_0 : wz.cell? ⟨gb124, 0, none⟩ = some (.int .i64 a0_0) := (blk_cell BK124.out 0).trans rfl; have hcz316_1 : wz.cell? ⟨gb124, 1, none⟩ = some (.int .u32 a0_1) := (blk_cell BK124.out 1).trans rfl; have hfz316_0 := blk_frozen BK124.out 0; have hfz316_1 := blk_frozen BK124.out 1; have hnb317 := NB132_126.out; have hnc317 := NB126_132.out; have hcz318_0 : wz.cell? ⟨gb132, 0, none⟩ = some (.int .i64 t129) := (blk_cell BK132.out 0).trans rfl; have hcz318_1 : wz.cell? ⟨gb132, 1, none⟩ = some (.int .u32 t130) := (blk_cell BK132.out 1).trans rfl; have hfz318_0 := blk_frozen BK132.out 0; have hfz318_1 := blk_frozen BK132.out 1; have hcz320_0 : wz.cell? ⟨gb125, 0, none⟩ = some (.int .i64 a1_0) := (blk_cell BK125.out 0).trans rfl; have hcz320_1 : wz.cell? ⟨gb125, 1, none⟩ = some (.int .u32 a1_1) := (blk_cell BK125.out 1).trans rfl; have hfz320_0 := blk_frozen BK125.out 0; have hfz320_1 := blk_frozen BK125.out 1))
            go_meet
            case rel => exact ⟨_, (!t152), (by first | rfl | (simp; done) | (simp [*]; done)), H', ⟨by have := HJ5.out; have := HJ47.out; have := HJ76.out; first | omega | exact Nat.le_refl _⟩, ⟨bk_ BK124⟩, ⟨bk_ BK125⟩, ⟨bk_ BK126⟩, ⟨bk_ BK131⟩, ⟨bk_ BK132⟩, ⟨by repeat (first | (with_reducible first | exact HB.out | apply below_alloc | apply pw_below_drewN | apply below_drew1 | refine below_set ?_ GE124.out | refine below_set ?_ GE125.out | refine below_set ?_ GE126.out | refine below_set ?_ GE131.out | refine below_set ?_ GE132.out) | exact HB.out | exact below_undrew HB.out)⟩⟩
           ·replace c299 := Bool.eq_false_iff.mpr c299
            subst c299
            have H1 : (barbicanlaw01_LabelOrder.j3 kj76 x9_5 x10_47 true a0_0 a0_1 a1_0 a1_1 a2_0 a2_1 t127 t128 t129 t130) = some r := by rw [if_neg (show ¬ (false = true) by decide)] at H; exact H
            clear H
            have H := H1
            clear H1
            exact absurd H (by cases kj76 <;> simp [barbicanlaw01_LabelOrder.j3, hT.out])
          ·replace c297 := Bool.eq_false_iff.mpr c297
           subst c297
           have H1 : (barbicanlaw01_LabelOrder.j3 kj76 x9_5 x10_47 true a0_0 a0_1 a1_0 a1_1 a2_0 a2_1 t127 t128 t129 t130) = some r := by rw [if_neg (show ¬ (false = true) by decide)] at H; exact H
           clear H
           have H := H1
           clear H1
           exact absurd H (by cases kj76 <;> simp [barbicanlaw01_LabelOrder.j3, hT.out])
         ·replace c295 := Bool.eq_false_iff.mpr c295
          subst c295
          have H1 : (barbicanlaw01_LabelOrder.j3 kj76 x9_5 x10_47 true a0_0 a0_1 a1_0 a1_1 a2_0 a2_1 t127 t128 t129 t130) = some r := by rw [if_neg (show ¬ (false = true) by decide)] at H; exact H
          clear H
          have H := H1
          clear H1
          exact absurd H (by cases kj76 <;> simp [barbicanlaw01_LabelOrder.j3, hT.out])
        case rest =>
         clear HC293
         (try clear c1); (try clear c2); (try clear p2); (try clear c3); (try clear c4); (try clear c5); (try clear c6); (try clear c7); (try clear c8); (try clear c9); (try clear c10); (try clear c11); (try clear c12); (try clear c13); (try clear c14); (try clear c15); (try clear c16); (try clear c17); (try clear c18); (try clear c19); (try clear c20); (try clear c21); (try clear c22); (try clear c23); (try clear c24); (try clear c25); (try clear c26); (try clear c27); (try clear c28); (try clear c29); (try clear c30); (try clear c31); (try clear c34); (try clear c35); (try clear c38); (try clear c39); (try clear c40); (try clear c41); (try clear c43); (try clear c44); (try clear c45); (try clear c50); (try clear c52); (try clear c53); (try clear c54); (try clear c55); (try clear c57); (try clear c58); (try clear c59); (try clear c62); (try clear c63); (try clear c67); (try clear c68); (try clear c69); (try clear c70); (try clear c72); (try clear c73); (try clear c74); (try clear c79); (try clear c81); (try clear c83); (try clear c84); (try clear c84b0); (try clear c86); (try clear c88); (try clear c90); (try clear c91); (try clear c92); (try clear c93); (try clear c97); (try clear c98); (try clear c99); (try clear c109); (try clear c110); (try clear c116); (try clear c117); (try clear c118); (try clear c119); (try clear c123); (try clear c124); (try clear c125); (try clear c135); (try clear c136); (try clear c139); (try clear c140); (try clear c141); (try clear c142); (try clear c146); (try clear c147); (try clear c148); (try clear c158); (try clear c160); (try clear c162); (try clear c163); (try clear c164); (try clear c165); (try clear c169); (try clear c170); (try clear c171); (try clear c181); (try clear c182); (try clear c188); (try clear c189); (try clear c190); (try clear c191); (try clear c195); (try clear c196); (try clear c197); (try clear c207); (try clear c208); (try clear c211); (try clear c212); (try clear c213); (try clear c214); (try clear c218); (try clear c219); (try clear c220); (try clear c230); (try clear c232); (try clear c234); (try clear c235); (try clear c236); (try clear c237); (try clear c241); (try clear c242); (try clear c243); (try clear c250); (try clear c251); (try clear c257); (try clear c258); (try clear c259); (try clear c260); (try clear c264); (try clear c265); (try clear c266); (try clear c273); (try clear c274); (try clear c277); (try clear c278); (try clear c279); (try clear c280); (try clear c284); (try clear c285); (try clear c286); (try clear c292); (try clear c295); (try clear c297); (try clear c299); (try clear c301); (try clear c302); (try clear c303); (try clear c304); (try clear c306); (try clear c307); (try clear c308); (try clear c312); (try clear c313); (try clear c317); (try clear p2)
         obtain ⟨kq, x89_292, rfl, HA, HJ292, BK124, BK125, BK126, BK131, BK132, HB⟩ := hcut
         cases kq with
         | zero => exact absurd HA.out (by simp [barbicanlaw01_LabelOrder.j3])
         | succ kj292 =>
          have H := HA.out
          clear HA
          simp only [barbicanlaw01_LabelOrder.j3] at H
          by_cases c323 : x89_292 = true
          ·subst c323
           have H1 : (some false) = some r := by rw [if_pos rfl] at H; exact H
           clear H
           have H := H1
           clear H1
           exact absurd (Option.some.inj H) (by rw [hT.out]; decide)
          ·replace c323 := Bool.eq_false_iff.mpr c323
           subst c323
           have H1 : ((label_Dominates.f a2_0 a2_1 t127 t128).bind fun t153 => (if (t153 == x9_5) = true then ((label_Dominates.f t129 t130 a2_0 a2_1).bind fun t154 => (if (t154 == x10_47) = true then ((label_Join.f a1_0 a1_1 a0_0 a0_1).bind fun bt155 => (if (t127 == bt155.1 && (t128 == bt155.2)) = true then ((label_Meet.f a1_0 a1_1 a0_0 a0_1).bind fun bt157 => (if (t129 == bt157.1 && (t130 == bt157.2)) = true then ((barbicanlaw01_sure.f).bind fun t159 => (some t159)) else (some false))) else (some false))) else (some false))) else (some false))) = some r := by rw [if_neg (show ¬ (false = true) by decide)] at H; exact H
           clear H
           have H := H1
           clear H1
           replace H := Option.bind_eq_some_iff.mp H
           obtain ⟨t153, A3240, H⟩ := H
           replace H : (if (t153 == x9_5) = true then ((label_Dominates.f t129 t130 a2_0 a2_1).bind fun t154 => (if (t154 == x10_47) = true then ((label_Join.f a1_0 a1_1 a0_0 a0_1).bind fun bt155 => (if (t127 == bt155.1 && (t128 == bt155.2)) = true then ((label_Meet.f a1_0 a1_1 a0_0 a0_1).bind fun bt157 => (if (t129 == bt157.1 && (t130 == bt157.2)) = true then ((barbicanlaw01_sure.f).bind fun t159 => (some t159)) else (some false))) else (some false))) else (some false))) else (some false)) = some r := H
           have A324 := Aside0.mk A3240
           clear A3240
           by_cases c325 : (t153 == x9_5) = true
           ·rw [if_pos c325] at H
            have c325b0 : (t153 == x9_5) = true := c325
            (try (have c325b1 : decide (t153 = x9_5) = true := by simpa using c325))
            (try (have c325b2 : (t153 == x9_5) = true := by simpa using c325))
            clear c325
            replace H := Option.bind_eq_some_iff.mp H
            obtain ⟨t154, A3260, H⟩ := H
            replace H : (if (t154 == x10_47) = true then ((label_Join.f a1_0 a1_1 a0_0 a0_1).bind fun bt155 => (if (t127 == bt155.1 && (t128 == bt155.2)) = true then ((label_Meet.f a1_0 a1_1 a0_0 a0_1).bind fun bt157 => (if (t129 == bt157.1 && (t130 == bt157.2)) = true then ((barbicanlaw01_sure.f).bind fun t159 => (some t159)) else (some false))) else (some false))) else (some false)) = some r := H
            have A326 := Aside0.mk A3260
            clear A3260
            by_cases c327 : (t154 == x10_47) = true
            ·rw [if_pos c327] at H
             have c327b0 : (t154 == x10_47) = true := c327
             (try (have c327b1 : decide (t154 = x10_47) = true := by simpa using c327))
             (try (have c327b2 : (t154 == x10_47) = true := by simpa using c327))
             clear c327
             replace H := Option.bind_eq_some_iff.mp H
             obtain ⟨⟨t155, t156⟩, A3280, H⟩ := H
             replace H : (if (t127 == t155 && (t128 == t156)) = true then ((label_Meet.f a1_0 a1_1 a0_0 a0_1).bind fun bt157 => (if (t129 == bt157.1 && (t130 == bt157.2)) = true then ((barbicanlaw01_sure.f).bind fun t159 => (some t159)) else (some false))) else (some false)) = some r := H
             have A328 := Aside0.mk A3280
             clear A3280
             by_cases c329 : (t127 == t155 && (t128 == t156)) = true
             ·rw [if_pos c329] at H
              have c329b0 : (t127 == t155 && (t128 == t156)) = true := c329
              (try (have c329b1 : decide (t127 = t155 && (t128 == t156)) = true := by simpa using c329))
              (try (have c329b2 : (t127 == t155 && (t128 == t156)) = true := by simpa using c329))
              clear c329
              replace H := Option.bind_eq_some_iff.mp H
              obtain ⟨⟨t157, t158⟩, A3300, H⟩ := H
              replace H : (if (t129 == t157 && (t130 == t158)) = true then ((barbicanlaw01_sure.f).bind fun t159 => (some t159)) else (some false)) = some r := H
              have A330 := Aside0.mk A3300
              clear A3300
              by_cases c331 : (t129 == t157 && (t130 == t158)) = true
              ·rw [if_pos c331] at H
               have c331b0 : (t129 == t157 && (t130 == t158)) = true := c331
               (try (have c331b1 : decide (t129 = t157 && (t130 == t158)) = true := by simpa using c331))
               (try (have c331b2 : (t129 == t157 && (t130 == t158)) = true := by simpa using c331))
               clear c331
               replace H := Option.bind_eq_some_iff.mp H
               obtain ⟨t159, A3320, H⟩ := H
               replace H : (some t159) = some r := H
               have A332 := Aside0.mk A3320
               clear A3320
               obtain rfl := Option.some.inj H
               try go_wp2
               have n0_ := Aside0.mk (blk_drew BK124.out)
               have n1_ := Aside0.mk (blk_drew BK125.out)
               have n2_ := Aside0.mk (blk_drew BK126.out)
               have n3_ := Aside0.mk (blk_drew BK131.out)
               have n4_ := Aside0.mk (blk_drew BK132.out)
               have n5_ := Aside0.mk (below_drew1 HB.out)
               clear BK124
               clear BK125
               clear BK126
               clear BK131
               clear BK132
               clear HB
               have BK124 := n0_
               have BK125 := n1_
               have BK126 := n2_
               have BK131 := n3_
               have BK132 := n4_
               have HB := n5_
               clear n0_ n1_ n2_ n3_ n4_ n5_
               refine start_ (n := 30) (S := fun w' => w'.cell? ⟨gb126, 0, none⟩ = some (.int .i64 a2_0) ∧ w'.cell? ⟨gb126, 1, none⟩ = some (.int .u32 a2_1) ∧ w'.cell? ⟨gb131, 0, none⟩ = some (.int .i64 t127) ∧ w'.cell? ⟨gb131, 1, none⟩ = some (.int .u32 t128) ∧ w'.cell? ⟨gb132, 0, none⟩ = some (.int .i64 t129) ∧ w'.cell? ⟨gb132, 1, none⟩ = some (.int .u32 t130) ∧ w'.cell? ⟨gb125, 0, none⟩ = some (.int .i64 a1_0) ∧ w'.cell? ⟨gb125, 1, none⟩ = some (.int .u32 a1_1) ∧ w'.cell? ⟨gb124, 0, none⟩ = some (.int .i64 a0_0) ∧ w'.cell? ⟨gb124, 1, none⟩ = some (.int .u32 a0_1)) (ds := []) #[false, false, false, false, false, false, false, false, false, false, false, false, false, false, false, false, false, false, false, false, false, false, false, false, false, false, false, false, false, false] (by kernel_rfl) rfl rfl ⟨(blk_cell BK126.out 0).trans rfl, (blk_cell BK126.out 1).trans rfl, (blk_cell BK131.out 0).trans rfl, (blk_cell BK131.out 1).trans rfl, (blk_cell BK132.out 0).trans rfl, (blk_cell BK132.out 1).trans rfl, (blk_cell BK125.out 0).trans rfl, (blk_cell BK125.out 1).trans rfl, (blk_cell BK124.out 0).trans rfl, (blk_cell BK124.out 1).trans rfl⟩ (fun hHeld => ?_); refine with_tabW barbicanlaw01_LabelOrder.tab8 barbicanlaw01_LabelOrder.bits8 (fun HT_ HW_ => ?_)
               generalize wc.drew = w333 at BK124 BK125 BK126 BK131 BK132 HB hHeld ⊢
               refine pure_ (i := 3) (N := some 93) (v := ?_) (a' := ?_) #[false, false, false, true, false, false, false, false, false, false, false, false, false, false, false, false, false, false, false, false, false, false, false, false, false, false, false, false, false, false] rfl rfl (any_of HT_.out (by kernel_rfl)) (fun _ _ _ h => h) (Or.inl ⟨by rfl, ?_⟩) ?_ ?_
               rotate_left
               ·intro w'
                go_simp
                with_reducible rfl
               rotate_left
               ·simp only [Act.put, List.setIfInBounds_toArray, List.set_cons_zero, List.set_cons_succ, i64_w, i32_w]
                rfl
               refine take_ (i := 0) (N := some 90) (v := ?_) (a' := ?_) #[true, false, false, true, false, false, false, false, false, false, false, false, false, false, false, false, false, false, false, false, false, false, false, false, false, false, false, false, false, false] rfl rfl (take_ofW HT_.out HW_.out (by kernel_rfl)) (fun _ _ _ h => h) (Or.inl ⟨by rfl, ?_⟩) hHeld ?_ ?_
               rotate_left
               ·rintro w' ⟨s0, s1, s2, s3, s4, s5, s6, s7, s8, s9⟩
                go_simp
                with_reducible rfl
               rotate_left
               ·simp only [Act.put, List.setIfInBounds_toArray, List.set_cons_zero, List.set_cons_succ, i64_w, i32_w]
                rfl
               refine take_ (i := 1) (N := some 91) (v := ?_) (a' := ?_) #[true, true, false, true, false, false, false, false, false, false, false, false, false, false, false, false, false, false, false, false, false, false, false, false, false, false, false, false, false, false] rfl rfl (take_ofW HT_.out HW_.out (by kernel_rfl)) (fun _ _ _ h => h) (Or.inl ⟨by rfl, ?_⟩) hHeld ?_ ?_
               rotate_left
               ·rintro w' ⟨s0, s1, s2, s3, s4, s5, s6, s7, s8, s9⟩
                go_simp
                with_reducible rfl
               rotate_left
               ·simp only [Act.put, List.setIfInBounds_toArray, List.set_cons_zero, List.set_cons_succ, i64_w, i32_w]
                rfl
               refine one_ (i := 2) (N := some 92) #[true, true, true, true, false, false, false, false, false, false, false, false, false, false, false, false, false, false, false, false, false, false, false, false, false, false, false, false, false, false] rfl rfl (one_of HT_.out (by kernel_rfl)) (by decide) (fun K hK => ?_)
               refine goes_ Tryd.func7 (by kernel_rfl) rfl #[.agg #[.int .i64 a2_0, .int .u32 a2_1], .agg #[.int .i64 t127, .int .u32 t128]] (by rfl) rfl rfl (by (try simp only [List.map_toArray, List.map_cons, List.map_nil]); first | done | rfl | (simp only [List.length_drop, List.length_take]; rfl)) ?_
               with_reducible refine (label_Dominates.calls a2_0 a2_1 t127 t128 t153 _ A324.out).mono ?_
               rintro e w334 ⟨rfl, hb⟩
               refine ⟨_, rfl, ?_⟩
               have n0_ := Aside0.mk (blk_below (g := gb124) (o := .cells #[.int .i64 a0_0, .int .u32 a0_1] 24 (0, 0)) (bk_ BK124) hb)
               have n1_ := Aside0.mk (blk_below (g := gb125) (o := .cells #[.int .i64 a1_0, .int .u32 a1_1] 24 (0, 0)) (bk_ BK125) hb)
               have n2_ := Aside0.mk (blk_below (g := gb126) (o := .cells #[.int .i64 a2_0, .int .u32 a2_1] 24 (0, 0)) (bk_ BK126) hb)
               have n3_ := Aside0.mk (blk_below (g := gb131) (o := .cells #[.int .i64 t127, .int .u32 t128] 24 (0, 0)) (bk_ BK131) hb)
               have n4_ := Aside0.mk (blk_below (g := gb132) (o := .cells #[.int .i64 t129, .int .u32 t130] 24 (0, 0)) (bk_ BK132) hb)
               have n5_ := Aside0.mk (below_step (bh_ HB) hb)
               clear BK124
               clear BK125
               clear BK126
               clear BK131
               clear BK132
               clear HB
               have BK124 := n0_
               have BK125 := n1_
               have BK126 := n2_
               have BK131 := n3_
               have BK132 := n4_
               have HB := n5_
               clear n0_ n1_ n2_ n3_ n4_ n5_
               (try clear hb); (try clear hb2); (try clear hk); (try clear hi)
               refine hK.out _ _ ⟨(blk_cell BK126.out 0).trans rfl, (blk_cell BK126.out 1).trans rfl, (blk_cell BK131.out 0).trans rfl, (blk_cell BK131.out 1).trans rfl, (blk_cell BK132.out 0).trans rfl, (blk_cell BK132.out 1).trans rfl, (blk_cell BK125.out 0).trans rfl, (blk_cell BK125.out 1).trans rfl, (blk_cell BK124.out 0).trans rfl, (blk_cell BK124.out 1).trans rfl⟩ (fun hHeld => ?_)
               clear hK K
               refine norm_ (a' := ?_) ?_ ?_
               rotate_left
               ·show Act.put _ (some 92) _ = _
                simp only [Act.put, List.setIfInBounds_toArray, List.set_cons_zero, List.set_cons_succ, i64_w, i32_w]
                rfl
               refine pure_ (i := 4) (N := some 94) (v := ?_) (a' := ?_) #[true, true, true, true, true, false, false, false, false, false, false, false, false, false, false, false, false, false, false, false, false, false, false, false, false, false, false, false, false, false] rfl rfl (any_of HT_.out (by kernel_rfl)) (fun _ _ _ h => h) (Or.inl ⟨by rfl, ?_⟩) ?_ ?_
               rotate_left
               ·intro w'
                go_simp
                with_reducible rfl
               rotate_left
               ·simp only [Act.put, List.setIfInBounds_toArray, List.set_cons_zero, List.set_cons_succ, i64_w, i32_w]
                rfl
               refine pure_ (i := 5) (N := some 95) (v := ?_) (a' := ?_) #[true, true, true, true, true, true, false, false, false, false, false, false, false, false, false, false, false, false, false, false, false, false, false, false, false, false, false, false, false, false] rfl rfl (any_of HT_.out (by kernel_rfl)) (fun _ _ _ h => h) (Or.inl ⟨by rfl, ?_⟩) ?_ ?_
               rotate_left
               ·intro w'
                go_simp
                with_reducible rfl
               rotate_left
               ·simp only [Act.put, List.setIfInBounds_toArray, List.set_cons_zero, List.set_cons_succ, i64_w, i32_w]
                rfl
               refine pure_ (i := 9) (N := some 99) (v := ?_) (a' := ?_) #[true, true, true, true, true, true, false, false, false, true, false, false, false, false, false, false, false, false, false, false, false, false, false, false, false, false, false, false, false, false] rfl rfl (any_of HT_.out (by kernel_rfl)) (fun _ _ _ h => h) (Or.inl ⟨by rfl, ?_⟩) ?_ ?_
               rotate_left
               ·intro w'
                go_simp
                with_reducible rfl
               rotate_left
               ·simp only [Act.put, List.setIfInBounds_toArray, List.set_cons_zero, List.set_cons_succ, i64_w, i32_w]
                rfl
               refine take_ (i := 6) (N := some 96) (v := ?_) (a' := ?_) #[true, true, true, true, true, true, true, false, false, true, false, false, false, false, false, false, false, false, false, false, false, false, false, false, false, false, false, false, false, false] rfl rfl (take_ofW HT_.out HW_.out (by kernel_rfl)) (fun _ _ _ h => h) (Or.inl ⟨by rfl, ?_⟩) hHeld ?_ ?_
               rotate_left
               ·rintro w' ⟨s0, s1, s2, s3, s4, s5, s6, s7, s8, s9⟩
                go_simp
                with_reducible rfl
               rotate_left
               ·simp only [Act.put, List.setIfInBounds_toArray, List.set_cons_zero, List.set_cons_succ, i64_w, i32_w]
                rfl
               refine take_ (i := 7) (N := some 97) (v := ?_) (a' := ?_) #[true, true, true, true, true, true, true, true, false, true, false, false, false, false, false, false, false, false, false, false, false, false, false, false, false, false, false, false, false, false] rfl rfl (take_ofW HT_.out HW_.out (by kernel_rfl)) (fun _ _ _ h => h) (Or.inl ⟨by rfl, ?_⟩) hHeld ?_ ?_
               rotate_left
               ·rintro w' ⟨s0, s1, s2, s3, s4, s5, s6, s7, s8, s9⟩
                go_simp
                with_reducible rfl
               rotate_left
               ·simp only [Act.put, List.setIfInBounds_toArray, List.set_cons_zero, List.set_cons_succ, i64_w, i32_w]
                rfl
               refine one_ (i := 8) (N := some 98) #[true, true, true, true, true, true, true, true, true, true, false, false, false, false, false, false, false, false, false, false, false, false, false, false, false, false, false, false, false, false] rfl rfl (one_of HT_.out (by kernel_rfl)) (by decide) (fun K hK => ?_)
               refine goes_ Tryd.func7 (by kernel_rfl) rfl #[.agg #[.int .i64 t129, .int .u32 t130], .agg #[.int .i64 a2_0, .int .u32 a2_1]] (by rfl) rfl rfl (by (try simp only [List.map_toArray, List.map_cons, List.map_nil]); first | done | rfl | (simp only [List.length_drop, List.length_take]; rfl)) ?_
               with_reducible refine (label_Dominates.calls t129 t130 a2_0 a2_1 t154 _ A326.out).mono ?_
               rintro e w335 ⟨rfl, hb⟩
               refine ⟨_, rfl, ?_⟩
               have n0_ := Aside0.mk (blk_below (g := gb124) (o := .cells #[.int .i64 a0_0, .int .u32 a0_1] 24 (0, 0)) (bk_ BK124) hb)
               have n1_ := Aside0.mk (blk_below (g := gb125) (o := .cells #[.int .i64 a1_0, .int .u32 a1_1] 24 (0, 0)) (bk_ BK125) hb)
               have n2_ := Aside0.mk (blk_below (g := gb126) (o := .cells #[.int .i64 a2_0, .int .u32 a2_1] 24 (0, 0)) (bk_ BK126) hb)
               have n3_ := Aside0.mk (blk_below (g := gb131) (o := .cells #[.int .i64 t127, .int .u32 t128] 24 (0, 0)) (bk_ BK131) hb)
               have n4_ := Aside0.mk (blk_below (g := gb132) (o := .cells #[.int .i64 t129, .int .u32 t130] 24 (0, 0)) (bk_ BK132) hb)
               have n5_ := Aside0.mk (below_step (bh_ HB) hb)
               clear BK124
               clear BK125
               clear BK126
               clear BK131
               clear BK132
               clear HB
               have BK124 := n0_
               have BK125 := n1_
               have BK126 := n2_
               have BK131 := n3_
               have BK132 := n4_
               have HB := n5_
               clear n0_ n1_ n2_ n3_ n4_ n5_
               (try clear hb); (try clear hb2); (try clear hk); (try clear hi)
               refine hK.out _ _ ⟨(blk_cell BK126.out 0).trans rfl, (blk_cell BK126.out 1).trans rfl, (blk_cell BK131.out 0).trans rfl, (blk_cell BK131.out 1).trans rfl, (blk_cell BK132.out 0).trans rfl, (blk_cell BK132.out 1).trans rfl, (blk_cell BK125.out 0).trans rfl, (blk_cell BK125.out 1).trans rfl, (blk_cell BK124.out 0).trans rfl, (blk_cell BK124.out 1).trans rfl⟩ (fun hHeld => ?_)
               clear hK K
               refine norm_ (a' := ?_) ?_ ?_
               rotate_left
               ·show Act.put _ (some 98) _ = _
                simp only [Act.put, List.setIfInBounds_toArray, List.set_cons_zero, List.set_cons_succ, i64_w, i32_w]
                rfl
               refine pure_ (i := 10) (N := some 100) (v := ?_) (a' := ?_) #[true, true, true, true, true, true, true, true, true, true, true, false, false, false, false, false, false, false, false, false, false, false, false, false, false, false, false, false, false, false] rfl rfl (any_of HT_.out (by kernel_rfl)) (fun _ _ _ h => h) (Or.inl ⟨by rfl, ?_⟩) ?_ ?_
               rotate_left
               ·intro w'
                go_simp
                with_reducible rfl
               rotate_left
               ·simp only [Act.put, List.setIfInBounds_toArray, List.set_cons_zero, List.set_cons_succ, i64_w, i32_w]
                rfl
               refine pure_ (i := 11) (N := some 101) (v := ?_) (a' := ?_) #[true, true, true, true, true, true, true, true, true, true, true, true, false, false, false, false, false, false, false, false, false, false, false, false, false, false, false, false, false, false] rfl rfl (any_of HT_.out (by kernel_rfl)) (fun _ _ _ h => h) (Or.inl ⟨by rfl, ?_⟩) ?_ ?_
               rotate_left
               ·intro w'
                go_simp
                with_reducible rfl
               rotate_left
               ·simp only [Act.put, List.setIfInBounds_toArray, List.set_cons_zero, List.set_cons_succ, i64_w, i32_w]
                rfl
               refine pure_ (i := 12) (N := some 102) (v := ?_) (a' := ?_) #[true, true, true, true, true, true, true, true, true, true, true, true, true, false, false, false, false, false, false, false, false, false, false, false, false, false, false, false, false, false] rfl rfl (any_of HT_.out (by kernel_rfl)) (fun _ _ _ h => h) (Or.inl ⟨by rfl, ?_⟩) ?_ ?_
               rotate_left
               ·intro w'
                go_simp
                with_reducible rfl
               rotate_left
               ·simp only [Act.put, List.setIfInBounds_toArray, List.set_cons_zero, List.set_cons_succ, i64_w, i32_w]
                rfl
               refine take_ (i := 13) (N := some 103) (v := ?_) (a' := ?_) #[true, true, true, true, true, true, true, true, true, true, true, true, true, true, false, false, false, false, false, false, false, false, false, false, false, false, false, false, false, false] rfl rfl (take_ofW HT_.out HW_.out (by kernel_rfl)) (fun _ _ _ h => h) (Or.inl ⟨by rfl, ?_⟩) hHeld ?_ ?_
               rotate_left
               ·rintro w' ⟨s0, s1, s2, s3, s4, s5, s6, s7, s8, s9⟩
                go_simp
                with_reducible rfl
               rotate_left
               ·simp only [Act.put, List.setIfInBounds_toArray, List.set_cons_zero, List.set_cons_succ, i64_w, i32_w]
                rfl
               refine take_ (i := 14) (N := some 104) (v := ?_) (a' := ?_) #[true, true, true, true, true, true, true, true, true, true, true, true, true, true, true, false, false, false, false, false, false, false, false, false, false, false, false, false, false, false] rfl rfl (take_ofW HT_.out HW_.out (by kernel_rfl)) (fun _ _ _ h => h) (Or.inl ⟨by rfl, ?_⟩) hHeld ?_ ?_
               rotate_left
               ·rintro w' ⟨s0, s1, s2, s3, s4, s5, s6, s7, s8, s9⟩
                go_simp
                with_reducible rfl
               rotate_left
               ·simp only [Act.put, List.setIfInBounds_toArray, List.set_cons_zero, List.set_cons_succ, i64_w, i32_w]
                rfl
               refine take_ (i := 15) (N := some 105) (v := ?_) (a' := ?_) #[true, true, true, true, true, true, true, true, true, true, true, true, true, true, true, true, false, false, false, false, false, false, false, false, false, false, false, false, false, false] rfl rfl (take_ofW HT_.out HW_.out (by kernel_rfl)) (fun _ _ _ h => h) (Or.inl ⟨by rfl, ?_⟩) hHeld ?_ ?_
               rotate_left
               ·rintro w' ⟨s0, s1, s2, s3, s4, s5, s6, s7, s8, s9⟩
                go_simp
                with_reducible rfl
               rotate_left
               ·simp only [Act.put, List.setIfInBounds_toArray, List.set_cons_zero, List.set_cons_succ, i64_w, i32_w]
                rfl
               refine one_ (i := 16) (N := some 106) #[true, true, true, true, true, true, true, true, true, true, true, true, true, true, true, true, true, false, false, false, false, false, false, false, false, false, false, false, false, false] rfl rfl (one_of HT_.out (by kernel_rfl)) (by decide) (fun K hK => ?_)
               refine goes_ Tryd.func15 (by kernel_rfl) rfl #[.agg #[.int .i64 a1_0, .int .u32 a1_1], .agg #[.int .i64 a0_0, .int .u32 a0_1]] (by rfl) rfl rfl (by (try simp only [List.map_toArray, List.map_cons, List.map_nil]); first | done | rfl | (simp only [List.length_drop, List.length_take]; rfl)) ?_
               with_reducible refine (label_Join.calls a1_0 a1_1 a0_0 a0_1 t155 t156 _ A328.out).mono ?_
               rintro e w336 ⟨rfl, hb⟩
               refine ⟨_, rfl, ?_⟩
               have n0_ := Aside0.mk (blk_below (g := gb124) (o := .cells #[.int .i64 a0_0, .int .u32 a0_1] 24 (0, 0)) (bk_ BK124) hb)
               have n1_ := Aside0.mk (blk_below (g := gb125) (o := .cells #[.int .i64 a1_0, .int .u32 a1_1] 24 (0, 0)) (bk_ BK125) hb)
               have n2_ := Aside0.mk (blk_below (g := gb126) (o := .cells #[.int .i64 a2_0, .int .u32 a2_1] 24 (0, 0)) (bk_ BK126) hb)
               have n3_ := Aside0.mk (blk_below (g := gb131) (o := .cells #[.int .i64 t127, .int .u32 t128] 24 (0, 0)) (bk_ BK131) hb)
               have n4_ := Aside0.mk (blk_below (g := gb132) (o := .cells #[.int .i64 t129, .int .u32 t130] 24 (0, 0)) (bk_ BK132) hb)
               have n5_ := Aside0.mk (below_step (bh_ HB) hb)
               clear BK124
               clear BK125
               clear BK126
               clear BK131
               clear BK132
               clear HB
               have BK124 := n0_
               have BK125 := n1_
               have BK126 := n2_
               have BK131 := n3_
               have BK132 := n4_
               have HB := n5_
               clear n0_ n1_ n2_ n3_ n4_ n5_
               (try clear hb); (try clear hb2); (try clear hk); (try clear hi)
               refine hK.out _ _ ⟨(blk_cell BK126.out 0).trans rfl, (blk_cell BK126.out 1).trans rfl, (blk_cell BK131.out 0).trans rfl, (blk_cell BK131.out 1).trans rfl, (blk_cell BK132.out 0).trans rfl, (blk_cell BK132.out 1).trans rfl, (blk_cell BK125.out 0).trans rfl, (blk_cell BK125.out 1).trans rfl, (blk_cell BK124.out 0).trans rfl, (blk_cell BK124.out 1).trans rfl⟩ (fun hHeld => ?_)
               clear hK K
               refine norm_ (a' := ?_) ?_ ?_
               rotate_left
               ·show Act.put _ (some 106) _ = _
                simp only [Act.put, List.setIfInBounds_toArray, List.set_cons_zero, List.set_cons_succ, i64_w, i32_w]
                rfl
               refine pure_ (i := 17) (N := some 107) (v := ?_) (a' := ?_) #[true, true, true, true, true, true, true, true, true, true, true, true, true, true, true, true, true, true, false, false, false, false, false, false, false, false, false, false, false, false] rfl rfl (any_of HT_.out (by kernel_rfl)) (fun _ _ _ h => h) (Or.inl ⟨by rfl, ?_⟩) ?_ ?_
               rotate_left
               ·intro w'
                go_simp
                with_reducible rfl
               rotate_left
               ·simp only [Act.put, List.setIfInBounds_toArray, List.set_cons_zero, List.set_cons_succ, i64_w, i32_w]
                rfl
               refine pure_ (i := 18) (N := some 108) (v := ?_) (a' := ?_) #[true, true, true, true, true, true, true, true, true, true, true, true, true, true, true, true, true, true, true, false, false, false, false, false, false, false, false, false, false, false] rfl rfl (any_of HT_.out (by kernel_rfl)) (fun _ _ _ h => h) (Or.inl ⟨by rfl, ?_⟩) ?_ ?_
               rotate_left
               ·intro w'
                go_simp
                with_reducible rfl
               rotate_left
               ·simp only [Act.put, List.setIfInBounds_toArray, List.set_cons_zero, List.set_cons_succ, i64_w, i32_w]
                rfl
               refine pure_ (i := 19) (N := some 109) (v := ?_) (a' := ?_) #[true, true, true, true, true, true, true, true, true, true, true, true, true, true, true, true, true, true, true, true, false, false, false, false, false, false, false, false, false, false] rfl rfl (any_of HT_.out (by kernel_rfl)) (fun _ _ _ h => h) (Or.inl ⟨by rfl, ?_⟩) ?_ ?_
               rotate_left
               ·intro w'
                go_simp
                with_reducible rfl
               rotate_left
               ·simp only [Act.put, List.setIfInBounds_toArray, List.set_cons_zero, List.set_cons_succ, i64_w, i32_w]
                rfl
               refine take_ (i := 20) (N := some 110) (v := ?_) (a' := ?_) #[true, true, true, true, true, true, true, true, true, true, true, true, true, true, true, true, true, true, true, true, true, false, false, false, false, false, false, false, false, false] rfl rfl (take_ofW HT_.out HW_.out (by kernel_rfl)) (fun _ _ _ h => h) (Or.inl ⟨by rfl, ?_⟩) hHeld ?_ ?_
               rotate_left
               ·rintro w' ⟨s0, s1, s2, s3, s4, s5, s6, s7, s8, s9⟩
                go_simp
                with_reducible rfl
               rotate_left
               ·simp only [Act.put, List.setIfInBounds_toArray, List.set_cons_zero, List.set_cons_succ, i64_w, i32_w]
                rfl
               refine take_ (i := 21) (N := some 111) (v := ?_) (a' := ?_) #[true, true, true, true, true, true, true, true, true, true, true, true, true, true, true, true, true, true, true, true, true, true, false, false, false, false, false, false, false, false] rfl rfl (take_ofW HT_.out HW_.out (by kernel_rfl)) (fun _ _ _ h => h) (Or.inl ⟨by rfl, ?_⟩) hHeld ?_ ?_
               rotate_left
               ·rintro w' ⟨s0, s1, s2, s3, s4, s5, s6, s7, s8, s9⟩
                go_simp
                with_reducible rfl
               rotate_left
               ·simp only [Act.put, List.setIfInBounds_toArray, List.set_cons_zero, List.set_cons_succ, i64_w, i32_w]
                rfl
               refine take_ (i := 22) (N := some 112) (v := ?_) (a' := ?_) #[true, true, true, true, true, true, true, true, true, true, true, true, true, true, true, true, true, true, true, true, true, true, true, false, false, false, false, false, false, false] rfl rfl (take_ofW HT_.out HW_.out (by kernel_rfl)) (fun _ _ _ h => h) (Or.inl ⟨by rfl, ?_⟩) hHeld ?_ ?_
               rotate_left
               ·rintro w' ⟨s0, s1, s2, s3, s4, s5, s6, s7, s8, s9⟩
                go_simp
                with_reducible rfl
               rotate_left
               ·simp only [Act.put, List.setIfInBounds_toArray, List.set_cons_zero, List.set_cons_succ, i64_w, i32_w]
                rfl
               refine one_ (i := 23) (N := some 113) #[true, true, true, true, true, true, true, true, true, true, true, true, true, true, true, true, true, true, true, true, true, true, true, true, false, false, false, false, false, false] rfl rfl (one_of HT_.out (by kernel_rfl)) (by decide) (fun K hK => ?_)
               refine goes_ Tryd.func16 (by kernel_rfl) rfl #[.agg #[.int .i64 a1_0, .int .u32 a1_1], .agg #[.int .i64 a0_0, .int .u32 a0_1]] (by rfl) rfl rfl (by (try simp only [List.map_toArray, List.map_cons, List.map_nil]); first | done | rfl | (simp only [List.length_drop, List.length_take]; rfl)) ?_
               with_reducible refine (label_Meet.calls a1_0 a1_1 a0_0 a0_1 t157 t158 _ A330.out).mono ?_
               rintro e w337 ⟨rfl, hb⟩
               refine ⟨_, rfl, ?_⟩
               have n0_ := Aside0.mk (blk_below (g := gb124) (o := .cells #[.int .i64 a0_0, .int .u32 a0_1] 24 (0, 0)) (bk_ BK124) hb)
               have n1_ := Aside0.mk (blk_below (g := gb125) (o := .cells #[.int .i64 a1_0, .int .u32 a1_1] 24 (0, 0)) (bk_ BK125) hb)
               have n2_ := Aside0.mk (blk_below (g := gb126) (o := .cells #[.int .i64 a2_0, .int .u32 a2_1] 24 (0, 0)) (bk_ BK126) hb)
               have n3_ := Aside0.mk (blk_below (g := gb131) (o := .cells #[.int .i64 t127, .int .u32 t128] 24 (0, 0)) (bk_ BK131) hb)
               have n4_ := Aside0.mk (blk_below (g := gb132) (o := .cells #[.int .i64 t129, .int .u32 t130] 24 (0, 0)) (bk_ BK132) hb)
               have n5_ := Aside0.mk (below_step (bh_ HB) hb)
               clear BK124
               clear BK125
               clear BK126
               clear BK131
               clear BK132
               clear HB
               have BK124 := n0_
               have BK125 := n1_
               have BK126 := n2_
               have BK131 := n3_
               have BK132 := n4_
               have HB := n5_
               clear n0_ n1_ n2_ n3_ n4_ n5_
               (try clear hb); (try clear hb2); (try clear hk); (try clear hi)
               refine hK.out _ _ ⟨(blk_cell BK126.out 0).trans rfl, (blk_cell BK126.out 1).trans rfl, (blk_cell BK131.out 0).trans rfl, (blk_cell BK131.out 1).trans rfl, (blk_cell BK132.out 0).trans rfl, (blk_cell BK132.out 1).trans rfl, (blk_cell BK125.out 0).trans rfl, (blk_cell BK125.out 1).trans rfl, (blk_cell BK124.out 0).trans rfl, (blk_cell BK124.out 1).trans rfl⟩ (fun hHeld => ?_)
               clear hK K
               refine norm_ (a' := ?_) ?_ ?_
               rotate_left
               ·show Act.put _ (some 113) _ = _
                simp only [Act.put, List.setIfInBounds_toArray, List.set_cons_zero, List.set_cons_succ, i64_w, i32_w]
                rfl
               refine pure_ (i := 24) (N := some 114) (v := ?_) (a' := ?_) #[true, true, true, true, true, true, true, true, true, true, true, true, true, true, true, true, true, true, true, true, true, true, true, true, true, false, false, false, false, false] rfl rfl (any_of HT_.out (by kernel_rfl)) (fun _ _ _ h => h) (Or.inl ⟨by rfl, ?_⟩) ?_ ?_
               rotate_left
               ·intro w'
                go_simp
                with_reducible rfl
               rotate_left
               ·simp only [Act.put, List.setIfInBounds_toArray, List.set_cons_zero, List.set_cons_succ, i64_w, i32_w]
                rfl
               refine pure_ (i := 25) (N := some 115) (v := ?_) (a' := ?_) #[true, true, true, true, true, true, true, true, true, true, true, true, true, true, true, true, true, true, true, true, true, true, true, true, true, true, false, false, false, false] rfl rfl (any_of HT_.out (by kernel_rfl)) (fun _ _ _ h => h) (Or.inl ⟨by rfl, ?_⟩) ?_ ?_
               rotate_left
               ·intro w'
                go_simp
                with_reducible rfl
               rotate_left
               ·simp only [Act.put, List.setIfInBounds_toArray, List.set_cons_zero, List.set_cons_succ, i64_w, i32_w]
                rfl
               refine pure_ (i := 26) (N := some 116) (v := ?_) (a' := ?_) #[true, true, true, true, true, true, true, true, true, true, true, true, true, true, true, true, true, true, true, true, true, true, true, true, true, true, true, false, false, false] rfl rfl (any_of HT_.out (by kernel_rfl)) (fun _ _ _ h => h) (Or.inl ⟨by rfl, ?_⟩) ?_ ?_
               rotate_left
               ·intro w'
                go_simp
                with_reducible rfl
               rotate_left
               ·simp only [Act.put, List.setIfInBounds_toArray, List.set_cons_zero, List.set_cons_succ, i64_w, i32_w]
                rfl
               refine one_ (i := 27) (N := some 117) #[true, true, true, true, true, true, true, true, true, true, true, true, true, true, true, true, true, true, true, true, true, true, true, true, true, true, true, true, false, false] rfl rfl (one_of HT_.out (by kernel_rfl)) (by decide) (fun K hK => ?_)
               refine goes_ Tryd.func11 (by kernel_rfl) rfl #[] (by rfl) rfl rfl (by (try simp only [List.map_toArray, List.map_cons, List.map_nil]); first | done | rfl | (simp only [List.length_drop, List.length_take]; rfl)) ?_
               with_reducible refine (barbicanlaw01_sure.calls  t159 _ ?side1 A332.out).mono ?_
               (case side1 => exact GE.below HG.out (bh_ HB))
               rintro e w338 ⟨rfl, hb⟩
               refine ⟨_, rfl, ?_⟩
               have n0_ := Aside0.mk (blk_below (g := gb124) (o := .cells #[.int .i64 a0_0, .int .u32 a0_1] 24 (0, 0)) (bk_ BK124) hb)
               have n1_ := Aside0.mk (blk_below (g := gb125) (o := .cells #[.int .i64 a1_0, .int .u32 a1_1] 24 (0, 0)) (bk_ BK125) hb)
               have n2_ := Aside0.mk (blk_below (g := gb126) (o := .cells #[.int .i64 a2_0, .int .u32 a2_1] 24 (0, 0)) (bk_ BK126) hb)
               have n3_ := Aside0.mk (blk_below (g := gb131) (o := .cells #[.int .i64 t127, .int .u32 t128] 24 (0, 0)) (bk_ BK131) hb)
               have n4_ := Aside0.mk (blk_below (g := gb132) (o := .cells #[.int .i64 t129, .int .u32 t130] 24 (0, 0)) (bk_ BK132) hb)
               have n5_ := Aside0.mk (below_step (bh_ HB) hb)
               clear BK124
               clear BK125
               clear BK126
               clear BK131
               clear BK132
               clear HB
               have BK124 := n0_
               have BK125 := n1_
               have BK126 := n2_
               have BK131 := n3_
               have BK132 := n4_
               have HB := n5_
               clear n0_ n1_ n2_ n3_ n4_ n5_
               (try clear hb); (try clear hb2); (try clear hk); (try clear hi)
               refine hK.out _ _ ⟨(blk_cell BK126.out 0).trans rfl, (blk_cell BK126.out 1).trans rfl, (blk_cell BK131.out 0).trans rfl, (blk_cell BK131.out 1).trans rfl, (blk_cell BK132.out 0).trans rfl, (blk_cell BK132.out 1).trans rfl, (blk_cell BK125.out 0).trans rfl, (blk_cell BK125.out 1).trans rfl, (blk_cell BK124.out 0).trans rfl, (blk_cell BK124.out 1).trans rfl⟩ (fun hHeld => ?_)
               clear hK K
               refine norm_ (a' := ?_) ?_ ?_
               rotate_left
               ·show Act.put _ (some 117) _ = _
                simp only [Act.put, List.setIfInBounds_toArray, List.set_cons_zero, List.set_cons_succ, i64_w, i32_w]
                rfl
               refine pure_ (i := 28) (N := some 118) (v := ?_) (a' := ?_) #[true, true, true, true, true, true, true, true, true, true, true, true, true, true, true, true, true, true, true, true, true, true, true, true, true, true, true, true, true, false] rfl rfl (any_of HT_.out (by kernel_rfl)) (fun _ _ _ h => h) (Or.inl ⟨by rfl, ?_⟩) ?_ ?_
               rotate_left
               ·intro w'
                go_simp
                with_reducible rfl
               rotate_left
               ·simp only [Act.put, List.setIfInBounds_toArray, List.set_cons_zero, List.set_cons_succ, i64_w, i32_w]
                rfl
               refine pure_ (i := 29) (N := some 6) (v := ?_) (a' := ?_) #[true, true, true, true, true, true, true, true, true, true, true, true, true, true, true, true, true, true, true, true, true, true, true, true, true, true, true, true, true, true] rfl rfl (any_of HT_.out (by kernel_rfl)) (fun _ _ _ h => h) (Or.inl ⟨by rfl, ?_⟩) ?_ ?_
               rotate_left
               ·intro w'
                go_simp
                with_reducible rfl
               rotate_left
               ·simp only [Act.put, List.setIfInBounds_toArray, List.set_cons_zero, List.set_cons_succ, i64_w, i32_w]
                rfl
               refine done_ (done_of HT_.out (by kernel_rfl)) ?_
               try go_wp2
               go_ret
               exact ⟨by first | rfl | (simp [errW_none, errW_some] <;> rfl) | (simp [*, errW_none, errW_some] <;> rfl), by repeat (first | (with_reducible first | exact HB.out | apply below_alloc | apply pw_below_drewN | apply below_drew1 | refine below_set ?_ GE124.out | refine below_set ?_ GE125.out | refine below_set ?_ GE126.out | refine below_set ?_ GE131.out | refine below_set ?_ GE132.out) | exact HB.out | exact below_undrew HB.out)⟩
              ·rw [if_neg c331] at H
               have c331b0 : (t129 == t157 && (t130 == t158)) = false := by simpa using c331
               (try (have c331b1 : decide (t129 = t157 && (t130 == t158)) = false := by simpa using c331))
               (try (have c331b2 : (t129 == t157 && (t130 == t158)) = false := by simpa using c331))
               (try (have c331b3 : ¬ (t129 = t157 && (t130 == t158)) := by simpa using c331))
               clear c331
               exact absurd (Option.some.inj H) (by rw [hT.out]; decide)
             ·rw [if_neg c329] at H
              have c329b0 : (t127 == t155 && (t128 == t156)) = false := by simpa using c329
              (try (have c329b1 : decide (t127 = t155 && (t128 == t156)) = false := by simpa using c329))
              (try (have c329b2 : (t127 == t155 && (t128 == t156)) = false := by simpa using c329))
              (try (have c329b3 : ¬ (t127 = t155 && (t128 == t156)) := by simpa using c329))
              clear c329
              exact absurd (Option.some.inj H) (by rw [hT.out]; decide)
            ·rw [if_neg c327] at H
             have c327b0 : (t154 == x10_47) = false := by simpa using c327
             (try (have c327b1 : decide (t154 = x10_47) = false := by simpa using c327))
             (try (have c327b2 : (t154 == x10_47) = false := by simpa using c327))
             (try (have c327b3 : ¬ (t154 = x10_47) := by simpa using c327))
             clear c327
             exact absurd (Option.some.inj H) (by rw [hT.out]; decide)
           ·rw [if_neg c325] at H
            have c325b0 : (t153 == x9_5) = false := by simpa using c325
            (try (have c325b1 : decide (t153 = x9_5) = false := by simpa using c325))
            (try (have c325b2 : (t153 == x9_5) = false := by simpa using c325))
            (try (have c325b3 : ¬ (t153 = x9_5) := by simpa using c325))
            clear c325
            exact absurd (Option.some.inj H) (by rw [hT.out]; decide)

end Go.Proofs.YtckgmbkhdgcldaaDoor.XOrd
