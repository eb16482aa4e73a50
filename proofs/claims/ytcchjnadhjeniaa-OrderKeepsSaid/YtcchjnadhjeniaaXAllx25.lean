/- Printed by this session's program (wip/print) out of the translation, for the statement named in the file's name. -/
import Derived.Test.YtcchjnadhjeniaaXAllx0
import Derived.Test.YtcchjnadhjeniaaXAllx6
import Derived.Test.YtcchjnadhjeniaaXAllx7
import Derived.Test.YtcchjnadhjeniaaXAllx11
import Derived.Test.YtcchjnadhjeniaaXAllx13
import Derived.Test.YtcchjnadhjeniaaXAllx23
import Derived.Test.YtcchjnadhjeniaaXAllx24
namespace Go.Proofs.Ytcchjnadhjeniaa.XAll
open Go.RowKit Go.Proofs.YtcchjnadhjeniaaW.PrintWords Go.Proofs.YtcchjnadhjeniaaW.PrintLast Go.Proofs.YtcchjnadhjeniaaW.PrintMore
attribute [local go_sem] str_gtr str_leq str_geq max2_int min2_int max_two min_two max_three min_three max_four min_four   -- for this text's walks alone
set_option linter.unusedVariables false
set_option linter.unusedSimpArgs false

/-! ### barbicanlaw06_OrderKeeps: function 5 -/
mutual
def barbicanlaw06_OrderKeeps.j0 : Nat → List (S36) → List (S36) → Int → ByteArray → ByteArray → Bool → Option (Bool)
  | 0, _, _, _, _, _, _ => none
  | k + 1, x0, x1, x2, x7, x9, x36 => if x36 = true then ((barbicanlaw06_sure.f k).bind fun t245 => (some t245)) else (if (Op.bytesLess x7.toList x9.toList) = true then (barbicanlaw06_OrderKeeps.j1 k x0 x1 x2 x7 (-1)) else (if (Op.bytesLess x9.toList x7.toList) = true then (barbicanlaw06_OrderKeeps.j1 k x0 x1 x2 x7 1) else (barbicanlaw06_OrderKeeps.j1 k x0 x1 x2 x7 0)))
def barbicanlaw06_OrderKeeps.j1 : Nat → List (S36) → List (S36) → Int → ByteArray → Int → Option (Bool)
  | 0, _, _, _, _, _ => none
  | k + 1, x0, x1, x2, x7, x11 => barbicanlaw06_OrderKeeps.l0 k x0 x1 x2 x7 x11 0 0
def barbicanlaw06_OrderKeeps.j3 : Nat → List (S36) → List (S36) → Int → ByteArray → Int → Int → Option (Bool)
  | 0, _, _, _, _, _, _ => none
  | k + 1, x0, x1, x2, x7, x11, x12 => if x12 = 0 then (barbicanlaw06_OrderKeeps.j4 k x0 x1 x2 x7 x11 x12 ((x0.length : Int) != (x1.length : Int))) else (barbicanlaw06_OrderKeeps.j4 k x0 x1 x2 x7 x11 x12 false)
def barbicanlaw06_OrderKeeps.j4 : Nat → List (S36) → List (S36) → Int → ByteArray → Int → Int → Bool → Option (Bool)
  | 0, _, _, _, _, _, _, _ => none
  | k + 1, x0, x1, x2, x7, x11, x12, x79 => if x79 = true then (if (x0.length : Int) < (x1.length : Int) then (barbicanlaw06_OrderKeeps.j5 k x0 x2 x7 x11 (-1)) else (barbicanlaw06_OrderKeeps.j5 k x0 x2 x7 x11 1)) else (barbicanlaw06_OrderKeeps.j5 k x0 x2 x7 x11 x12)
def barbicanlaw06_OrderKeeps.j5 : Nat → List (S36) → Int → ByteArray → Int → Int → Option (Bool)
  | 0, _, _, _, _, _ => none
  | k + 1, x0, x2, x7, x11, x12 => (order_Decode.f k x7).bind fun bt249 => (if (IntKind.u64.wrap (wrap64 ((x0.length : Int) + 1))) = 0 then (none) else (if 0 ≤ (wrap64 (Int.tmod (IntKind.u64.wrap (x2)) (IntKind.u64.wrap (wrap64 ((x0.length : Int) + 1))))) then (if (wrap64 (Int.tmod (IntKind.u64.wrap (x2)) (IntKind.u64.wrap (wrap64 ((x0.length : Int) + 1))))) ≤ (x0.length : Int) then ((barbicanlaw06_twin.f (x0.take ((wrap64 (Int.tmod (IntKind.u64.wrap (x2)) (IntKind.u64.wrap (wrap64 ((x0.length : Int) + 1))))) : Int).toNat)).bind fun t257 => ((order_Encode.f k t257).bind fun bt260 => (if x11 = x12 then (if bt249.2.isNone = true then ((barbicanlaw06_values.f k bt249.1 x0).bind fun t263 => (if t263 = true then (if bt260.2.isNone = true then (if (bt260.1.size : Int) ≤ (x7.size : Int) then (if 0 ≤ (bt260.1.size : Int) then (if (x7.extract 0 ((bt260.1.size : Int) : Int).toNat).toList = bt260.1.toList then ((barbicanlaw06_sure.f k).bind fun t265 => (some t265)) else (some false)) else (none)) else (some false)) else (some false)) else (some false))) else (some false)) else (some false)))) else (none)) else (none)))
def barbicanlaw06_OrderKeeps.l0 : Nat → List (S36) → List (S36) → Int → ByteArray → Int → Int → Int → Option (Bool)
  | 0, _, _, _, _, _, _, _ => none
  | k + 1, x0, x1, x2, x7, x11, x12, x13 => if x13 < (x0.length : Int) then (if x13 < (x1.length : Int) then (if x12 = 0 then (if 0 ≤ x13 then ((value_Compare.f ((rd_T36 x0 x13).f0) ((rd_T36 x0 x13).f1) ((rd_T36 x0 x13).f2) ((rd_T36 x0 x13).f3) ((rd_T36 x1 x13).f0) ((rd_T36 x1 x13).f1) ((rd_T36 x1 x13).f2) ((rd_T36 x1 x13).f3)).bind fun t248 => (barbicanlaw06_OrderKeeps.l0 k x0 x1 x2 x7 x11 t248 (wrap64 (x13 + 1)))) else (none)) else (barbicanlaw06_OrderKeeps.j3 k x0 x1 x2 x7 x11 x12)) else (barbicanlaw06_OrderKeeps.j3 k x0 x1 x2 x7 x11 x12)) else (barbicanlaw06_OrderKeeps.j3 k x0 x1 x2 x7 x11 x12)
end
def barbicanlaw06_OrderKeeps.f (k : Nat) (l0 : List (S36)) (l1 : List (S36)) (a2 : Int) : Option (Bool) := (barbicanlaw06_twin.f l0).bind fun t233 => ((order_Encode.f k t233).bind fun bt236 => ((barbicanlaw06_twin.f l1).bind fun t238 => ((order_Encode.f k t238).bind fun bt241 => (if bt236.2.isNone = true then (if bt241.2.isNone = true then (barbicanlaw06_OrderKeeps.j0 k l0 l1 a2 bt236.1 bt241.1 false) else (barbicanlaw06_OrderKeeps.j0 k l0 l1 a2 bt236.1 bt241.1 true)) else (barbicanlaw06_OrderKeeps.j0 k l0 l1 a2 bt236.1 bt241.1 true)))))
theorem barbicanlaw06_OrderKeeps.mono_l : ∀ k, (∀ y0 y1 y2 y3 y4 y5, LeO (barbicanlaw06_OrderKeeps.j0 k y0 y1 y2 y3 y4 y5) (barbicanlaw06_OrderKeeps.j0 (k + 1) y0 y1 y2 y3 y4 y5)) ∧ (∀ y0 y1 y2 y3 y4, LeO (barbicanlaw06_OrderKeeps.j1 k y0 y1 y2 y3 y4) (barbicanlaw06_OrderKeeps.j1 (k + 1) y0 y1 y2 y3 y4)) ∧ (∀ y0 y1 y2 y3 y4 y5, LeO (barbicanlaw06_OrderKeeps.j3 k y0 y1 y2 y3 y4 y5) (barbicanlaw06_OrderKeeps.j3 (k + 1) y0 y1 y2 y3 y4 y5)) ∧ (∀ y0 y1 y2 y3 y4 y5 y6, LeO (barbicanlaw06_OrderKeeps.j4 k y0 y1 y2 y3 y4 y5 y6) (barbicanlaw06_OrderKeeps.j4 (k + 1) y0 y1 y2 y3 y4 y5 y6)) ∧ (∀ y0 y1 y2 y3 y4, LeO (barbicanlaw06_OrderKeeps.j5 k y0 y1 y2 y3 y4) (barbicanlaw06_OrderKeeps.j5 (k + 1) y0 y1 y2 y3 y4)) ∧ (∀ y0 y1 y2 y3 y4 y5 y6, LeO (barbicanlaw06_OrderKeeps.l0 k y0 y1 y2 y3 y4 y5 y6) (barbicanlaw06_OrderKeeps.l0 (k + 1) y0 y1 y2 y3 y4 y5 y6))
  | 0 => ⟨fun _ _ _ _ _ _ r h => by simp [barbicanlaw06_OrderKeeps.j0] at h, fun _ _ _ _ _ r h => by simp [barbicanlaw06_OrderKeeps.j1] at h, fun _ _ _ _ _ _ r h => by simp [barbicanlaw06_OrderKeeps.j3] at h, fun _ _ _ _ _ _ _ r h => by simp [barbicanlaw06_OrderKeeps.j4] at h, fun _ _ _ _ _ r h => by simp [barbicanlaw06_OrderKeeps.j5] at h, fun _ _ _ _ _ _ _ r h => by simp [barbicanlaw06_OrderKeeps.l0] at h⟩
  | k + 1 => by
    obtain ⟨ih0, ih1, ih2, ih3, ih4, ih5⟩ := barbicanlaw06_OrderKeeps.mono_l k
    refine ⟨?_, ?_, ?_, ?_, ?_, ?_⟩
    · intro y0 y1 y2 y3 y4 y5
      unfold barbicanlaw06_OrderKeeps.j0
      repeat' first
      | (with_reducible exact ih0 _ _ _ _ _ _)
      | (with_reducible exact ih1 _ _ _ _ _)
      | (with_reducible exact ih2 _ _ _ _ _ _)
      | (with_reducible exact ih3 _ _ _ _ _ _ _)
      | (with_reducible exact ih4 _ _ _ _ _)
      | (with_reducible exact ih5 _ _ _ _ _ _ _)
      | (with_reducible exact barbicanlaw06_sure.mono _)
      | (with_reducible exact barbicanlaw06_values.mono _ _ _)
      | (with_reducible exact order_Decode.mono _ _)
      | (with_reducible exact order_Encode.mono _ _)
      | (with_reducible exact LeO.refl _)
      | (with_reducible exact LeO.none _)
      | (with_reducible refine LeO.ite ?_ ?_)
      | (with_reducible refine LeO.bind ?_ (fun _ => ?_))
      | exact ih0 _ _ _ _ _ _
      | exact ih1 _ _ _ _ _
      | exact ih2 _ _ _ _ _ _
      | exact ih3 _ _ _ _ _ _ _
      | exact ih4 _ _ _ _ _
      | exact ih5 _ _ _ _ _ _ _
      | exact barbicanlaw06_sure.mono _
      | exact barbicanlaw06_values.mono _ _ _
      | exact order_Decode.mono _ _
      | exact order_Encode.mono _ _
      | exact LeO.none _
      | refine LeO.ite ?_ ?_
      | refine LeO.bind ?_ (fun _ => ?_)
    · intro y0 y1 y2 y3 y4
      unfold barbicanlaw06_OrderKeeps.j1
      repeat' first
      | (with_reducible exact ih0 _ _ _ _ _ _)
      | (with_reducible exact ih1 _ _ _ _ _)
      | (with_reducible exact ih2 _ _ _ _ _ _)
      | (with_reducible exact ih3 _ _ _ _ _ _ _)
      | (with_reducible exact ih4 _ _ _ _ _)
      | (with_reducible exact ih5 _ _ _ _ _ _ _)
      | (with_reducible exact barbicanlaw06_sure.mono _)
      | (with_reducible exact barbicanlaw06_values.mono _ _ _)
      | (with_reducible exact order_Decode.mono _ _)
      | (with_reducible exact order_Encode.mono _ _)
      | (with_reducible exact LeO.refl _)
      | (with_reducible exact LeO.none _)
      | (with_reducible refine LeO.ite ?_ ?_)
      | (with_reducible refine LeO.bind ?_ (fun _ => ?_))
      | exact ih0 _ _ _ _ _ _
      | exact ih1 _ _ _ _ _
      | exact ih2 _ _ _ _ _ _
      | exact ih3 _ _ _ _ _ _ _
      | exact ih4 _ _ _ _ _
      | exact ih5 _ _ _ _ _ _ _
      | exact barbicanlaw06_sure.mono _
      | exact barbicanlaw06_values.mono _ _ _
      | exact order_Decode.mono _ _
      | exact order_Encode.mono _ _
      | exact LeO.none _
      | refine LeO.ite ?_ ?_
      | refine LeO.bind ?_ (fun _ => ?_)
    · intro y0 y1 y2 y3 y4 y5
      unfold barbicanlaw06_OrderKeeps.j3
      repeat' first
      | (with_reducible exact ih0 _ _ _ _ _ _)
      | (with_reducible exact ih1 _ _ _ _ _)
      | (with_reducible exact ih2 _ _ _ _ _ _)
      | (with_reducible exact ih3 _ _ _ _ _ _ _)
      | (with_reducible exact ih4 _ _ _ _ _)
      | (with_reducible exact ih5 _ _ _ _ _ _ _)
      | (with_reducible exact barbicanlaw06_sure.mono _)
      | (with_reducible exact barbicanlaw06_values.mono _ _ _)
      | (with_reducible exact order_Decode.mono _ _)
      | (with_reducible exact order_Encode.mono _ _)
      | (with_reducible exact LeO.refl _)
      | (with_reducible exact LeO.none _)
      | (with_reducible refine LeO.ite ?_ ?_)
      | (with_reducible refine LeO.bind ?_ (fun _ => ?_))
      | exact ih0 _ _ _ _ _ _
      | exact ih1 _ _ _ _ _
      | exact ih2 _ _ _ _ _ _
      | exact ih3 _ _ _ _ _ _ _
      | exact ih4 _ _ _ _ _
      | exact ih5 _ _ _ _ _ _ _
      | exact barbicanlaw06_sure.mono _
      | exact barbicanlaw06_values.mono _ _ _
      | exact order_Decode.mono _ _
      | exact order_Encode.mono _ _
      | exact LeO.none _
      | refine LeO.ite ?_ ?_
      | refine LeO.bind ?_ (fun _ => ?_)
    · intro y0 y1 y2 y3 y4 y5 y6
      unfold barbicanlaw06_OrderKeeps.j4
      repeat' first
      | (with_reducible exact ih0 _ _ _ _ _ _)
      | (with_reducible exact ih1 _ _ _ _ _)
      | (with_reducible exact ih2 _ _ _ _ _ _)
      | (with_reducible exact ih3 _ _ _ _ _ _ _)
      | (with_reducible exact ih4 _ _ _ _ _)
      | (with_reducible exact ih5 _ _ _ _ _ _ _)
      | (with_reducible exact barbicanlaw06_sure.mono _)
      | (with_reducible exact barbicanlaw06_values.mono _ _ _)
      | (with_reducible exact order_Decode.mono _ _)
      | (with_reducible exact order_Encode.mono _ _)
      | (with_reducible exact LeO.refl _)
      | (with_reducible exact LeO.none _)
      | (with_reducible refine LeO.ite ?_ ?_)
      | (with_reducible refine LeO.bind ?_ (fun _ => ?_))
      | exact ih0 _ _ _ _ _ _
      | exact ih1 _ _ _ _ _
      | exact ih2 _ _ _ _ _ _
      | exact ih3 _ _ _ _ _ _ _
      | exact ih4 _ _ _ _ _
      | exact ih5 _ _ _ _ _ _ _
      | exact barbicanlaw06_sure.mono _
      | exact barbicanlaw06_values.mono _ _ _
      | exact order_Decode.mono _ _
      | exact order_Encode.mono _ _
      | exact LeO.none _
      | refine LeO.ite ?_ ?_
      | refine LeO.bind ?_ (fun _ => ?_)
    · intro y0 y1 y2 y3 y4
      unfold barbicanlaw06_OrderKeeps.j5
      repeat' first
      | (with_reducible exact ih0 _ _ _ _ _ _)
      | (with_reducible exact ih1 _ _ _ _ _)
      | (with_reducible exact ih2 _ _ _ _ _ _)
      | (with_reducible exact ih3 _ _ _ _ _ _ _)
      | (with_reducible exact ih4 _ _ _ _ _)
      | (with_reducible exact ih5 _ _ _ _ _ _ _)
      | (with_reducible exact barbicanlaw06_sure.mono _)
      | (with_reducible exact barbicanlaw06_values.mono _ _ _)
      | (with_reducible exact order_Decode.mono _ _)
      | (with_reducible exact order_Encode.mono _ _)
      | (with_reducible exact LeO.refl _)
      | (with_reducible exact LeO.none _)
      | (with_reducible refine LeO.ite ?_ ?_)
      | (with_reducible refine LeO.bind ?_ (fun _ => ?_))
      | exact ih0 _ _ _ _ _ _
      | exact ih1 _ _ _ _ _
      | exact ih2 _ _ _ _ _ _
      | exact ih3 _ _ _ _ _ _ _
      | exact ih4 _ _ _ _ _
      | exact ih5 _ _ _ _ _ _ _
      | exact barbicanlaw06_sure.mono _
      | exact barbicanlaw06_values.mono _ _ _
      | exact order_Decode.mono _ _
      | exact order_Encode.mono _ _
      | exact LeO.none _
      | refine LeO.ite ?_ ?_
      | refine LeO.bind ?_ (fun _ => ?_)
    · intro y0 y1 y2 y3 y4 y5 y6
      unfold barbicanlaw06_OrderKeeps.l0
      repeat' first
      | (with_reducible exact ih0 _ _ _ _ _ _)
      | (with_reducible exact ih1 _ _ _ _ _)
      | (with_reducible exact ih2 _ _ _ _ _ _)
      | (with_reducible exact ih3 _ _ _ _ _ _ _)
      | (with_reducible exact ih4 _ _ _ _ _)
      | (with_reducible exact ih5 _ _ _ _ _ _ _)
      | (with_reducible exact barbicanlaw06_sure.mono _)
      | (with_reducible exact barbicanlaw06_values.mono _ _ _)
      | (with_reducible exact order_Decode.mono _ _)
      | (with_reducible exact order_Encode.mono _ _)
      | (with_reducible exact LeO.refl _)
      | (with_reducible exact LeO.none _)
      | (with_reducible refine LeO.ite ?_ ?_)
      | (with_reducible refine LeO.bind ?_ (fun _ => ?_))
      | exact ih0 _ _ _ _ _ _
      | exact ih1 _ _ _ _ _
      | exact ih2 _ _ _ _ _ _
      | exact ih3 _ _ _ _ _ _ _
      | exact ih4 _ _ _ _ _
      | exact ih5 _ _ _ _ _ _ _
      | exact barbicanlaw06_sure.mono _
      | exact barbicanlaw06_values.mono _ _ _
      | exact order_Decode.mono _ _
      | exact order_Encode.mono _ _
      | exact LeO.none _
      | refine LeO.ite ?_ ?_
      | refine LeO.bind ?_ (fun _ => ?_)
theorem barbicanlaw06_OrderKeeps.mono : ∀ a0 a1 a2 k, LeO (barbicanlaw06_OrderKeeps.f k a0 a1 a2) (barbicanlaw06_OrderKeeps.f (k + 1) a0 a1 a2) := by
  intro a0 a1 a2 k
  obtain ⟨ih0, ih1, ih2, ih3, ih4, ih5⟩ := barbicanlaw06_OrderKeeps.mono_l k
  unfold barbicanlaw06_OrderKeeps.f
  repeat' first
      | (with_reducible exact ih0 _ _ _ _ _ _)
      | (with_reducible exact ih1 _ _ _ _ _)
      | (with_reducible exact ih2 _ _ _ _ _ _)
      | (with_reducible exact ih3 _ _ _ _ _ _ _)
      | (with_reducible exact ih4 _ _ _ _ _)
      | (with_reducible exact ih5 _ _ _ _ _ _ _)
      | (with_reducible exact barbicanlaw06_sure.mono _)
      | (with_reducible exact barbicanlaw06_values.mono _ _ _)
      | (with_reducible exact order_Decode.mono _ _)
      | (with_reducible exact order_Encode.mono _ _)
      | (with_reducible exact LeO.refl _)
      | (with_reducible exact LeO.none _)
      | (with_reducible refine LeO.ite ?_ ?_)
      | (with_reducible refine LeO.bind ?_ (fun _ => ?_))
      | exact ih0 _ _ _ _ _ _
      | exact ih1 _ _ _ _ _
      | exact ih2 _ _ _ _ _ _
      | exact ih3 _ _ _ _ _ _ _
      | exact ih4 _ _ _ _ _
      | exact ih5 _ _ _ _ _ _ _
      | exact barbicanlaw06_sure.mono _
      | exact barbicanlaw06_values.mono _ _ _
      | exact order_Decode.mono _ _
      | exact order_Encode.mono _ _
      | exact LeO.none _
      | refine LeO.ite ?_ ?_
      | refine LeO.bind ?_ (fun _ => ?_)
def barbicanlaw06_OrderKeeps.T14 : Bool × List (List Nat × List Nat) := (true, [([], []), ([], []), ([0, 1], [0, 1]), ([2], [2]), ([], []), ([], []), ([4, 5], [4, 5]), ([6], [6]), ([3, 7], [3, 7]), ([8, 8, 0, 1, 2, 3, 4, 5, 6, 7, 8], [8])])
def barbicanlaw06_OrderKeeps.B14 : List Nat := [0, 0, 3, 7, 0, 0, 48, 112, 255, 511]
theorem barbicanlaw06_OrderKeeps.tab14 : rtab .any (opsOf Try.f5 14) = barbicanlaw06_OrderKeeps.T14 := by kernel_rfl
theorem barbicanlaw06_OrderKeeps.bits14 : waitsOk barbicanlaw06_OrderKeeps.T14.2 barbicanlaw06_OrderKeeps.B14 = true := by kernel_rfl
set_option maxHeartbeats 8000000 in
set_option maxRecDepth 100000 in
theorem barbicanlaw06_OrderKeeps.calls (k : Nat) (A0 : Option Addr) (c0 : Nat) (l0 : List (S36)) (A1 : Option Addr) (c1 : Nat) (l1 : List (S36)) (a2 : Int) (r : Bool) (w : World) (hr0 : Kd.C k36 w A0 l0.length l0) (hc0 : l0.length ≤ c0) (hr1 : Kd.C k36 w A1 l1.length l1) (hc1 : l1.length ≤ c1) (h : barbicanlaw06_OrderKeeps.f k l0 l1 a2 = some r) (hT : Aside0 (r = true)) :
    Calls Try.prog 5 #[.slice A0 l0.length c0, .slice A1 l1.length c1, .int .i64 a2] w fun e w' => e = .returned (.bool r) ∧ Below w.heap.size w w' := by
  have hu36 := Try.underlying36
  have hu31 := Try.underlying31
  have hu44 := Try.underlying44
  have HR0 := Aside0.mk hr0
  have HC0 := Aside0.mk hc0
  clear hr0 hc0
  have HR1 := Aside0.mk hr1
  have HC1 := Aside0.mk hc1
  clear hr1 hc1
  have HB := Aside0.mk (Below.refl w.heap.size w)
  have H : ((barbicanlaw06_twin.f l0).bind fun t233 => ((order_Encode.f k t233).bind fun bt236 => ((barbicanlaw06_twin.f l1).bind fun t238 => ((order_Encode.f k t238).bind fun bt241 => (if bt236.2.isNone = true then (if bt241.2.isNone = true then (barbicanlaw06_OrderKeeps.j0 k l0 l1 a2 bt236.1 bt241.1 false) else (barbicanlaw06_OrderKeeps.j0 k l0 l1 a2 bt236.1 bt241.1 true)) else (barbicanlaw06_OrderKeeps.j0 k l0 l1 a2 bt236.1 bt241.1 true)))))) = some r := h
  clear h
  replace H := Option.bind_eq_some_iff.mp H
  obtain ⟨t233, A40, H⟩ := H
  replace H : ((order_Encode.f k t233).bind fun bt236 => ((barbicanlaw06_twin.f l1).bind fun t238 => ((order_Encode.f k t238).bind fun bt241 => (if bt236.2.isNone = true then (if bt241.2.isNone = true then (barbicanlaw06_OrderKeeps.j0 k l0 l1 a2 bt236.1 bt241.1 false) else (barbicanlaw06_OrderKeeps.j0 k l0 l1 a2 bt236.1 bt241.1 true)) else (barbicanlaw06_OrderKeeps.j0 k l0 l1 a2 bt236.1 bt241.1 true))))) = some r := H
  have A4 := Aside0.mk A40
  clear A40
  replace H := Option.bind_eq_some_iff.mp H
  obtain ⟨⟨t236, t237⟩, A50, H⟩ := H
  replace H : ((barbicanlaw06_twin.f l1).bind fun t238 => ((order_Encode.f k t238).bind fun bt241 => (if t237.isNone = true then (if bt241.2.isNone = true then (barbicanlaw06_OrderKeeps.j0 k l0 l1 a2 t236 bt241.1 false) else (barbicanlaw06_OrderKeeps.j0 k l0 l1 a2 t236 bt241.1 true)) else (barbicanlaw06_OrderKeeps.j0 k l0 l1 a2 t236 bt241.1 true)))) = some r := H
  have A5 := Aside0.mk A50
  clear A50
  replace H := Option.bind_eq_some_iff.mp H
  obtain ⟨t238, A60, H⟩ := H
  replace H : ((order_Encode.f k t238).bind fun bt241 => (if t237.isNone = true then (if bt241.2.isNone = true then (barbicanlaw06_OrderKeeps.j0 k l0 l1 a2 t236 bt241.1 false) else (barbicanlaw06_OrderKeeps.j0 k l0 l1 a2 t236 bt241.1 true)) else (barbicanlaw06_OrderKeeps.j0 k l0 l1 a2 t236 bt241.1 true))) = some r := H
  have A6 := Aside0.mk A60
  clear A60
  replace H := Option.bind_eq_some_iff.mp H
  obtain ⟨⟨t241, t242⟩, A70, H⟩ := H
  replace H : (if t237.isNone = true then (if t242.isNone = true then (barbicanlaw06_OrderKeeps.j0 k l0 l1 a2 t236 t241 false) else (barbicanlaw06_OrderKeeps.j0 k l0 l1 a2 t236 t241 true)) else (barbicanlaw06_OrderKeeps.j0 k l0 l1 a2 t236 t241 true)) = some r := H
  have A7 := Aside0.mk A70
  clear A70
  have HC8 := Aside0.mk H
  clear H
  go_enter Try.func5, Try.ntmps5
  go_upto_region 3 with (first | ((with_reducible refine gate_callee (f := 9) rfl ?_); refine goesL_ (some 21) rfl rfl Try.func9 (by kernel_rfl) rfl #[.slice A0 l0.length c0] rfl (by (try simp only [List.map_toArray, List.map_cons, List.map_nil]); first | done | rfl | (simp only [List.length_drop, List.length_take]; rfl)) ?_; (with_reducible refine (barbicanlaw06_twin.calls _ _ l0 t233 _ ?side1 ?side2 A4.out).mono ?_); (case side1 => repeat (first | exact HR0.out | (with_reducible refine Kd.C_alloc ?_ _) | (with_reducible refine Kd.C_drewN ?_ _) | (with_reducible refine Kd.C_drew ?_))); (case side2 => exact HC0.out); rintro e w9 ⟨v234, rfl, ho0, hb⟩; refine ⟨_, rfl, ?_⟩; have n0_ := Aside0.mk (Kd.R_lower ho0 (below_size (by repeat (first | (with_reducible first | exact HB.out | apply below_alloc | apply pw_below_drewN | apply below_drew1) | exact HB.out | exact below_undrew HB.out)))); have n1_ := Aside0.mk (below_step (by repeat (first | (with_reducible first | exact HB.out | apply below_alloc | apply pw_below_drewN | apply below_drew1) | exact HB.out | exact below_undrew HB.out)) hb); clear HB; have HO235 := n0_; have HB := n1_; clear n0_ n1_; (try clear hb); (try clear hb2); (try clear hk); (try clear hi); (try clear ho0); obtain ⟨Ao10, co10, eo10⟩ := Kd.R_slice HO235.out; subst eo10) | ((with_reducible refine gate_callee (f := 11) rfl ?_); refine goesL_ (some 22) rfl rfl Try.func11 (by kernel_rfl) rfl #[.slice Ao10 t233.length co10] rfl (by (try simp only [List.map_toArray, List.map_cons, List.map_nil]); first | done | rfl | (simp only [List.length_drop, List.length_take]; rfl)) ?_; (with_reducible refine (order_Encode.calls k _ _ t233 t236 t237 _ ?side1 ?side2 A5.out).mono ?_); (case side1 => repeat (first | exact (Kd.R_reads' HO235.out).2.2 | (with_reducible refine Kd.C_alloc ?_ _) | (with_reducible refine Kd.C_drewN ?_ _) | (with_reducible refine Kd.C_drew ?_))); (case side2 => exact (Kd.R_reads' HO235.out).2.1); rintro e w11 ⟨rfl, hb⟩; refine ⟨_, rfl, ?_⟩; have n0_ := Aside0.mk (Kd.R_below (by (with_reducible repeat (first | apply Kd.R_alloc | apply Kd.R_drewN | apply Kd.R_drew)); exact HO235.out) hb); have n1_ := Aside0.mk (below_step (by repeat (first | (with_reducible first | exact HB.out | apply below_alloc | apply pw_below_drewN | apply below_drew1) | exact HB.out | exact below_undrew HB.out)) hb); clear HO235; clear HB; have HO235 := n0_; have HB := n1_; clear n0_ n1_; (try clear hb); (try clear hb2); (try clear hk); (try clear hi); (try simp only [errW_none, errW_some])) | ((with_reducible refine gate_callee (f := 9) rfl ?_); refine goesL_ (some 27) rfl rfl Try.func9 (by kernel_rfl) rfl #[.slice A1 l1.length c1] rfl (by (try simp only [List.map_toArray, List.map_cons, List.map_nil]); first | done | rfl | (simp only [List.length_drop, List.length_take]; rfl)) ?_; (with_reducible refine (barbicanlaw06_twin.calls _ _ l1 t238 _ ?side1 ?side2 A6.out).mono ?_); (case side1 => repeat (first | exact (Kd.C_below HR1.out HB.out) | (with_reducible refine Kd.C_alloc ?_ _) | (with_reducible refine Kd.C_drewN ?_ _) | (with_reducible refine Kd.C_drew ?_))); (case side2 => exact HC1.out); rintro e w12 ⟨v239, rfl, ho0, hb⟩; refine ⟨_, rfl, ?_⟩; have n0_ := Aside0.mk (Kd.R_elder' (by (with_reducible repeat (first | apply Kd.R_alloc | apply Kd.R_drewN | apply Kd.R_drew)); exact HO235.out) (Kd.R_base ho0) hb); have n1_ := Aside0.mk (Kd.R_lower (Kd.R_new' ho0 (Kd.R_lt (by (with_reducible repeat (first | apply Kd.R_alloc | apply Kd.R_drewN | apply Kd.R_drew)); exact HO235.out))) (below_size (by repeat (first | (with_reducible first | exact HB.out | apply below_alloc | apply pw_below_drewN | apply below_drew1) | exact HB.out | exact below_undrew HB.out)))); have n2_ := Aside0.mk (below_step (by repeat (first | (with_reducible first | exact HB.out | apply below_alloc | apply pw_below_drewN | apply below_drew1) | exact HB.out | exact below_undrew HB.out)) hb); clear HO235; clear HB; have HO235 := n0_; have HO240 := n1_; have HB := n2_; clear n0_ n1_ n2_; (try clear hb); (try clear hb2); (try clear hk); (try clear hi); (try clear ho0); obtain ⟨Ao13, co13, eo13⟩ := Kd.R_slice HO240.out; subst eo13) | ((with_reducible refine gate_callee (f := 11) rfl ?_); refine goesL_ (some 28) rfl rfl Try.func11 (by kernel_rfl) rfl #[.slice Ao13 t238.length co13] rfl (by (try simp only [List.map_toArray, List.map_cons, List.map_nil]); first | done | rfl | (simp only [List.length_drop, List.length_take]; rfl)) ?_; (with_reducible refine (order_Encode.calls k _ _ t238 t241 t242 _ ?side1 ?side2 A7.out).mono ?_); (case side1 => repeat (first | exact (Kd.R_reads' HO240.out).2.2 | (with_reducible refine Kd.C_alloc ?_ _) | (with_reducible refine Kd.C_drewN ?_ _) | (with_reducible refine Kd.C_drew ?_))); (case side2 => exact (Kd.R_reads' HO240.out).2.1); rintro e w14 ⟨rfl, hb⟩; refine ⟨_, rfl, ?_⟩; have n0_ := Aside0.mk (Kd.R_below (by (with_reducible repeat (first | apply Kd.R_alloc | apply Kd.R_drewN | apply Kd.R_drew)); exact HO235.out) hb); have n1_ := Aside0.mk (Kd.R_below (by (with_reducible repeat (first | apply Kd.R_alloc | apply Kd.R_drewN | apply Kd.R_drew)); exact HO240.out) hb); have n2_ := Aside0.mk (below_step (by repeat (first | (with_reducible first | exact HB.out | apply below_alloc | apply pw_below_drewN | apply below_drew1) | exact HB.out | exact below_undrew HB.out)) hb); clear HO235; clear HO240; clear HB; have HO235 := n0_; have HO240 := n1_; have HB := n2_; clear n0_ n1_ n2_; (try clear hb); (try clear hb2); (try clear hk); (try clear hi); (try simp only [errW_none, errW_some])))
  (try simp only [Act.put, List.setIfInBounds_toArray, List.set_cons_zero, List.set_cons_succ])
  go_cut [36] (fun v36 wc => ∃ (kq : Nat) (x36_7 : Bool), v36 = .bool x36_7 ∧ Aside0 (barbicanlaw06_OrderKeeps.j0 kq l0 l1 a2 t236 t241 x36_7 = some r) ∧ Aside0 (kq ≤ k) ∧ Aside0 (Below w.heap.size w wc))
  case first =>
    have H := HC8.out
    clear HC8
    rcases t237 with _ | q243
    · have H1 : (if t242.isNone = true then (barbicanlaw06_OrderKeeps.j0 k l0 l1 a2 t236 t241 false) else (barbicanlaw06_OrderKeeps.j0 k l0 l1 a2 t236 t241 true)) = some r := by rw [if_pos (show (none : Option Int).isNone = true by rfl)] at H; exact H
      clear H
      have H := H1
      clear H1
      try simp only [errW_none, errW_some]
      rcases t242 with _ | q244
      · have H1 : (barbicanlaw06_OrderKeeps.j0 k l0 l1 a2 t236 t241 false) = some r := by rw [if_pos (show (none : Option Int).isNone = true by rfl)] at H; exact H
        clear H
        have H := H1
        clear H1
        try simp only [errW_none, errW_some]
        have H' := Aside0.mk H
        clear H
        go_wp2
        go_meet
        case rel => exact ⟨_, (false), (by first | rfl | (simp; done) | (simp [*]; done)), H', ⟨by first | omega | exact Nat.le_refl _⟩, ⟨by repeat (first | (with_reducible first | exact HB.out | apply below_alloc | apply pw_below_drewN | apply below_drew1) | exact HB.out | exact below_undrew HB.out)⟩⟩
      · have H1 : (barbicanlaw06_OrderKeeps.j0 k l0 l1 a2 t236 t241 true) = some r := by rw [if_neg (show ¬ (some q244).isNone = true by simp)] at H; exact H
        clear H
        have H := H1
        clear H1
        try simp only [errW_none, errW_some]
        have H' := Aside0.mk H
        clear H
        go_wp2
        go_meet
        case rel => exact ⟨_, (true), (by first | rfl | (simp; done) | (simp [*]; done)), H', ⟨by first | omega | exact Nat.le_refl _⟩, ⟨by repeat (first | (with_reducible first | exact HB.out | apply below_alloc | apply pw_below_drewN | apply below_drew1) | exact HB.out | exact below_undrew HB.out)⟩⟩
    · have H1 : (barbicanlaw06_OrderKeeps.j0 k l0 l1 a2 t236 t241 true) = some r := by rw [if_neg (show ¬ (some q243).isNone = true by simp)] at H; exact H
      clear H
      have H := H1
      clear H1
      try simp only [errW_none, errW_some]
      have H' := Aside0.mk H
      clear H
      go_wp2
      go_meet
      case rel => exact ⟨_, (true), (by first | rfl | (simp; done) | (simp [*]; done)), H', ⟨by first | omega | exact Nat.le_refl _⟩, ⟨by repeat (first | (with_reducible first | exact HB.out | apply below_alloc | apply pw_below_drewN | apply below_drew1) | exact HB.out | exact below_undrew HB.out)⟩⟩
  case rest =>
    clear HC8
    try clear c1
    try clear p2
    try clear q2
    try clear c5
    try clear c9
    try clear c11
    try clear q243
    try clear q244
    obtain ⟨kq, x36_7, rfl, HA, HJ7, HB⟩ := hcut
    cases kq with
    | zero => exact absurd HA.out (by simp [barbicanlaw06_OrderKeeps.j0])
    | succ kj7 =>
      have H := HA.out
      clear HA
      simp only [barbicanlaw06_OrderKeeps.j0] at H
      by_cases c15 : x36_7 = true
      · subst c15
        have H1 : ((barbicanlaw06_sure.f kj7).bind fun t245 => (some t245)) = some r := by rw [if_pos rfl] at H; exact H
        clear H
        have H := H1
        clear H1
        replace H := Option.bind_eq_some_iff.mp H
        obtain ⟨t245, A160, H⟩ := H
        replace H : (some t245) = some r := H
        have A16 := Aside0.mk A160
        clear A160
        obtain rfl := Option.some.inj H
        go_wp2_with (first | ((with_reducible refine gate_callee (f := 7) rfl ?_); refine goesL_ (some 37) rfl rfl Try.func7 (by kernel_rfl) rfl #[] rfl (by (try simp only [List.map_toArray, List.map_cons, List.map_nil]); first | done | rfl | (simp only [List.length_drop, List.length_take]; rfl)) ?_; (with_reducible refine (barbicanlaw06_sure.calls kj7  t245 _ A16.out).mono ?_); rintro e w17 ⟨rfl, hb⟩; refine ⟨_, rfl, ?_⟩; have n0_ := Aside0.mk (below_step (by repeat (first | (with_reducible first | exact HB.out | apply below_alloc | apply pw_below_drewN | apply below_drew1) | exact HB.out | exact below_undrew HB.out)) hb); clear HB; have HB := n0_; clear n0_; (try clear hb); (try clear hb2); (try clear hk); (try clear hi)))
        go_ret
        exact ⟨by first | rfl | (simp [errW_none, errW_some] <;> rfl) | (simp [*, errW_none, errW_some] <;> rfl), by repeat (first | (with_reducible first | exact HB.out | apply below_alloc | apply pw_below_drewN | apply below_drew1) | exact HB.out | exact below_undrew HB.out)⟩
      · replace c15 := Bool.eq_false_iff.mpr c15
        subst c15
        have H1 : (if (Op.bytesLess t236.toList t241.toList) = true then (barbicanlaw06_OrderKeeps.j1 kj7 l0 l1 a2 t236 (-1)) else (if (Op.bytesLess t241.toList t236.toList) = true then (barbicanlaw06_OrderKeeps.j1 kj7 l0 l1 a2 t236 1) else (barbicanlaw06_OrderKeeps.j1 kj7 l0 l1 a2 t236 0))) = some r := by rw [if_neg (show ¬ (false = true) by decide)] at H; exact H
        clear H
        have H := H1
        clear H1
        have HC18 := Aside0.mk H
        clear H
        go_upto_block 0 with (fail)
        go_cut [11] (fun v11 wc => ∃ (kq : Nat) (x11_17 : Int), v11 = .int .i64 x11_17 ∧ Aside0 (barbicanlaw06_OrderKeeps.j1 kq l0 l1 a2 t236 x11_17 = some r) ∧ Aside0 (kq ≤ kj7) ∧ Aside0 (Below w.heap.size w wc))
        case first =>
          have H := HC18.out
          clear HC18
          by_cases c19 : (Op.bytesLess t236.toList t241.toList) = true
          · rw [if_pos c19] at H
            have c19b0 : (Op.bytesLess t236.toList t241.toList) = true := c19
            clear c19
            (first | rw [c19b0] | (simp only [i64_w, i32_w]; rw [c19b0]) | skip)
            have H' := Aside0.mk H
            clear H
            go_wp2
            go_meet
            case rel => exact ⟨_, ((-1)), (by first | rfl | (simp; done) | (simp [*]; done)), H', ⟨by have := HJ7.out; first | omega | exact Nat.le_refl _⟩, ⟨by repeat (first | (with_reducible first | exact HB.out | apply below_alloc | apply pw_below_drewN | apply below_drew1) | exact HB.out | exact below_undrew HB.out)⟩⟩
          · rw [if_neg c19] at H
            have c19b0 : (Op.bytesLess t236.toList t241.toList) = false := by simpa using c19
            clear c19
            (first | rw [c19b0] | (simp only [i64_w, i32_w]; rw [c19b0]) | skip)
            by_cases c20 : (Op.bytesLess t241.toList t236.toList) = true
            · rw [if_pos c20] at H
              have c20b0 : (Op.bytesLess t241.toList t236.toList) = true := c20
              clear c20
              have H' := Aside0.mk H
              clear H
              go_wp2
              go_meet
              case rel => exact ⟨_, (1), (by first | rfl | (simp; done) | (simp [*]; done)), H', ⟨by have := HJ7.out; first | omega | exact Nat.le_refl _⟩, ⟨by repeat (first | (with_reducible first | exact HB.out | apply below_alloc | apply pw_below_drewN | apply below_drew1) | exact HB.out | exact below_undrew HB.out)⟩⟩
            · rw [if_neg c20] at H
              have c20b0 : (Op.bytesLess t241.toList t236.toList) = false := by simpa using c20
              clear c20
              have H' := Aside0.mk H
              clear H
              go_wp2
              go_meet
              case rel => exact ⟨_, (0), (by first | rfl | (simp; done) | (simp [*]; done)), H', ⟨by have := HJ7.out; first | omega | exact Nat.le_refl _⟩, ⟨by repeat (first | (with_reducible first | exact HB.out | apply below_alloc | apply pw_below_drewN | apply below_drew1) | exact HB.out | exact below_undrew HB.out)⟩⟩
        case rest =>
          clear HC18
          try clear c1
          try clear c2
          try clear p2
          try clear q2
          try clear c5
          try clear c7
          try clear c9
          try clear c11
          try clear c15
          try clear c19
          try clear c19b0
          try clear c20
          try clear c20b0
          try clear p2
          try clear q2
          try clear q243
          try clear q244
          obtain ⟨kq, x11_17, rfl, HA, HJ17, HB⟩ := hcut
          cases kq with
          | zero => exact absurd HA.out (by simp [barbicanlaw06_OrderKeeps.j1])
          | succ kj17 =>
            have H := HA.out
            clear HA
            simp only [barbicanlaw06_OrderKeeps.j1] at H
            have HC21 := Aside0.mk H
            clear H
            go_upto_block 1 with (fail)
            go_cut [12] (fun v12 wc => ∃ (kq : Nat) (x12_20 : Int), v12 = .int .i64 x12_20 ∧ Aside0 (barbicanlaw06_OrderKeeps.j3 kq l0 l1 a2 t236 x11_17 x12_20 = some r) ∧ Aside0 (kq ≤ kj17) ∧ Aside0 (Below w.heap.size w wc))
            case first =>
              have H := HC21.out
              clear HC21
              have H' := Aside0.mk H
              clear H
              go_wp2
              go_loopg [12, 13] kj17 (fun kq v12 v13 w' => ∃ (x12_3 : Int) (x13_3 : Int), v12 = .int .i64 x12_3 ∧ v13 = .int .i64 x13_3 ∧ Aside0 (barbicanlaw06_OrderKeeps.l0 kq l0 l1 a2 t236 x11_17 x12_3 x13_3 = some r) ∧ Aside0 (kq ≤ kj17) ∧ Aside0 (Below w.heap.size w w'))
              case atStart => exact ⟨(0), (0), (by first | rfl | (simp; done) | (simp [*]; done)), (by first | rfl | (simp; done) | (simp [*]; done)), H', ⟨Nat.le_refl _⟩, ⟨by repeat (first | (with_reducible first | exact HB.out | apply below_alloc | apply pw_below_drewN | apply below_drew1) | exact HB.out | exact below_undrew HB.out)⟩⟩
              case round =>
                clear H'
                try clear c1
                try clear c2
                try clear p2
                try clear q2
                try clear c5
                try clear c7
                try clear c9
                try clear c11
                try clear c15
                try clear c19
                try clear c19b0
                try clear c20
                try clear c20b0
                try clear p2
                try clear q2
                try clear q243
                try clear q244
                obtain ⟨x12_3, x13_3, rfl, rfl, HA, HK3, HB⟩ := hrel
                cases gk with
                | zero => exact absurd HA.out (by simp [barbicanlaw06_OrderKeeps.l0])
                | succ k3 =>
                  have H := HA.out
                  clear HA
                  simp only [barbicanlaw06_OrderKeeps.l0] at H
                  by_cases c22 : x13_3 < (l0.length : Int)
                  · rw [if_pos c22] at H
                    have c22b0 : decide (x13_3 < (l0.length : Int)) = true := decide_eq_true c22
                    clear c22
                    (first | rw [c22b0] | (simp only [i64_w, i32_w]; rw [c22b0]) | skip)
                    by_cases c23 : x13_3 < (l1.length : Int)
                    · rw [if_pos c23] at H
                      have c23b0 : decide (x13_3 < (l1.length : Int)) = true := decide_eq_true c23
                      clear c23
                      by_cases c24 : x12_3 = 0
                      · rw [if_pos c24] at H
                        have c24b0 : (x12_3 == 0) = true := beq_iff_eq.mpr c24
                        have c24b1 : (x12_3 != 0) = false := bne_eq_false_iff_eq.mpr c24
                        clear c24
                        by_cases c25 : 0 ≤ x13_3
                        · rw [if_pos c25] at H
                          have c25b0 : decide (0 ≤ x13_3) = true := decide_eq_true c25
                          clear c25
                          replace H := Option.bind_eq_some_iff.mp H
                          obtain ⟨t248, A260, H⟩ := H
                          replace H : (barbicanlaw06_OrderKeeps.l0 k3 l0 l1 a2 t236 x11_17 t248 (wrap64 (x13_3 + 1))) = some r := H
                          have A26 := Aside0.mk A260
                          clear A260
                          have H' := Aside0.mk H
                          clear H
                          try go_wp2
                          (try (rw [drewN_self wr]; generalize hq_ : World.drewN wr _ = wr; have n0_ : Aside0 (Below w.heap.size w wr) := ⟨by rw [← hq_]; exact (by repeat (first | (with_reducible first | exact HB.out | apply below_alloc | apply pw_below_drewN | apply below_drew1) | exact HB.out | exact below_undrew HB.out))⟩; clear HB hq_; have HB := n0_; clear n0_))
                          have n0_ := Aside0.mk (below_drew1 HB.out)
                          clear HB
                          have HB := n0_
                          clear n0_
                          have p246 : 0 ≤ (x13_3 : Int) := of_decide_eq_true (by first | (with_reducible assumption) | assumption)
                          have q246 : x13_3 < (l0.length : Int) := of_decide_eq_true (by first | (with_reducible assumption) | assumption)
                          obtain ⟨ad246, e246, hx246_0, hx246_1, hx246_2, hx246_3⟩ := at_T36 HR0.out x13_3 p246 q246
                          have hw246_3 := hx246_3
                          have hw246_2 := hx246_2
                          have hw246_1 := hx246_1
                          have hw246_0 := hx246_0
                          cases e246
                          replace hx246_0 := (HB.out.cell (World.block_lt_of_cell? w _ hx246_0)).trans hx246_0
                          replace hx246_1 := (HB.out.cell (World.block_lt_of_cell? w _ hx246_1)).trans hx246_1
                          replace hx246_2 := (HB.out.cell (World.block_lt_of_cell? w _ hx246_2)).trans hx246_2
                          replace hx246_3 := (HB.out.cell (World.block_lt_of_cell? w _ hx246_3)).trans hx246_3
                          replace p246 := eq_true p246
                          replace q246 := eq_true q246
                          have p247 : 0 ≤ (x13_3 : Int) := of_decide_eq_true (by first | (with_reducible assumption) | assumption)
                          have q247 : x13_3 < (l1.length : Int) := of_decide_eq_true (by first | (with_reducible assumption) | assumption)
                          obtain ⟨ad247, e247, hx247_0, hx247_1, hx247_2, hx247_3⟩ := at_T36 HR1.out x13_3 p247 q247
                          have hw247_3 := hx247_3
                          have hw247_2 := hx247_2
                          have hw247_1 := hx247_1
                          have hw247_0 := hx247_0
                          cases e247
                          replace hx247_0 := (HB.out.cell (World.block_lt_of_cell? w _ hx247_0)).trans hx247_0
                          replace hx247_1 := (HB.out.cell (World.block_lt_of_cell? w _ hx247_1)).trans hx247_1
                          replace hx247_2 := (HB.out.cell (World.block_lt_of_cell? w _ hx247_2)).trans hx247_2
                          replace hx247_3 := (HB.out.cell (World.block_lt_of_cell? w _ hx247_3)).trans hx247_3
                          replace p247 := eq_true p247
                          replace q247 := eq_true q247
                          refine start_ (n := 10) (S := fun w' => w'.cell? (ad246.add ((x13_3).toNat * 4)) = some (.int .i64 ((rd_T36 l0 x13_3).f0)) ∧ w'.cell? ⟨(ad246.add ((x13_3).toNat * 4)).block, (ad246.add ((x13_3).toNat * 4)).off + 1, none⟩ = some (.int .i64 ((rd_T36 l0 x13_3).f1)) ∧ w'.cell? ⟨(ad246.add ((x13_3).toNat * 4)).block, (ad246.add ((x13_3).toNat * 4)).off + 2, none⟩ = some (.string ((rd_T36 l0 x13_3).f2)) ∧ w'.cell? ⟨(ad246.add ((x13_3).toNat * 4)).block, (ad246.add ((x13_3).toNat * 4)).off + 3, none⟩ = some (.bool ((rd_T36 l0 x13_3).f3)) ∧ w'.cell? (ad247.add ((x13_3).toNat * 4)) = some (.int .i64 ((rd_T36 l1 x13_3).f0)) ∧ w'.cell? ⟨(ad247.add ((x13_3).toNat * 4)).block, (ad247.add ((x13_3).toNat * 4)).off + 1, none⟩ = some (.int .i64 ((rd_T36 l1 x13_3).f1)) ∧ w'.cell? ⟨(ad247.add ((x13_3).toNat * 4)).block, (ad247.add ((x13_3).toNat * 4)).off + 2, none⟩ = some (.string ((rd_T36 l1 x13_3).f2)) ∧ w'.cell? ⟨(ad247.add ((x13_3).toNat * 4)).block, (ad247.add ((x13_3).toNat * 4)).off + 3, none⟩ = some (.bool ((rd_T36 l1 x13_3).f3))) (ds := []) #[false, false, false, false, false, false, false, false, false, false] (by kernel_rfl) rfl rfl ⟨((HB.out.cell (World.block_lt_of_cell? w _ hw246_0)).trans hw246_0), ((HB.out.cell (World.block_lt_of_cell? w _ hw246_1)).trans hw246_1), ((HB.out.cell (World.block_lt_of_cell? w _ hw246_2)).trans hw246_2), ((HB.out.cell (World.block_lt_of_cell? w _ hw246_3)).trans hw246_3), ((HB.out.cell (World.block_lt_of_cell? w _ hw247_0)).trans hw247_0), ((HB.out.cell (World.block_lt_of_cell? w _ hw247_1)).trans hw247_1), ((HB.out.cell (World.block_lt_of_cell? w _ hw247_2)).trans hw247_2), ((HB.out.cell (World.block_lt_of_cell? w _ hw247_3)).trans hw247_3)⟩ (fun hHeld => ?_); refine with_tabW barbicanlaw06_OrderKeeps.tab14 barbicanlaw06_OrderKeeps.bits14 (fun HT_ HW_ => ?_)
                          generalize wr.drew = w27 at HB hx246_0 hx246_1 hx246_2 hx246_3 hx247_0 hx247_1 hx247_2 hx247_3 hHeld ⊢
                          refine pure_ (i := 0) (N := some 62) (v := ?_) (a' := ?_) #[true, false, false, false, false, false, false, false, false, false] rfl rfl (any_of HT_.out (by kernel_rfl)) (fun _ _ _ h => h) (Or.inl ⟨by rfl, ?_⟩) ?_ ?_
                          rotate_left
                          · intro w'
                            go_simp
                            with_reducible rfl
                          rotate_left
                          · simp only [Act.put, List.setIfInBounds_toArray, List.set_cons_zero, List.set_cons_succ, i64_w, i32_w]
                            rfl
                          refine pure_ (i := 1) (N := some 63) (v := ?_) (a' := ?_) #[true, true, false, false, false, false, false, false, false, false] rfl rfl (any_of HT_.out (by kernel_rfl)) (fun _ _ _ h => h) (Or.inl ⟨by rfl, ?_⟩) ?_ ?_
                          rotate_left
                          · intro w'
                            go_simp
                            with_reducible rfl
                          rotate_left
                          · simp only [Act.put, List.setIfInBounds_toArray, List.set_cons_zero, List.set_cons_succ, i64_w, i32_w]
                            rfl
                          refine pure_ (i := 2) (N := some 64) (v := ?_) (a' := ?_) #[true, true, true, false, false, false, false, false, false, false] rfl rfl (any_of HT_.out (by kernel_rfl)) (fun _ _ _ h => h) (Or.inl ⟨by rfl, ?_⟩) ?_ ?_
                          rotate_left
                          · intro w'
                            go_simp
                            with_reducible rfl
                          rotate_left
                          · simp only [Act.put, List.setIfInBounds_toArray, List.set_cons_zero, List.set_cons_succ, i64_w, i32_w]
                            rfl
                          refine pure_ (i := 4) (N := some 66) (v := ?_) (a' := ?_) #[true, true, true, false, true, false, false, false, false, false] rfl rfl (any_of HT_.out (by kernel_rfl)) (fun _ _ _ h => h) (Or.inl ⟨by rfl, ?_⟩) ?_ ?_
                          rotate_left
                          · intro w'
                            go_simp
                            with_reducible rfl
                          rotate_left
                          · simp only [Act.put, List.setIfInBounds_toArray, List.set_cons_zero, List.set_cons_succ, i64_w, i32_w]
                            rfl
                          refine pure_ (i := 5) (N := some 67) (v := ?_) (a' := ?_) #[true, true, true, false, true, true, false, false, false, false] rfl rfl (any_of HT_.out (by kernel_rfl)) (fun _ _ _ h => h) (Or.inl ⟨by rfl, ?_⟩) ?_ ?_
                          rotate_left
                          · intro w'
                            go_simp
                            with_reducible rfl
                          rotate_left
                          · simp only [Act.put, List.setIfInBounds_toArray, List.set_cons_zero, List.set_cons_succ, i64_w, i32_w]
                            rfl
                          refine pure_ (i := 6) (N := some 68) (v := ?_) (a' := ?_) #[true, true, true, false, true, true, true, false, false, false] rfl rfl (any_of HT_.out (by kernel_rfl)) (fun _ _ _ h => h) (Or.inl ⟨by rfl, ?_⟩) ?_ ?_
                          rotate_left
                          · intro w'
                            go_simp
                            with_reducible rfl
                          rotate_left
                          · simp only [Act.put, List.setIfInBounds_toArray, List.set_cons_zero, List.set_cons_succ, i64_w, i32_w]
                            rfl
                          refine take_ (i := 3) (N := some 65) (v := ?_) (a' := ?_) #[true, true, true, true, true, true, true, false, false, false] rfl rfl (take_ofW HT_.out HW_.out (by kernel_rfl)) (fun _ _ _ h => h) (Or.inl ⟨by rfl, ?_⟩) hHeld ?_ ?_
                          rotate_left
                          · rintro w' ⟨s0, s1, s2, s3, s4, s5, s6, s7⟩
                            go_simp
                            with_reducible rfl
                          rotate_left
                          · simp only [Act.put, List.setIfInBounds_toArray, List.set_cons_zero, List.set_cons_succ, i64_w, i32_w]
                            rfl
                          refine take_ (i := 7) (N := some 69) (v := ?_) (a' := ?_) #[true, true, true, true, true, true, true, true, false, false] rfl rfl (take_ofW HT_.out HW_.out (by kernel_rfl)) (fun _ _ _ h => h) (Or.inl ⟨by rfl, ?_⟩) hHeld ?_ ?_
                          rotate_left
                          · rintro w' ⟨s0, s1, s2, s3, s4, s5, s6, s7⟩
                            go_simp
                            with_reducible rfl
                          rotate_left
                          · simp only [Act.put, List.setIfInBounds_toArray, List.set_cons_zero, List.set_cons_succ, i64_w, i32_w]
                            rfl
                          refine one_ (i := 8) (N := some 70) #[true, true, true, true, true, true, true, true, true, false] rfl rfl (one_of HT_.out (by kernel_rfl)) (by decide) (fun K hK => ?_)
                          refine goes_ Try.func12 (by kernel_rfl) rfl #[.agg #[.int .i64 ((rd_T36 l0 x13_3).f0), .int .i64 ((rd_T36 l0 x13_3).f1), .string ((rd_T36 l0 x13_3).f2), .bool ((rd_T36 l0 x13_3).f3)], .agg #[.int .i64 ((rd_T36 l1 x13_3).f0), .int .i64 ((rd_T36 l1 x13_3).f1), .string ((rd_T36 l1 x13_3).f2), .bool ((rd_T36 l1 x13_3).f3)]] (by rfl) rfl rfl (by (try simp only [List.map_toArray, List.map_cons, List.map_nil]); first | done | rfl | (simp only [List.length_drop, List.length_take]; rfl)) ?_
                          with_reducible refine (value_Compare.calls ((rd_T36 l0 x13_3).f0) ((rd_T36 l0 x13_3).f1) ((rd_T36 l0 x13_3).f2) ((rd_T36 l0 x13_3).f3) ((rd_T36 l1 x13_3).f0) ((rd_T36 l1 x13_3).f1) ((rd_T36 l1 x13_3).f2) ((rd_T36 l1 x13_3).f3) t248 _ A26.out).mono ?_
                          rintro e w28 ⟨rfl, hb⟩
                          refine ⟨_, rfl, ?_⟩
                          have n0_ := Aside0.mk (below_step (by repeat (first | (with_reducible first | exact HB.out | apply below_alloc | apply pw_below_drewN | apply below_drew1) | exact HB.out | exact below_undrew HB.out)) hb)
                          clear HB
                          have HB := n0_
                          clear n0_
                          (try clear hb)
                          (try clear hb2)
                          (try clear hk)
                          (try clear hi)
                          refine hK.out _ _ ⟨((HB.out.cell (World.block_lt_of_cell? w _ hw246_0)).trans hw246_0), ((HB.out.cell (World.block_lt_of_cell? w _ hw246_1)).trans hw246_1), ((HB.out.cell (World.block_lt_of_cell? w _ hw246_2)).trans hw246_2), ((HB.out.cell (World.block_lt_of_cell? w _ hw246_3)).trans hw246_3), ((HB.out.cell (World.block_lt_of_cell? w _ hw247_0)).trans hw247_0), ((HB.out.cell (World.block_lt_of_cell? w _ hw247_1)).trans hw247_1), ((HB.out.cell (World.block_lt_of_cell? w _ hw247_2)).trans hw247_2), ((HB.out.cell (World.block_lt_of_cell? w _ hw247_3)).trans hw247_3)⟩ (fun hHeld => ?_)
                          clear hK K
                          refine norm_ (a' := ?_) ?_ ?_
                          rotate_left
                          · show Act.put _ (some 70) _ = _
                            simp only [Act.put, List.setIfInBounds_toArray, List.set_cons_zero, List.set_cons_succ, i64_w, i32_w]
                            rfl
                          refine pure_ (i := 9) (N := some 12) (v := ?_) (a' := ?_) #[true, true, true, true, true, true, true, true, true, true] rfl rfl (any_of HT_.out (by kernel_rfl)) (fun _ _ _ h => h) (Or.inl ⟨by rfl, ?_⟩) ?_ ?_
                          rotate_left
                          · intro w'
                            go_simp
                            with_reducible rfl
                          rotate_left
                          · simp only [Act.put, List.setIfInBounds_toArray, List.set_cons_zero, List.set_cons_succ, i64_w, i32_w]
                            rfl
                          refine done_ (done_of HT_.out (by kernel_rfl)) ?_
                          try go_wp2
                          go_roundg k3
                          case measure => have := HJ7.out; have := HJ17.out; have := HK3.out; omega
                          case rel => exact ⟨(t248), (wrap64 (x13_3 + 1)), (by first | rfl | (simp; done) | (simp [*]; done)), (by first | rfl | (simp; done) | (simp [*]; done)), H', ⟨by have := HJ7.out; have := HJ17.out; have := HK3.out; omega⟩, ⟨by repeat (first | (with_reducible first | exact HB.out | apply below_alloc | apply pw_below_drewN | apply below_drew1) | exact HB.out | exact below_undrew HB.out)⟩⟩
                        · rw [if_neg c25] at H
                          exact absurd H (by simp)
                      · rw [if_neg c24] at H
                        have c24b0 : (x12_3 == 0) = false := beq_eq_false_iff_ne.mpr c24
                        have c24b1 : (x12_3 != 0) = true := bne_iff_ne.mpr c24
                        have H' := Aside0.mk H
                        clear H
                        go_wp2
                        go_meet
                        case rel => exact ⟨_, (x12_3), (by first | rfl | (simp; done) | (simp [*]; done)), H', ⟨by have := HJ7.out; have := HJ17.out; have := HK3.out; first | omega | exact Nat.le_refl _⟩, ⟨by repeat (first | (with_reducible first | exact HB.out | apply below_alloc | apply pw_below_drewN | apply below_drew1) | exact HB.out | exact below_undrew HB.out)⟩⟩
                    · rw [if_neg c23] at H
                      have c23b0 : decide (x13_3 < (l1.length : Int)) = false := decide_eq_false c23
                      clear c23
                      have H' := Aside0.mk H
                      clear H
                      go_wp2
                      go_meet
                      case rel => exact ⟨_, (x12_3), (by first | rfl | (simp; done) | (simp [*]; done)), H', ⟨by have := HJ7.out; have := HJ17.out; have := HK3.out; first | omega | exact Nat.le_refl _⟩, ⟨by repeat (first | (with_reducible first | exact HB.out | apply below_alloc | apply pw_below_drewN | apply below_drew1) | exact HB.out | exact below_undrew HB.out)⟩⟩
                  · rw [if_neg c22] at H
                    have c22b0 : decide (x13_3 < (l0.length : Int)) = false := decide_eq_false c22
                    clear c22
                    (first | rw [c22b0] | (simp only [i64_w, i32_w]; rw [c22b0]) | skip)
                    have H' := Aside0.mk H
                    clear H
                    go_wp2
                    go_meet
                    case rel => exact ⟨_, (x12_3), (by first | rfl | (simp; done) | (simp [*]; done)), H', ⟨by have := HJ7.out; have := HJ17.out; have := HK3.out; first | omega | exact Nat.le_refl _⟩, ⟨by repeat (first | (with_reducible first | exact HB.out | apply below_alloc | apply pw_below_drewN | apply below_drew1) | exact HB.out | exact below_undrew HB.out)⟩⟩
            case rest =>
              clear HC21
              try clear c1
              try clear c2
              try clear p2
              try clear q2
              try clear hx2
              try clear c5
              try clear p6
              try clear c7
              try clear c9
              try clear c11
              try clear c12
              try clear c15
              try clear c19
              try clear c19b0
              try clear c20
              try clear c20b0
              try clear c22
              try clear c22b0
              try clear c23
              try clear c23b0
              try clear c24
              try clear c24b0
              try clear c24b1
              try clear p24
              try clear q24
              try clear hx24
              try clear c25
              try clear c25b0
              try clear hx246_0
              try clear hx246_1
              try clear hx246_2
              try clear hx246_3
              try clear hx247_0
              try clear hx247_1
              try clear hx247_2
              try clear hx247_3
              try clear p2
              try clear p246
              try clear p247
              try clear q2
              try clear q243
              try clear q244
              try clear q246
              try clear q247
              obtain ⟨kq, x12_20, rfl, HA, HJ20, HB⟩ := hcut
              cases kq with
              | zero => exact absurd HA.out (by simp [barbicanlaw06_OrderKeeps.j3])
              | succ kj20 =>
                have H := HA.out
                clear HA
                simp only [barbicanlaw06_OrderKeeps.j3] at H
                have HC29 := Aside0.mk H
                clear H
                go_upto_region 15 with (fail)
                go_cut [79] (fun v79 wc => ∃ (kq : Nat) (x79_28 : Bool), v79 = .bool x79_28 ∧ Aside0 (barbicanlaw06_OrderKeeps.j4 kq l0 l1 a2 t236 x11_17 x12_20 x79_28 = some r) ∧ Aside0 (kq ≤ kj20) ∧ Aside0 (Below w.heap.size w wc))
                case first =>
                  have H := HC29.out
                  clear HC29
                  by_cases c30 : x12_20 = 0
                  · rw [if_pos c30] at H
                    have c30b0 : (x12_20 == 0) = true := beq_iff_eq.mpr c30
                    have c30b1 : (x12_20 != 0) = false := bne_eq_false_iff_eq.mpr c30
                    clear c30
                    (first | rw [c30b0] | (simp only [i64_w, i32_w]; rw [c30b0]) | skip)
                    have H' := Aside0.mk H
                    clear H
                    go_wp2
                    go_meet
                    case rel => exact ⟨_, (((l0.length : Int) != (l1.length : Int))), (by first | rfl | (simp; done) | (simp [*]; done)), H', ⟨by have := HJ7.out; have := HJ17.out; have := HJ20.out; first | omega | exact Nat.le_refl _⟩, ⟨by repeat (first | (with_reducible first | exact HB.out | apply below_alloc | apply pw_below_drewN | apply below_drew1) | exact HB.out | exact below_undrew HB.out)⟩⟩
                  · rw [if_neg c30] at H
                    have c30b0 : (x12_20 == 0) = false := beq_eq_false_iff_ne.mpr c30
                    have c30b1 : (x12_20 != 0) = true := bne_iff_ne.mpr c30
                    (first | rw [c30b0] | (simp only [i64_w, i32_w]; rw [c30b0]) | skip)
                    have H' := Aside0.mk H
                    clear H
                    go_wp2
                    go_meet
                    case rel => exact ⟨_, (false), (by first | rfl | (simp; done) | (simp [*]; done)), H', ⟨by have := HJ7.out; have := HJ17.out; have := HJ20.out; first | omega | exact Nat.le_refl _⟩, ⟨by repeat (first | (with_reducible first | exact HB.out | apply below_alloc | apply pw_below_drewN | apply below_drew1) | exact HB.out | exact below_undrew HB.out)⟩⟩
                case rest =>
                  clear HC29
                  try clear c1
                  try clear c2
                  try clear p2
                  try clear q2
                  try clear hx2
                  try clear c3
                  try clear c5
                  try clear p6
                  try clear c7
                  try clear c9
                  try clear c11
                  try clear c12
                  try clear c15
                  try clear c19
                  try clear c19b0
                  try clear c20
                  try clear c20b0
                  try clear c22
                  try clear c22b0
                  try clear c23
                  try clear c23b0
                  try clear c24
                  try clear c24b0
                  try clear c24b1
                  try clear p24
                  try clear q24
                  try clear hx24
                  try clear c25
                  try clear c25b0
                  try clear c30
                  try clear c30b0
                  try clear c30b1
                  try clear hx246_0
                  try clear hx246_1
                  try clear hx246_2
                  try clear hx246_3
                  try clear hx247_0
                  try clear hx247_1
                  try clear hx247_2
                  try clear hx247_3
                  try clear p2
                  try clear p24
                  try clear p246
                  try clear p247
                  try clear p6
                  try clear q2
                  try clear q24
                  try clear q243
                  try clear q244
                  try clear q246
                  try clear q247
                  obtain ⟨kq, x79_28, rfl, HA, HJ28, HB⟩ := hcut
                  cases kq with
                  | zero => exact absurd HA.out (by simp [barbicanlaw06_OrderKeeps.j4])
                  | succ kj28 =>
                    have H := HA.out
                    clear HA
                    simp only [barbicanlaw06_OrderKeeps.j4] at H
                    have HC31 := Aside0.mk H
                    clear H
                    go_upto_if 79 with (fail)
                    go_cut [12] (fun v12 wc => ∃ (kq : Nat) (x12_30 : Int), v12 = .int .i64 x12_30 ∧ Aside0 (barbicanlaw06_OrderKeeps.j5 kq l0 a2 t236 x11_17 x12_30 = some r) ∧ Aside0 (kq ≤ kj28) ∧ Aside0 (Below w.heap.size w wc))
                    case first =>
                      have H := HC31.out
                      clear HC31
                      by_cases c32 : x79_28 = true
                      · subst c32
                        have H1 : (if (l0.length : Int) < (l1.length : Int) then (barbicanlaw06_OrderKeeps.j5 kj28 l0 a2 t236 x11_17 (-1)) else (barbicanlaw06_OrderKeeps.j5 kj28 l0 a2 t236 x11_17 1)) = some r := by rw [if_pos rfl] at H; exact H
                        clear H
                        have H := H1
                        clear H1
                        by_cases c33 : (l0.length : Int) < (l1.length : Int)
                        · rw [if_pos c33] at H
                          have c33b0 : decide ((l0.length : Int) < (l1.length : Int)) = true := decide_eq_true c33
                          have c33b1 : decide (l0.length < l1.length) = true := decide_eq_true (Int.ofNat_lt.mp c33)
                          clear c33
                          (first | rw [c33b0] | (simp only [i64_w, i32_w]; rw [c33b0]) | skip)
                          have H' := Aside0.mk H
                          clear H
                          go_wp2
                          go_meet
                          case rel => exact ⟨_, ((-1)), (by first | rfl | (simp; done) | (simp [*]; done)), H', ⟨by have := HJ7.out; have := HJ17.out; have := HJ20.out; have := HJ28.out; first | omega | exact Nat.le_refl _⟩, ⟨by repeat (first | (with_reducible first | exact HB.out | apply below_alloc | apply pw_below_drewN | apply below_drew1) | exact HB.out | exact below_undrew HB.out)⟩⟩
                        · rw [if_neg c33] at H
                          have c33b0 : decide ((l0.length : Int) < (l1.length : Int)) = false := decide_eq_false c33
                          have c33b1 : decide (l0.length < l1.length) = false := decide_eq_false (fun h => c33 (Int.ofNat_lt.mpr h))
                          clear c33
                          (first | rw [c33b0] | (simp only [i64_w, i32_w]; rw [c33b0]) | skip)
                          have H' := Aside0.mk H
                          clear H
                          go_wp2
                          go_meet
                          case rel => exact ⟨_, (1), (by first | rfl | (simp; done) | (simp [*]; done)), H', ⟨by have := HJ7.out; have := HJ17.out; have := HJ20.out; have := HJ28.out; first | omega | exact Nat.le_refl _⟩, ⟨by repeat (first | (with_reducible first | exact HB.out | apply below_alloc | apply pw_below_drewN | apply below_drew1) | exact HB.out | exact below_undrew HB.out)⟩⟩
                      · replace c32 := Bool.eq_false_iff.mpr c32
                        subst c32
                        have H1 : (barbicanlaw06_OrderKeeps.j5 kj28 l0 a2 t236 x11_17 x12_20) = some r := by rw [if_neg (show ¬ (false = true) by decide)] at H; exact H
                        clear H
                        have H := H1
                        clear H1
                        have H' := Aside0.mk H
                        clear H
                        go_wp2
                        go_meet
                        case rel => exact ⟨_, (x12_20), (by first | rfl | (simp; done) | (simp [*]; done)), H', ⟨by have := HJ7.out; have := HJ17.out; have := HJ20.out; have := HJ28.out; first | omega | exact Nat.le_refl _⟩, ⟨by repeat (first | (with_reducible first | exact HB.out | apply below_alloc | apply pw_below_drewN | apply below_drew1) | exact HB.out | exact below_undrew HB.out)⟩⟩
                    case rest =>
                      clear HC31
                      try clear c1
                      try clear c2
                      try clear p2
                      try clear q2
                      try clear hx2
                      try clear c3
                      try clear c5
                      try clear p6
                      try clear c7
                      try clear c9
                      try clear c11
                      try clear c12
                      try clear c15
                      try clear c19
                      try clear c19b0
                      try clear c20
                      try clear c20b0
                      try clear c22
                      try clear c22b0
                      try clear c23
                      try clear c23b0
                      try clear c24
                      try clear c24b0
                      try clear c24b1
                      try clear p24
                      try clear q24
                      try clear hx24
                      try clear c25
                      try clear c25b0
                      try clear c30
                      try clear c30b0
                      try clear c30b1
                      try clear c32
                      try clear c33
                      try clear c33b0
                      try clear c33b1
                      try clear hx246_0
                      try clear hx246_1
                      try clear hx246_2
                      try clear hx246_3
                      try clear hx247_0
                      try clear hx247_1
                      try clear hx247_2
                      try clear hx247_3
                      try clear p2
                      try clear p24
                      try clear p246
                      try clear p247
                      try clear p6
                      try clear q2
                      try clear q24
                      try clear q243
                      try clear q244
                      try clear q246
                      try clear q247
                      obtain ⟨kq, x12_30, rfl, HA, HJ30, HB⟩ := hcut
                      cases kq with
                      | zero => exact absurd HA.out (by simp [barbicanlaw06_OrderKeeps.j5])
                      | succ kj30 =>
                        have H := HA.out
                        clear HA
                        simp only [barbicanlaw06_OrderKeeps.j5] at H
                        replace H := Option.bind_eq_some_iff.mp H
                        obtain ⟨⟨t249, t250⟩, A340, H⟩ := H
                        replace H : (if (IntKind.u64.wrap (wrap64 ((l0.length : Int) + 1))) = 0 then (none) else (if 0 ≤ (wrap64 (Int.tmod (IntKind.u64.wrap (a2)) (IntKind.u64.wrap (wrap64 ((l0.length : Int) + 1))))) then (if (wrap64 (Int.tmod (IntKind.u64.wrap (a2)) (IntKind.u64.wrap (wrap64 ((l0.length : Int) + 1))))) ≤ (l0.length : Int) then ((barbicanlaw06_twin.f (l0.take ((wrap64 (Int.tmod (IntKind.u64.wrap (a2)) (IntKind.u64.wrap (wrap64 ((l0.length : Int) + 1))))) : Int).toNat)).bind fun t257 => ((order_Encode.f kj30 t257).bind fun bt260 => (if x11_17 = x12_30 then (if t250.isNone = true then ((barbicanlaw06_values.f kj30 t249 l0).bind fun t263 => (if t263 = true then (if bt260.2.isNone = true then (if (bt260.1.size : Int) ≤ (t236.size : Int) then (if 0 ≤ (bt260.1.size : Int) then (if (t236.extract 0 ((bt260.1.size : Int) : Int).toNat).toList = bt260.1.toList then ((barbicanlaw06_sure.f kj30).bind fun t265 => (some t265)) else (some false)) else (none)) else (some false)) else (some false)) else (some false))) else (some false)) else (some false)))) else (none)) else (none))) = some r := H
                        have A34 := Aside0.mk A340
                        clear A340
                        by_cases c35 : (IntKind.u64.wrap (wrap64 ((l0.length : Int) + 1))) = 0
                        · rw [if_pos c35] at H
                          exact absurd H (by simp)
                        · rw [if_neg c35] at H
                          have c35b0 : ((IntKind.u64.wrap (wrap64 ((l0.length : Int) + 1))) == 0) = false := beq_eq_false_iff_ne.mpr c35
                          have c35b1 : ((IntKind.u64.wrap (wrap64 ((l0.length : Int) + 1))) != 0) = true := bne_iff_ne.mpr c35
                          obtain ⟨ji36, hji36⟩ : ∃ j_ : Int, (wrap64 (Int.tmod (IntKind.u64.wrap (a2)) (IntKind.u64.wrap (wrap64 ((l0.length : Int) + 1))))) = j_ := ⟨_, rfl⟩
                          replace H : (if 0 ≤ (ji36) then (if (ji36) ≤ (l0.length : Int) then ((barbicanlaw06_twin.f (l0.take ((ji36) : Int).toNat)).bind fun t257 => ((order_Encode.f kj30 t257).bind fun bt260 => (if x11_17 = x12_30 then (if t250.isNone = true then ((barbicanlaw06_values.f kj30 t249 l0).bind fun t263 => (if t263 = true then (if bt260.2.isNone = true then (if (bt260.1.size : Int) ≤ (t236.size : Int) then (if 0 ≤ (bt260.1.size : Int) then (if (t236.extract 0 ((bt260.1.size : Int) : Int).toNat).toList = bt260.1.toList then ((barbicanlaw06_sure.f kj30).bind fun t265 => (some t265)) else (some false)) else (none)) else (some false)) else (some false)) else (some false))) else (some false)) else (some false)))) else (none)) else (none)) = some r := by first | (rw [hji36] at H; exact H) | (simp only [hji36] at H ⊢; exact H)
                          (try rw [hji36] at A34)
                          have hji36w : (IntKind.i64.wrap (Int.tmod (IntKind.u64.wrap (a2)) (IntKind.u64.wrap (wrap64 ((l0.length : Int) + 1))))) = ji36 := (i64_w _).trans hji36
                          by_cases c37 : 0 ≤ (ji36)
                          · rw [if_pos c37] at H
                            have c37b0 := eq_true c37
                            have c37b1 : decide (0 ≤ (ji36)) = true := decide_eq_true c37
                            clear c37
                            by_cases c38 : (ji36) ≤ (l0.length : Int)
                            · rw [if_pos c38] at H
                              have c38b0 := eq_true c38
                              have c38b1 : decide ((ji36) ≤ (l0.length : Int)) = true := decide_eq_true c38
                              clear c38
                              obtain ⟨y253, hy253⟩ : ∃ y_ : List (S36), y_ = (l0.take ((ji36) : Int).toNat) := ⟨_, rfl⟩
                              replace H : ((barbicanlaw06_twin.f y253).bind fun t257 => ((order_Encode.f kj30 t257).bind fun bt260 => (if x11_17 = x12_30 then (if t250.isNone = true then ((barbicanlaw06_values.f kj30 t249 l0).bind fun t263 => (if t263 = true then (if bt260.2.isNone = true then (if (bt260.1.size : Int) ≤ (t236.size : Int) then (if 0 ≤ (bt260.1.size : Int) then (if (t236.extract 0 ((bt260.1.size : Int) : Int).toNat).toList = bt260.1.toList then ((barbicanlaw06_sure.f kj30).bind fun t265 => (some t265)) else (some false)) else (none)) else (some false)) else (some false)) else (some false))) else (some false)) else (some false)))) = some r := by first | (rw [hy253]; with_reducible exact H) | (have H2_ := (Option.bind_some _ _).symm.trans H; rw [hy253]; with_reducible exact H2_) | (have H2_ := (Option.bind_some _ _).symm.trans H; with_reducible exact H2_) | with_reducible exact H | (rw [hy253]; exact H) | exact H
                              have Ny253 := Aside0.mk hy253
                              clear hy253
                              replace H := Option.bind_eq_some_iff.mp H
                              obtain ⟨t257, A390, H⟩ := H
                              replace H : ((order_Encode.f kj30 t257).bind fun bt260 => (if x11_17 = x12_30 then (if t250.isNone = true then ((barbicanlaw06_values.f kj30 t249 l0).bind fun t263 => (if t263 = true then (if bt260.2.isNone = true then (if (bt260.1.size : Int) ≤ (t236.size : Int) then (if 0 ≤ (bt260.1.size : Int) then (if (t236.extract 0 ((bt260.1.size : Int) : Int).toNat).toList = bt260.1.toList then ((barbicanlaw06_sure.f kj30).bind fun t265 => (some t265)) else (some false)) else (none)) else (some false)) else (some false)) else (some false))) else (some false)) else (some false))) = some r := H
                              have A39 := Aside0.mk A390
                              clear A390
                              replace H := Option.bind_eq_some_iff.mp H
                              obtain ⟨⟨t260, t261⟩, A400, H⟩ := H
                              replace H : (if x11_17 = x12_30 then (if t250.isNone = true then ((barbicanlaw06_values.f kj30 t249 l0).bind fun t263 => (if t263 = true then (if t261.isNone = true then (if (t260.size : Int) ≤ (t236.size : Int) then (if 0 ≤ (t260.size : Int) then (if (t236.extract 0 ((t260.size : Int) : Int).toNat).toList = t260.toList then ((barbicanlaw06_sure.f kj30).bind fun t265 => (some t265)) else (some false)) else (none)) else (some false)) else (some false)) else (some false))) else (some false)) else (some false)) = some r := H
                              have A40 := Aside0.mk A400
                              clear A400
                              by_cases c41 : x11_17 = x12_30
                              · rw [if_pos c41] at H
                                have c41b0 : (x11_17 == x12_30) = true := beq_iff_eq.mpr c41
                                have c41b1 : (x11_17 != x12_30) = false := bne_eq_false_iff_eq.mpr c41
                                clear c41
                                rcases t250 with _ | q262
                                · have H1 : ((barbicanlaw06_values.f kj30 t249 l0).bind fun t263 => (if t263 = true then (if t261.isNone = true then (if (t260.size : Int) ≤ (t236.size : Int) then (if 0 ≤ (t260.size : Int) then (if (t236.extract 0 ((t260.size : Int) : Int).toNat).toList = t260.toList then ((barbicanlaw06_sure.f kj30).bind fun t265 => (some t265)) else (some false)) else (none)) else (some false)) else (some false)) else (some false))) = some r := by rw [if_pos (show (none : Option Int).isNone = true by rfl)] at H; exact H
                                  clear H
                                  have H := H1
                                  clear H1
                                  try simp only [errW_none, errW_some]
                                  replace H := Option.bind_eq_some_iff.mp H
                                  obtain ⟨t263, A420, H⟩ := H
                                  replace H : (if t263 = true then (if t261.isNone = true then (if (t260.size : Int) ≤ (t236.size : Int) then (if 0 ≤ (t260.size : Int) then (if (t236.extract 0 ((t260.size : Int) : Int).toNat).toList = t260.toList then ((barbicanlaw06_sure.f kj30).bind fun t265 => (some t265)) else (some false)) else (none)) else (some false)) else (some false)) else (some false)) = some r := H
                                  have A42 := Aside0.mk A420
                                  clear A420
                                  by_cases c43 : t263 = true
                                  · subst c43
                                    have H1 : (if t261.isNone = true then (if (t260.size : Int) ≤ (t236.size : Int) then (if 0 ≤ (t260.size : Int) then (if (t236.extract 0 ((t260.size : Int) : Int).toNat).toList = t260.toList then ((barbicanlaw06_sure.f kj30).bind fun t265 => (some t265)) else (some false)) else (none)) else (some false)) else (some false)) = some r := by rw [if_pos rfl] at H; exact H
                                    clear H
                                    have H := H1
                                    clear H1
                                    rcases t261 with _ | q264
                                    · have H1 : (if (t260.size : Int) ≤ (t236.size : Int) then (if 0 ≤ (t260.size : Int) then (if (t236.extract 0 ((t260.size : Int) : Int).toNat).toList = t260.toList then ((barbicanlaw06_sure.f kj30).bind fun t265 => (some t265)) else (some false)) else (none)) else (some false)) = some r := by rw [if_pos (show (none : Option Int).isNone = true by rfl)] at H; exact H
                                      clear H
                                      have H := H1
                                      clear H1
                                      try simp only [errW_none, errW_some]
                                      by_cases c44 : (t260.size : Int) ≤ (t236.size : Int)
                                      · rw [if_pos c44] at H
                                        have c44b0 : decide ((t260.size : Int) ≤ (t236.size : Int)) = true := decide_eq_true c44
                                        have c44b1 : decide (t260.size ≤ t236.size) = true := decide_eq_true (Int.ofNat_le.mp c44)
                                        clear c44
                                        by_cases c45 : 0 ≤ (t260.size : Int)
                                        · rw [if_pos c45] at H
                                          have c45b0 := eq_true c45
                                          have c45b1 : decide (0 ≤ (t260.size : Int)) = true := decide_eq_true c45
                                          clear c45
                                          have c46b0 := eq_true (of_decide_eq_true (by first | (with_reducible assumption) | assumption) : (t260.size : Int) ≤ (t236.size : Int))
                                          by_cases c47 : (t236.extract 0 ((t260.size : Int) : Int).toNat).toList = t260.toList
                                          · rw [if_pos c47] at H
                                            have c47b0 : ((t236.extract 0 ((t260.size : Int) : Int).toNat).toList == t260.toList) = true := beq_iff_eq.mpr c47
                                            (try (have c47b0x := c47b0; simp only [Int.toNat_natCast] at c47b0x))
                                            have c47b1 : ((t236.extract 0 ((t260.size : Int) : Int).toNat).toList != t260.toList) = false := bne_eq_false_iff_eq.mpr c47
                                            (try (have c47b1x := c47b1; simp only [Int.toNat_natCast] at c47b1x))
                                            clear c47
                                            replace H := Option.bind_eq_some_iff.mp H
                                            obtain ⟨t265, A480, H⟩ := H
                                            replace H : (some t265) = some r := H
                                            have A48 := Aside0.mk A480
                                            clear A480
                                            obtain rfl := Option.some.inj H
                                            go_wp2_with (first | ((with_reducible refine gate_callee (f := 13) rfl ?_); refine goesL_ (some 87) rfl rfl Try.func13 (by kernel_rfl) rfl #[.string t236] rfl (by (try simp only [List.map_toArray, List.map_cons, List.map_nil]); first | done | rfl | (simp only [List.length_drop, List.length_take]; rfl)) ?_; (with_reducible refine (order_Decode.calls kj30 t236 t249 none _ A34.out).mono ?_); rintro e w49 ⟨v251, rfl, ho0, hb⟩; refine ⟨_, rfl, ?_⟩; have n0_ := Aside0.mk (Kd.R_lower ho0 (below_size (by repeat (first | (with_reducible first | exact HB.out | apply below_alloc | apply pw_below_drewN | apply below_drew1) | exact HB.out | exact below_undrew HB.out)))); have n1_ := Aside0.mk (below_step (by repeat (first | (with_reducible first | exact HB.out | apply below_alloc | apply pw_below_drewN | apply below_drew1) | exact HB.out | exact below_undrew HB.out)) hb); clear HB; have HO252 := n0_; have HB := n1_; clear n0_ n1_; (try clear hb); (try clear hb2); (try clear hk); (try clear hi); (try clear ho0); (try simp only [errW_none, errW_some]); have q50 : ((ji36) : Int) ≤ ((l0.length : Int) : Int) := of_decide_eq_true (by first | (with_reducible assumption) | assumption); obtain ⟨i050, hi050, _, hsz50, _⟩ := info_parts info36; have hroom50 : l0.length ≤ c0 := HC0.out; have hC50 : Kd.C k36 _ A0 l0.length l0 := HR0.out; have hcut50 := cut_to (P := Try.prog) 26 36 .i64 Try.underlying26 hi050 A0 l0.length c0 (ji36) (of_decide_eq_true (by first | (with_reducible assumption) | assumption)) q50 hroom50; have hr50 := Kd.C_take (m := ((ji36) : Int).toNat) hC50 (by omega); have hy50 : y253.length = ((ji36) : Int).toNat := (by rw [Ny253.out, List.length_take]; omega); rw [← Ny253.out] at hr50; rw [← hy50] at hcut50; have HR256 := Aside0.mk hr50; have HC256 := Aside0.mk (show y253.length ≤ c0 from by omega); clear hr50 hC50 hroom50 hi050 hsz50; have KY50 := Aside0.mk hy50; clear hy50; replace q50 := eq_true q50) | ((with_reducible refine gate_callee (f := 9) rfl ?_); refine goesL_ (some 102) rfl rfl Try.func9 (by kernel_rfl) rfl #[.slice A0 y253.length c0] rfl (by (try simp only [List.map_toArray, List.map_cons, List.map_nil]); first | done | rfl | (simp only [List.length_drop, List.length_take]; rfl)) ?_; (with_reducible refine (barbicanlaw06_twin.calls _ _ y253 t257 _ ?side1 ?side2 A39.out).mono ?_); (case side1 => repeat (first | exact (Kd.C_below HR256.out HB.out) | (with_reducible refine Kd.C_alloc ?_ _) | (with_reducible refine Kd.C_drewN ?_ _) | (with_reducible refine Kd.C_drew ?_))); (case side2 => exact HC256.out); rintro e w51 ⟨v258, rfl, ho0, hb⟩; refine ⟨_, rfl, ?_⟩; have n0_ := Aside0.mk (Kd.R_elder' (by (with_reducible repeat (first | apply Kd.R_alloc | apply Kd.R_drewN | apply Kd.R_drew)); exact HO252.out) (Kd.R_base ho0) hb); have n1_ := Aside0.mk (Kd.R_lower (Kd.R_new' ho0 (Kd.R_lt (by (with_reducible repeat (first | apply Kd.R_alloc | apply Kd.R_drewN | apply Kd.R_drew)); exact HO252.out))) (below_size (by repeat (first | (with_reducible first | exact HB.out | apply below_alloc | apply pw_below_drewN | apply below_drew1) | exact HB.out | exact below_undrew HB.out)))); have n2_ := Aside0.mk (below_step (by repeat (first | (with_reducible first | exact HB.out | apply below_alloc | apply pw_below_drewN | apply below_drew1) | exact HB.out | exact below_undrew HB.out)) hb); clear HO252; clear HB; have HO252 := n0_; have HO259 := n1_; have HB := n2_; clear n0_ n1_ n2_; (try clear hb); (try clear hb2); (try clear hk); (try clear hi); (try clear ho0); obtain ⟨Ao52, co52, eo52⟩ := Kd.R_slice HO259.out; subst eo52) | ((with_reducible refine gate_callee (f := 11) rfl ?_); refine goesL_ (some 103) rfl rfl Try.func11 (by kernel_rfl) rfl #[.slice Ao52 t257.length co52] rfl (by (try simp only [List.map_toArray, List.map_cons, List.map_nil]); first | done | rfl | (simp only [List.length_drop, List.length_take]; rfl)) ?_; (with_reducible refine (order_Encode.calls kj30 _ _ t257 t260 none _ ?side1 ?side2 A40.out).mono ?_); (case side1 => repeat (first | exact (Kd.R_reads' HO259.out).2.2 | (with_reducible refine Kd.C_alloc ?_ _) | (with_reducible refine Kd.C_drewN ?_ _) | (with_reducible refine Kd.C_drew ?_))); (case side2 => exact (Kd.R_reads' HO259.out).2.1); rintro e w53 ⟨rfl, hb⟩; refine ⟨_, rfl, ?_⟩; have n0_ := Aside0.mk (Kd.R_below (by (with_reducible repeat (first | apply Kd.R_alloc | apply Kd.R_drewN | apply Kd.R_drew)); exact HO252.out) hb); have n1_ := Aside0.mk (Kd.R_below (by (with_reducible repeat (first | apply Kd.R_alloc | apply Kd.R_drewN | apply Kd.R_drew)); exact HO259.out) hb); have n2_ := Aside0.mk (below_step (by repeat (first | (with_reducible first | exact HB.out | apply below_alloc | apply pw_below_drewN | apply below_drew1) | exact HB.out | exact below_undrew HB.out)) hb); clear HO252; clear HO259; clear HB; have HO252 := n0_; have HO259 := n1_; have HB := n2_; clear n0_ n1_ n2_; (try clear hb); (try clear hb2); (try clear hk); (try clear hi); (try simp only [errW_none, errW_some]); obtain ⟨Ao54, co54, eo54⟩ := Kd.R_slice HO252.out; subst eo54) | (go_at_call 14; (with_reducible refine (barbicanlaw06_values.calls kj30 _ _ t249 _ _ l0 true _ ?side1 ?side2 ?side3 ?side4 A42.out).mono ?_); (case side1 => repeat (first | exact (Kd.R_reads' HO252.out).2.2 | (with_reducible refine Kd.C_alloc ?_ _) | (with_reducible refine Kd.C_drewN ?_ _) | (with_reducible refine Kd.C_drew ?_))); (case side2 => exact (Kd.R_reads' HO252.out).2.1); (case side3 => repeat (first | exact (Kd.C_below HR0.out HB.out) | (with_reducible refine Kd.C_alloc ?_ _) | (with_reducible refine Kd.C_drewN ?_ _) | (with_reducible refine Kd.C_drew ?_))); (case side4 => exact HC0.out); rintro e w' ⟨rfl, ⟨nd, rfl⟩⟩) | (go_at_call 7; (with_reducible refine (barbicanlaw06_sure.calls kj30  t265 _ A48.out).mono ?_); rintro e w55 ⟨rfl, hb⟩; have n0_ := Aside0.mk (Kd.R_below (by (with_reducible repeat (first | apply Kd.R_alloc | apply Kd.R_drewN | apply Kd.R_drew)); exact HO252.out) hb); have n1_ := Aside0.mk (Kd.R_below (by (with_reducible repeat (first | apply Kd.R_alloc | apply Kd.R_drewN | apply Kd.R_drew)); exact HO259.out) hb); have n2_ := Aside0.mk (below_step (by repeat (first | (with_reducible first | exact HB.out | apply below_alloc | apply pw_below_drewN | apply below_drew1) | exact HB.out | exact below_undrew HB.out)) hb); clear HO252; clear HO259; clear HB; have HO252 := n0_; have HO259 := n1_; have HB := n2_; clear n0_ n1_ n2_; (try clear hb); (try clear hb2); (try clear hk); (try clear hi)))
                                            go_ret
                                            exact ⟨by first | rfl | (simp [errW_none, errW_some] <;> rfl) | (simp only [← hji36]; first | rfl | (simp [errW_none, errW_some] <;> rfl)) | (simp [*, errW_none, errW_some] <;> rfl), by repeat (first | (with_reducible first | exact HB.out | apply below_alloc | apply pw_below_drewN | apply below_drew1) | exact HB.out | exact below_undrew HB.out)⟩
                                          · rw [if_neg c47] at H
                                            have c47b0 : ((t236.extract 0 ((t260.size : Int) : Int).toNat).toList == t260.toList) = false := beq_eq_false_iff_ne.mpr c47
                                            (try (have c47b0x := c47b0; simp only [Int.toNat_natCast] at c47b0x))
                                            have c47b1 : ((t236.extract 0 ((t260.size : Int) : Int).toNat).toList != t260.toList) = true := bne_iff_ne.mpr c47
                                            (try (have c47b1x := c47b1; simp only [Int.toNat_natCast] at c47b1x))
                                            exact absurd (Option.some.inj H) (by rw [hT.out]; decide)
                                        · rw [if_neg c45] at H
                                          exact absurd H (by simp)
                                      · rw [if_neg c44] at H
                                        have c44b0 : decide ((t260.size : Int) ≤ (t236.size : Int)) = false := decide_eq_false c44
                                        have c44b1 : decide (t260.size ≤ t236.size) = false := decide_eq_false (fun h => c44 (Int.ofNat_le.mpr h))
                                        clear c44
                                        exact absurd (Option.some.inj H) (by rw [hT.out]; decide)
                                    · have H1 : (some false) = some r := by rw [if_neg (show ¬ (some q264).isNone = true by simp)] at H; exact H
                                      clear H
                                      have H := H1
                                      clear H1
                                      try simp only [errW_none, errW_some]
                                      exact absurd (Option.some.inj H) (by rw [hT.out]; decide)
                                  · replace c43 := Bool.eq_false_iff.mpr c43
                                    subst c43
                                    have H1 : (some false) = some r := by rw [if_neg (show ¬ (false = true) by decide)] at H; exact H
                                    clear H
                                    have H := H1
                                    clear H1
                                    exact absurd (Option.some.inj H) (by rw [hT.out]; decide)
                                · have H1 : (some false) = some r := by rw [if_neg (show ¬ (some q262).isNone = true by simp)] at H; exact H
                                  clear H
                                  have H := H1
                                  clear H1
                                  try simp only [errW_none, errW_some]
                                  exact absurd (Option.some.inj H) (by rw [hT.out]; decide)
                              · rw [if_neg c41] at H
                                have c41b0 : (x11_17 == x12_30) = false := beq_eq_false_iff_ne.mpr c41
                                have c41b1 : (x11_17 != x12_30) = true := bne_iff_ne.mpr c41
                                exact absurd (Option.some.inj H) (by rw [hT.out]; decide)
                            · rw [if_neg c38] at H
                              exact absurd H (by simp)
                          · rw [if_neg c37] at H
                            exact absurd H (by simp)

end Go.Proofs.Ytcchjnadhjeniaa.XAll
