/- Printed by this session's program (wip/print) out of the translation, for the statement named in the file's name. -/
import Derived.Test.YtindggjkcnelcaaXAllx0
import Derived.Test.YtindggjkcnelcaaXAllx1
import Derived.Test.YtindggjkcnelcaaXAllx2
import Derived.Test.YtindggjkcnelcaaXAllx3
import Derived.Test.YtindggjkcnelcaaXAllx4
import Derived.Test.YtindggjkcnelcaaXAllx6
import Derived.Test.YtindggjkcnelcaaXAllx10
import Derived.Test.YtindggjkcnelcaaXAllx11
namespace Go.Proofs.Ytindggjkcnelcaa.XAll
open Go.RowKit Go.Proofs.YtindggjkcnelcaaW.PrintWords Go.Proofs.YtindggjkcnelcaaW.PrintLast Go.Proofs.YtindggjkcnelcaaW.PrintMore
attribute [local go_sem] max2_int min2_int max_two min_two max_three min_three max_four min_four   -- for this text's walks alone
set_option linter.unusedVariables false
set_option linter.unusedSimpArgs false

/-! ### barbicanlaw03_PackBack: function 8 -/
def barbicanlaw03_PackBack.j0 : Nat → List Int → Bool → Option (Bool)
  | 0, _, _ => none
  | k + 1, x2, x87 => if x87 = true then (some false) else ((barbicanlaw03_twin.f x2).bind fun t238 => ((pack_Uint.f k t238).bind fun bt241 => (if bt241.2.2.isNone = true then (if bt241.2.1 ≥ 1 then (if bt241.2.1 ≤ (x2.length : Int) then ((pack_AppendUint.f k ([] : List Int) bt241.1).bind fun t245 => (if 0 ≤ bt241.2.1 then (if (strOfNums t245).toList = (strOfNums (x2.take (bt241.2.1 : Int).toNat)).toList then ((barbicanlaw03_sure.f k).bind fun t249 => (some t249)) else (some false)) else (none))) else (some false)) else (some false)) else (if bt241.1 = 0 then (if bt241.2.1 = 0 then ((barbicanlaw03_sure.f k).bind fun t250 => (some t250)) else (some false)) else (some false)))))
def barbicanlaw03_PackBack.f (k : Nat) (a0 : Int) (a1 : ByteArray) (l2 : List Int) : Option (Bool) := (pack_AppendInt.f k ([] : List Int) a0).bind fun t210 => (if t210.length + l2.length < 140737488355328 then ((some (t210 ++ l2 : List Int)).bind fun y213 => ((pack_AppendText.f k ([] : List Int) a1).bind fun t216 => (if t216.length + l2.length < 140737488355328 then ((some (t216 ++ l2 : List Int)).bind fun y219 => ((pack_Int.f k y213).bind fun bt222 => ((pack_Text.f k y219 (a1.size : Int)).bind fun bt225 => (if bt222.2.2.isNone = true then (if bt225.2.2.isNone = true then (if bt222.1 = a0 then (if bt225.1.toList = a1.toList then (if bt222.2.1 < 1 then (barbicanlaw03_PackBack.j0 k l2 true) else (if bt225.2.1 < 1 then (barbicanlaw03_PackBack.j0 k l2 true) else (if 0 ≤ (mn bt222.2.1 (y213.length : Int)) then (if (mn bt222.2.1 (y213.length : Int)) ≤ (y213.length : Int) then (if (strOfNums (y213.drop ((mn bt222.2.1 (y213.length : Int)) : Int).toNat)).toList = (strOfNums l2).toList then (if 0 ≤ (mn bt225.2.1 (y219.length : Int)) then (if (mn bt225.2.1 (y219.length : Int)) ≤ (y219.length : Int) then (barbicanlaw03_PackBack.j0 k l2 ((strOfNums (y219.drop ((mn bt225.2.1 (y219.length : Int)) : Int).toNat)).toList != (strOfNums l2).toList)) else (none)) else (none)) else (barbicanlaw03_PackBack.j0 k l2 true)) else (none)) else (none)))) else (barbicanlaw03_PackBack.j0 k l2 true)) else (barbicanlaw03_PackBack.j0 k l2 true)) else (barbicanlaw03_PackBack.j0 k l2 true)) else (barbicanlaw03_PackBack.j0 k l2 true))))) else (none)))) else (none))
theorem barbicanlaw03_PackBack.mono_l : ∀ k, (∀ y0 y1, LeO (barbicanlaw03_PackBack.j0 k y0 y1) (barbicanlaw03_PackBack.j0 (k + 1) y0 y1))
  | 0 => fun _ _ r h => by simp [barbicanlaw03_PackBack.j0] at h
  | k + 1 => by
    have ih0 := barbicanlaw03_PackBack.mono_l k
    · intro y0 y1
      unfold barbicanlaw03_PackBack.j0
      repeat' first
      | (with_reducible exact ih0 _ _)
      | (with_reducible exact barbicanlaw03_sure.mono _)
      | (with_reducible exact pack_AppendInt.mono _ _ _)
      | (with_reducible exact pack_AppendText.mono _ _ _)
      | (with_reducible exact pack_AppendUint.mono _ _ _)
      | (with_reducible exact pack_Int.mono _ _)
      | (with_reducible exact pack_Text.mono _ _ _)
      | (with_reducible exact pack_Uint.mono _ _)
      | (with_reducible exact LeO.refl _)
      | (with_reducible exact LeO.none _)
      | (with_reducible refine LeO.ite ?_ ?_)
      | (with_reducible refine LeO.bind ?_ (fun _ => ?_))
      | exact ih0 _ _
      | exact barbicanlaw03_sure.mono _
      | exact pack_AppendInt.mono _ _ _
      | exact pack_AppendText.mono _ _ _
      | exact pack_AppendUint.mono _ _ _
      | exact pack_Int.mono _ _
      | exact pack_Text.mono _ _ _
      | exact pack_Uint.mono _ _
      | exact LeO.none _
      | refine LeO.ite ?_ ?_
      | refine LeO.bind ?_ (fun _ => ?_)
theorem barbicanlaw03_PackBack.mono : ∀ a0 a1 a2 k, LeO (barbicanlaw03_PackBack.f k a0 a1 a2) (barbicanlaw03_PackBack.f (k + 1) a0 a1 a2) := by
  intro a0 a1 a2 k
  have ih0 := barbicanlaw03_PackBack.mono_l k
  unfold barbicanlaw03_PackBack.f
  repeat' first
      | (with_reducible exact ih0 _ _)
      | (with_reducible exact barbicanlaw03_sure.mono _)
      | (with_reducible exact pack_AppendInt.mono _ _ _)
      | (with_reducible exact pack_AppendText.mono _ _ _)
      | (with_reducible exact pack_AppendUint.mono _ _ _)
      | (with_reducible exact pack_Int.mono _ _)
      | (with_reducible exact pack_Text.mono _ _ _)
      | (with_reducible exact pack_Uint.mono _ _)
      | (with_reducible exact LeO.refl _)
      | (with_reducible exact LeO.none _)
      | (with_reducible refine LeO.ite ?_ ?_)
      | (with_reducible refine LeO.bind ?_ (fun _ => ?_))
      | exact ih0 _ _
      | exact barbicanlaw03_sure.mono _
      | exact pack_AppendInt.mono _ _ _
      | exact pack_AppendText.mono _ _ _
      | exact pack_AppendUint.mono _ _ _
      | exact pack_Int.mono _ _
      | exact pack_Text.mono _ _ _
      | exact pack_Uint.mono _ _
      | exact LeO.none _
      | refine LeO.ite ?_ ?_
      | refine LeO.bind ?_ (fun _ => ?_)
def barbicanlaw03_PackBack.T5 : Bool × List (List Nat × List Nat) := (true, [([], []), ([0], [0]), ([1], [1]), ([2], [2]), ([3, 2], [2, 3]), ([2, 4], [2, 4]), ([5, 2], [5]), ([6], [6]), ([6], [6]), ([7, 8, 6], [6, 7, 8]), ([6, 9], [6, 9]), ([10, 6], [10]), ([11], [11]), ([11], [11]), ([12, 13, 11], [11, 12, 13]), ([11, 14], [11, 14]), ([15, 11], [15]), ([16], [16]), ([17, 16], [16, 17]), ([16, 18], [16, 18]), ([19, 16], [19]), ([20], [20]), ([21, 20], [20, 21]), ([20, 22], [20, 22]), ([23, 20], [23]), ([24], [24]), ([24], [24]), ([24], [24]), ([27, 24], [24, 27]), ([26, 28, 24], [24, 26, 28]), ([25, 29, 24], [24, 25, 29]), ([30, 24], [24, 30]), ([24], [24]), ([32, 24], [24, 32]), ([31, 33, 24], [24, 31, 33]), ([24, 34], [24, 34]), ([35, 24], [35]), ([36], [36]), ([36], [36]), ([36], [36]), ([39, 36], [36, 39]), ([38, 40, 36], [36, 38, 40]), ([37, 41, 36], [36, 37, 41]), ([42, 36], [36, 42]), ([36], [36]), ([44, 36], [36, 44]), ([43, 45, 36], [36, 43, 45]), ([36, 46], [36, 46])])
def barbicanlaw03_PackBack.B5 : List Nat := [0, 1, 3, 7, 15, 31, 63, 127, 127, 511, 1023, 2047, 4095, 4095, 16383, 32767, 65535, 131071, 262143, 524287, 1048575, 2097151, 4194303, 8388607, 16777215, 33554431, 33554431, 33554431, 167772159, 503316479, 1073741823, 2147483647, 33554431, 4328521727, 17179869183, 34359738367, 68719476735, 137438953471, 137438953471, 137438953471, 687194767359, 2061584302079, 4398046511103, 8796093022207, 137438953471, 17729624997887, 70368744177663, 140737488355327]
theorem barbicanlaw03_PackBack.tab5 : rtab .any (opsOf Try.f8 5) = barbicanlaw03_PackBack.T5 := by kernel_rfl
theorem barbicanlaw03_PackBack.bits5 : waitsOk barbicanlaw03_PackBack.T5.2 barbicanlaw03_PackBack.B5 = true := by kernel_rfl
def barbicanlaw03_PackBack.T10 : Bool × List (List Nat × List Nat) := (true, [([], []), ([0], [0]), ([1], [1]), ([2], [2]), ([2], [2]), ([4, 2], [2, 4]), ([3, 5, 2], [2, 3, 5]), ([2, 6], [2, 6]), ([7, 2], [7]), ([8], [8]), ([9, 8, 8], [8, 9]), ([10, 8], [8, 10]), ([8], [8]), ([8], [8]), ([12, 13, 8], [8, 12, 13]), ([14, 8], [8, 14]), ([11, 15, 8], [8, 11, 15]), ([8, 16], [8, 16]), ([17, 10], [17]), ([18, 18], [18]), ([18, 19], [18, 19]), ([20, 19, 0, 1, 2, 3, 4, 5, 6, 7, 8, 9, 10, 11, 12, 13, 14, 15, 16, 17, 18, 19, 20], [20])])
def barbicanlaw03_PackBack.B10 : List Nat := [0, 1, 3, 7, 7, 23, 63, 127, 255, 511, 1023, 2047, 511, 511, 12799, 29183, 65535, 131071, 262143, 524287, 1048575, 2097151]
theorem barbicanlaw03_PackBack.tab10 : rtab .any (opsOf Try.f8 10) = barbicanlaw03_PackBack.T10 := by kernel_rfl
theorem barbicanlaw03_PackBack.bits10 : waitsOk barbicanlaw03_PackBack.T10.2 barbicanlaw03_PackBack.B10 = true := by kernel_rfl
set_option maxHeartbeats 8000000 in
set_option maxRecDepth 100000 in
theorem barbicanlaw03_PackBack.calls (k : Nat) (a0 : Int) (a1 : ByteArray) (A2 : Option Addr) (c2 : Nat) (l2 : List Int) (r : Bool) (w : World) (hr2 : Kd.C (Kd.int .u8) w A2 l2.length l2) (hc2 : l2.length ≤ c2) (h : barbicanlaw03_PackBack.f k a0 a1 l2 = some r) (hT : Aside0 (r = true)) :
    Calls Try.prog 8 #[.int .i64 a0, .string a1, .slice A2 l2.length c2] w fun e w' => e = .returned (.bool r) ∧ Below w.heap.size w w' := by
  have hu44 := Try.underlying44
  have hu63 := Try.underlying63
  have HR2 := Aside0.mk hr2
  have HC2 := Aside0.mk hc2
  clear hr2 hc2
  have HB := Aside0.mk (Below.refl w.heap.size w)
  have H : ((pack_AppendInt.f k ([] : List Int) a0).bind fun t210 => (if t210.length + l2.length < 140737488355328 then ((some (t210 ++ l2 : List Int)).bind fun y213 => ((pack_AppendText.f k ([] : List Int) a1).bind fun t216 => (if t216.length + l2.length < 140737488355328 then ((some (t216 ++ l2 : List Int)).bind fun y219 => ((pack_Int.f k y213).bind fun bt222 => ((pack_Text.f k y219 (a1.size : Int)).bind fun bt225 => (if bt222.2.2.isNone = true then (if bt225.2.2.isNone = true then (if bt222.1 = a0 then (if bt225.1.toList = a1.toList then (if bt222.2.1 < 1 then (barbicanlaw03_PackBack.j0 k l2 true) else (if bt225.2.1 < 1 then (barbicanlaw03_PackBack.j0 k l2 true) else (if 0 ≤ (mn bt222.2.1 (y213.length : Int)) then (if (mn bt222.2.1 (y213.length : Int)) ≤ (y213.length : Int) then (if (strOfNums (y213.drop ((mn bt222.2.1 (y213.length : Int)) : Int).toNat)).toList = (strOfNums l2).toList then (if 0 ≤ (mn bt225.2.1 (y219.length : Int)) then (if (mn bt225.2.1 (y219.length : Int)) ≤ (y219.length : Int) then (barbicanlaw03_PackBack.j0 k l2 ((strOfNums (y219.drop ((mn bt225.2.1 (y219.length : Int)) : Int).toNat)).toList != (strOfNums l2).toList)) else (none)) else (none)) else (barbicanlaw03_PackBack.j0 k l2 true)) else (none)) else (none)))) else (barbicanlaw03_PackBack.j0 k l2 true)) else (barbicanlaw03_PackBack.j0 k l2 true)) else (barbicanlaw03_PackBack.j0 k l2 true)) else (barbicanlaw03_PackBack.j0 k l2 true))))) else (none)))) else (none))) = some r := h
  clear h
  replace H := Option.bind_eq_some_iff.mp H
  obtain ⟨t210, A40, H⟩ := H
  replace H : (if t210.length + l2.length < 140737488355328 then ((some (t210 ++ l2 : List Int)).bind fun y213 => ((pack_AppendText.f k ([] : List Int) a1).bind fun t216 => (if t216.length + l2.length < 140737488355328 then ((some (t216 ++ l2 : List Int)).bind fun y219 => ((pack_Int.f k y213).bind fun bt222 => ((pack_Text.f k y219 (a1.size : Int)).bind fun bt225 => (if bt222.2.2.isNone = true then (if bt225.2.2.isNone = true then (if bt222.1 = a0 then (if bt225.1.toList = a1.toList then (if bt222.2.1 < 1 then (barbicanlaw03_PackBack.j0 k l2 true) else (if bt225.2.1 < 1 then (barbicanlaw03_PackBack.j0 k l2 true) else (if 0 ≤ (mn bt222.2.1 (y213.length : Int)) then (if (mn bt222.2.1 (y213.length : Int)) ≤ (y213.length : Int) then (if (strOfNums (y213.drop ((mn bt222.2.1 (y213.length : Int)) : Int).toNat)).toList = (strOfNums l2).toList then (if 0 ≤ (mn bt225.2.1 (y219.length : Int)) then (if (mn bt225.2.1 (y219.length : Int)) ≤ (y219.length : Int) then (barbicanlaw03_PackBack.j0 k l2 ((strOfNums (y219.drop ((mn bt225.2.1 (y219.length : Int)) : Int).toNat)).toList != (strOfNums l2).toList)) else (none)) else (none)) else (barbicanlaw03_PackBack.j0 k l2 true)) else (none)) else (none)))) else (barbicanlaw03_PackBack.j0 k l2 true)) else (barbicanlaw03_PackBack.j0 k l2 true)) else (barbicanlaw03_PackBack.j0 k l2 true)) else (barbicanlaw03_PackBack.j0 k l2 true))))) else (none)))) else (none)) = some r := H
  have A4 := Aside0.mk A40
  clear A40
  by_cases c5 : t210.length + l2.length < 140737488355328
  · rw [if_pos c5] at H
    have LMc5 := Aside0.mk c5
    clear c5
    obtain ⟨y213, hy213⟩ : ∃ y_ : List Int, y_ = (t210 ++ l2) := ⟨_, rfl⟩
    replace H : ((pack_AppendText.f k ([] : List Int) a1).bind fun t216 => (if t216.length + l2.length < 140737488355328 then ((some (t216 ++ l2 : List Int)).bind fun y219 => ((pack_Int.f k y213).bind fun bt222 => ((pack_Text.f k y219 (a1.size : Int)).bind fun bt225 => (if bt222.2.2.isNone = true then (if bt225.2.2.isNone = true then (if bt222.1 = a0 then (if bt225.1.toList = a1.toList then (if bt222.2.1 < 1 then (barbicanlaw03_PackBack.j0 k l2 true) else (if bt225.2.1 < 1 then (barbicanlaw03_PackBack.j0 k l2 true) else (if 0 ≤ (mn bt222.2.1 (y213.length : Int)) then (if (mn bt222.2.1 (y213.length : Int)) ≤ (y213.length : Int) then (if (strOfNums (y213.drop ((mn bt222.2.1 (y213.length : Int)) : Int).toNat)).toList = (strOfNums l2).toList then (if 0 ≤ (mn bt225.2.1 (y219.length : Int)) then (if (mn bt225.2.1 (y219.length : Int)) ≤ (y219.length : Int) then (barbicanlaw03_PackBack.j0 k l2 ((strOfNums (y219.drop ((mn bt225.2.1 (y219.length : Int)) : Int).toNat)).toList != (strOfNums l2).toList)) else (none)) else (none)) else (barbicanlaw03_PackBack.j0 k l2 true)) else (none)) else (none)))) else (barbicanlaw03_PackBack.j0 k l2 true)) else (barbicanlaw03_PackBack.j0 k l2 true)) else (barbicanlaw03_PackBack.j0 k l2 true)) else (barbicanlaw03_PackBack.j0 k l2 true))))) else (none))) = some r := by first | (rw [hy213]; with_reducible exact H) | (have H2_ := (Option.bind_some _ _).symm.trans H; rw [hy213]; with_reducible exact H2_) | (have H2_ := (Option.bind_some _ _).symm.trans H; with_reducible exact H2_) | with_reducible exact H | (rw [hy213]; exact H) | exact H
    have Ny213 := Aside0.mk hy213
    clear hy213
    replace H := Option.bind_eq_some_iff.mp H
    obtain ⟨t216, A60, H⟩ := H
    replace H : (if t216.length + l2.length < 140737488355328 then ((some (t216 ++ l2 : List Int)).bind fun y219 => ((pack_Int.f k y213).bind fun bt222 => ((pack_Text.f k y219 (a1.size : Int)).bind fun bt225 => (if bt222.2.2.isNone = true then (if bt225.2.2.isNone = true then (if bt222.1 = a0 then (if bt225.1.toList = a1.toList then (if bt222.2.1 < 1 then (barbicanlaw03_PackBack.j0 k l2 true) else (if bt225.2.1 < 1 then (barbicanlaw03_PackBack.j0 k l2 true) else (if 0 ≤ (mn bt222.2.1 (y213.length : Int)) then (if (mn bt222.2.1 (y213.length : Int)) ≤ (y213.length : Int) then (if (strOfNums (y213.drop ((mn bt222.2.1 (y213.length : Int)) : Int).toNat)).toList = (strOfNums l2).toList then (if 0 ≤ (mn bt225.2.1 (y219.length : Int)) then (if (mn bt225.2.1 (y219.length : Int)) ≤ (y219.length : Int) then (barbicanlaw03_PackBack.j0 k l2 ((strOfNums (y219.drop ((mn bt225.2.1 (y219.length : Int)) : Int).toNat)).toList != (strOfNums l2).toList)) else (none)) else (none)) else (barbicanlaw03_PackBack.j0 k l2 true)) else (none)) else (none)))) else (barbicanlaw03_PackBack.j0 k l2 true)) else (barbicanlaw03_PackBack.j0 k l2 true)) else (barbicanlaw03_PackBack.j0 k l2 true)) else (barbicanlaw03_PackBack.j0 k l2 true))))) else (none)) = some r := H
    have A6 := Aside0.mk A60
    clear A60
    by_cases c7 : t216.length + l2.length < 140737488355328
    · rw [if_pos c7] at H
      have LMc7 := Aside0.mk c7
      clear c7
      obtain ⟨y219, hy219⟩ : ∃ y_ : List Int, y_ = (t216 ++ l2) := ⟨_, rfl⟩
      replace H : ((pack_Int.f k y213).bind fun bt222 => ((pack_Text.f k y219 (a1.size : Int)).bind fun bt225 => (if bt222.2.2.isNone = true then (if bt225.2.2.isNone = true then (if bt222.1 = a0 then (if bt225.1.toList = a1.toList then (if bt222.2.1 < 1 then (barbicanlaw03_PackBack.j0 k l2 true) else (if bt225.2.1 < 1 then (barbicanlaw03_PackBack.j0 k l2 true) else (if 0 ≤ (mn bt222.2.1 (y213.length : Int)) then (if (mn bt222.2.1 (y213.length : Int)) ≤ (y213.length : Int) then (if (strOfNums (y213.drop ((mn bt222.2.1 (y213.length : Int)) : Int).toNat)).toList = (strOfNums l2).toList then (if 0 ≤ (mn bt225.2.1 (y219.length : Int)) then (if (mn bt225.2.1 (y219.length : Int)) ≤ (y219.length : Int) then (barbicanlaw03_PackBack.j0 k l2 ((strOfNums (y219.drop ((mn bt225.2.1 (y219.length : Int)) : Int).toNat)).toList != (strOfNums l2).toList)) else (none)) else (none)) else (barbicanlaw03_PackBack.j0 k l2 true)) else (none)) else (none)))) else (barbicanlaw03_PackBack.j0 k l2 true)) else (barbicanlaw03_PackBack.j0 k l2 true)) else (barbicanlaw03_PackBack.j0 k l2 true)) else (barbicanlaw03_PackBack.j0 k l2 true)))) = some r := by first | (rw [hy219]; with_reducible exact H) | (have H2_ := (Option.bind_some _ _).symm.trans H; rw [hy219]; with_reducible exact H2_) | (have H2_ := (Option.bind_some _ _).symm.trans H; with_reducible exact H2_) | with_reducible exact H | (rw [hy219]; exact H) | exact H
      have Ny219 := Aside0.mk hy219
      clear hy219
      replace H := Option.bind_eq_some_iff.mp H
      obtain ⟨⟨t222, t223, t224⟩, A80, H⟩ := H
      replace H : ((pack_Text.f k y219 (a1.size : Int)).bind fun bt225 => (if t224.isNone = true then (if bt225.2.2.isNone = true then (if t222 = a0 then (if bt225.1.toList = a1.toList then (if t223 < 1 then (barbicanlaw03_PackBack.j0 k l2 true) else (if bt225.2.1 < 1 then (barbicanlaw03_PackBack.j0 k l2 true) else (if 0 ≤ (mn t223 (y213.length : Int)) then (if (mn t223 (y213.length : Int)) ≤ (y213.length : Int) then (if (strOfNums (y213.drop ((mn t223 (y213.length : Int)) : Int).toNat)).toList = (strOfNums l2).toList then (if 0 ≤ (mn bt225.2.1 (y219.length : Int)) then (if (mn bt225.2.1 (y219.length : Int)) ≤ (y219.length : Int) then (barbicanlaw03_PackBack.j0 k l2 ((strOfNums (y219.drop ((mn bt225.2.1 (y219.length : Int)) : Int).toNat)).toList != (strOfNums l2).toList)) else (none)) else (none)) else (barbicanlaw03_PackBack.j0 k l2 true)) else (none)) else (none)))) else (barbicanlaw03_PackBack.j0 k l2 true)) else (barbicanlaw03_PackBack.j0 k l2 true)) else (barbicanlaw03_PackBack.j0 k l2 true)) else (barbicanlaw03_PackBack.j0 k l2 true))) = some r := H
      have A8 := Aside0.mk A80
      clear A80
      replace H := Option.bind_eq_some_iff.mp H
      obtain ⟨⟨t225, t226, t227⟩, A90, H⟩ := H
      replace H : (if t224.isNone = true then (if t227.isNone = true then (if t222 = a0 then (if t225.toList = a1.toList then (if t223 < 1 then (barbicanlaw03_PackBack.j0 k l2 true) else (if t226 < 1 then (barbicanlaw03_PackBack.j0 k l2 true) else (if 0 ≤ (mn t223 (y213.length : Int)) then (if (mn t223 (y213.length : Int)) ≤ (y213.length : Int) then (if (strOfNums (y213.drop ((mn t223 (y213.length : Int)) : Int).toNat)).toList = (strOfNums l2).toList then (if 0 ≤ (mn t226 (y219.length : Int)) then (if (mn t226 (y219.length : Int)) ≤ (y219.length : Int) then (barbicanlaw03_PackBack.j0 k l2 ((strOfNums (y219.drop ((mn t226 (y219.length : Int)) : Int).toNat)).toList != (strOfNums l2).toList)) else (none)) else (none)) else (barbicanlaw03_PackBack.j0 k l2 true)) else (none)) else (none)))) else (barbicanlaw03_PackBack.j0 k l2 true)) else (barbicanlaw03_PackBack.j0 k l2 true)) else (barbicanlaw03_PackBack.j0 k l2 true)) else (barbicanlaw03_PackBack.j0 k l2 true)) = some r := H
      have A9 := Aside0.mk A90
      clear A90
      have HC10 := Aside0.mk H
      clear H
      go_enter Try.func8, Try.ntmps8
      go_upto_region 5 with (first | ((with_reducible refine gate_callee (f := 21) rfl ?_); refine goesL_ (some 19) rfl rfl Try.func21 (by kernel_rfl) rfl #[.slice none 0 0, .int .i64 a0] rfl (by (try simp only [List.map_toArray, List.map_cons, List.map_nil]); first | done | rfl | (simp only [List.length_drop, List.length_take]; rfl)) ?_; (refine (pack_AppendInt.calls k _ _ ([] : List Int) a0 t210 _ ?side1 ?side2 A4.out).mono ?_); (case side1 => exact Kd.C_nil _ _); (case side2 => exact Nat.le_refl _); rintro e w11 ⟨v211, rfl, ho0, hb⟩; refine ⟨_, rfl, ?_⟩; have n0_ := Aside0.mk (Kd.R_lower ho0 (below_size (by repeat (first | (with_reducible first | exact HB.out | apply below_alloc | apply pw_below_drewN | apply below_drew1) | exact HB.out | exact below_undrew HB.out)))); have n1_ := Aside0.mk (below_step (by repeat (first | (with_reducible first | exact HB.out | apply below_alloc | apply pw_below_drewN | apply below_drew1) | exact HB.out | exact below_undrew HB.out)) hb); clear HB; have HO212 := n0_; have HB := n1_; clear n0_ n1_; (try clear hb); (try clear hb2); (try clear hk); (try clear hi); (try clear ho0)) | ((with_reducible refine gate_builtin (b := .append) (xs := #[.tmp 19, .tmp 20]) rfl ?_); (try (refine gate_guard (by rfl) ?_; dsimp only)); at_builtin; refine Kd.R_append_rows (Kd.int .u8) (w0 := w) w.heap.size rfl (.tmp 19) (.tmp 20) 23 5 (.int .u8 0) 1 rfl Try.underlying23 info5 rfl (by decide) (by omega) v211 t210 l2 _ _ _ (fun _ => True) (fun _ => False) rfl rfl ?aO ?aR (fun _ _ h => h) (fun _ h => h.elim) ?aF ?aB ?aS ?aL ?_; (case aR => repeat (first | exact (Kd.C_below HR2.out HB.out) | (with_reducible refine Kd.C_alloc ?_ _) | (with_reducible refine Kd.C_drewN ?_ _) | (with_reducible refine Kd.C_drew ?_))); (case aB => exact (by repeat (first | (with_reducible first | exact HB.out | apply below_alloc | apply pw_below_drewN | apply below_drew1) | exact HB.out | exact below_undrew HB.out))); (case aF => exact (fun _ _ => trivial)); (case aO => exact (by (with_reducible repeat (first | apply Kd.R_alloc | apply Kd.R_drewN | apply Kd.R_drew)); exact HO212.out)); (case aS => exact (below_size (by repeat (first | (with_reducible first | exact HB.out | apply below_alloc | apply pw_below_drewN | apply below_drew1) | exact HB.out | exact below_undrew HB.out)))); (case aL => have := LMc5.out; omega); intro v214 w12 ho hb hg hat; rw [← Ny213.out] at ho; have n0_ := Aside0.mk (hb); have n1_ := Aside0.mk (ho); clear HB; clear HO212; have HB := n0_; have HO215 := n1_; clear n0_ n1_; clear ho hb hg hat) | ((with_reducible refine gate_callee (f := 22) rfl ?_); refine goesL_ (some 23) rfl rfl Try.func22 (by kernel_rfl) rfl #[.slice none 0 0, .string a1] rfl (by (try simp only [List.map_toArray, List.map_cons, List.map_nil]); first | done | rfl | (simp only [List.length_drop, List.length_take]; rfl)) ?_; (refine (pack_AppendText.calls k _ _ ([] : List Int) a1 t216 _ ?side1 ?side2 A6.out).mono ?_); (case side1 => exact Kd.C_nil _ _); (case side2 => exact Nat.le_refl _); rintro e w13 ⟨v217, rfl, ho0, hb⟩; refine ⟨_, rfl, ?_⟩; have n0_ := Aside0.mk (Kd.R_elder' (by (with_reducible repeat (first | apply Kd.R_alloc | apply Kd.R_drewN | apply Kd.R_drew)); exact HO215.out) (Kd.R_base ho0) hb); have n1_ := Aside0.mk (Kd.R_lower (Kd.R_new' ho0 (Kd.R_lt (by (with_reducible repeat (first | apply Kd.R_alloc | apply Kd.R_drewN | apply Kd.R_drew)); exact HO215.out))) (below_size (by repeat (first | (with_reducible first | exact HB.out | apply below_alloc | apply pw_below_drewN | apply below_drew1) | exact HB.out | exact below_undrew HB.out)))); have n2_ := Aside0.mk (below_step (by repeat (first | (with_reducible first | exact HB.out | apply below_alloc | apply pw_below_drewN | apply below_drew1) | exact HB.out | exact below_undrew HB.out)) hb); clear HO215; clear HB; have HO215 := n0_; have HO218 := n1_; have HB := n2_; clear n0_ n1_ n2_; (try clear hb); (try clear hb2); (try clear hk); (try clear hi); (try clear ho0)) | ((with_reducible refine gate_builtin (b := .append) (xs := #[.tmp 23, .tmp 24]) rfl ?_); (try (refine gate_guard (by rfl) ?_; dsimp only)); at_builtin; refine Kd.R_append_rows (Kd.int .u8) (w0 := w) w.heap.size rfl (.tmp 23) (.tmp 24) 23 5 (.int .u8 0) 1 rfl Try.underlying23 info5 rfl (by decide) (by omega) v217 t216 l2 _ _ _ (fun k_ => some k_ ≠ (v214 : Value).ownBlock) (fun _ => False) rfl rfl ?aO ?aR (fun _ _ h => h) (fun _ h => h.elim) ?aF ?aB ?aS ?aL ?_; (case aR => repeat (first | exact (Kd.C_below HR2.out HB.out) | (with_reducible refine Kd.C_alloc ?_ _) | (with_reducible refine Kd.C_drewN ?_ _) | (with_reducible refine Kd.C_drew ?_))); (case aB => exact (by repeat (first | (with_reducible first | exact HB.out | apply below_alloc | apply pw_below_drewN | apply below_drew1) | exact HB.out | exact below_undrew HB.out))); (case aF => exact (fun k_ hk => Kd.fresh' (Kd.R_lt (by (with_reducible repeat (first | apply Kd.R_alloc | apply Kd.R_drewN | apply Kd.R_drew)); exact HO215.out)) k_ hk)); (case aO => exact (by (with_reducible repeat (first | apply Kd.R_alloc | apply Kd.R_drewN | apply Kd.R_drew)); exact Kd.R_mono HO218.out (fun _ hk => hk.2))); (case aS => exact (below_size (by repeat (first | (with_reducible first | exact HB.out | apply below_alloc | apply pw_below_drewN | apply below_drew1) | exact HB.out | exact below_undrew HB.out)))); (case aL => have := LMc7.out; omega); intro v220 w14 ho hb hg hat; rw [← Ny219.out] at ho; have n0_ := Aside0.mk (Kd.R_after (ok := (fun _ => True)) (by (with_reducible repeat (first | apply Kd.R_alloc | apply Kd.R_drewN | apply Kd.R_drew)); exact HO215.out) hg hat); have n1_ := Aside0.mk (hb); have n2_ := Aside0.mk (ho); clear HO215; clear HB; clear HO218; have HO215 := n0_; have HB := n1_; have HO221 := n2_; clear n0_ n1_ n2_; clear ho hb hg hat; obtain ⟨Ao15, co15, eo15⟩ := Kd.R_slice HO215.out; subst eo15) | ((with_reducible refine gate_callee (f := 28) rfl ?_); refine goesL_ (some 28) rfl rfl Try.func28 (by kernel_rfl) rfl #[.slice Ao15 y213.length co15] rfl (by (try simp only [List.map_toArray, List.map_cons, List.map_nil]); first | done | rfl | (simp only [List.length_drop, List.length_take]; rfl)) ?_; (with_reducible refine (pack_Int.calls k _ _ y213 t222 t223 t224 _ ?side1 ?side2 A8.out).mono ?_); (case side1 => repeat (first | exact (Kd.R_reads' HO215.out).2.2 | (with_reducible refine Kd.C_alloc ?_ _) | (with_reducible refine Kd.C_drewN ?_ _) | (with_reducible refine Kd.C_drew ?_))); (case side2 => exact (Kd.R_reads' HO215.out).2.1); rintro e w' ⟨rfl, ⟨nd, rfl⟩⟩; refine ⟨_, rfl, ?_⟩; (try simp only [errW_none, errW_some]); obtain ⟨Ao16, co16, eo16⟩ := Kd.R_slice HO221.out; subst eo16) | ((with_reducible refine gate_callee (f := 29) rfl ?_); refine goesL_ (some 36) rfl rfl Try.func29 (by kernel_rfl) rfl #[.slice Ao16 y219.length co16, .int .i64 (a1.size : Int)] rfl (by (try simp only [List.map_toArray, List.map_cons, List.map_nil]); first | done | rfl | (simp only [List.length_drop, List.length_take]; rfl)) ?_; (with_reducible refine (pack_Text.calls k _ _ y219 (a1.size : Int) t225 t226 t227 _ ?side1 ?side2 A9.out).mono ?_); (case side1 => repeat (first | exact (Kd.R_reads' HO221.out).2.2 | (with_reducible refine Kd.C_alloc ?_ _) | (with_reducible refine Kd.C_drewN ?_ _) | (with_reducible refine Kd.C_drew ?_))); (case side2 => exact (Kd.R_reads' HO221.out).2.1); rintro e w' ⟨rfl, ⟨nd, rfl⟩⟩; refine ⟨_, rfl, ?_⟩; (try simp only [errW_none, errW_some])))
      (try simp only [Act.put, List.setIfInBounds_toArray, List.set_cons_zero, List.set_cons_succ])
      go_cut [87] (fun v87 wc => ∃ (kq : Nat) (x87_9 : Bool), v87 = .bool x87_9 ∧ Aside0 (barbicanlaw03_PackBack.j0 kq l2 x87_9 = some r) ∧ Aside0 (kq ≤ k) ∧ Aside0 (Below w.heap.size w wc))
      case first =>
        have H := HC10.out
        clear HC10
        rcases t224 with _ | q228
        · have H1 : (if t227.isNone = true then (if t222 = a0 then (if t225.toList = a1.toList then (if t223 < 1 then (barbicanlaw03_PackBack.j0 k l2 true) else (if t226 < 1 then (barbicanlaw03_PackBack.j0 k l2 true) else (if 0 ≤ (mn t223 (y213.length : Int)) then (if (mn t223 (y213.length : Int)) ≤ (y213.length : Int) then (if (strOfNums (y213.drop ((mn t223 (y213.length : Int)) : Int).toNat)).toList = (strOfNums l2).toList then (if 0 ≤ (mn t226 (y219.length : Int)) then (if (mn t226 (y219.length : Int)) ≤ (y219.length : Int) then (barbicanlaw03_PackBack.j0 k l2 ((strOfNums (y219.drop ((mn t226 (y219.length : Int)) : Int).toNat)).toList != (strOfNums l2).toList)) else (none)) else (none)) else (barbicanlaw03_PackBack.j0 k l2 true)) else (none)) else (none)))) else (barbicanlaw03_PackBack.j0 k l2 true)) else (barbicanlaw03_PackBack.j0 k l2 true)) else (barbicanlaw03_PackBack.j0 k l2 true)) = some r := by rw [if_pos (show (none : Option Int).isNone = true by rfl)] at H; exact H
          clear H
          have H := H1
          clear H1
          try simp only [errW_none, errW_some]
          rcases t227 with _ | q229
          · have H1 : (if t222 = a0 then (if t225.toList = a1.toList then (if t223 < 1 then (barbicanlaw03_PackBack.j0 k l2 true) else (if t226 < 1 then (barbicanlaw03_PackBack.j0 k l2 true) else (if 0 ≤ (mn t223 (y213.length : Int)) then (if (mn t223 (y213.length : Int)) ≤ (y213.length : Int) then (if (strOfNums (y213.drop ((mn t223 (y213.length : Int)) : Int).toNat)).toList = (strOfNums l2).toList then (if 0 ≤ (mn t226 (y219.length : Int)) then (if (mn t226 (y219.length : Int)) ≤ (y219.length : Int) then (barbicanlaw03_PackBack.j0 k l2 ((strOfNums (y219.drop ((mn t226 (y219.length : Int)) : Int).toNat)).toList != (strOfNums l2).toList)) else (none)) else (none)) else (barbicanlaw03_PackBack.j0 k l2 true)) else (none)) else (none)))) else (barbicanlaw03_PackBack.j0 k l2 true)) else (barbicanlaw03_PackBack.j0 k l2 true)) = some r := by rw [if_pos (show (none : Option Int).isNone = true by rfl)] at H; exact H
            clear H
            have H := H1
            clear H1
            try simp only [errW_none, errW_some]
            by_cases c17 : t222 = a0
            · rw [if_pos c17] at H
              have c17b0 : (t222 == a0) = true := beq_iff_eq.mpr c17
              have c17b1 : (t222 != a0) = false := bne_eq_false_iff_eq.mpr c17
              clear c17
              (first | rw [c17b0] | (simp only [i64_w, i32_w]; rw [c17b0]) | skip)
              by_cases c18 : t225.toList = a1.toList
              · rw [if_pos c18] at H
                have c18b0 : (t225.toList == a1.toList) = true := beq_iff_eq.mpr c18
                have c18b1 : (t225.toList != a1.toList) = false := bne_eq_false_iff_eq.mpr c18
                clear c18
                by_cases c19 : t223 < 1
                · rw [if_pos c19] at H
                  have c19b0 : decide (t223 < 1) = true := decide_eq_true c19
                  clear c19
                  exact absurd H (by cases k <;> simp [barbicanlaw03_PackBack.j0, hT.out])
                · rw [if_neg c19] at H
                  have c19b0 : decide (t223 < 1) = false := decide_eq_false c19
                  clear c19
                  by_cases c20 : t226 < 1
                  · rw [if_pos c20] at H
                    have c20b0 : decide (t226 < 1) = true := decide_eq_true c20
                    clear c20
                    exact absurd H (by cases k <;> simp [barbicanlaw03_PackBack.j0, hT.out])
                  · rw [if_neg c20] at H
                    have c20b0 : decide (t226 < 1) = false := decide_eq_false c20
                    clear c20
                    obtain ⟨ji21, hji21⟩ : ∃ j_ : Int, (mn t223 (y213.length : Int)) = j_ := ⟨_, rfl⟩
                    replace H : (if 0 ≤ (ji21) then (if (ji21) ≤ (y213.length : Int) then (if (strOfNums (y213.drop ((ji21) : Int).toNat)).toList = (strOfNums l2).toList then (if 0 ≤ (mn t226 (y219.length : Int)) then (if (mn t226 (y219.length : Int)) ≤ (y219.length : Int) then (barbicanlaw03_PackBack.j0 k l2 ((strOfNums (y219.drop ((mn t226 (y219.length : Int)) : Int).toNat)).toList != (strOfNums l2).toList)) else (none)) else (none)) else (barbicanlaw03_PackBack.j0 k l2 true)) else (none)) else (none)) = some r := by first | (rw [hji21] at H; exact H) | (simp only [hji21] at H ⊢; exact H)
                    have hji21_ : (if (y213.length : Int) < t223 then (y213.length : Int) else t223) = ji21 := hji21
                    by_cases c22 : 0 ≤ (ji21)
                    · rw [if_pos c22] at H
                      have c22b0 := eq_true c22
                      have c22b1 : decide (0 ≤ (ji21)) = true := decide_eq_true c22
                      clear c22
                      by_cases c23 : (ji21) ≤ (y213.length : Int)
                      · rw [if_pos c23] at H
                        have c23b0 := eq_true c23
                        have c23b1 : decide ((ji21) ≤ (y213.length : Int)) = true := decide_eq_true c23
                        clear c23
                        obtain ⟨y230, hy230⟩ : ∃ y_ : List Int, y_ = (y213.drop ((ji21) : Int).toNat) := ⟨_, rfl⟩
                        replace H : (if (strOfNums y230).toList = (strOfNums l2).toList then (if 0 ≤ (mn t226 (y219.length : Int)) then (if (mn t226 (y219.length : Int)) ≤ (y219.length : Int) then (barbicanlaw03_PackBack.j0 k l2 ((strOfNums (y219.drop ((mn t226 (y219.length : Int)) : Int).toNat)).toList != (strOfNums l2).toList)) else (none)) else (none)) else (barbicanlaw03_PackBack.j0 k l2 true)) = some r := by first | (rw [hy230]; with_reducible exact H) | (have H2_ := (Option.bind_some _ _).symm.trans H; rw [hy230]; with_reducible exact H2_) | (have H2_ := (Option.bind_some _ _).symm.trans H; with_reducible exact H2_) | with_reducible exact H | (rw [hy230]; exact H) | exact H
                        have Ny230 := Aside0.mk hy230
                        clear hy230
                        by_cases c24 : (strOfNums y230).toList = (strOfNums l2).toList
                        · rw [if_pos c24] at H
                          have c24b0 : ((strOfNums y230).toList == (strOfNums l2).toList) = true := beq_iff_eq.mpr c24
                          have c24b1 : ((strOfNums y230).toList != (strOfNums l2).toList) = false := bne_eq_false_iff_eq.mpr c24
                          clear c24
                          obtain ⟨ji25, hji25⟩ : ∃ j_ : Int, (mn t226 (y219.length : Int)) = j_ := ⟨_, rfl⟩
                          replace H : (if 0 ≤ (ji25) then (if (ji25) ≤ (y219.length : Int) then (barbicanlaw03_PackBack.j0 k l2 ((strOfNums (y219.drop ((ji25) : Int).toNat)).toList != (strOfNums l2).toList)) else (none)) else (none)) = some r := by first | (rw [hji25] at H; exact H) | (simp only [hji25] at H ⊢; exact H)
                          have hji25_ : (if (y219.length : Int) < t226 then (y219.length : Int) else t226) = ji25 := hji25
                          by_cases c26 : 0 ≤ (ji25)
                          · rw [if_pos c26] at H
                            have c26b0 := eq_true c26
                            have c26b1 : decide (0 ≤ (ji25)) = true := decide_eq_true c26
                            clear c26
                            by_cases c27 : (ji25) ≤ (y219.length : Int)
                            · rw [if_pos c27] at H
                              have c27b0 := eq_true c27
                              have c27b1 : decide ((ji25) ≤ (y219.length : Int)) = true := decide_eq_true c27
                              clear c27
                              obtain ⟨y234, hy234⟩ : ∃ y_ : List Int, y_ = (y219.drop ((ji25) : Int).toNat) := ⟨_, rfl⟩
                              replace H : (barbicanlaw03_PackBack.j0 k l2 ((strOfNums y234).toList != (strOfNums l2).toList)) = some r := by first | (rw [hy234]; with_reducible exact H) | (have H2_ := (Option.bind_some _ _).symm.trans H; rw [hy234]; with_reducible exact H2_) | (have H2_ := (Option.bind_some _ _).symm.trans H; with_reducible exact H2_) | with_reducible exact H | (rw [hy234]; exact H) | exact H
                              have Ny234 := Aside0.mk hy234
                              clear hy234
                              have H' := Aside0.mk H
                              clear H
                              try go_wp2
                              (try (rw [drewN_self w14]; generalize hq_ : World.drewN w14 _ = w14; have n0_ : Aside0 (Kd.R (Kd.int .u8) 5 w14 w.heap.size (fun k_ => some k_ ≠ (.slice Ao16 y219.length co16 : Value).ownBlock) (.slice Ao15 y213.length co15) y213) := ⟨by rw [← hq_]; exact (by (with_reducible repeat (first | apply Kd.R_alloc | apply Kd.R_drewN | apply Kd.R_drew)); exact Kd.R_mono HO215.out (fun _ hk => hk.2))⟩; have n1_ : Aside0 (Kd.R (Kd.int .u8) 5 w14 w.heap.size (fun k_ => some k_ ≠ (.slice Ao15 y213.length co15 : Value).ownBlock) (.slice Ao16 y219.length co16) y219) := ⟨by rw [← hq_]; exact (by (with_reducible repeat (first | apply Kd.R_alloc | apply Kd.R_drewN | apply Kd.R_drew)); exact HO221.out)⟩; have n2_ : Aside0 (Below w.heap.size w w14) := ⟨by rw [← hq_]; exact (by repeat (first | (with_reducible first | exact HB.out | apply below_alloc | apply pw_below_drewN | apply below_drew1) | exact HB.out | exact below_undrew HB.out))⟩; clear HO215 HO221 HB hq_; have HO215 := n0_; have HO221 := n1_; have HB := n2_; clear n0_ n1_ n2_))
                              have n0_ := Aside0.mk (Kd.R_drew HO215.out)
                              have n1_ := Aside0.mk (Kd.R_drew HO221.out)
                              have n2_ := Aside0.mk (below_drew1 HB.out)
                              clear HO215
                              clear HO221
                              clear HB
                              have HO215 := n0_
                              have HO221 := n1_
                              have HB := n2_
                              clear n0_ n1_ n2_
                              have q29 : ((ji21) : Int) ≤ ((y213.length : Int) : Int) := of_decide_eq_true (by first | (with_reducible assumption) | assumption)
                              obtain ⟨i029, hi029, _, hsz29, _⟩ := info_parts info5
                              have hroom29 : y213.length ≤ co15 := (Kd.R_reads' HO215.out).2.1
                              have hC29 : Kd.C (Kd.int .u8) _ Ao15 y213.length y213 := (Kd.R_reads' HO215.out).2.2
                              have q029 : (0 : Int) ≤ ((ji21) : Int) := of_decide_eq_true (by first | (with_reducible assumption) | assumption)
                              have hcut29 := cut_from (P := Try.prog) 23 5 .i64 Try.underlying23 hi029 1 hsz29 Ao15 y213.length co15 (ji21) q029 q29
                              have hr29 := Kd.C_drop (m := ((ji21) : Int).toNat) (c := co15) hC29 (by omega) hroom29
                              obtain ⟨A29, hA29⟩ : ∃ A1, A1 = (if co15 = ((ji21) : Int).toNat then Ao15 else (Ao15 : Option Addr).map (·.add (((ji21) : Int).toNat * 1))) := ⟨_, rfl⟩
                              obtain ⟨c29, hc29⟩ : ∃ c1, c1 = co15 - ((ji21) : Int).toNat := ⟨_, rfl⟩
                              have hy29 : y230.length = y213.length - ((ji21) : Int).toNat := (by rw [Ny230.out, List.length_drop] <;> omega)
                              rw [show (y213).drop ((ji21) : Int).toNat = y230 from Ny230.out.symm] at hr29
                              replace hr29 : Kd.C (Kd.int .u8) _ A29 y230.length y230 := (by rw [hA29]; exact hr29)
                              rw [← hy29, ← hA29, ← hc29] at hcut29
                              have HR233 := Aside0.mk hr29
                              have HC233 := Aside0.mk (show y230.length ≤ c29 from by rw [hy29, hc29]; exact Nat.sub_le_sub_right hroom29 _)
                              clear hr29 hC29 hroom29 hi029 hsz29 hc29
                              have KY29 := Aside0.mk hy29
                              have KA29 := Aside0.mk hA29
                              clear hy29 hA29
                              have KL29 := Aside0.mk (show ((ji21) : Int).toNat ≤ y213.length from by omega)
                              replace q29 := eq_true q29
                              have q30 : ((ji25) : Int) ≤ ((y219.length : Int) : Int) := of_decide_eq_true (by first | (with_reducible assumption) | assumption)
                              obtain ⟨i030, hi030, _, hsz30, _⟩ := info_parts info5
                              have hroom30 : y219.length ≤ co16 := (Kd.R_reads' HO221.out).2.1
                              have hC30 : Kd.C (Kd.int .u8) _ Ao16 y219.length y219 := (Kd.R_reads' HO221.out).2.2
                              have q030 : (0 : Int) ≤ ((ji25) : Int) := of_decide_eq_true (by first | (with_reducible assumption) | assumption)
                              have hcut30 := cut_from (P := Try.prog) 23 5 .i64 Try.underlying23 hi030 1 hsz30 Ao16 y219.length co16 (ji25) q030 q30
                              have hr30 := Kd.C_drop (m := ((ji25) : Int).toNat) (c := co16) hC30 (by omega) hroom30
                              obtain ⟨A30, hA30⟩ : ∃ A1, A1 = (if co16 = ((ji25) : Int).toNat then Ao16 else (Ao16 : Option Addr).map (·.add (((ji25) : Int).toNat * 1))) := ⟨_, rfl⟩
                              obtain ⟨c30, hc30⟩ : ∃ c1, c1 = co16 - ((ji25) : Int).toNat := ⟨_, rfl⟩
                              have hy30 : y234.length = y219.length - ((ji25) : Int).toNat := (by rw [Ny234.out, List.length_drop] <;> omega)
                              rw [show (y219).drop ((ji25) : Int).toNat = y234 from Ny234.out.symm] at hr30
                              replace hr30 : Kd.C (Kd.int .u8) _ A30 y234.length y234 := (by rw [hA30]; exact hr30)
                              rw [← hy30, ← hA30, ← hc30] at hcut30
                              have HR237 := Aside0.mk hr30
                              have HC237 := Aside0.mk (show y234.length ≤ c30 from by rw [hy30, hc30]; exact Nat.sub_le_sub_right hroom30 _)
                              clear hr30 hC30 hroom30 hi030 hsz30 hc30
                              have KY30 := Aside0.mk hy30
                              have KA30 := Aside0.mk hA30
                              clear hy30 hA30
                              have KL30 := Aside0.mk (show ((ji25) : Int).toNat ≤ y219.length from by omega)
                              replace q30 := eq_true q30
                              refine start_ (n := 48) (S := fun w' => Sem.run Try.prog (convert 23 9 (.slice A29 y230.length c29)) w' = .ok (.string (strOfNums y230)) w' ∧ Sem.run Try.prog (convert 23 9 (.slice A2 l2.length c2)) w' = .ok (.string (strOfNums l2)) w' ∧ Sem.run Try.prog (convert 23 9 (.slice A30 y234.length c30)) w' = .ok (.string (strOfNums y234)) w' ∧ Sem.run Try.prog (convert 23 9 (.slice A2 l2.length c2)) w' = .ok (.string (strOfNums l2)) w') (ds := []) #[false, false, false, false, false, false, false, false, false, false, false, false, false, false, false, false, false, false, false, false, false, false, false, false, false, false, false, false, false, false, false, false, false, false, false, false, false, false, false, false, false, false, false, false, false, false, false, false] (by kernel_rfl) rfl rfl ⟨Kd.C_string (P := Try.prog) (A := A29) (c := c29) Try.underlying23 Try.underlying5 Try.underlying9 (by repeat (first | (with_reducible exact HR233.out) | (with_reducible refine Kd.C_alloc ?_ _) | (with_reducible refine Kd.C_drewN ?_ _) | (with_reducible refine Kd.C_drew ?_) | exact HR233.out)), Kd.C_string (P := Try.prog) (A := A2) (c := c2) Try.underlying23 Try.underlying5 Try.underlying9 (Kd.C_below HR2.out (by repeat (first | (with_reducible first | exact HB.out | apply below_alloc | apply pw_below_drewN | apply below_drew1) | exact HB.out | exact below_undrew HB.out))), Kd.C_string (P := Try.prog) (A := A30) (c := c30) Try.underlying23 Try.underlying5 Try.underlying9 (by repeat (first | (with_reducible exact HR237.out) | (with_reducible refine Kd.C_alloc ?_ _) | (with_reducible refine Kd.C_drewN ?_ _) | (with_reducible refine Kd.C_drew ?_) | exact HR237.out)), Kd.C_string (P := Try.prog) (A := A2) (c := c2) Try.underlying23 Try.underlying5 Try.underlying9 (Kd.C_below HR2.out (by repeat (first | (with_reducible first | exact HB.out | apply below_alloc | apply pw_below_drewN | apply below_drew1) | exact HB.out | exact below_undrew HB.out)))⟩ (fun hHeld => ?_); refine with_tabW barbicanlaw03_PackBack.tab5 barbicanlaw03_PackBack.bits5 (fun HT_ HW_ => ?_)
                              generalize w14.drew = w28 at HO215 HO221 HB HR233 HR237 hHeld ⊢
                              refine pure_ (i := 0) (N := some 40) (v := ?_) (a' := ?_) #[true, false, false, false, false, false, false, false, false, false, false, false, false, false, false, false, false, false, false, false, false, false, false, false, false, false, false, false, false, false, false, false, false, false, false, false, false, false, false, false, false, false, false, false, false, false, false, false] rfl rfl (any_of HT_.out (by kernel_rfl)) (fun _ _ _ h => h) (Or.inl ⟨by rfl, ?_⟩) ?_ ?_
                              rotate_left
                              · intro w'
                                go_simp
                                with_reducible rfl
                              rotate_left
                              · simp only [Act.put, List.setIfInBounds_toArray, List.set_cons_zero, List.set_cons_succ, i64_w, i32_w]
                                rfl
                              refine pure_ (i := 1) (N := some 41) (v := ?_) (a' := ?_) #[true, true, false, false, false, false, false, false, false, false, false, false, false, false, false, false, false, false, false, false, false, false, false, false, false, false, false, false, false, false, false, false, false, false, false, false, false, false, false, false, false, false, false, false, false, false, false, false] rfl rfl (any_of HT_.out (by kernel_rfl)) (fun _ _ _ h => h) (Or.inl ⟨by rfl, ?_⟩) ?_ ?_
                              rotate_left
                              · intro w'
                                go_simp
                                with_reducible rfl
                              rotate_left
                              · simp only [Act.put, List.setIfInBounds_toArray, List.set_cons_zero, List.set_cons_succ, i64_w, i32_w]
                                rfl
                              refine pure_ (i := 2) (N := some 42) (v := ?_) (a' := ?_) #[true, true, true, false, false, false, false, false, false, false, false, false, false, false, false, false, false, false, false, false, false, false, false, false, false, false, false, false, false, false, false, false, false, false, false, false, false, false, false, false, false, false, false, false, false, false, false, false] rfl rfl (any_of HT_.out (by kernel_rfl)) (fun _ _ _ h => h) (Or.inl ⟨by rfl, ?_⟩) ?_ ?_
                              rotate_left
                              · intro w'
                                go_simp
                                with_reducible rfl
                              rotate_left
                              · simp only [Act.put, List.setIfInBounds_toArray, List.set_cons_zero, List.set_cons_succ, i64_w, i32_w]
                                rfl
                              refine pure_ (i := 3) (N := some 43) (v := ?_) (a' := ?_) #[true, true, true, true, false, false, false, false, false, false, false, false, false, false, false, false, false, false, false, false, false, false, false, false, false, false, false, false, false, false, false, false, false, false, false, false, false, false, false, false, false, false, false, false, false, false, false, false] rfl rfl (any_of HT_.out (by kernel_rfl)) (fun _ _ _ h => h) (Or.inl ⟨by rfl, ?_⟩) ?_ ?_
                              rotate_left
                              · intro w'
                                go_simp
                                with_reducible rfl
                              rotate_left
                              · simp only [Act.put, List.setIfInBounds_toArray, List.set_cons_zero, List.set_cons_succ, i64_w, i32_w]
                                rfl
                              refine pure_ (i := 4) (N := some 44) (v := ?_) (a' := ?_) #[true, true, true, true, true, false, false, false, false, false, false, false, false, false, false, false, false, false, false, false, false, false, false, false, false, false, false, false, false, false, false, false, false, false, false, false, false, false, false, false, false, false, false, false, false, false, false, false] rfl rfl (any_of HT_.out (by kernel_rfl)) (fun _ _ _ h => h) (Or.inl ⟨by rfl, ?_⟩) ?_ ?_
                              rotate_left
                              · intro w'
                                go_simp
                                with_reducible rfl
                              rotate_left
                              · simp only [Act.put, List.setIfInBounds_toArray, List.set_cons_zero, List.set_cons_succ, i64_w, i32_w]
                                rfl
                              refine pure_ (i := 5) (N := some 45) (v := ?_) (a' := ?_) #[true, true, true, true, true, true, false, false, false, false, false, false, false, false, false, false, false, false, false, false, false, false, false, false, false, false, false, false, false, false, false, false, false, false, false, false, false, false, false, false, false, false, false, false, false, false, false, false] rfl rfl (any_of HT_.out (by kernel_rfl)) (fun _ _ _ h => h) (Or.inl ⟨by rfl, ?_⟩) ?_ ?_
                              rotate_left
                              · intro w'
                                go_simp
                                with_reducible rfl
                              rotate_left
                              · simp only [Act.put, List.setIfInBounds_toArray, List.set_cons_zero, List.set_cons_succ, i64_w, i32_w]
                                rfl
                              refine pure_ (i := 6) (N := some 46) (v := ?_) (a' := ?_) #[true, true, true, true, true, true, true, false, false, false, false, false, false, false, false, false, false, false, false, false, false, false, false, false, false, false, false, false, false, false, false, false, false, false, false, false, false, false, false, false, false, false, false, false, false, false, false, false] rfl rfl (any_of HT_.out (by kernel_rfl)) (fun _ _ _ h => h) (Or.inl ⟨by rfl, ?_⟩) ?_ ?_
                              rotate_left
                              · intro w'
                                go_simp
                                with_reducible rfl
                              rotate_left
                              · simp only [Act.put, List.setIfInBounds_toArray, List.set_cons_zero, List.set_cons_succ, i64_w, i32_w]
                                rfl
                              refine pure_ (i := 7) (N := some 47) (v := ?_) (a' := ?_) #[true, true, true, true, true, true, true, true, false, false, false, false, false, false, false, false, false, false, false, false, false, false, false, false, false, false, false, false, false, false, false, false, false, false, false, false, false, false, false, false, false, false, false, false, false, false, false, false] rfl rfl (any_of HT_.out (by kernel_rfl)) (fun _ _ _ h => h) (Or.inl ⟨by rfl, ?_⟩) ?_ ?_
                              rotate_left
                              · intro w'
                                go_simp
                                with_reducible rfl
                              rotate_left
                              · simp only [Act.put, List.setIfInBounds_toArray, List.set_cons_zero, List.set_cons_succ, i64_w, i32_w]
                                rfl
                              refine pure_ (i := 8) (N := some 48) (v := ?_) (a' := ?_) #[true, true, true, true, true, true, true, true, true, false, false, false, false, false, false, false, false, false, false, false, false, false, false, false, false, false, false, false, false, false, false, false, false, false, false, false, false, false, false, false, false, false, false, false, false, false, false, false] rfl rfl (any_of HT_.out (by kernel_rfl)) (fun _ _ _ h => h) (Or.inl ⟨by rfl, ?_⟩) ?_ ?_
                              rotate_left
                              · intro w'
                                go_simp
                                with_reducible rfl
                              rotate_left
                              · simp only [Act.put, List.setIfInBounds_toArray, List.set_cons_zero, List.set_cons_succ, i64_w, i32_w]
                                rfl
                              refine pure_ (i := 9) (N := some 49) (v := ?_) (a' := ?_) #[true, true, true, true, true, true, true, true, true, true, false, false, false, false, false, false, false, false, false, false, false, false, false, false, false, false, false, false, false, false, false, false, false, false, false, false, false, false, false, false, false, false, false, false, false, false, false, false] rfl rfl (any_of HT_.out (by kernel_rfl)) (fun _ _ _ h => h) (Or.inl ⟨by rfl, ?_⟩) ?_ ?_
                              rotate_left
                              · intro w'
                                go_simp
                                with_reducible rfl
                              rotate_left
                              · simp only [Act.put, List.setIfInBounds_toArray, List.set_cons_zero, List.set_cons_succ, i64_w, i32_w]
                                rfl
                              refine pure_ (i := 10) (N := some 50) (v := ?_) (a' := ?_) #[true, true, true, true, true, true, true, true, true, true, true, false, false, false, false, false, false, false, false, false, false, false, false, false, false, false, false, false, false, false, false, false, false, false, false, false, false, false, false, false, false, false, false, false, false, false, false, false] rfl rfl (any_of HT_.out (by kernel_rfl)) (fun _ _ _ h => h) (Or.inl ⟨by rfl, ?_⟩) ?_ ?_
                              rotate_left
                              · intro w'
                                go_simp
                                with_reducible rfl
                              rotate_left
                              · simp only [Act.put, List.setIfInBounds_toArray, List.set_cons_zero, List.set_cons_succ, i64_w, i32_w]
                                rfl
                              refine pure_ (i := 11) (N := some 51) (v := ?_) (a' := ?_) #[true, true, true, true, true, true, true, true, true, true, true, true, false, false, false, false, false, false, false, false, false, false, false, false, false, false, false, false, false, false, false, false, false, false, false, false, false, false, false, false, false, false, false, false, false, false, false, false] rfl rfl (any_of HT_.out (by kernel_rfl)) (fun _ _ _ h => h) (Or.inl ⟨by rfl, ?_⟩) ?_ ?_
                              rotate_left
                              · intro w'
                                go_simp
                                with_reducible rfl
                              rotate_left
                              · simp only [Act.put, List.setIfInBounds_toArray, List.set_cons_zero, List.set_cons_succ, i64_w, i32_w]
                                rfl
                              refine pure_ (i := 12) (N := some 52) (v := ?_) (a' := ?_) #[true, true, true, true, true, true, true, true, true, true, true, true, true, false, false, false, false, false, false, false, false, false, false, false, false, false, false, false, false, false, false, false, false, false, false, false, false, false, false, false, false, false, false, false, false, false, false, false] rfl rfl (any_of HT_.out (by kernel_rfl)) (fun _ _ _ h => h) (Or.inl ⟨by rfl, ?_⟩) ?_ ?_
                              rotate_left
                              · intro w'
                                go_simp
                                with_reducible rfl
                              rotate_left
                              · simp only [Act.put, List.setIfInBounds_toArray, List.set_cons_zero, List.set_cons_succ, i64_w, i32_w]
                                rfl
                              refine pure_ (i := 13) (N := some 53) (v := ?_) (a' := ?_) #[true, true, true, true, true, true, true, true, true, true, true, true, true, true, false, false, false, false, false, false, false, false, false, false, false, false, false, false, false, false, false, false, false, false, false, false, false, false, false, false, false, false, false, false, false, false, false, false] rfl rfl (any_of HT_.out (by kernel_rfl)) (fun _ _ _ h => h) (Or.inl ⟨by rfl, ?_⟩) ?_ ?_
                              rotate_left
                              · intro w'
                                go_simp
                                with_reducible rfl
                              rotate_left
                              · simp only [Act.put, List.setIfInBounds_toArray, List.set_cons_zero, List.set_cons_succ, i64_w, i32_w]
                                rfl
                              refine pure_ (i := 14) (N := some 54) (v := ?_) (a' := ?_) #[true, true, true, true, true, true, true, true, true, true, true, true, true, true, true, false, false, false, false, false, false, false, false, false, false, false, false, false, false, false, false, false, false, false, false, false, false, false, false, false, false, false, false, false, false, false, false, false] rfl rfl (any_of HT_.out (by kernel_rfl)) (fun _ _ _ h => h) (Or.inl ⟨by rfl, ?_⟩) ?_ ?_
                              rotate_left
                              · intro w'
                                go_simp
                                with_reducible rfl
                              rotate_left
                              · simp only [Act.put, List.setIfInBounds_toArray, List.set_cons_zero, List.set_cons_succ, i64_w, i32_w]
                                rfl
                              refine pure_ (i := 15) (N := some 55) (v := ?_) (a' := ?_) #[true, true, true, true, true, true, true, true, true, true, true, true, true, true, true, true, false, false, false, false, false, false, false, false, false, false, false, false, false, false, false, false, false, false, false, false, false, false, false, false, false, false, false, false, false, false, false, false] rfl rfl (any_of HT_.out (by kernel_rfl)) (fun _ _ _ h => h) (Or.inl ⟨by rfl, ?_⟩) ?_ ?_
                              rotate_left
                              · intro w'
                                go_simp
                                with_reducible rfl
                              rotate_left
                              · simp only [Act.put, List.setIfInBounds_toArray, List.set_cons_zero, List.set_cons_succ, i64_w, i32_w]
                                rfl
                              refine pure_ (i := 16) (N := some 56) (v := ?_) (a' := ?_) #[true, true, true, true, true, true, true, true, true, true, true, true, true, true, true, true, true, false, false, false, false, false, false, false, false, false, false, false, false, false, false, false, false, false, false, false, false, false, false, false, false, false, false, false, false, false, false, false] rfl rfl (any_of HT_.out (by kernel_rfl)) (fun _ _ _ h => h) (Or.inl ⟨by rfl, ?_⟩) ?_ ?_
                              rotate_left
                              · intro w'
                                go_simp
                                with_reducible rfl
                              rotate_left
                              · simp only [Act.put, List.setIfInBounds_toArray, List.set_cons_zero, List.set_cons_succ, i64_w, i32_w]
                                rfl
                              refine pure_ (i := 17) (N := some 57) (v := ?_) (a' := ?_) #[true, true, true, true, true, true, true, true, true, true, true, true, true, true, true, true, true, true, false, false, false, false, false, false, false, false, false, false, false, false, false, false, false, false, false, false, false, false, false, false, false, false, false, false, false, false, false, false] rfl rfl (any_of HT_.out (by kernel_rfl)) (fun _ _ _ h => h) (Or.inl ⟨by rfl, ?_⟩) ?_ ?_
                              rotate_left
                              · intro w'
                                go_simp
                                with_reducible rfl
                              rotate_left
                              · simp only [Act.put, List.setIfInBounds_toArray, List.set_cons_zero, List.set_cons_succ, i64_w, i32_w]
                                rfl
                              refine pure_ (i := 18) (N := some 58) (v := ?_) (a' := ?_) #[true, true, true, true, true, true, true, true, true, true, true, true, true, true, true, true, true, true, true, false, false, false, false, false, false, false, false, false, false, false, false, false, false, false, false, false, false, false, false, false, false, false, false, false, false, false, false, false] rfl rfl (any_of HT_.out (by kernel_rfl)) (fun _ _ _ h => h) (Or.inl ⟨by rfl, ?_⟩) ?_ ?_
                              rotate_left
                              · intro w'
                                go_simp
                                with_reducible rfl
                              rotate_left
                              · simp only [Act.put, List.setIfInBounds_toArray, List.set_cons_zero, List.set_cons_succ, i64_w, i32_w]
                                rfl
                              refine pure_ (i := 19) (N := some 59) (v := ?_) (a' := ?_) #[true, true, true, true, true, true, true, true, true, true, true, true, true, true, true, true, true, true, true, true, false, false, false, false, false, false, false, false, false, false, false, false, false, false, false, false, false, false, false, false, false, false, false, false, false, false, false, false] rfl rfl (any_of HT_.out (by kernel_rfl)) (fun _ _ _ h => h) (Or.inl ⟨by rfl, ?_⟩) ?_ ?_
                              rotate_left
                              · intro w'
                                go_simp
                                with_reducible rfl
                              rotate_left
                              · simp only [Act.put, List.setIfInBounds_toArray, List.set_cons_zero, List.set_cons_succ, i64_w, i32_w]
                                rfl
                              refine pure_ (i := 20) (N := some 60) (v := ?_) (a' := ?_) #[true, true, true, true, true, true, true, true, true, true, true, true, true, true, true, true, true, true, true, true, true, false, false, false, false, false, false, false, false, false, false, false, false, false, false, false, false, false, false, false, false, false, false, false, false, false, false, false] rfl rfl (any_of HT_.out (by kernel_rfl)) (fun _ _ _ h => h) (Or.inl ⟨by rfl, ?_⟩) ?_ ?_
                              rotate_left
                              · intro w'
                                go_simp
                                with_reducible rfl
                              rotate_left
                              · simp only [Act.put, List.setIfInBounds_toArray, List.set_cons_zero, List.set_cons_succ, i64_w, i32_w]
                                rfl
                              refine pure_ (i := 21) (N := some 61) (v := ?_) (a' := ?_) #[true, true, true, true, true, true, true, true, true, true, true, true, true, true, true, true, true, true, true, true, true, true, false, false, false, false, false, false, false, false, false, false, false, false, false, false, false, false, false, false, false, false, false, false, false, false, false, false] rfl rfl (any_of HT_.out (by kernel_rfl)) (fun _ _ _ h => h) (Or.inl ⟨by rfl, ?_⟩) ?_ ?_
                              rotate_left
                              · intro w'
                                go_simp
                                with_reducible rfl
                              rotate_left
                              · simp only [Act.put, List.setIfInBounds_toArray, List.set_cons_zero, List.set_cons_succ, i64_w, i32_w]
                                rfl
                              refine pure_ (i := 22) (N := some 62) (v := ?_) (a' := ?_) #[true, true, true, true, true, true, true, true, true, true, true, true, true, true, true, true, true, true, true, true, true, true, true, false, false, false, false, false, false, false, false, false, false, false, false, false, false, false, false, false, false, false, false, false, false, false, false, false] rfl rfl (any_of HT_.out (by kernel_rfl)) (fun _ _ _ h => h) (Or.inl ⟨by rfl, ?_⟩) ?_ ?_
                              rotate_left
                              · intro w'
                                go_simp
                                with_reducible rfl
                              rotate_left
                              · simp only [Act.put, List.setIfInBounds_toArray, List.set_cons_zero, List.set_cons_succ, i64_w, i32_w]
                                rfl
                              refine pure_ (i := 23) (N := some 63) (v := ?_) (a' := ?_) #[true, true, true, true, true, true, true, true, true, true, true, true, true, true, true, true, true, true, true, true, true, true, true, true, false, false, false, false, false, false, false, false, false, false, false, false, false, false, false, false, false, false, false, false, false, false, false, false] rfl rfl (any_of HT_.out (by kernel_rfl)) (fun _ _ _ h => h) (Or.inl ⟨by rfl, ?_⟩) ?_ ?_
                              rotate_left
                              · intro w'
                                go_simp
                                with_reducible rfl
                              rotate_left
                              · simp only [Act.put, List.setIfInBounds_toArray, List.set_cons_zero, List.set_cons_succ, i64_w, i32_w]
                                rfl
                              refine pure_ (i := 24) (N := some 64) (v := ?_) (a' := ?_) #[true, true, true, true, true, true, true, true, true, true, true, true, true, true, true, true, true, true, true, true, true, true, true, true, true, false, false, false, false, false, false, false, false, false, false, false, false, false, false, false, false, false, false, false, false, false, false, false] rfl rfl (any_of HT_.out (by kernel_rfl)) (fun _ _ _ h => h) (Or.inl ⟨by rfl, ?_⟩) ?_ ?_
                              rotate_left
                              · intro w'
                                go_simp
                                with_reducible rfl
                              rotate_left
                              · simp only [Act.put, List.setIfInBounds_toArray, List.set_cons_zero, List.set_cons_succ, i64_w, i32_w]
                                rfl
                              refine pure_ (i := 25) (N := some 65) (v := ?_) (a' := ?_) #[true, true, true, true, true, true, true, true, true, true, true, true, true, true, true, true, true, true, true, true, true, true, true, true, true, true, false, false, false, false, false, false, false, false, false, false, false, false, false, false, false, false, false, false, false, false, false, false] rfl rfl (any_of HT_.out (by kernel_rfl)) (fun _ _ _ h => h) (Or.inl ⟨by rfl, ?_⟩) ?_ ?_
                              rotate_left
                              · intro w'
                                go_simp
                                with_reducible rfl
                              rotate_left
                              · simp only [Act.put, List.setIfInBounds_toArray, List.set_cons_zero, List.set_cons_succ, i64_w, i32_w]
                                rfl
                              refine pure_ (i := 26) (N := some 66) (v := ?_) (a' := ?_) #[true, true, true, true, true, true, true, true, true, true, true, true, true, true, true, true, true, true, true, true, true, true, true, true, true, true, true, false, false, false, false, false, false, false, false, false, false, false, false, false, false, false, false, false, false, false, false, false] rfl rfl (any_of HT_.out (by kernel_rfl)) (fun _ _ _ h => h) (Or.inl ⟨by rfl, ?_⟩) ?_ ?_
                              rotate_left
                              · intro w'
                                go_simp
                                with_reducible rfl
                              rotate_left
                              · simp only [Act.put, List.setIfInBounds_toArray, List.set_cons_zero, List.set_cons_succ, i64_w, i32_w]
                                rfl
                              refine pure_ (i := 27) (N := some 67) (v := ?_) (a' := ?_) #[true, true, true, true, true, true, true, true, true, true, true, true, true, true, true, true, true, true, true, true, true, true, true, true, true, true, true, true, false, false, false, false, false, false, false, false, false, false, false, false, false, false, false, false, false, false, false, false] rfl rfl (any_of HT_.out (by kernel_rfl)) (fun _ _ _ h => h) (Or.inl ⟨by rfl, ?_⟩) ?_ ?_
                              rotate_left
                              · intro w'
                                go_simp
                                with_reducible rfl
                              rotate_left
                              · simp only [Act.put, List.setIfInBounds_toArray, List.set_cons_zero, List.set_cons_succ, i64_w, i32_w]
                                rfl
                              refine pure_ (i := 28) (N := some 68) (v := ?_) (a' := ?_) #[true, true, true, true, true, true, true, true, true, true, true, true, true, true, true, true, true, true, true, true, true, true, true, true, true, true, true, true, true, false, false, false, false, false, false, false, false, false, false, false, false, false, false, false, false, false, false, false] rfl rfl (any_of HT_.out (by kernel_rfl)) (fun _ _ _ h => h) (Or.inl ⟨by rfl, ?_⟩) ?_ ?_
                              rotate_left
                              · intro w'
                                go_simp
                                with_reducible rfl
                              rotate_left
                              · simp only [Act.put, List.setIfInBounds_toArray, List.set_cons_zero, List.set_cons_succ, i64_w, i32_w]
                                rfl
                              refine pure_ (i := 29) (N := some 69) (v := ?_) (a' := ?_) #[true, true, true, true, true, true, true, true, true, true, true, true, true, true, true, true, true, true, true, true, true, true, true, true, true, true, true, true, true, true, false, false, false, false, false, false, false, false, false, false, false, false, false, false, false, false, false, false] rfl rfl (any_of HT_.out (by kernel_rfl)) (fun _ _ _ h => h) (Or.inl ⟨by rfl, ?_⟩) ?_ ?_
                              rotate_left
                              · intro w'
                                go_simp
                                with_reducible rfl
                              rotate_left
                              · simp only [Act.put, List.setIfInBounds_toArray, List.set_cons_zero, List.set_cons_succ, i64_w, i32_w]
                                rfl
                              refine pure_ (i := 30) (N := some 70) (v := ?_) (a' := ?_) #[true, true, true, true, true, true, true, true, true, true, true, true, true, true, true, true, true, true, true, true, true, true, true, true, true, true, true, true, true, true, true, false, false, false, false, false, false, false, false, false, false, false, false, false, false, false, false, false] rfl rfl (any_of HT_.out (by kernel_rfl)) (fun _ _ _ h => h) (Or.inl ⟨by rfl, ?_⟩) ?_ ?_
                              rotate_left
                              · intro w'
                                go_simp
                                with_reducible rfl
                              rotate_left
                              · simp only [Act.put, List.setIfInBounds_toArray, List.set_cons_zero, List.set_cons_succ, i64_w, i32_w]
                                rfl
                              refine pure_ (i := 32) (N := some 72) (v := ?_) (a' := ?_) #[true, true, true, true, true, true, true, true, true, true, true, true, true, true, true, true, true, true, true, true, true, true, true, true, true, true, true, true, true, true, true, false, true, false, false, false, false, false, false, false, false, false, false, false, false, false, false, false] rfl rfl (any_of HT_.out (by kernel_rfl)) (fun _ _ _ h => h) (Or.inl ⟨by rfl, ?_⟩) ?_ ?_
                              rotate_left
                              · intro w'
                                go_simp
                                with_reducible rfl
                              rotate_left
                              · simp only [Act.put, List.setIfInBounds_toArray, List.set_cons_zero, List.set_cons_succ, i64_w, i32_w]
                                rfl
                              refine take_ (i := 31) (N := some 71) (v := ?_) (a' := ?_) #[true, true, true, true, true, true, true, true, true, true, true, true, true, true, true, true, true, true, true, true, true, true, true, true, true, true, true, true, true, true, true, true, true, false, false, false, false, false, false, false, false, false, false, false, false, false, false, false] rfl rfl (take_ofW HT_.out HW_.out (by kernel_rfl)) (fun _ _ _ h => h) (Or.inl ⟨by rfl, ?_⟩) hHeld ?_ ?_
                              rotate_left
                              · rintro w' ⟨s0, s1, s2, s3⟩
                                go_simp
                                with_reducible rfl
                              rotate_left
                              · simp only [Act.put, List.setIfInBounds_toArray, List.set_cons_zero, List.set_cons_succ, i64_w, i32_w]
                                rfl
                              refine take_ (i := 33) (N := some 73) (v := ?_) (a' := ?_) #[true, true, true, true, true, true, true, true, true, true, true, true, true, true, true, true, true, true, true, true, true, true, true, true, true, true, true, true, true, true, true, true, true, true, false, false, false, false, false, false, false, false, false, false, false, false, false, false] rfl rfl (take_ofW HT_.out HW_.out (by kernel_rfl)) (fun _ _ _ h => h) (Or.inl ⟨by rfl, ?_⟩) hHeld ?_ ?_
                              rotate_left
                              · rintro w' ⟨s0, s1, s2, s3⟩
                                go_simp
                                with_reducible rfl
                              rotate_left
                              · simp only [Act.put, List.setIfInBounds_toArray, List.set_cons_zero, List.set_cons_succ, i64_w, i32_w]
                                rfl
                              refine pure_ (i := 34) (N := some 74) (v := ?_) (a' := ?_) #[true, true, true, true, true, true, true, true, true, true, true, true, true, true, true, true, true, true, true, true, true, true, true, true, true, true, true, true, true, true, true, true, true, true, true, false, false, false, false, false, false, false, false, false, false, false, false, false] rfl rfl (any_of HT_.out (by kernel_rfl)) (fun _ _ _ h => h) (Or.inl ⟨by rfl, ?_⟩) ?_ ?_
                              rotate_left
                              · intro w'
                                go_simp
                                with_reducible rfl
                              rotate_left
                              · simp only [Act.put, List.setIfInBounds_toArray, List.set_cons_zero, List.set_cons_succ, i64_w, i32_w]
                                rfl
                              refine pure_ (i := 35) (N := some 75) (v := ?_) (a' := ?_) #[true, true, true, true, true, true, true, true, true, true, true, true, true, true, true, true, true, true, true, true, true, true, true, true, true, true, true, true, true, true, true, true, true, true, true, true, false, false, false, false, false, false, false, false, false, false, false, false] rfl rfl (any_of HT_.out (by kernel_rfl)) (fun _ _ _ h => h) (Or.inl ⟨by rfl, ?_⟩) ?_ ?_
                              rotate_left
                              · intro w'
                                go_simp
                                with_reducible rfl
                              rotate_left
                              · simp only [Act.put, List.setIfInBounds_toArray, List.set_cons_zero, List.set_cons_succ, i64_w, i32_w]
                                rfl
                              refine pure_ (i := 36) (N := some 76) (v := ?_) (a' := ?_) #[true, true, true, true, true, true, true, true, true, true, true, true, true, true, true, true, true, true, true, true, true, true, true, true, true, true, true, true, true, true, true, true, true, true, true, true, true, false, false, false, false, false, false, false, false, false, false, false] rfl rfl (any_of HT_.out (by kernel_rfl)) (fun _ _ _ h => h) (Or.inl ⟨by rfl, ?_⟩) ?_ ?_
                              rotate_left
                              · intro w'
                                go_simp
                                with_reducible rfl
                              rotate_left
                              · simp only [Act.put, List.setIfInBounds_toArray, List.set_cons_zero, List.set_cons_succ, i64_w, i32_w]
                                rfl
                              refine pure_ (i := 37) (N := some 77) (v := ?_) (a' := ?_) #[true, true, true, true, true, true, true, true, true, true, true, true, true, true, true, true, true, true, true, true, true, true, true, true, true, true, true, true, true, true, true, true, true, true, true, true, true, true, false, false, false, false, false, false, false, false, false, false] rfl rfl (any_of HT_.out (by kernel_rfl)) (fun _ _ _ h => h) (Or.inl ⟨by rfl, ?_⟩) ?_ ?_
                              rotate_left
                              · intro w'
                                go_simp
                                with_reducible rfl
                              rotate_left
                              · simp only [Act.put, List.setIfInBounds_toArray, List.set_cons_zero, List.set_cons_succ, i64_w, i32_w]
                                rfl
                              refine pure_ (i := 38) (N := some 78) (v := ?_) (a' := ?_) #[true, true, true, true, true, true, true, true, true, true, true, true, true, true, true, true, true, true, true, true, true, true, true, true, true, true, true, true, true, true, true, true, true, true, true, true, true, true, true, false, false, false, false, false, false, false, false, false] rfl rfl (any_of HT_.out (by kernel_rfl)) (fun _ _ _ h => h) (Or.inl ⟨by rfl, ?_⟩) ?_ ?_
                              rotate_left
                              · intro w'
                                go_simp
                                with_reducible rfl
                              rotate_left
                              · simp only [Act.put, List.setIfInBounds_toArray, List.set_cons_zero, List.set_cons_succ, i64_w, i32_w]
                                rfl
                              refine pure_ (i := 39) (N := some 79) (v := ?_) (a' := ?_) #[true, true, true, true, true, true, true, true, true, true, true, true, true, true, true, true, true, true, true, true, true, true, true, true, true, true, true, true, true, true, true, true, true, true, true, true, true, true, true, true, false, false, false, false, false, false, false, false] rfl rfl (any_of HT_.out (by kernel_rfl)) (fun _ _ _ h => h) (Or.inl ⟨by rfl, ?_⟩) ?_ ?_
                              rotate_left
                              · intro w'
                                go_simp
                                with_reducible rfl
                              rotate_left
                              · simp only [Act.put, List.setIfInBounds_toArray, List.set_cons_zero, List.set_cons_succ, i64_w, i32_w]
                                rfl
                              refine pure_ (i := 40) (N := some 80) (v := ?_) (a' := ?_) #[true, true, true, true, true, true, true, true, true, true, true, true, true, true, true, true, true, true, true, true, true, true, true, true, true, true, true, true, true, true, true, true, true, true, true, true, true, true, true, true, true, false, false, false, false, false, false, false] rfl rfl (any_of HT_.out (by kernel_rfl)) (fun _ _ _ h => h) (Or.inl ⟨by rfl, ?_⟩) ?_ ?_
                              rotate_left
                              · intro w'
                                go_simp
                                with_reducible rfl
                              rotate_left
                              · simp only [Act.put, List.setIfInBounds_toArray, List.set_cons_zero, List.set_cons_succ, i64_w, i32_w]
                                rfl
                              refine pure_ (i := 41) (N := some 81) (v := ?_) (a' := ?_) #[true, true, true, true, true, true, true, true, true, true, true, true, true, true, true, true, true, true, true, true, true, true, true, true, true, true, true, true, true, true, true, true, true, true, true, true, true, true, true, true, true, true, false, false, false, false, false, false] rfl rfl (any_of HT_.out (by kernel_rfl)) (fun _ _ _ h => h) (Or.inl ⟨by rfl, ?_⟩) ?_ ?_
                              rotate_left
                              · intro w'
                                go_simp
                                with_reducible rfl
                              rotate_left
                              · simp only [Act.put, List.setIfInBounds_toArray, List.set_cons_zero, List.set_cons_succ, i64_w, i32_w]
                                rfl
                              refine pure_ (i := 42) (N := some 82) (v := ?_) (a' := ?_) #[true, true, true, true, true, true, true, true, true, true, true, true, true, true, true, true, true, true, true, true, true, true, true, true, true, true, true, true, true, true, true, true, true, true, true, true, true, true, true, true, true, true, true, false, false, false, false, false] rfl rfl (any_of HT_.out (by kernel_rfl)) (fun _ _ _ h => h) (Or.inl ⟨by rfl, ?_⟩) ?_ ?_
                              rotate_left
                              · intro w'
                                go_simp
                                with_reducible rfl
                              rotate_left
                              · simp only [Act.put, List.setIfInBounds_toArray, List.set_cons_zero, List.set_cons_succ, i64_w, i32_w]
                                rfl
                              refine pure_ (i := 44) (N := some 84) (v := ?_) (a' := ?_) #[true, true, true, true, true, true, true, true, true, true, true, true, true, true, true, true, true, true, true, true, true, true, true, true, true, true, true, true, true, true, true, true, true, true, true, true, true, true, true, true, true, true, true, false, true, false, false, false] rfl rfl (any_of HT_.out (by kernel_rfl)) (fun _ _ _ h => h) (Or.inl ⟨by rfl, ?_⟩) ?_ ?_
                              rotate_left
                              · intro w'
                                go_simp
                                with_reducible rfl
                              rotate_left
                              · simp only [Act.put, List.setIfInBounds_toArray, List.set_cons_zero, List.set_cons_succ, i64_w, i32_w]
                                rfl
                              refine take_ (i := 43) (N := some 83) (v := ?_) (a' := ?_) #[true, true, true, true, true, true, true, true, true, true, true, true, true, true, true, true, true, true, true, true, true, true, true, true, true, true, true, true, true, true, true, true, true, true, true, true, true, true, true, true, true, true, true, true, true, false, false, false] rfl rfl (take_ofW HT_.out HW_.out (by kernel_rfl)) (fun _ _ _ h => h) (Or.inl ⟨by rfl, ?_⟩) hHeld ?_ ?_
                              rotate_left
                              · rintro w' ⟨s0, s1, s2, s3⟩
                                go_simp
                                with_reducible rfl
                              rotate_left
                              · simp only [Act.put, List.setIfInBounds_toArray, List.set_cons_zero, List.set_cons_succ, i64_w, i32_w]
                                rfl
                              refine take_ (i := 45) (N := some 85) (v := ?_) (a' := ?_) #[true, true, true, true, true, true, true, true, true, true, true, true, true, true, true, true, true, true, true, true, true, true, true, true, true, true, true, true, true, true, true, true, true, true, true, true, true, true, true, true, true, true, true, true, true, true, false, false] rfl rfl (take_ofW HT_.out HW_.out (by kernel_rfl)) (fun _ _ _ h => h) (Or.inl ⟨by rfl, ?_⟩) hHeld ?_ ?_
                              rotate_left
                              · rintro w' ⟨s0, s1, s2, s3⟩
                                go_simp
                                with_reducible rfl
                              rotate_left
                              · simp only [Act.put, List.setIfInBounds_toArray, List.set_cons_zero, List.set_cons_succ, i64_w, i32_w]
                                rfl
                              refine pure_ (i := 46) (N := some 86) (v := ?_) (a' := ?_) #[true, true, true, true, true, true, true, true, true, true, true, true, true, true, true, true, true, true, true, true, true, true, true, true, true, true, true, true, true, true, true, true, true, true, true, true, true, true, true, true, true, true, true, true, true, true, true, false] rfl rfl (any_of HT_.out (by kernel_rfl)) (fun _ _ _ h => h) (Or.inl ⟨by rfl, ?_⟩) ?_ ?_
                              rotate_left
                              · intro w'
                                go_simp
                                with_reducible rfl
                              rotate_left
                              · simp only [Act.put, List.setIfInBounds_toArray, List.set_cons_zero, List.set_cons_succ, i64_w, i32_w]
                                rfl
                              refine pure_ (i := 47) (N := some 87) (v := ?_) (a' := ?_) #[true, true, true, true, true, true, true, true, true, true, true, true, true, true, true, true, true, true, true, true, true, true, true, true, true, true, true, true, true, true, true, true, true, true, true, true, true, true, true, true, true, true, true, true, true, true, true, true] rfl rfl (any_of HT_.out (by kernel_rfl)) (fun _ _ _ h => h) (Or.inl ⟨by rfl, ?_⟩) ?_ ?_
                              rotate_left
                              · intro w'
                                go_simp
                                with_reducible rfl
                              rotate_left
                              · simp only [Act.put, List.setIfInBounds_toArray, List.set_cons_zero, List.set_cons_succ, i64_w, i32_w]
                                rfl
                              refine done_ (done_of HT_.out (by kernel_rfl)) ?_
                              try go_wp2
                              go_meet
                              case rel => exact ⟨_, (((strOfNums y234).toList != (strOfNums l2).toList)), (by first | rfl | (simp; done) | (simp [*]; done)), H', ⟨by first | omega | exact Nat.le_refl _⟩, ⟨by repeat (first | (with_reducible first | exact HB.out | apply below_alloc | apply pw_below_drewN | apply below_drew1) | exact HB.out | exact below_undrew HB.out)⟩⟩
                            · rw [if_neg c27] at H
                              exact absurd H (by simp)
                          · rw [if_neg c26] at H
                            exact absurd H (by simp)
                        · rw [if_neg c24] at H
                          have c24b0 : ((strOfNums y230).toList == (strOfNums l2).toList) = false := beq_eq_false_iff_ne.mpr c24
                          have c24b1 : ((strOfNums y230).toList != (strOfNums l2).toList) = true := bne_iff_ne.mpr c24
                          exact absurd H (by cases k <;> simp [barbicanlaw03_PackBack.j0, hT.out])
                      · rw [if_neg c23] at H
                        exact absurd H (by simp)
                    · rw [if_neg c22] at H
                      exact absurd H (by simp)
              · rw [if_neg c18] at H
                have c18b0 : (t225.toList == a1.toList) = false := beq_eq_false_iff_ne.mpr c18
                have c18b1 : (t225.toList != a1.toList) = true := bne_iff_ne.mpr c18
                exact absurd H (by cases k <;> simp [barbicanlaw03_PackBack.j0, hT.out])
            · rw [if_neg c17] at H
              have c17b0 : (t222 == a0) = false := beq_eq_false_iff_ne.mpr c17
              have c17b1 : (t222 != a0) = true := bne_iff_ne.mpr c17
              (first | rw [c17b0] | (simp only [i64_w, i32_w]; rw [c17b0]) | skip)
              exact absurd H (by cases k <;> simp [barbicanlaw03_PackBack.j0, hT.out])
          · have H1 : (barbicanlaw03_PackBack.j0 k l2 true) = some r := by rw [if_neg (show ¬ (some q229).isNone = true by simp)] at H; exact H
            clear H
            have H := H1
            clear H1
            try simp only [errW_none, errW_some]
            exact absurd H (by cases k <;> simp [barbicanlaw03_PackBack.j0, hT.out])
        · have H1 : (barbicanlaw03_PackBack.j0 k l2 true) = some r := by rw [if_neg (show ¬ (some q228).isNone = true by simp)] at H; exact H
          clear H
          have H := H1
          clear H1
          try simp only [errW_none, errW_some]
          exact absurd H (by cases k <;> simp [barbicanlaw03_PackBack.j0, hT.out])
      case rest =>
        clear HC10
        try clear c1
        try clear c2
        try clear p2
        try clear q2
        try clear c3
        try clear q3
        try clear c5
        try clear c7
        try clear c8
        try clear c17
        try clear c17b0
        try clear c17b1
        try clear c18
        try clear c18b0
        try clear c18b1
        try clear c19
        try clear c19b0
        try clear c20
        try clear c20b0
        try clear c21
        try clear c22
        try clear c22b0
        try clear c22b1
        try clear q22
        try clear c23
        try clear c23b0
        try clear c23b1
        try clear c24
        try clear c24b0
        try clear c24b1
        try clear c26
        try clear c26b0
        try clear c26b1
        try clear c27
        try clear c27b0
        try clear c27b1
        try clear c28
        try clear c29
        try clear q29
        try clear c30
        try clear q30
        try clear q029
        try clear q030
        try clear q228
        try clear q229
        try clear q29
        try clear q30
        obtain ⟨kq, x87_9, rfl, HA, HJ9, HB⟩ := hcut
        cases kq with
        | zero => exact absurd HA.out (by simp [barbicanlaw03_PackBack.j0])
        | succ kj9 =>
          have H := HA.out
          clear HA
          simp only [barbicanlaw03_PackBack.j0] at H
          by_cases c32 : x87_9 = true
          · subst c32
            have H1 : (some false) = some r := by rw [if_pos rfl] at H; exact H
            clear H
            have H := H1
            clear H1
            exact absurd (Option.some.inj H) (by rw [hT.out]; decide)
          · replace c32 := Bool.eq_false_iff.mpr c32
            subst c32
            have H1 : ((barbicanlaw03_twin.f l2).bind fun t238 => ((pack_Uint.f kj9 t238).bind fun bt241 => (if bt241.2.2.isNone = true then (if bt241.2.1 ≥ 1 then (if bt241.2.1 ≤ (l2.length : Int) then ((pack_AppendUint.f kj9 ([] : List Int) bt241.1).bind fun t245 => (if 0 ≤ bt241.2.1 then (if (strOfNums t245).toList = (strOfNums (l2.take (bt241.2.1 : Int).toNat)).toList then ((barbicanlaw03_sure.f kj9).bind fun t249 => (some t249)) else (some false)) else (none))) else (some false)) else (some false)) else (if bt241.1 = 0 then (if bt241.2.1 = 0 then ((barbicanlaw03_sure.f kj9).bind fun t250 => (some t250)) else (some false)) else (some false))))) = some r := by rw [if_neg (show ¬ (false = true) by decide)] at H; exact H
            clear H
            have H := H1
            clear H1
            replace H := Option.bind_eq_some_iff.mp H
            obtain ⟨t238, A330, H⟩ := H
            replace H : ((pack_Uint.f kj9 t238).bind fun bt241 => (if bt241.2.2.isNone = true then (if bt241.2.1 ≥ 1 then (if bt241.2.1 ≤ (l2.length : Int) then ((pack_AppendUint.f kj9 ([] : List Int) bt241.1).bind fun t245 => (if 0 ≤ bt241.2.1 then (if (strOfNums t245).toList = (strOfNums (l2.take (bt241.2.1 : Int).toNat)).toList then ((barbicanlaw03_sure.f kj9).bind fun t249 => (some t249)) else (some false)) else (none))) else (some false)) else (some false)) else (if bt241.1 = 0 then (if bt241.2.1 = 0 then ((barbicanlaw03_sure.f kj9).bind fun t250 => (some t250)) else (some false)) else (some false)))) = some r := H
            have A33 := Aside0.mk A330
            clear A330
            replace H := Option.bind_eq_some_iff.mp H
            obtain ⟨⟨t241, t242, t243⟩, A340, H⟩ := H
            replace H : (if t243.isNone = true then (if t242 ≥ 1 then (if t242 ≤ (l2.length : Int) then ((pack_AppendUint.f kj9 ([] : List Int) t241).bind fun t245 => (if 0 ≤ t242 then (if (strOfNums t245).toList = (strOfNums (l2.take (t242 : Int).toNat)).toList then ((barbicanlaw03_sure.f kj9).bind fun t249 => (some t249)) else (some false)) else (none))) else (some false)) else (some false)) else (if t241 = 0 then (if t242 = 0 then ((barbicanlaw03_sure.f kj9).bind fun t250 => (some t250)) else (some false)) else (some false))) = some r := H
            have A34 := Aside0.mk A340
            clear A340
            rcases t243 with _ | q244
            · have H1 : (if t242 ≥ 1 then (if t242 ≤ (l2.length : Int) then ((pack_AppendUint.f kj9 ([] : List Int) t241).bind fun t245 => (if 0 ≤ t242 then (if (strOfNums t245).toList = (strOfNums (l2.take (t242 : Int).toNat)).toList then ((barbicanlaw03_sure.f kj9).bind fun t249 => (some t249)) else (some false)) else (none))) else (some false)) else (some false)) = some r := by rw [if_pos (show (none : Option Int).isNone = true by rfl)] at H; exact H
              clear H
              have H := H1
              clear H1
              try simp only [errW_none, errW_some]
              by_cases c35 : t242 ≥ 1
              · rw [if_pos c35] at H
                have c35b0 : decide (1 ≤ t242) = true := decide_eq_true c35
                clear c35
                by_cases c36 : t242 ≤ (l2.length : Int)
                · rw [if_pos c36] at H
                  have c36b0 : decide (t242 ≤ (l2.length : Int)) = true := decide_eq_true c36
                  clear c36
                  replace H := Option.bind_eq_some_iff.mp H
                  obtain ⟨t245, A370, H⟩ := H
                  replace H : (if 0 ≤ t242 then (if (strOfNums t245).toList = (strOfNums (l2.take (t242 : Int).toNat)).toList then ((barbicanlaw03_sure.f kj9).bind fun t249 => (some t249)) else (some false)) else (none)) = some r := H
                  have A37 := Aside0.mk A370
                  clear A370
                  by_cases c38 : 0 ≤ t242
                  · rw [if_pos c38] at H
                    have c38b0 := eq_true c38
                    have c38b1 : decide (0 ≤ t242) = true := decide_eq_true c38
                    clear c38
                    have c39b0 := eq_true (of_decide_eq_true (by first | (with_reducible assumption) | assumption) : t242 ≤ (l2.length : Int))
                    by_cases c40 : (strOfNums t245).toList = (strOfNums (l2.take (t242 : Int).toNat)).toList
                    · rw [if_pos c40] at H
                      have c40b0 : ((strOfNums t245).toList == (strOfNums (l2.take (t242 : Int).toNat)).toList) = true := beq_iff_eq.mpr c40
                      have c40b1 : ((strOfNums t245).toList != (strOfNums (l2.take (t242 : Int).toNat)).toList) = false := bne_eq_false_iff_eq.mpr c40
                      clear c40
                      replace H := Option.bind_eq_some_iff.mp H
                      obtain ⟨t249, A410, H⟩ := H
                      replace H : (some t249) = some r := H
                      have A41 := Aside0.mk A410
                      clear A410
                      obtain rfl := Option.some.inj H
                      try go_wp2_with (first | ((with_reducible refine gate_callee (f := 20) rfl ?_); refine goesL_ (some 90) rfl rfl Try.func20 (by kernel_rfl) rfl #[.slice A2 l2.length c2] rfl (by (try simp only [List.map_toArray, List.map_cons, List.map_nil]); first | done | rfl | (simp only [List.length_drop, List.length_take]; rfl)) ?_; (with_reducible refine (barbicanlaw03_twin.calls _ _ l2 t238 _ ?side1 ?side2 A33.out).mono ?_); (case side1 => repeat (first | exact (Kd.C_below HR2.out HB.out) | (with_reducible refine Kd.C_alloc ?_ _) | (with_reducible refine Kd.C_drewN ?_ _) | (with_reducible refine Kd.C_drew ?_))); (case side2 => exact HC2.out); rintro e w42 ⟨v239, rfl, ho0, hb⟩; refine ⟨_, rfl, ?_⟩; have n0_ := Aside0.mk (Kd.R_lower ho0 (below_size (by repeat (first | (with_reducible first | exact HB.out | apply below_alloc | apply pw_below_drewN | apply below_drew1) | exact HB.out | exact below_undrew HB.out)))); have n1_ := Aside0.mk (below_step (by repeat (first | (with_reducible first | exact HB.out | apply below_alloc | apply pw_below_drewN | apply below_drew1) | exact HB.out | exact below_undrew HB.out)) hb); clear HB; have HO240 := n0_; have HB := n1_; clear n0_ n1_; (try clear hb); (try clear hb2); (try clear hk); (try clear hi); (try clear ho0); obtain ⟨Ao43, co43, eo43⟩ := Kd.R_slice HO240.out; subst eo43) | ((with_reducible refine gate_callee (f := 30) rfl ?_); refine goesL_ (some 91) rfl rfl Try.func30 (by kernel_rfl) rfl #[.slice Ao43 t238.length co43] rfl (by (try simp only [List.map_toArray, List.map_cons, List.map_nil]); first | done | rfl | (simp only [List.length_drop, List.length_take]; rfl)) ?_; (with_reducible refine (pack_Uint.calls kj9 _ _ t238 t241 t242 none _ ?side1 ?side2 A34.out).mono ?_); (case side1 => repeat (first | exact (Kd.R_reads' HO240.out).2.2 | (with_reducible refine Kd.C_alloc ?_ _) | (with_reducible refine Kd.C_drewN ?_ _) | (with_reducible refine Kd.C_drew ?_))); (case side2 => exact (Kd.R_reads' HO240.out).2.1); rintro e w' ⟨rfl, ⟨nd, rfl⟩⟩; refine ⟨_, rfl, ?_⟩; (try simp only [errW_none, errW_some])))
                      (try (rw [drewN_self w42]; generalize hq_ : World.drewN w42 _ = w42; have n0_ : Aside0 (Kd.R (Kd.int .u8) 5 w42 w.heap.size (fun _ => True) (.slice Ao43 t238.length co43) t238) := ⟨by rw [← hq_]; exact (by (with_reducible repeat (first | apply Kd.R_alloc | apply Kd.R_drewN | apply Kd.R_drew)); exact HO240.out)⟩; have n1_ : Aside0 (Below w.heap.size w w42) := ⟨by rw [← hq_]; exact (by repeat (first | (with_reducible first | exact HB.out | apply below_alloc | apply pw_below_drewN | apply below_drew1) | exact HB.out | exact below_undrew HB.out))⟩; clear HO240 HB hq_; have HO240 := n0_; have HB := n1_; clear n0_ n1_))
                      have n0_ := Aside0.mk (Kd.R_drew HO240.out)
                      have n1_ := Aside0.mk (below_drew1 HB.out)
                      clear HO240
                      clear HB
                      have HO240 := n0_
                      have HB := n1_
                      clear n0_ n1_
                      obtain ⟨i045, hi045, _, hsz45, _⟩ := info_parts info5
                      obtain ⟨hcut45, hA45, hC45⟩ := print_take_of (P := Try.prog) (Value.int .u8) 0 23 5 .i64 Try.underlying23 hi045 hsz45 A2 c2 l2 t242 (of_decide_eq_true (by first | (with_reducible assumption) | assumption)) (of_decide_eq_true (by first | (with_reducible assumption) | assumption)) HC2.out
                      have HR248 := Aside0.mk (Kd.C_of_reads (h1 := fun _ => rfl) (hA45 _ (Kd.reads_of_C HR2.out)))
                      have HC248 := Aside0.mk hC45
                      clear hA45 hC45 hi045 hsz45
                      refine start_ (n := 22) (S := fun w' => Sem.run Try.prog (convert 23 9 (.slice A2 t242.toNat c2)) w' = .ok (.string (strOfNums (l2.take (t242 : Int).toNat))) w') (ds := []) #[false, false, false, false, false, false, false, false, false, false, false, false, false, false, false, false, false, false, false, false, false, false] (by kernel_rfl) rfl rfl ((by have h_ := Kd.C_string (P := Try.prog) (A := A2) (c := c2) Try.underlying23 Try.underlying5 Try.underlying9 (Kd.C_below HR248.out (by repeat (first | (with_reducible first | exact HB.out | apply below_alloc | apply pw_below_drewN | apply below_drew1) | exact HB.out | exact below_undrew HB.out))); rw [show ((l2.take (t242 : Int).toNat).length : Nat) = t242.toNat from (by rw [List.length_take]; have h_ : (t242 : Int) ≤ (l2.length : Int) := of_decide_eq_true (by first | (with_reducible assumption) | assumption); omega)] at h_; exact h_)) (fun hHeld => ?_); refine with_tabW barbicanlaw03_PackBack.tab10 barbicanlaw03_PackBack.bits10 (fun HT_ HW_ => ?_)
                      generalize w42.drew = w44 at HO240 HB HR248 hHeld ⊢
                      refine pure_ (i := 0) (N := some 106) (v := ?_) (a' := ?_) #[true, false, false, false, false, false, false, false, false, false, false, false, false, false, false, false, false, false, false, false, false, false] rfl rfl (any_of HT_.out (by kernel_rfl)) (fun _ _ _ h => h) (Or.inl ⟨by rfl, ?_⟩) ?_ ?_
                      rotate_left
                      · intro w'
                        go_simp
                        with_reducible rfl
                      rotate_left
                      · simp only [Act.put, List.setIfInBounds_toArray, List.set_cons_zero, List.set_cons_succ, i64_w, i32_w]
                        rfl
                      refine pure_ (i := 1) (N := some 107) (v := ?_) (a' := ?_) #[true, true, false, false, false, false, false, false, false, false, false, false, false, false, false, false, false, false, false, false, false, false] rfl rfl (any_of HT_.out (by kernel_rfl)) (fun _ _ _ h => h) (Or.inl ⟨by rfl, ?_⟩) ?_ ?_
                      rotate_left
                      · intro w'
                        go_simp
                        with_reducible rfl
                      rotate_left
                      · simp only [Act.put, List.setIfInBounds_toArray, List.set_cons_zero, List.set_cons_succ, i64_w, i32_w]
                        rfl
                      refine pure_ (i := 2) (N := some 108) (v := ?_) (a' := ?_) #[true, true, true, false, false, false, false, false, false, false, false, false, false, false, false, false, false, false, false, false, false, false] rfl rfl (any_of HT_.out (by kernel_rfl)) (fun _ _ _ h => h) (Or.inl ⟨by rfl, ?_⟩) ?_ ?_
                      rotate_left
                      · intro w'
                        go_simp
                        with_reducible rfl
                      rotate_left
                      · simp only [Act.put, List.setIfInBounds_toArray, List.set_cons_zero, List.set_cons_succ, i64_w, i32_w]
                        rfl
                      refine pure_ (i := 3) (N := some 109) (v := ?_) (a' := ?_) #[true, true, true, true, false, false, false, false, false, false, false, false, false, false, false, false, false, false, false, false, false, false] rfl rfl (any_of HT_.out (by kernel_rfl)) (fun _ _ _ h => h) (Or.inl ⟨by rfl, ?_⟩) ?_ ?_
                      rotate_left
                      · intro w'
                        go_simp
                        with_reducible rfl
                      rotate_left
                      · simp only [Act.put, List.setIfInBounds_toArray, List.set_cons_zero, List.set_cons_succ, i64_w, i32_w]
                        rfl
                      refine pure_ (i := 4) (N := some 110) (v := ?_) (a' := ?_) #[true, true, true, true, true, false, false, false, false, false, false, false, false, false, false, false, false, false, false, false, false, false] rfl rfl (any_of HT_.out (by kernel_rfl)) (fun _ _ _ h => h) (Or.inl ⟨by rfl, ?_⟩) ?_ ?_
                      rotate_left
                      · intro w'
                        go_simp
                        with_reducible rfl
                      rotate_left
                      · simp only [Act.put, List.setIfInBounds_toArray, List.set_cons_zero, List.set_cons_succ, i64_w, i32_w]
                        rfl
                      refine pure_ (i := 5) (N := some 111) (v := ?_) (a' := ?_) #[true, true, true, true, true, true, false, false, false, false, false, false, false, false, false, false, false, false, false, false, false, false] rfl rfl (any_of HT_.out (by kernel_rfl)) (fun _ _ _ h => h) (Or.inl ⟨by rfl, ?_⟩) ?_ ?_
                      rotate_left
                      · intro w'
                        go_simp
                        with_reducible rfl
                      rotate_left
                      · simp only [Act.put, List.setIfInBounds_toArray, List.set_cons_zero, List.set_cons_succ, i64_w, i32_w]
                        rfl
                      refine pure_ (i := 6) (N := some 112) (v := ?_) (a' := ?_) #[true, true, true, true, true, true, true, false, false, false, false, false, false, false, false, false, false, false, false, false, false, false] rfl rfl (any_of HT_.out (by kernel_rfl)) (fun _ _ _ h => h) (Or.inl ⟨by rfl, ?_⟩) ?_ ?_
                      rotate_left
                      · intro w'
                        go_simp
                        with_reducible rfl
                      rotate_left
                      · simp only [Act.put, List.setIfInBounds_toArray, List.set_cons_zero, List.set_cons_succ, i64_w, i32_w]
                        rfl
                      refine pure_ (i := 7) (N := some 113) (v := ?_) (a' := ?_) #[true, true, true, true, true, true, true, true, false, false, false, false, false, false, false, false, false, false, false, false, false, false] rfl rfl (any_of HT_.out (by kernel_rfl)) (fun _ _ _ h => h) (Or.inl ⟨by rfl, ?_⟩) ?_ ?_
                      rotate_left
                      · intro w'
                        go_simp
                        with_reducible rfl
                      rotate_left
                      · simp only [Act.put, List.setIfInBounds_toArray, List.set_cons_zero, List.set_cons_succ, i64_w, i32_w]
                        rfl
                      refine pure_ (i := 8) (N := some 114) (v := ?_) (a' := ?_) #[true, true, true, true, true, true, true, true, true, false, false, false, false, false, false, false, false, false, false, false, false, false] rfl rfl (any_of HT_.out (by kernel_rfl)) (fun _ _ _ h => h) (Or.inl ⟨by rfl, ?_⟩) ?_ ?_
                      rotate_left
                      · intro w'
                        go_simp
                        with_reducible rfl
                      rotate_left
                      · simp only [Act.put, List.setIfInBounds_toArray, List.set_cons_zero, List.set_cons_succ, i64_w, i32_w]
                        rfl
                      refine pure_ (i := 9) (N := some 115) (v := ?_) (a' := ?_) #[true, true, true, true, true, true, true, true, true, true, false, false, false, false, false, false, false, false, false, false, false, false] rfl rfl (any_of HT_.out (by kernel_rfl)) (fun _ _ _ h => h) (Or.inl ⟨by rfl, ?_⟩) ?_ ?_
                      rotate_left
                      · intro w'
                        go_simp
                        with_reducible rfl
                      rotate_left
                      · simp only [Act.put, List.setIfInBounds_toArray, List.set_cons_zero, List.set_cons_succ, i64_w, i32_w]
                        rfl
                      refine pure_ (i := 12) (N := some 118) (v := ?_) (a' := ?_) #[true, true, true, true, true, true, true, true, true, true, false, false, true, false, false, false, false, false, false, false, false, false] rfl rfl (any_of HT_.out (by kernel_rfl)) (fun _ _ _ h => h) (Or.inl ⟨by rfl, ?_⟩) ?_ ?_
                      rotate_left
                      · intro w'
                        go_simp
                        with_reducible rfl
                      rotate_left
                      · simp only [Act.put, List.setIfInBounds_toArray, List.set_cons_zero, List.set_cons_succ, i64_w, i32_w]
                        rfl
                      refine pure_ (i := 13) (N := some 119) (v := ?_) (a' := ?_) #[true, true, true, true, true, true, true, true, true, true, false, false, true, true, false, false, false, false, false, false, false, false] rfl rfl (any_of HT_.out (by kernel_rfl)) (fun _ _ _ h => h) (Or.inl ⟨by rfl, ?_⟩) ?_ ?_
                      rotate_left
                      · intro w'
                        go_simp
                        with_reducible rfl
                      rotate_left
                      · simp only [Act.put, List.setIfInBounds_toArray, List.set_cons_zero, List.set_cons_succ, i64_w, i32_w]
                        rfl
                      refine pure_ (i := 14) (N := some 120) (v := ?_) (a' := ?_) #[true, true, true, true, true, true, true, true, true, true, false, false, true, true, true, false, false, false, false, false, false, false] rfl rfl (any_of HT_.out (by kernel_rfl)) (fun _ _ _ h => h) (Or.inl ⟨by rfl, ?_⟩) ?_ ?_
                      rotate_left
                      · intro w'
                        go_simp
                        with_reducible rfl
                      rotate_left
                      · simp only [Act.put, List.setIfInBounds_toArray, List.set_cons_zero, List.set_cons_succ, i64_w, i32_w]
                        rfl
                      refine take_ (i := 15) (N := some 121) (v := ?_) (a' := ?_) #[true, true, true, true, true, true, true, true, true, true, false, false, true, true, true, true, false, false, false, false, false, false] rfl rfl (take_ofW HT_.out HW_.out (by kernel_rfl)) (fun _ _ _ h => h) (Or.inl ⟨by rfl, ?_⟩) hHeld ?_ ?_
                      rotate_left
                      · intro w' s0
                        go_simp
                        with_reducible rfl
                      rotate_left
                      · simp only [Act.put, List.setIfInBounds_toArray, List.set_cons_zero, List.set_cons_succ, i64_w, i32_w]
                        rfl
                      refine one_ (i := 10) (N := some 116) #[true, true, true, true, true, true, true, true, true, true, true, false, true, true, true, true, false, false, false, false, false, false] rfl rfl (one_of HT_.out (by kernel_rfl)) (by decide) (fun K hK => ?_)
                      refine goes_ Try.func18 (by kernel_rfl) rfl #[.slice none 0 0, .int .u64 t241] (by rfl) rfl rfl (by (try simp only [List.map_toArray, List.map_cons, List.map_nil]); first | done | rfl | (simp only [List.length_drop, List.length_take]; rfl)) ?_
                      refine (pack_AppendUint.calls kj9 _ _ ([] : List Int) t241 t245 _ ?side1 ?side2 A37.out).mono ?_
                      (case side1 => exact Kd.C_nil _ _)
                      (case side2 => exact Nat.le_refl _)
                      rintro e w46 ⟨v246, rfl, ho0, hb⟩
                      refine ⟨_, rfl, ?_⟩
                      have n0_ := Aside0.mk (Kd.R_elder' (by (with_reducible repeat (first | apply Kd.R_alloc | apply Kd.R_drewN | apply Kd.R_drew)); exact HO240.out) (Kd.R_base ho0) hb)
                      have n1_ := Aside0.mk (Kd.R_lower (Kd.R_new' ho0 (Kd.R_lt (by (with_reducible repeat (first | apply Kd.R_alloc | apply Kd.R_drewN | apply Kd.R_drew)); exact HO240.out))) (below_size (by repeat (first | (with_reducible first | exact HB.out | apply below_alloc | apply pw_below_drewN | apply below_drew1) | exact HB.out | exact below_undrew HB.out))))
                      have n2_ := Aside0.mk (below_step (by repeat (first | (with_reducible first | exact HB.out | apply below_alloc | apply pw_below_drewN | apply below_drew1) | exact HB.out | exact below_undrew HB.out)) hb)
                      clear HO240
                      clear HB
                      have HO240 := n0_
                      have HO247 := n1_
                      have HB := n2_
                      clear n0_ n1_ n2_
                      (try clear hb)
                      (try clear hb2)
                      (try clear hk)
                      (try clear hi)
                      (try clear ho0)
                      refine hK.out _ _ ((by have h_ := Kd.C_string (P := Try.prog) (A := A2) (c := c2) Try.underlying23 Try.underlying5 Try.underlying9 (Kd.C_below HR248.out (by repeat (first | (with_reducible first | exact HB.out | apply below_alloc | apply pw_below_drewN | apply below_drew1) | exact HB.out | exact below_undrew HB.out))); rw [show ((l2.take (t242 : Int).toNat).length : Nat) = t242.toNat from (by rw [List.length_take]; have h_ : (t242 : Int) ≤ (l2.length : Int) := of_decide_eq_true (by first | (with_reducible assumption) | assumption); omega)] at h_; exact h_)) (fun hHeld => ?_)
                      clear hK K
                      refine norm_ (a' := ?_) ?_ ?_
                      rotate_left
                      · show Act.put _ (some 116) _ = _
                        simp only [Act.put, List.setIfInBounds_toArray, List.set_cons_zero, List.set_cons_succ, i64_w, i32_w]
                        rfl
                      refine one_ (i := 11) (N := some 117) #[true, true, true, true, true, true, true, true, true, true, true, true, true, true, true, true, false, false, false, false, false, false] rfl rfl (one_of HT_.out (by kernel_rfl)) (by decide) (fun K hK => ?_)
                      have hcv47 := own_string (P := Try.prog) Try.underlying23 Try.underlying5 Try.underlying9 (Kd.own_of_R HO247.out)
                      refine value_ (w1 := ?_) (v := ?_) (by rfl) rfl ?_ ?_
                      rotate_left 2
                      · go_simp
                        constructor
                        · rfl
                        · rfl
                      clear hcv47
                      refine hK.out _ _ ((by have h_ := Kd.C_string (P := Try.prog) (A := A2) (c := c2) Try.underlying23 Try.underlying5 Try.underlying9 (Kd.C_below HR248.out (by repeat (first | (with_reducible first | exact HB.out | apply below_alloc | apply pw_below_drewN | apply below_drew1) | exact HB.out | exact below_undrew HB.out))); rw [show ((l2.take (t242 : Int).toNat).length : Nat) = t242.toNat from (by rw [List.length_take]; have h_ : (t242 : Int) ≤ (l2.length : Int) := of_decide_eq_true (by first | (with_reducible assumption) | assumption); omega)] at h_; exact h_)) (fun hHeld => ?_)
                      clear hK K
                      refine norm_ (a' := ?_) ?_ ?_
                      rotate_left
                      · show Act.put _ (some 117) _ = _
                        simp only [Act.put, List.setIfInBounds_toArray, List.set_cons_zero, List.set_cons_succ, i64_w, i32_w]
                        rfl
                      refine pure_ (i := 16) (N := some 122) (v := ?_) (a' := ?_) #[true, true, true, true, true, true, true, true, true, true, true, true, true, true, true, true, true, false, false, false, false, false] rfl rfl (any_of HT_.out (by kernel_rfl)) (fun _ _ _ h => h) (Or.inl ⟨by rfl, ?_⟩) ?_ ?_
                      rotate_left
                      · intro w'
                        go_simp
                        with_reducible rfl
                      rotate_left
                      · simp only [Act.put, List.setIfInBounds_toArray, List.set_cons_zero, List.set_cons_succ, i64_w, i32_w]
                        rfl
                      refine pure_ (i := 17) (N := some 123) (v := ?_) (a' := ?_) #[true, true, true, true, true, true, true, true, true, true, true, true, true, true, true, true, true, true, false, false, false, false] rfl rfl (any_of HT_.out (by kernel_rfl)) (fun _ _ _ h => h) (Or.inl ⟨by rfl, ?_⟩) ?_ ?_
                      rotate_left
                      · intro w'
                        go_simp
                        with_reducible rfl
                      rotate_left
                      · simp only [Act.put, List.setIfInBounds_toArray, List.set_cons_zero, List.set_cons_succ, i64_w, i32_w]
                        rfl
                      refine pure_ (i := 18) (N := some 124) (v := ?_) (a' := ?_) #[true, true, true, true, true, true, true, true, true, true, true, true, true, true, true, true, true, true, true, false, false, false] rfl rfl (any_of HT_.out (by kernel_rfl)) (fun _ _ _ h => h) (Or.inl ⟨by rfl, ?_⟩) ?_ ?_
                      rotate_left
                      · intro w'
                        go_simp
                        with_reducible rfl
                      rotate_left
                      · simp only [Act.put, List.setIfInBounds_toArray, List.set_cons_zero, List.set_cons_succ, i64_w, i32_w]
                        rfl
                      refine one_ (i := 19) (N := some 125) #[true, true, true, true, true, true, true, true, true, true, true, true, true, true, true, true, true, true, true, true, false, false] rfl rfl (one_of HT_.out (by kernel_rfl)) (by decide) (fun K hK => ?_)
                      refine goes_ Try.func19 (by kernel_rfl) rfl #[] (by rfl) rfl rfl (by (try simp only [List.map_toArray, List.map_cons, List.map_nil]); first | done | rfl | (simp only [List.length_drop, List.length_take]; rfl)) ?_
                      with_reducible refine (barbicanlaw03_sure.calls kj9  t249 _ A41.out).mono ?_
                      rintro e w49 ⟨rfl, hb⟩
                      refine ⟨_, rfl, ?_⟩
                      have n0_ := Aside0.mk (Kd.R_below (by (with_reducible repeat (first | apply Kd.R_alloc | apply Kd.R_drewN | apply Kd.R_drew)); exact HO240.out) hb)
                      have n1_ := Aside0.mk (Kd.R_below (by (with_reducible repeat (first | apply Kd.R_alloc | apply Kd.R_drewN | apply Kd.R_drew)); exact HO247.out) hb)
                      have n2_ := Aside0.mk (below_step (by repeat (first | (with_reducible first | exact HB.out | apply below_alloc | apply pw_below_drewN | apply below_drew1) | exact HB.out | exact below_undrew HB.out)) hb)
                      clear HO240
                      clear HO247
                      clear HB
                      have HO240 := n0_
                      have HO247 := n1_
                      have HB := n2_
                      clear n0_ n1_ n2_
                      (try clear hb)
                      (try clear hb2)
                      (try clear hk)
                      (try clear hi)
                      refine hK.out _ _ ((by have h_ := Kd.C_string (P := Try.prog) (A := A2) (c := c2) Try.underlying23 Try.underlying5 Try.underlying9 (Kd.C_below HR248.out (by repeat (first | (with_reducible first | exact HB.out | apply below_alloc | apply pw_below_drewN | apply below_drew1) | exact HB.out | exact below_undrew HB.out))); rw [show ((l2.take (t242 : Int).toNat).length : Nat) = t242.toNat from (by rw [List.length_take]; have h_ : (t242 : Int) ≤ (l2.length : Int) := of_decide_eq_true (by first | (with_reducible assumption) | assumption); omega)] at h_; exact h_)) (fun hHeld => ?_)
                      clear hK K
                      refine norm_ (a' := ?_) ?_ ?_
                      rotate_left
                      · show Act.put _ (some 125) _ = _
                        simp only [Act.put, List.setIfInBounds_toArray, List.set_cons_zero, List.set_cons_succ, i64_w, i32_w]
                        rfl
                      refine pure_ (i := 20) (N := some 126) (v := ?_) (a' := ?_) #[true, true, true, true, true, true, true, true, true, true, true, true, true, true, true, true, true, true, true, true, true, false] rfl rfl (any_of HT_.out (by kernel_rfl)) (fun _ _ _ h => h) (Or.inl ⟨by rfl, ?_⟩) ?_ ?_
                      rotate_left
                      · intro w'
                        go_simp
                        with_reducible rfl
                      rotate_left
                      · simp only [Act.put, List.setIfInBounds_toArray, List.set_cons_zero, List.set_cons_succ, i64_w, i32_w]
                        rfl
                      refine pure_ (i := 21) (N := some 6) (v := ?_) (a' := ?_) #[true, true, true, true, true, true, true, true, true, true, true, true, true, true, true, true, true, true, true, true, true, true] rfl rfl (any_of HT_.out (by kernel_rfl)) (fun _ _ _ h => h) (Or.inl ⟨by rfl, ?_⟩) ?_ ?_
                      rotate_left
                      · intro w'
                        go_simp
                        with_reducible rfl
                      rotate_left
                      · simp only [Act.put, List.setIfInBounds_toArray, List.set_cons_zero, List.set_cons_succ, i64_w, i32_w]
                        rfl
                      refine done_ (done_of HT_.out (by kernel_rfl)) ?_
                      try go_wp2
                      go_ret
                      exact ⟨by first | rfl | (simp [errW_none, errW_some] <;> rfl) | (simp [*, errW_none, errW_some] <;> rfl), by repeat (first | (with_reducible first | exact HB.out | apply below_alloc | apply pw_below_drewN | apply below_drew1) | exact HB.out | exact below_undrew HB.out)⟩
                    · rw [if_neg c40] at H
                      have c40b0 : ((strOfNums t245).toList == (strOfNums (l2.take (t242 : Int).toNat)).toList) = false := beq_eq_false_iff_ne.mpr c40
                      have c40b1 : ((strOfNums t245).toList != (strOfNums (l2.take (t242 : Int).toNat)).toList) = true := bne_iff_ne.mpr c40
                      exact absurd (Option.some.inj H) (by rw [hT.out]; decide)
                  · rw [if_neg c38] at H
                    exact absurd H (by simp)
                · rw [if_neg c36] at H
                  have c36b0 : decide (t242 ≤ (l2.length : Int)) = false := decide_eq_false c36
                  clear c36
                  exact absurd (Option.some.inj H) (by rw [hT.out]; decide)
              · rw [if_neg c35] at H
                have c35b0 : decide (1 ≤ t242) = false := decide_eq_false c35
                clear c35
                exact absurd (Option.some.inj H) (by rw [hT.out]; decide)
            · have H1 : (if t241 = 0 then (if t242 = 0 then ((barbicanlaw03_sure.f kj9).bind fun t250 => (some t250)) else (some false)) else (some false)) = some r := by rw [if_neg (show ¬ (some q244).isNone = true by simp)] at H; exact H
              clear H
              have H := H1
              clear H1
              try simp only [errW_none, errW_some]
              by_cases c50 : t241 = 0
              · rw [if_pos c50] at H
                have c50b0 : (t241 == 0) = true := beq_iff_eq.mpr c50
                have c50b1 : (t241 != 0) = false := bne_eq_false_iff_eq.mpr c50
                clear c50
                by_cases c51 : t242 = 0
                · rw [if_pos c51] at H
                  have c51b0 : (t242 == 0) = true := beq_iff_eq.mpr c51
                  have c51b1 : (t242 != 0) = false := bne_eq_false_iff_eq.mpr c51
                  clear c51
                  replace H := Option.bind_eq_some_iff.mp H
                  obtain ⟨t250, A520, H⟩ := H
                  replace H : (some t250) = some r := H
                  have A52 := Aside0.mk A520
                  clear A520
                  obtain rfl := Option.some.inj H
                  go_wp2_with (first | ((with_reducible refine gate_callee (f := 20) rfl ?_); refine goesL_ (some 90) rfl rfl Try.func20 (by kernel_rfl) rfl #[.slice A2 l2.length c2] rfl (by (try simp only [List.map_toArray, List.map_cons, List.map_nil]); first | done | rfl | (simp only [List.length_drop, List.length_take]; rfl)) ?_; (with_reducible refine (barbicanlaw03_twin.calls _ _ l2 t238 _ ?side1 ?side2 A33.out).mono ?_); (case side1 => repeat (first | exact (Kd.C_below HR2.out HB.out) | (with_reducible refine Kd.C_alloc ?_ _) | (with_reducible refine Kd.C_drewN ?_ _) | (with_reducible refine Kd.C_drew ?_))); (case side2 => exact HC2.out); rintro e w53 ⟨v239, rfl, ho0, hb⟩; refine ⟨_, rfl, ?_⟩; have n0_ := Aside0.mk (Kd.R_lower ho0 (below_size (by repeat (first | (with_reducible first | exact HB.out | apply below_alloc | apply pw_below_drewN | apply below_drew1) | exact HB.out | exact below_undrew HB.out)))); have n1_ := Aside0.mk (below_step (by repeat (first | (with_reducible first | exact HB.out | apply below_alloc | apply pw_below_drewN | apply below_drew1) | exact HB.out | exact below_undrew HB.out)) hb); clear HB; have HO240 := n0_; have HB := n1_; clear n0_ n1_; (try clear hb); (try clear hb2); (try clear hk); (try clear hi); (try clear ho0); obtain ⟨Ao54, co54, eo54⟩ := Kd.R_slice HO240.out; subst eo54) | ((with_reducible refine gate_callee (f := 30) rfl ?_); refine goesL_ (some 91) rfl rfl Try.func30 (by kernel_rfl) rfl #[.slice Ao54 t238.length co54] rfl (by (try simp only [List.map_toArray, List.map_cons, List.map_nil]); first | done | rfl | (simp only [List.length_drop, List.length_take]; rfl)) ?_; (with_reducible refine (pack_Uint.calls kj9 _ _ t238 t241 t242 (some q244) _ ?side1 ?side2 A34.out).mono ?_); (case side1 => repeat (first | exact (Kd.R_reads' HO240.out).2.2 | (with_reducible refine Kd.C_alloc ?_ _) | (with_reducible refine Kd.C_drewN ?_ _) | (with_reducible refine Kd.C_drew ?_))); (case side2 => exact (Kd.R_reads' HO240.out).2.1); rintro e w' ⟨rfl, ⟨nd, rfl⟩⟩; refine ⟨_, rfl, ?_⟩; (try simp only [errW_none, errW_some])) | (go_at_call 19; (with_reducible refine (barbicanlaw03_sure.calls kj9  t250 _ A52.out).mono ?_); rintro e w55 ⟨rfl, hb⟩; have n0_ := Aside0.mk (Kd.R_below (by (with_reducible repeat (first | apply Kd.R_alloc | apply Kd.R_drewN | apply Kd.R_drew)); exact HO240.out) hb); have n1_ := Aside0.mk (below_step (by repeat (first | (with_reducible first | exact HB.out | apply below_alloc | apply pw_below_drewN | apply below_drew1) | exact HB.out | exact below_undrew HB.out)) hb); clear HO240; clear HB; have HO240 := n0_; have HB := n1_; clear n0_ n1_; (try clear hb); (try clear hb2); (try clear hk); (try clear hi)))
                  go_ret
                  exact ⟨by first | rfl | (simp [errW_none, errW_some] <;> rfl) | (simp [*, errW_none, errW_some] <;> rfl), by repeat (first | (with_reducible first | exact HB.out | apply below_alloc | apply pw_below_drewN | apply below_drew1) | exact HB.out | exact below_undrew HB.out)⟩
                · rw [if_neg c51] at H
                  have c51b0 : (t242 == 0) = false := beq_eq_false_iff_ne.mpr c51
                  have c51b1 : (t242 != 0) = true := bne_iff_ne.mpr c51
                  exact absurd (Option.some.inj H) (by rw [hT.out]; decide)
              · rw [if_neg c50] at H
                have c50b0 : (t241 == 0) = false := beq_eq_false_iff_ne.mpr c50
                have c50b1 : (t241 != 0) = true := bne_iff_ne.mpr c50
                exact absurd (Option.some.inj H) (by rw [hT.out]; decide)
    · rw [if_neg c7] at H
      exact absurd H (by simp)
  · rw [if_neg c5] at H
    exact absurd H (by simp)

/-- THE ONE PURE STATEMENT of barbicanlaw03_PackBack: yours. -/
def barbicanlaw03_PackBack.Pure : Prop := ∀ (a0 : Int) (a1 : ByteArray) (l2 : List Int), (Lit.int .i64 a0).wf = true → a1.size ≤ 140737488351232 → l2.length ≤ maxLen → l2.length * 1 ≤ 140737488351232 → (∀ x ∈ l2, (Lit.int .u8 x).wf = true) → ∃ k, barbicanlaw03_PackBack.f k a0 a1 l2 = some true
theorem barbicanlaw03_PackBack.walk (P : barbicanlaw03_PackBack.Pure) (a0 : Int) (a1 : ByteArray) (a2 : Option Addr) (len2 cap2 : Nat) (z2 : List Int) (w : World) (w0 : (Lit.int .i64 a0).wf = true) (w1 : a1.size ≤ 140737488351232) (w2 : (a2 = none ∧ len2 = 0 ∧ cap2 = 0 ∧ z2 = []) ∨ ∃ x, a2 = some x ∧ len2 ≤ cap2 ∧ cap2 ≤ maxLen ∧ z2.length = cap2 ∧ (∀ i, i < z2.length → w.cell? (x.add i) = some (.int .u8 (z2.getD i 0))) ∧ ∀ n ∈ z2, (Lit.int .u8 n).wf = true) (y2 : len2 * 1 ≤ 140737488351232) :
    Calls Try.prog 8 #[.int .i64 a0, .string a1, .slice a2 len2 cap2] w fun e w' => e = .returned (.bool true) ∧ Below w.heap.size w w' := by
  obtain ⟨l2, rfl, hr2, hm2, hw2, hc2⟩ := ReadsInt.ofRowC w2
  obtain ⟨k, h⟩ := P a0 a1 l2 w0 w1 hm2 y2 hw2
  refine (barbicanlaw03_PackBack.calls k a0 a1 _ _ l2 true w (Kd.C_of_reads (d := (0 : Int)) (h1 := fun _ => rfl) hr2) hc2 h ⟨rfl⟩).mono ?_
  rintro e w' ⟨rfl, hd⟩
  exact ⟨rfl, hd⟩

end Go.Proofs.Ytindggjkcnelcaa.XAll
