/- Printed by this session's program (wip/print) out of the translation, for the statement named in the file's name. -/
import Derived.Test.YtadnmajoimckgaaXGbx0
import Derived.Test.YtadnmajoimckgaaXGbx1
import Derived.Test.YtadnmajoimckgaaXGbx9
import Derived.Test.YtadnmajoimckgaaXGbx10
namespace Go.Proofs.Ytadnmajoimckgaa.XGb
open Go.RowKit Go.Proofs.YtadnmajoimckgaaW.PrintWords Go.Proofs.YtadnmajoimckgaaW.PrintLast Go.Proofs.YtadnmajoimckgaaW.PrintMore
attribute [local go_sem] str_gtr str_leq str_geq max2_int min2_int max_two min_two max_three min_three max_four min_four   -- for this text's walks alone
set_option linter.unusedVariables false
set_option linter.unusedSimpArgs false
set_option linter.unnecessarySimpa false

attribute [local go_sem high] eqA25
/-! ### barbicanlaw24_GuardBlind: function 3 -/
mutual
def barbicanlaw24_GuardBlind.j0 : Nat → Bool → ByteArray → Int → Int → Int → Int → ByteArray → Bool → Int → Int → Int → Int → ByteArray → Bool → Int → Int → ByteArray → Bool → Option (Bool)
  | 0, _, _, _, _, _, _, _, _, _, _, _, _, _, _, _, _, _, _ => none
  | k + 1, x28, x230000, x230001, x230002, x231000, x231001, x231002, x231003, x232000, x232001, x233000, x233001, x233002, x233003, x239000, x239001, x239002, x239003 => if x28 = true then (if (IntKind.u64.wrap (wrap64 ((x231002.size : Int) - x230002))) = 0 then (none) else (if 0 ≤ (wrap64 (x230002 + (wrap64 (Int.tmod (IntKind.u64.wrap (x232000)) (IntKind.u64.wrap (wrap64 ((x231002.size : Int) - x230002))))))) then (if (wrap64 (x230002 + (wrap64 (Int.tmod (IntKind.u64.wrap (x232000)) (IntKind.u64.wrap (wrap64 ((x231002.size : Int) - x230002))))))) ≤ (x231002.size : Int) then (if (x231002.extract 0 ((wrap64 (x230002 + (wrap64 (Int.tmod (IntKind.u64.wrap (x232000)) (IntKind.u64.wrap (wrap64 ((x231002.size : Int) - x230002))))))) : Int).toNat).size + 1 ≤ 9223372036854775807 then (if 0 ≤ (wrap64 ((wrap64 (x230002 + (wrap64 (Int.tmod (IntKind.u64.wrap (x232000)) (IntKind.u64.wrap (wrap64 ((x231002.size : Int) - x230002))))))) + 1)) then (if (wrap64 ((wrap64 (x230002 + (wrap64 (Int.tmod (IntKind.u64.wrap (x232000)) (IntKind.u64.wrap (wrap64 ((x231002.size : Int) - x230002))))))) + 1)) ≤ (x231002.size : Int) then (if ((x231002.extract 0 ((wrap64 (x230002 + (wrap64 (Int.tmod (IntKind.u64.wrap (x232000)) (IntKind.u64.wrap (wrap64 ((x231002.size : Int) - x230002))))))) : Int).toNat) ++ (⟨#[126]⟩ : ByteArray)).size + (x231002.extract ((wrap64 ((wrap64 (x230002 + (wrap64 (Int.tmod (IntKind.u64.wrap (x232000)) (IntKind.u64.wrap (wrap64 ((x231002.size : Int) - x230002))))))) + 1)) : Int).toNat x231002.size).size ≤ 9223372036854775807 then ((guard_Apply.f k x230000 x230001 x230002 x233000 x233001 (((x231002.extract 0 ((wrap64 (x230002 + (wrap64 (Int.tmod (IntKind.u64.wrap (x232000)) (IntKind.u64.wrap (wrap64 ((x231002.size : Int) - x230002))))))) : Int).toNat) ++ (⟨#[126]⟩ : ByteArray)) ++ (x231002.extract ((wrap64 ((wrap64 (x230002 + (wrap64 (Int.tmod (IntKind.u64.wrap (x232000)) (IntKind.u64.wrap (wrap64 ((x231002.size : Int) - x230002))))))) + 1)) : Int).toNat x231002.size)) x233003).bind fun bt240 => (if bt240.2.2.2.2.isNone = true then (if (x239000 == bt240.1 && (x239001 == bt240.2.1 && (x239002.toList == bt240.2.2.1.toList && (x239003 == bt240.2.2.2.1)))) = true then ((barbicanref05_Valid.f k x239000 x239001 x239002 x239003).bind fun t247 => (if t247 = 0 then ((barbicanlaw24_sure.f k).bind fun t248 => (some t248)) else (some false))) else (some false)) else (some false))) else (none)) else (none)) else (none)) else (none)) else (none)) else (none))) else (if x231000 = 1 then (barbicanlaw24_GuardBlind.j1 k (x230001 == 3) x230000 x230001 x230002 x231000 x231001 x231002 x231003 x232000 x232001 x233000 x233001 x233002 x233003 x239000 x239001 x239002 x239003) else (barbicanlaw24_GuardBlind.j1 k false x230000 x230001 x230002 x231000 x231001 x231002 x231003 x232000 x232001 x233000 x233001 x233002 x233003 x239000 x239001 x239002 x239003))
def barbicanlaw24_GuardBlind.j1 : Nat → Bool → ByteArray → Int → Int → Int → Int → ByteArray → Bool → Int → Int → Int → Int → ByteArray → Bool → Int → Int → ByteArray → Bool → Option (Bool)
  | 0, _, _, _, _, _, _, _, _, _, _, _, _, _, _, _, _, _, _ => none
  | k + 1, x72, x230000, x230001, x230002, x231000, x231001, x231002, x231003, x232000, x232001, x233000, x233001, x233002, x233003, x239000, x239001, x239002, x239003 => if x72 = true then (if (IntKind.u64.wrap (x230002)) = 0 then (none) else (if (wrap64 (x239001 + (wrap64 (Int.tmod (IntKind.u64.wrap (x232000)) (IntKind.u64.wrap (x230002)))))) < x239001 then ((barbicanlaw24_sure.f k).bind fun t249 => (some t249)) else ((guard_Apply.f k x230000 x230001 x230002 x233000 (wrap64 (x239001 + (wrap64 (Int.tmod (IntKind.u64.wrap (x232000)) (IntKind.u64.wrap (x230002)))))) x233002 x233003).bind fun bt250 => (if bt250.2.2.2.2.isNone = true then (if (x239000 == bt250.1 && (x239001 == bt250.2.1 && (x239002.toList == bt250.2.2.1.toList && (x239003 == bt250.2.2.2.1)))) = true then ((barbicanref05_Valid.f k x239000 x239001 x239002 x239003).bind fun t257 => (if t257 = 0 then ((barbicanlaw24_sure.f k).bind fun t258 => (some t258)) else (some false))) else (some false)) else (some false))))) else (if x231000 = 2 then (barbicanlaw24_GuardBlind.j2 k (x230001 == 3) x230000 x230001 x230002 x231000 x231001 x231002 x231003 x233000 x233001 x233002 x233003 x239000 x239001 x239002 x239003) else (barbicanlaw24_GuardBlind.j2 k false x230000 x230001 x230002 x231000 x231001 x231002 x231003 x233000 x233001 x233002 x233003 x239000 x239001 x239002 x239003))
def barbicanlaw24_GuardBlind.j2 : Nat → Bool → ByteArray → Int → Int → Int → Int → ByteArray → Bool → Int → Int → ByteArray → Bool → Int → Int → ByteArray → Bool → Option (Bool)
  | 0, _, _, _, _, _, _, _, _, _, _, _, _, _, _, _, _ => none
  | k + 1, x99, x230000, x230001, x230002, x231000, x231001, x231002, x231003, x233000, x233001, x233002, x233003, x239000, x239001, x239002, x239003 => if x99 = true then (if 0 ≤ (mn x230002 (x231002.size : Int)) then (if (mn x230002 (x231002.size : Int)) ≤ (x231002.size : Int) then ((guard_Apply.f k x230000 x230001 x230002 x233000 x233001 (x231002.extract 0 ((mn x230002 (x231002.size : Int)) : Int).toNat) x233003).bind fun bt259 => (if bt259.2.2.2.2.isNone = true then (if (x239000 == bt259.1 && (x239001 == bt259.2.1 && (x239002.toList == bt259.2.2.1.toList && (x239003 == bt259.2.2.2.1)))) = true then ((barbicanref05_Valid.f k x239000 x239001 x239002 x239003).bind fun t266 => (if t266 = 0 then ((barbicanlaw24_sure.f k).bind fun t267 => (some t267)) else (some false))) else (some false)) else (some false))) else (none)) else (none)) else (if x231000 = 3 then (barbicanlaw24_GuardBlind.j3 k (x230001 != 1) x230000 x230001 x230002 x231000 x231001 x231002 x231003 x233000 x233001 x233002 x233003 x239000 x239001 x239002 x239003) else (barbicanlaw24_GuardBlind.j3 k false x230000 x230001 x230002 x231000 x231001 x231002 x231003 x233000 x233001 x233002 x233003 x239000 x239001 x239002 x239003))
def barbicanlaw24_GuardBlind.j3 : Nat → Bool → ByteArray → Int → Int → Int → Int → ByteArray → Bool → Int → Int → ByteArray → Bool → Int → Int → ByteArray → Bool → Option (Bool)
  | 0, _, _, _, _, _, _, _, _, _, _, _, _, _, _, _, _ => none
  | k + 1, x118, x230000, x230001, x230002, x231000, x231001, x231002, x231003, x233000, x233001, x233002, x233003, x239000, x239001, x239002, x239003 => if x118 = true then ((guard_Apply.f k x230000 x230001 x230002 x233000 x233001 x233002 (!x231003)).bind fun bt268 => (if bt268.2.2.2.2.isNone = true then (if (x239000 == bt268.1 && (x239001 == bt268.2.1 && (x239002.toList == bt268.2.2.1.toList && (x239003 == bt268.2.2.2.1)))) = true then ((barbicanref05_Valid.f k x239000 x239001 x239002 x239003).bind fun t275 => (if t275 = 0 then ((barbicanlaw24_sure.f k).bind fun t276 => (some t276)) else (some false))) else (some false)) else (some false))) else ((guard_Apply.f k x230000 x230001 x230002 x233000 x233001 x233002 x233003).bind fun bt277 => (if bt277.2.2.2.2.isNone = true then (if (x239000 == bt277.1 && (x239001 == bt277.2.1 && (x239002.toList == bt277.2.2.1.toList && (x239003 == bt277.2.2.2.1)))) = true then ((barbicanref05_Valid.f k x239000 x239001 x239002 x239003).bind fun t284 => (if t284 = 0 then ((barbicanlaw24_sure.f k).bind fun t285 => (some t285)) else (some false))) else (some false)) else (some false)))
end
def barbicanlaw24_GuardBlind.f (k : Nat) (a0_0 : ByteArray) (a0_1 : Int) (a0_2 : Int) (a1_0 : Int) (a1_1 : Int) (a1_2 : ByteArray) (a1_3 : Bool) (a2_0 : Int) (a2_1 : Int) : Option (Bool) := (guard_Apply.f k a0_0 a0_1 a0_2 a1_0 a1_1 a1_2 a1_3).bind fun bt233 => (if bt233.2.2.2.2.isNone = true then (if a1_0 = 2 then (if a0_1 = 2 then (barbicanlaw24_GuardBlind.j0 k (decide ((a1_2.size : Int) > a0_2)) a0_0 a0_1 a0_2 a1_0 a1_1 a1_2 a1_3 a2_0 a2_1 a1_0 a1_1 a1_2 a1_3 bt233.1 bt233.2.1 bt233.2.2.1 bt233.2.2.2.1) else (barbicanlaw24_GuardBlind.j0 k false a0_0 a0_1 a0_2 a1_0 a1_1 a1_2 a1_3 a2_0 a2_1 a1_0 a1_1 a1_2 a1_3 bt233.1 bt233.2.1 bt233.2.2.1 bt233.2.2.2.1)) else (barbicanlaw24_GuardBlind.j0 k false a0_0 a0_1 a0_2 a1_0 a1_1 a1_2 a1_3 a2_0 a2_1 a1_0 a1_1 a1_2 a1_3 bt233.1 bt233.2.1 bt233.2.2.1 bt233.2.2.2.1)) else (if (bt233.1 == 0 && (bt233.2.1 == 0 && (bt233.2.2.1.toList == ([] : List UInt8) && (!bt233.2.2.2.1)))) = true then ((barbicanlaw24_sure.f k).bind fun t286 => (some t286)) else (some false)))
theorem barbicanlaw24_GuardBlind.mono_l : ∀ k, (∀ y0 y1 y2 y3 y4 y5 y6 y7 y8 y9 y10 y11 y12 y13 y14 y15 y16 y17, LeO (barbicanlaw24_GuardBlind.j0 k y0 y1 y2 y3 y4 y5 y6 y7 y8 y9 y10 y11 y12 y13 y14 y15 y16 y17) (barbicanlaw24_GuardBlind.j0 (k + 1) y0 y1 y2 y3 y4 y5 y6 y7 y8 y9 y10 y11 y12 y13 y14 y15 y16 y17)) ∧ (∀ y0 y1 y2 y3 y4 y5 y6 y7 y8 y9 y10 y11 y12 y13 y14 y15 y16 y17, LeO (barbicanlaw24_GuardBlind.j1 k y0 y1 y2 y3 y4 y5 y6 y7 y8 y9 y10 y11 y12 y13 y14 y15 y16 y17) (barbicanlaw24_GuardBlind.j1 (k + 1) y0 y1 y2 y3 y4 y5 y6 y7 y8 y9 y10 y11 y12 y13 y14 y15 y16 y17)) ∧ (∀ y0 y1 y2 y3 y4 y5 y6 y7 y8 y9 y10 y11 y12 y13 y14 y15, LeO (barbicanlaw24_GuardBlind.j2 k y0 y1 y2 y3 y4 y5 y6 y7 y8 y9 y10 y11 y12 y13 y14 y15) (barbicanlaw24_GuardBlind.j2 (k + 1) y0 y1 y2 y3 y4 y5 y6 y7 y8 y9 y10 y11 y12 y13 y14 y15)) ∧ (∀ y0 y1 y2 y3 y4 y5 y6 y7 y8 y9 y10 y11 y12 y13 y14 y15, LeO (barbicanlaw24_GuardBlind.j3 k y0 y1 y2 y3 y4 y5 y6 y7 y8 y9 y10 y11 y12 y13 y14 y15) (barbicanlaw24_GuardBlind.j3 (k + 1) y0 y1 y2 y3 y4 y5 y6 y7 y8 y9 y10 y11 y12 y13 y14 y15))
  | 0 => ⟨fun _ _ _ _ _ _ _ _ _ _ _ _ _ _ _ _ _ _ r h => by simp [barbicanlaw24_GuardBlind.j0] at h, fun _ _ _ _ _ _ _ _ _ _ _ _ _ _ _ _ _ _ r h => by simp [barbicanlaw24_GuardBlind.j1] at h, fun _ _ _ _ _ _ _ _ _ _ _ _ _ _ _ _ r h => by simp [barbicanlaw24_GuardBlind.j2] at h, fun _ _ _ _ _ _ _ _ _ _ _ _ _ _ _ _ r h => by simp [barbicanlaw24_GuardBlind.j3] at h⟩
  | k + 1 => by
    obtain ⟨ih0, ih1, ih2, ih3⟩ := barbicanlaw24_GuardBlind.mono_l k
    refine ⟨?_, ?_, ?_, ?_⟩
    · intro y0 y1 y2 y3 y4 y5 y6 y7 y8 y9 y10 y11 y12 y13 y14 y15 y16 y17
      unfold barbicanlaw24_GuardBlind.j0
      repeat' first
      | (with_reducible exact ih0 _ _ _ _ _ _ _ _ _ _ _ _ _ _ _ _ _ _)
      | (with_reducible exact ih1 _ _ _ _ _ _ _ _ _ _ _ _ _ _ _ _ _ _)
      | (with_reducible exact ih2 _ _ _ _ _ _ _ _ _ _ _ _ _ _ _ _)
      | (with_reducible exact ih3 _ _ _ _ _ _ _ _ _ _ _ _ _ _ _ _)
      | (with_reducible exact barbicanlaw24_sure.mono _)
      | (with_reducible exact barbicanref05_Valid.mono _ _ _ _ _)
      | (with_reducible exact guard_Apply.mono _ _ _ _ _ _ _ _)
      | (with_reducible exact LeO.refl _)
      | (with_reducible exact LeO.none _)
      | (with_reducible refine LeO.ite ?_ ?_)
      | (with_reducible refine LeO.bind ?_ (fun _ => ?_))
      | exact ih0 _ _ _ _ _ _ _ _ _ _ _ _ _ _ _ _ _ _
      | exact ih1 _ _ _ _ _ _ _ _ _ _ _ _ _ _ _ _ _ _
      | exact ih2 _ _ _ _ _ _ _ _ _ _ _ _ _ _ _ _
      | exact ih3 _ _ _ _ _ _ _ _ _ _ _ _ _ _ _ _
      | exact barbicanlaw24_sure.mono _
      | exact barbicanref05_Valid.mono _ _ _ _ _
      | exact guard_Apply.mono _ _ _ _ _ _ _ _
      | exact LeO.none _
      | refine LeO.ite ?_ ?_
      | refine LeO.bind ?_ (fun _ => ?_)
    · intro y0 y1 y2 y3 y4 y5 y6 y7 y8 y9 y10 y11 y12 y13 y14 y15 y16 y17
      unfold barbicanlaw24_GuardBlind.j1
      repeat' first
      | (with_reducible exact ih0 _ _ _ _ _ _ _ _ _ _ _ _ _ _ _ _ _ _)
      | (with_reducible exact ih1 _ _ _ _ _ _ _ _ _ _ _ _ _ _ _ _ _ _)
      | (with_reducible exact ih2 _ _ _ _ _ _ _ _ _ _ _ _ _ _ _ _)
      | (with_reducible exact ih3 _ _ _ _ _ _ _ _ _ _ _ _ _ _ _ _)
      | (with_reducible exact barbicanlaw24_sure.mono _)
      | (with_reducible exact barbicanref05_Valid.mono _ _ _ _ _)
      | (with_reducible exact guard_Apply.mono _ _ _ _ _ _ _ _)
      | (with_reducible exact LeO.refl _)
      | (with_reducible exact LeO.none _)
      | (with_reducible refine LeO.ite ?_ ?_)
      | (with_reducible refine LeO.bind ?_ (fun _ => ?_))
      | exact ih0 _ _ _ _ _ _ _ _ _ _ _ _ _ _ _ _ _ _
      | exact ih1 _ _ _ _ _ _ _ _ _ _ _ _ _ _ _ _ _ _
      | exact ih2 _ _ _ _ _ _ _ _ _ _ _ _ _ _ _ _
      | exact ih3 _ _ _ _ _ _ _ _ _ _ _ _ _ _ _ _
      | exact barbicanlaw24_sure.mono _
      | exact barbicanref05_Valid.mono _ _ _ _ _
      | exact guard_Apply.mono _ _ _ _ _ _ _ _
      | exact LeO.none _
      | refine LeO.ite ?_ ?_
      | refine LeO.bind ?_ (fun _ => ?_)
    · intro y0 y1 y2 y3 y4 y5 y6 y7 y8 y9 y10 y11 y12 y13 y14 y15
      unfold barbicanlaw24_GuardBlind.j2
      repeat' first
      | (with_reducible exact ih0 _ _ _ _ _ _ _ _ _ _ _ _ _ _ _ _ _ _)
      | (with_reducible exact ih1 _ _ _ _ _ _ _ _ _ _ _ _ _ _ _ _ _ _)
      | (with_reducible exact ih2 _ _ _ _ _ _ _ _ _ _ _ _ _ _ _ _)
      | (with_reducible exact ih3 _ _ _ _ _ _ _ _ _ _ _ _ _ _ _ _)
      | (with_reducible exact barbicanlaw24_sure.mono _)
      | (with_reducible exact barbicanref05_Valid.mono _ _ _ _ _)
      | (with_reducible exact guard_Apply.mono _ _ _ _ _ _ _ _)
      | (with_reducible exact LeO.refl _)
      | (with_reducible exact LeO.none _)
      | (with_reducible refine LeO.ite ?_ ?_)
      | (with_reducible refine LeO.bind ?_ (fun _ => ?_))
      | exact ih0 _ _ _ _ _ _ _ _ _ _ _ _ _ _ _ _ _ _
      | exact ih1 _ _ _ _ _ _ _ _ _ _ _ _ _ _ _ _ _ _
      | exact ih2 _ _ _ _ _ _ _ _ _ _ _ _ _ _ _ _
      | exact ih3 _ _ _ _ _ _ _ _ _ _ _ _ _ _ _ _
      | exact barbicanlaw24_sure.mono _
      | exact barbicanref05_Valid.mono _ _ _ _ _
      | exact guard_Apply.mono _ _ _ _ _ _ _ _
      | exact LeO.none _
      | refine LeO.ite ?_ ?_
      | refine LeO.bind ?_ (fun _ => ?_)
    · intro y0 y1 y2 y3 y4 y5 y6 y7 y8 y9 y10 y11 y12 y13 y14 y15
      unfold barbicanlaw24_GuardBlind.j3
      repeat' first
      | (with_reducible exact ih0 _ _ _ _ _ _ _ _ _ _ _ _ _ _ _ _ _ _)
      | (with_reducible exact ih1 _ _ _ _ _ _ _ _ _ _ _ _ _ _ _ _ _ _)
      | (with_reducible exact ih2 _ _ _ _ _ _ _ _ _ _ _ _ _ _ _ _)
      | (with_reducible exact ih3 _ _ _ _ _ _ _ _ _ _ _ _ _ _ _ _)
      | (with_reducible exact barbicanlaw24_sure.mono _)
      | (with_reducible exact barbicanref05_Valid.mono _ _ _ _ _)
      | (with_reducible exact guard_Apply.mono _ _ _ _ _ _ _ _)
      | (with_reducible exact LeO.refl _)
      | (with_reducible exact LeO.none _)
      | (with_reducible refine LeO.ite ?_ ?_)
      | (with_reducible refine LeO.bind ?_ (fun _ => ?_))
      | exact ih0 _ _ _ _ _ _ _ _ _ _ _ _ _ _ _ _ _ _
      | exact ih1 _ _ _ _ _ _ _ _ _ _ _ _ _ _ _ _ _ _
      | exact ih2 _ _ _ _ _ _ _ _ _ _ _ _ _ _ _ _
      | exact ih3 _ _ _ _ _ _ _ _ _ _ _ _ _ _ _ _
      | exact barbicanlaw24_sure.mono _
      | exact barbicanref05_Valid.mono _ _ _ _ _
      | exact guard_Apply.mono _ _ _ _ _ _ _ _
      | exact LeO.none _
      | refine LeO.ite ?_ ?_
      | refine LeO.bind ?_ (fun _ => ?_)
theorem barbicanlaw24_GuardBlind.mono : ∀ a0 a1 a2 a3 a4 a5 a6 a7 a8 k, LeO (barbicanlaw24_GuardBlind.f k a0 a1 a2 a3 a4 a5 a6 a7 a8) (barbicanlaw24_GuardBlind.f (k + 1) a0 a1 a2 a3 a4 a5 a6 a7 a8) := by
  intro a0 a1 a2 a3 a4 a5 a6 a7 a8 k
  obtain ⟨ih0, ih1, ih2, ih3⟩ := barbicanlaw24_GuardBlind.mono_l k
  unfold barbicanlaw24_GuardBlind.f
  repeat' first
      | (with_reducible exact ih0 _ _ _ _ _ _ _ _ _ _ _ _ _ _ _ _ _ _)
      | (with_reducible exact ih1 _ _ _ _ _ _ _ _ _ _ _ _ _ _ _ _ _ _)
      | (with_reducible exact ih2 _ _ _ _ _ _ _ _ _ _ _ _ _ _ _ _)
      | (with_reducible exact ih3 _ _ _ _ _ _ _ _ _ _ _ _ _ _ _ _)
      | (with_reducible exact barbicanlaw24_sure.mono _)
      | (with_reducible exact barbicanref05_Valid.mono _ _ _ _ _)
      | (with_reducible exact guard_Apply.mono _ _ _ _ _ _ _ _)
      | (with_reducible exact LeO.refl _)
      | (with_reducible exact LeO.none _)
      | (with_reducible refine LeO.ite ?_ ?_)
      | (with_reducible refine LeO.bind ?_ (fun _ => ?_))
      | exact ih0 _ _ _ _ _ _ _ _ _ _ _ _ _ _ _ _ _ _
      | exact ih1 _ _ _ _ _ _ _ _ _ _ _ _ _ _ _ _ _ _
      | exact ih2 _ _ _ _ _ _ _ _ _ _ _ _ _ _ _ _
      | exact ih3 _ _ _ _ _ _ _ _ _ _ _ _ _ _ _ _
      | exact barbicanlaw24_sure.mono _
      | exact barbicanref05_Valid.mono _ _ _ _ _
      | exact guard_Apply.mono _ _ _ _ _ _ _ _
      | exact LeO.none _
      | refine LeO.ite ?_ ?_
      | refine LeO.bind ?_ (fun _ => ?_)
def barbicanlaw24_GuardBlind.T6 : Bool × List (List Nat × List Nat) := (true, [([], []), ([0], [0]), ([], []), ([2], [2]), ([3], [3]), ([], []), ([5], [5]), ([6], [6]), ([], []), ([8], [8]), ([7, 9], [7, 9]), ([10], [10]), ([4, 11], [4, 11]), ([12], [12]), ([1, 13], [1, 13]), ([14, 0, 1, 2, 3, 4, 5, 6, 7, 8, 9, 10, 11, 12, 13, 14], [14])])
def barbicanlaw24_GuardBlind.B6 : List Nat := [0, 1, 0, 4, 12, 0, 32, 96, 0, 256, 992, 2016, 4092, 8188, 16383, 32767]
theorem barbicanlaw24_GuardBlind.tab6 : rtab .any (opsOf Try.f3 6) = barbicanlaw24_GuardBlind.T6 := by kernel_rfl
theorem barbicanlaw24_GuardBlind.bits6 : waitsOk barbicanlaw24_GuardBlind.T6.2 barbicanlaw24_GuardBlind.B6 = true := by kernel_rfl
def barbicanlaw24_GuardBlind.T7 : Bool × List (List Nat × List Nat) := (true, [([], []), ([0], [0]), ([], []), ([1, 2], [1, 2]), ([3], [3]), ([], []), ([5], [5]), ([], []), ([7], [7]), ([6, 8], [6, 8]), ([4, 9], [4, 9]), ([0, 1, 2, 3, 4, 5, 6, 7, 8, 9, 10], []), ([11, 10, 0, 1, 2, 3, 4, 5, 6, 7, 8, 9, 10], [10, 11])])
def barbicanlaw24_GuardBlind.B7 : List Nat := [0, 1, 0, 7, 15, 0, 32, 0, 128, 480, 1023, 2047, 4095]
theorem barbicanlaw24_GuardBlind.tab7 : rtab .any (opsOf Try.f3 7) = barbicanlaw24_GuardBlind.T7 := by kernel_rfl
theorem barbicanlaw24_GuardBlind.bits7 : waitsOk barbicanlaw24_GuardBlind.T7.2 barbicanlaw24_GuardBlind.B7 = true := by kernel_rfl
def barbicanlaw24_GuardBlind.T9 : Bool × List (List Nat × List Nat) := (true, [([], []), ([0], [0]), ([], []), ([2], [2]), ([3], [3]), ([], []), ([5], [5]), ([6], [6]), ([4, 7], [4, 7]), ([8], [8]), ([1, 9], [1, 9]), ([0, 1, 2, 3, 4, 5, 6, 7, 8, 9, 10], []), ([11, 10, 0, 1, 2, 3, 4, 5, 6, 7, 8, 9, 10], [10, 11])])
def barbicanlaw24_GuardBlind.B9 : List Nat := [0, 1, 0, 4, 12, 0, 32, 96, 252, 508, 1023, 2047, 4095]
theorem barbicanlaw24_GuardBlind.tab9 : rtab .any (opsOf Try.f3 9) = barbicanlaw24_GuardBlind.T9 := by kernel_rfl
theorem barbicanlaw24_GuardBlind.bits9 : waitsOk barbicanlaw24_GuardBlind.T9.2 barbicanlaw24_GuardBlind.B9 = true := by kernel_rfl
theorem bk_ {w0 w : World} {g : Nat} {o : Obj} (b : Aside0 (w0.heap[g]? = some o)) (h : w0.heap[g]? = some o → w.heap[g]? = some o := by intro h_; (with_reducible repeat (first | refine blk_drewN ?_ _ | refine blk_drew ?_ | refine blk_alloc ?_ _)); exact h_) : w.heap[g]? = some o := h b.out
theorem bh_ {w0 w1 w2 : World} {n : Nat} (b : Aside0 (Below n w0 w1)) (h : Below n w0 w1 → Below n w0 w2 := by intro h_; repeat (first | (with_reducible first | exact h_ | apply below_alloc | apply pw_below_drewN | apply below_drew1 | refine below_set ?_ (Aside0.out (by assumption))) | exact h_ | exact below_undrew h_)) : Below n w0 w2 := h b.out
set_option maxHeartbeats 40000000 in
set_option maxRecDepth 100000 in
theorem barbicanlaw24_GuardBlind.calls (k : Nat) (a0_0 : ByteArray) (a0_1 : Int) (a0_2 : Int) (a1_0 : Int) (a1_1 : Int) (a1_2 : ByteArray) (a1_3 : Bool) (a2_0 : Int) (a2_1 : Int) (r : Bool) (w : World) (h : barbicanlaw24_GuardBlind.f k a0_0 a0_1 a0_2 a1_0 a1_1 a1_2 a1_3 a2_0 a2_1 = some r) (hT : Aside0 (r = true)) :
    Calls Try.prog 3 #[.agg #[.string a0_0, .int .i64 a0_1, .int .i64 a0_2], .agg #[.int .i64 a1_0, .int .i64 a1_1, .string a1_2, .bool a1_3], .agg #[.int .i64 a2_0, .int .i64 a2_1]] w fun e w' => e = .returned (.bool r) ∧ Below w.heap.size w w' := by
 have hu23 := Try.underlying23
 have hu25 := Try.underlying25
 have hu26 := Try.underlying26
 have hu28 := Try.underlying28
 have hu42 := Try.underlying42
 have HB := Aside0.mk (Below.refl w.heap.size w)
 have H : ((guard_Apply.f k a0_0 a0_1 a0_2 a1_0 a1_1 a1_2 a1_3).bind fun bt233 => (if bt233.2.2.2.2.isNone = true then (if a1_0 = 2 then (if a0_1 = 2 then (barbicanlaw24_GuardBlind.j0 k (decide ((a1_2.size : Int) > a0_2)) a0_0 a0_1 a0_2 a1_0 a1_1 a1_2 a1_3 a2_0 a2_1 a1_0 a1_1 a1_2 a1_3 bt233.1 bt233.2.1 bt233.2.2.1 bt233.2.2.2.1) else (barbicanlaw24_GuardBlind.j0 k false a0_0 a0_1 a0_2 a1_0 a1_1 a1_2 a1_3 a2_0 a2_1 a1_0 a1_1 a1_2 a1_3 bt233.1 bt233.2.1 bt233.2.2.1 bt233.2.2.2.1)) else (barbicanlaw24_GuardBlind.j0 k false a0_0 a0_1 a0_2 a1_0 a1_1 a1_2 a1_3 a2_0 a2_1 a1_0 a1_1 a1_2 a1_3 bt233.1 bt233.2.1 bt233.2.2.1 bt233.2.2.2.1)) else (if (bt233.1 == 0 && (bt233.2.1 == 0 && (bt233.2.2.1.toList == ([] : List UInt8) && (!bt233.2.2.2.1)))) = true then ((barbicanlaw24_sure.f k).bind fun t286 => (some t286)) else (some false)))) = some r := h
 clear h
 replace H := Option.bind_eq_some_iff.mp H
 obtain ⟨⟨t233, t234, t235, t236, t237⟩, A40, H⟩ := H
 replace H : (if t237.isNone = true then (if a1_0 = 2 then (if a0_1 = 2 then (barbicanlaw24_GuardBlind.j0 k (decide ((a1_2.size : Int) > a0_2)) a0_0 a0_1 a0_2 a1_0 a1_1 a1_2 a1_3 a2_0 a2_1 a1_0 a1_1 a1_2 a1_3 t233 t234 t235 t236) else (barbicanlaw24_GuardBlind.j0 k false a0_0 a0_1 a0_2 a1_0 a1_1 a1_2 a1_3 a2_0 a2_1 a1_0 a1_1 a1_2 a1_3 t233 t234 t235 t236)) else (barbicanlaw24_GuardBlind.j0 k false a0_0 a0_1 a0_2 a1_0 a1_1 a1_2 a1_3 a2_0 a2_1 a1_0 a1_1 a1_2 a1_3 t233 t234 t235 t236)) else (if (t233 == 0 && (t234 == 0 && (t235.toList == ([] : List UInt8) && (!t236)))) = true then ((barbicanlaw24_sure.f k).bind fun t286 => (some t286)) else (some false))) = some r := H
 have A4 := Aside0.mk A40
 clear A40
 rcases t237 with _ | q239
 ·have H1 : (if a1_0 = 2 then (if a0_1 = 2 then (barbicanlaw24_GuardBlind.j0 k (decide ((a1_2.size : Int) > a0_2)) a0_0 a0_1 a0_2 a1_0 a1_1 a1_2 a1_3 a2_0 a2_1 a1_0 a1_1 a1_2 a1_3 t233 t234 t235 t236) else (barbicanlaw24_GuardBlind.j0 k false a0_0 a0_1 a0_2 a1_0 a1_1 a1_2 a1_3 a2_0 a2_1 a1_0 a1_1 a1_2 a1_3 t233 t234 t235 t236)) else (barbicanlaw24_GuardBlind.j0 k false a0_0 a0_1 a0_2 a1_0 a1_1 a1_2 a1_3 a2_0 a2_1 a1_0 a1_1 a1_2 a1_3 t233 t234 t235 t236)) = some r := by rw [if_pos (show (none : Option Int).isNone = true by rfl)] at H; exact H
  clear H
  have H := H1
  clear H1
  try simp only [errW_none, errW_some]
  have HC5 := Aside0.mk H
  clear H
  go_enter Try.func3, Try.ntmps3
  go_upto_region 5 with (first | ((with_reducible refine gate_dst (N := 3) rfl ?_); (try (refine gate_guard (by rfl) ?_; dsimp only)); refine box_event ?hg (N := 3) ?hd (cs := #[.string a0_0, .int .i64 a0_1, .int .i64 a0_2]) (t := 23) ?hr ?_; (case hd => rfl); (case hg => rfl); (case hr => first | (go_simp; done) | (go_simp; rfl)); intro gb229 hg w6 hbox hb; have n0_ := Aside0.mk (below_step (bh_ HB) hb); have n1_ := Aside0.mk (hbox); have n2_ := Aside0.mk ((by rw [hg]; exact (below_size (bh_ HB)) : w.heap.size ≤ gb229)); have n3_ := Aside0.mk ((by rw [hg]; exact (below_size (bh_ HB)) : w.heap.size ≤ gb229)); clear HB; have HB := n0_; have BK229 := n1_; have GW229 := n2_; have GE229 := n3_; clear n0_ n1_ n2_ n3_; clear hb hbox hg) | ((with_reducible refine gate_dst (N := 4) rfl ?_); (try (refine gate_guard (by rfl) ?_; dsimp only)); refine box_event ?hg (N := 4) ?hd (cs := #[.int .i64 a1_0, .int .i64 a1_1, .string a1_2, .bool a1_3]) (t := 25) ?hr ?_; (case hd => rfl); (case hg => rfl); (case hr => first | (go_simp; done) | (go_simp; rfl)); intro gb230 hg w7 hbox hb; have n0_ := Aside0.mk (blk_below (g := gb229) (o := .cells #[.string a0_0, .int .i64 a0_1, .int .i64 a0_2] 23 (0, 0)) (bk_ BK229) hb); have n1_ := Aside0.mk (below_step (bh_ HB) hb); have n2_ := Aside0.mk (hbox); have n3_ := Aside0.mk ((by rw [hg]; exact (below_size (bh_ HB)) : w.heap.size ≤ gb230)); have n4_ := Aside0.mk ((by rw [hg]; exact (below_size (bh_ HB)) : w.heap.size ≤ gb230)); have n5_ := Aside0.mk ((by rw [hg]; exact Nat.ne_of_lt (blk_lt (g := gb229) (o := .cells #[.string a0_0, .int .i64 a0_1, .int .i64 a0_2] 23 (0, 0)) (bk_ BK229)) : gb229 ≠ gb230)); have n6_ := Aside0.mk ((by rw [hg]; exact Nat.ne_of_gt (blk_lt (g := gb229) (o := .cells #[.string a0_0, .int .i64 a0_1, .int .i64 a0_2] 23 (0, 0)) (bk_ BK229)) : gb230 ≠ gb229)); clear BK229; clear HB; have BK229 := n0_; have HB := n1_; have BK230 := n2_; have GW230 := n3_; have GE230 := n4_; have NB229_230 := n5_; have NB230_229 := n6_; clear n0_ n1_ n2_ n3_ n4_ n5_ n6_; clear hb hbox hg) | ((with_reducible refine gate_dst (N := 5) rfl ?_); (try (refine gate_guard (by rfl) ?_; dsimp only)); refine box_event ?hg (N := 5) ?hd (cs := #[.int .i64 a2_0, .int .i64 a2_1]) (t := 26) ?hr ?_; (case hd => rfl); (case hg => rfl); (case hr => first | (go_simp; done) | (go_simp; rfl)); intro gb231 hg w8 hbox hb; have n0_ := Aside0.mk (blk_below (g := gb229) (o := .cells #[.string a0_0, .int .i64 a0_1, .int .i64 a0_2] 23 (0, 0)) (bk_ BK229) hb); have n1_ := Aside0.mk (blk_below (g := gb230) (o := .cells #[.int .i64 a1_0, .int .i64 a1_1, .string a1_2, .bool a1_3] 25 (0, 0)) (bk_ BK230) hb); have n2_ := Aside0.mk (below_step (bh_ HB) hb); have n3_ := Aside0.mk (hbox); have n4_ := Aside0.mk ((by rw [hg]; exact (below_size (bh_ HB)) : w.heap.size ≤ gb231)); have n5_ := Aside0.mk ((by rw [hg]; exact (below_size (bh_ HB)) : w.heap.size ≤ gb231)); have n6_ := Aside0.mk ((by rw [hg]; exact Nat.ne_of_lt (blk_lt (g := gb229) (o := .cells #[.string a0_0, .int .i64 a0_1, .int .i64 a0_2] 23 (0, 0)) (bk_ BK229)) : gb229 ≠ gb231)); have n7_ := Aside0.mk ((by rw [hg]; exact Nat.ne_of_gt (blk_lt (g := gb229) (o := .cells #[.string a0_0, .int .i64 a0_1, .int .i64 a0_2] 23 (0, 0)) (bk_ BK229)) : gb231 ≠ gb229)); have n8_ := Aside0.mk ((by rw [hg]; exact Nat.ne_of_lt (blk_lt (g := gb230) (o := .cells #[.int .i64 a1_0, .int .i64 a1_1, .string a1_2, .bool a1_3] 25 (0, 0)) (bk_ BK230)) : gb230 ≠ gb231)); have n9_ := Aside0.mk ((by rw [hg]; exact Nat.ne_of_gt (blk_lt (g := gb230) (o := .cells #[.int .i64 a1_0, .int .i64 a1_1, .string a1_2, .bool a1_3] 25 (0, 0)) (bk_ BK230)) : gb231 ≠ gb230)); clear BK229; clear BK230; clear HB; have BK229 := n0_; have BK230 := n1_; have HB := n2_; have BK231 := n3_; have GW231 := n4_; have GE231 := n5_; have NB229_231 := n6_; have NB231_229 := n7_; have NB230_231 := n8_; have NB231_230 := n9_; clear n0_ n1_ n2_ n3_ n4_ n5_ n6_ n7_ n8_ n9_; clear hb hbox hg; have hnb9 := NB230_229.out; have hnc9 := NB229_230.out; have hnb10 := NB230_231.out; have hnc10 := NB231_230.out; have hcz11_0 : w8.cell? ⟨gb230, 0, none⟩ = some (.int .i64 a1_0) := (blk_cell BK230.out 0).trans rfl; have hcz11_1 : w8.cell? ⟨gb230, 1, none⟩ = some (.int .i64 a1_1) := (blk_cell BK230.out 1).trans rfl; have hcz11_2 : w8.cell? ⟨gb230, 2, none⟩ = some (.string a1_2) := (blk_cell BK230.out 2).trans rfl; have hcz11_3 : w8.cell? ⟨gb230, 3, none⟩ = some (.bool a1_3) := (blk_cell BK230.out 3).trans rfl; have hfz11_0 := blk_frozen BK230.out 0; have hfz11_1 := blk_frozen BK230.out 1; have hfz11_2 := blk_frozen BK230.out 2; have hfz11_3 := blk_frozen BK230.out 3) | ((with_reducible refine gate_dst (N := 7) rfl ?_); (try (refine gate_guard (by rfl) ?_; dsimp only)); refine box_event ?hg (N := 7) ?hd (cs := #[.int .i64 0, .int .i64 0, .string (⟨#[]⟩ : ByteArray), .bool false]) (t := 25) ?hr ?_; (case hd => rfl); (case hg => rfl); (case hr => first | (go_simp; done) | (go_simp; rfl)); intro gb232 hg w12 hbox hb; have n0_ := Aside0.mk (blk_below (g := gb229) (o := .cells #[.string a0_0, .int .i64 a0_1, .int .i64 a0_2] 23 (0, 0)) (bk_ BK229) hb); have n1_ := Aside0.mk (blk_below (g := gb230) (o := .cells #[.int .i64 a1_0, .int .i64 a1_1, .string a1_2, .bool a1_3] 25 (0, 0)) (bk_ BK230) hb); have n2_ := Aside0.mk (blk_below (g := gb231) (o := .cells #[.int .i64 a2_0, .int .i64 a2_1] 26 (0, 0)) (bk_ BK231) hb); have n3_ := Aside0.mk (below_step (bh_ HB) hb); have n4_ := Aside0.mk (hbox); have n5_ := Aside0.mk ((by rw [hg]; exact (below_size (bh_ HB)) : w.heap.size ≤ gb232)); have n6_ := Aside0.mk ((by rw [hg]; exact (below_size (bh_ HB)) : w.heap.size ≤ gb232)); have n7_ := Aside0.mk ((by rw [hg]; exact Nat.ne_of_lt (blk_lt (g := gb229) (o := .cells #[.string a0_0, .int .i64 a0_1, .int .i64 a0_2] 23 (0, 0)) (bk_ BK229)) : gb229 ≠ gb232)); have n8_ := Aside0.mk ((by rw [hg]; exact Nat.ne_of_gt (blk_lt (g := gb229) (o := .cells #[.string a0_0, .int .i64 a0_1, .int .i64 a0_2] 23 (0, 0)) (bk_ BK229)) : gb232 ≠ gb229)); have n9_ := Aside0.mk ((by rw [hg]; exact Nat.ne_of_lt (blk_lt (g := gb230) (o := .cells #[.int .i64 a1_0, .int .i64 a1_1, .string a1_2, .bool a1_3] 25 (0, 0)) (bk_ BK230)) : gb230 ≠ gb232)); have n10_ := Aside0.mk ((by rw [hg]; exact Nat.ne_of_gt (blk_lt (g := gb230) (o := .cells #[.int .i64 a1_0, .int .i64 a1_1, .string a1_2, .bool a1_3] 25 (0, 0)) (bk_ BK230)) : gb232 ≠ gb230)); have n11_ := Aside0.mk ((by rw [hg]; exact Nat.ne_of_lt (blk_lt (g := gb231) (o := .cells #[.int .i64 a2_0, .int .i64 a2_1] 26 (0, 0)) (bk_ BK231)) : gb231 ≠ gb232)); have n12_ := Aside0.mk ((by rw [hg]; exact Nat.ne_of_gt (blk_lt (g := gb231) (o := .cells #[.int .i64 a2_0, .int .i64 a2_1] 26 (0, 0)) (bk_ BK231)) : gb232 ≠ gb231)); clear BK229; clear BK230; clear BK231; clear HB; have BK229 := n0_; have BK230 := n1_; have BK231 := n2_; have HB := n3_; have BK232 := n4_; have GW232 := n5_; have GE232 := n6_; have NB229_232 := n7_; have NB232_229 := n8_; have NB230_232 := n9_; have NB232_230 := n10_; have NB231_232 := n11_; have NB232_231 := n12_; clear n0_ n1_ n2_ n3_ n4_ n5_ n6_ n7_ n8_ n9_ n10_ n11_ n12_; clear hb hbox hg; have hnb13 := NB232_229.out; have hnc13 := NB229_232.out; have hnb14 := NB232_230.out; have hnc14 := NB230_232.out; have hnb15 := NB232_231.out; have hnc15 := NB231_232.out; have hcz16_0 : w12.cell? ⟨gb232, 0, none⟩ = some (.int .i64 0) := (blk_cell BK232.out 0).trans rfl; have hcz16_1 : w12.cell? ⟨gb232, 1, none⟩ = some (.int .i64 0) := (blk_cell BK232.out 1).trans rfl; have hcz16_2 : w12.cell? ⟨gb232, 2, none⟩ = some (.string (⟨#[]⟩ : ByteArray)) := (blk_cell BK232.out 2).trans rfl; have hcz16_3 : w12.cell? ⟨gb232, 3, none⟩ = some (.bool false) := (blk_cell BK232.out 3).trans rfl; have hfz16_0 := blk_frozen BK232.out 0; have hfz16_1 := blk_frozen BK232.out 1; have hfz16_2 := blk_frozen BK232.out 2; have hfz16_3 := blk_frozen BK232.out 3; have hnb17 := NB229_231.out; have hnc17 := NB231_229.out; have hcz18_0 : w12.cell? ⟨gb229, 0, none⟩ = some (.string a0_0) := (blk_cell BK229.out 0).trans rfl; have hcz18_1 : w12.cell? ⟨gb229, 1, none⟩ = some (.int .i64 a0_1) := (blk_cell BK229.out 1).trans rfl; have hcz18_2 : w12.cell? ⟨gb229, 2, none⟩ = some (.int .i64 a0_2) := (blk_cell BK229.out 2).trans rfl; have hfz18_0 := blk_frozen BK229.out 0; have hfz18_1 := blk_frozen BK229.out 1; have hfz18_2 := blk_frozen BK229.out 2; have hcz19_0 : w12.cell? ⟨gb230, 0, none⟩ = some (.int .i64 a1_0) := (blk_cell BK230.out 0).trans rfl; have hcz19_1 : w12.cell? ⟨gb230, 1, none⟩ = some (.int .i64 a1_1) := (blk_cell BK230.out 1).trans rfl; have hcz19_2 : w12.cell? ⟨gb230, 2, none⟩ = some (.string a1_2) := (blk_cell BK230.out 2).trans rfl; have hcz19_3 : w12.cell? ⟨gb230, 3, none⟩ = some (.bool a1_3) := (blk_cell BK230.out 3).trans rfl; have hfz19_0 := blk_frozen BK230.out 0; have hfz19_1 := blk_frozen BK230.out 1; have hfz19_2 := blk_frozen BK230.out 2; have hfz19_3 := blk_frozen BK230.out 3) | ((with_reducible refine gate_callee (f := 4) rfl ?_); refine goesL_ (some 17) rfl rfl Try.func4 (by kernel_rfl) rfl #[.agg #[.string a0_0, .int .i64 a0_1, .int .i64 a0_2], .agg #[.int .i64 a1_0, .int .i64 a1_1, .string a1_2, .bool a1_3]] rfl (by (try simp only [List.map_toArray, List.map_cons, List.map_nil]); first | done | rfl | (simp only [List.length_drop, List.length_take]; rfl)) ?_; (with_reducible refine (guard_Apply.calls k a0_0 a0_1 a0_2 a1_0 a1_1 a1_2 a1_3 t233 t234 t235 t236 none _ A4.out).mono ?_); rintro e w20 ⟨rfl, hb⟩; refine ⟨_, rfl, ?_⟩; have n0_ := Aside0.mk (blk_below (g := gb229) (o := .cells #[.string a0_0, .int .i64 a0_1, .int .i64 a0_2] 23 (0, 0)) (by (with_reducible repeat (first | refine blk_drewN ?_ _ | refine blk_drew ?_ | refine blk_alloc ?_ _)); refine blk_far ?_ NB229_232.out _; (with_reducible repeat (first | refine blk_drewN ?_ _ | refine blk_drew ?_ | refine blk_alloc ?_ _)); refine blk_far ?_ NB229_232.out _; (with_reducible repeat (first | refine blk_drewN ?_ _ | refine blk_drew ?_ | refine blk_alloc ?_ _)); refine blk_far ?_ NB229_232.out _; (with_reducible repeat (first | refine blk_drewN ?_ _ | refine blk_drew ?_ | refine blk_alloc ?_ _)); refine blk_far ?_ NB229_232.out _; (with_reducible repeat (first | refine blk_drewN ?_ _ | refine blk_drew ?_ | refine blk_alloc ?_ _)); exact BK229.out) hb); have n1_ := Aside0.mk (blk_below (g := gb230) (o := .cells #[.int .i64 a1_0, .int .i64 a1_1, .string a1_2, .bool a1_3] 25 (0, 0)) (by (with_reducible repeat (first | refine blk_drewN ?_ _ | refine blk_drew ?_ | refine blk_alloc ?_ _)); refine blk_far ?_ NB230_232.out _; (with_reducible repeat (first | refine blk_drewN ?_ _ | refine blk_drew ?_ | refine blk_alloc ?_ _)); refine blk_far ?_ NB230_232.out _; (with_reducible repeat (first | refine blk_drewN ?_ _ | refine blk_drew ?_ | refine blk_alloc ?_ _)); refine blk_far ?_ NB230_232.out _; (with_reducible repeat (first | refine blk_drewN ?_ _ | refine blk_drew ?_ | refine blk_alloc ?_ _)); refine blk_far ?_ NB230_232.out _; (with_reducible repeat (first | refine blk_drewN ?_ _ | refine blk_drew ?_ | refine blk_alloc ?_ _)); exact BK230.out) hb); have n2_ := Aside0.mk (blk_below (g := gb231) (o := .cells #[.int .i64 a2_0, .int .i64 a2_1] 26 (0, 0)) (by (with_reducible repeat (first | refine blk_drewN ?_ _ | refine blk_drew ?_ | refine blk_alloc ?_ _)); refine blk_far ?_ NB231_232.out _; (with_reducible repeat (first | refine blk_drewN ?_ _ | refine blk_drew ?_ | refine blk_alloc ?_ _)); refine blk_far ?_ NB231_232.out _; (with_reducible repeat (first | refine blk_drewN ?_ _ | refine blk_drew ?_ | refine blk_alloc ?_ _)); refine blk_far ?_ NB231_232.out _; (with_reducible repeat (first | refine blk_drewN ?_ _ | refine blk_drew ?_ | refine blk_alloc ?_ _)); refine blk_far ?_ NB231_232.out _; (with_reducible repeat (first | refine blk_drewN ?_ _ | refine blk_drew ?_ | refine blk_alloc ?_ _)); exact BK231.out) hb); have n3_ := Aside0.mk (blk_below (g := gb232) (o := .cells #[.int .i64 a1_0, .int .i64 a1_1, .string a1_2, .bool a1_3] 25 (0, 0)) (by (with_reducible repeat (first | refine blk_drewN ?_ _ | refine blk_drew ?_ | refine blk_alloc ?_ _)); refine blk_put (cs := #[.int .i64 a1_0, .int .i64 a1_1, .string a1_2, .bool false]) ?_ 3 _ (by first | rfl | (simp only [w64_256, wu64_256]; rfl) | (subst_vars; simp only [w64_256, wu64_256, shl, wu32_mod, Int.one_mul]; rfl)); (with_reducible repeat (first | refine blk_drewN ?_ _ | refine blk_drew ?_ | refine blk_alloc ?_ _)); refine blk_put (cs := #[.int .i64 a1_0, .int .i64 a1_1, .string (⟨#[]⟩ : ByteArray), .bool false]) ?_ 2 _ (by first | rfl | (simp only [w64_256, wu64_256]; rfl) | (subst_vars; simp only [w64_256, wu64_256, shl, wu32_mod, Int.one_mul]; rfl)); (with_reducible repeat (first | refine blk_drewN ?_ _ | refine blk_drew ?_ | refine blk_alloc ?_ _)); refine blk_put (cs := #[.int .i64 a1_0, .int .i64 0, .string (⟨#[]⟩ : ByteArray), .bool false]) ?_ 1 _ (by first | rfl | (simp only [w64_256, wu64_256]; rfl) | (subst_vars; simp only [w64_256, wu64_256, shl, wu32_mod, Int.one_mul]; rfl)); (with_reducible repeat (first | refine blk_drewN ?_ _ | refine blk_drew ?_ | refine blk_alloc ?_ _)); refine blk_put (cs := #[.int .i64 0, .int .i64 0, .string (⟨#[]⟩ : ByteArray), .bool false]) ?_ 0 _ (by first | rfl | (simp only [w64_256, wu64_256]; rfl) | (subst_vars; simp only [w64_256, wu64_256, shl, wu32_mod, Int.one_mul]; rfl)); (with_reducible repeat (first | refine blk_drewN ?_ _ | refine blk_drew ?_ | refine blk_alloc ?_ _)); exact BK232.out) hb); have n4_ := Aside0.mk (below_step (bh_ HB) hb); clear BK229; clear BK230; clear BK231; clear BK232; clear HB; have BK229 := n0_; have BK230 := n1_; have BK231 := n2_; have BK232 := n3_; have HB := n4_; clear n0_ n1_ n2_ n3_ n4_; (try clear hb); (try clear hb2); (try clear hk); (try clear hi); (try simp only [errW_none, errW_some])) | ((with_reducible refine gate_dst (N := 8) rfl ?_); (try (refine gate_guard (by rfl) ?_; dsimp only)); refine box_event ?hg (N := 8) ?hd (cs := #[.int .i64 0, .int .i64 0, .string (⟨#[]⟩ : ByteArray), .bool false]) (t := 25) ?hr ?_; (case hd => rfl); (case hg => rfl); (case hr => first | (go_simp; done) | (go_simp; rfl)); intro gb238 hg w21 hbox hb; have n0_ := Aside0.mk (blk_below (g := gb229) (o := .cells #[.string a0_0, .int .i64 a0_1, .int .i64 a0_2] 23 (0, 0)) (bk_ BK229) hb); have n1_ := Aside0.mk (blk_below (g := gb230) (o := .cells #[.int .i64 a1_0, .int .i64 a1_1, .string a1_2, .bool a1_3] 25 (0, 0)) (bk_ BK230) hb); have n2_ := Aside0.mk (blk_below (g := gb231) (o := .cells #[.int .i64 a2_0, .int .i64 a2_1] 26 (0, 0)) (bk_ BK231) hb); have n3_ := Aside0.mk (blk_below (g := gb232) (o := .cells #[.int .i64 a1_0, .int .i64 a1_1, .string a1_2, .bool a1_3] 25 (0, 0)) (bk_ BK232) hb); have n4_ := Aside0.mk (below_step (bh_ HB) hb); have n5_ := Aside0.mk (hbox); have n6_ := Aside0.mk ((by rw [hg]; exact (below_size (bh_ HB)) : w.heap.size ≤ gb238)); have n7_ := Aside0.mk ((by rw [hg]; exact (below_size (bh_ HB)) : w.heap.size ≤ gb238)); have n8_ := Aside0.mk ((by rw [hg]; exact Nat.ne_of_lt (blk_lt (g := gb229) (o := .cells #[.string a0_0, .int .i64 a0_1, .int .i64 a0_2] 23 (0, 0)) (bk_ BK229)) : gb229 ≠ gb238)); have n9_ := Aside0.mk ((by rw [hg]; exact Nat.ne_of_gt (blk_lt (g := gb229) (o := .cells #[.string a0_0, .int .i64 a0_1, .int .i64 a0_2] 23 (0, 0)) (bk_ BK229)) : gb238 ≠ gb229)); have n10_ := Aside0.mk ((by rw [hg]; exact Nat.ne_of_lt (blk_lt (g := gb230) (o := .cells #[.int .i64 a1_0, .int .i64 a1_1, .string a1_2, .bool a1_3] 25 (0, 0)) (bk_ BK230)) : gb230 ≠ gb238)); have n11_ := Aside0.mk ((by rw [hg]; exact Nat.ne_of_gt (blk_lt (g := gb230) (o := .cells #[.int .i64 a1_0, .int .i64 a1_1, .string a1_2, .bool a1_3] 25 (0, 0)) (bk_ BK230)) : gb238 ≠ gb230)); have n12_ := Aside0.mk ((by rw [hg]; exact Nat.ne_of_lt (blk_lt (g := gb231) (o := .cells #[.int .i64 a2_0, .int .i64 a2_1] 26 (0, 0)) (bk_ BK231)) : gb231 ≠ gb238)); have n13_ := Aside0.mk ((by rw [hg]; exact Nat.ne_of_gt (blk_lt (g := gb231) (o := .cells #[.int .i64 a2_0, .int .i64 a2_1] 26 (0, 0)) (bk_ BK231)) : gb238 ≠ gb231)); have n14_ := Aside0.mk ((by rw [hg]; exact Nat.ne_of_lt (blk_lt (g := gb232) (o := .cells #[.int .i64 a1_0, .int .i64 a1_1, .string a1_2, .bool a1_3] 25 (0, 0)) (bk_ BK232)) : gb232 ≠ gb238)); have n15_ := Aside0.mk ((by rw [hg]; exact Nat.ne_of_gt (blk_lt (g := gb232) (o := .cells #[.int .i64 a1_0, .int .i64 a1_1, .string a1_2, .bool a1_3] 25 (0, 0)) (bk_ BK232)) : gb238 ≠ gb232)); clear BK229; clear BK230; clear BK231; clear BK232; clear HB; have BK229 := n0_; have BK230 := n1_; have BK231 := n2_; have BK232 := n3_; have HB := n4_; have BK238 := n5_; have GW238 := n6_; have GE238 := n7_; have NB229_238 := n8_; have NB238_229 := n9_; have NB230_238 := n10_; have NB238_230 := n11_; have NB231_238 := n12_; have NB238_231 := n13_; have NB232_238 := n14_; have NB238_232 := n15_; clear n0_ n1_ n2_ n3_ n4_ n5_ n6_ n7_ n8_ n9_ n10_ n11_ n12_ n13_ n14_ n15_; clear hb hbox hg; have hnb22 := NB238_229.out; have hnc22 := NB229_238.out; have hnb23 := NB238_230.out; have hnc23 := NB230_238.out; have hnb24 := NB238_231.out; have hnc24 := NB231_238.out; have hnb25 := NB238_232.out; have hnc25 := NB232_238.out; have hcz26_0 : w21.cell? ⟨gb238, 0, none⟩ = some (.int .i64 0) := (blk_cell BK238.out 0).trans rfl; have hcz26_1 : w21.cell? ⟨gb238, 1, none⟩ = some (.int .i64 0) := (blk_cell BK238.out 1).trans rfl; have hcz26_2 : w21.cell? ⟨gb238, 2, none⟩ = some (.string (⟨#[]⟩ : ByteArray)) := (blk_cell BK238.out 2).trans rfl; have hcz26_3 : w21.cell? ⟨gb238, 3, none⟩ = some (.bool false) := (blk_cell BK238.out 3).trans rfl; have hfz26_0 := blk_frozen BK238.out 0; have hfz26_1 := blk_frozen BK238.out 1; have hfz26_2 := blk_frozen BK238.out 2; have hfz26_3 := blk_frozen BK238.out 3))
  (try simp only [Act.put, List.setIfInBounds_toArray, List.set_cons_zero, List.set_cons_succ])
  go_cut [28] (fun v28 wc => ∃ (kq : Nat) (x28_4 : Bool), v28 = .bool x28_4 ∧ Aside0 (barbicanlaw24_GuardBlind.j0 kq x28_4 a0_0 a0_1 a0_2 a1_0 a1_1 a1_2 a1_3 a2_0 a2_1 a1_0 a1_1 a1_2 a1_3 t233 t234 t235 t236 = some r) ∧ Aside0 (kq ≤ k) ∧ Aside0 (wc.heap[gb229]? = some (.cells #[.string a0_0, .int .i64 a0_1, .int .i64 a0_2] 23 (0, 0))) ∧ Aside0 (wc.heap[gb230]? = some (.cells #[.int .i64 a1_0, .int .i64 a1_1, .string a1_2, .bool a1_3] 25 (0, 0))) ∧ Aside0 (wc.heap[gb231]? = some (.cells #[.int .i64 a2_0, .int .i64 a2_1] 26 (0, 0))) ∧ Aside0 (wc.heap[gb232]? = some (.cells #[.int .i64 a1_0, .int .i64 a1_1, .string a1_2, .bool a1_3] 25 (0, 0))) ∧ Aside0 (wc.heap[gb238]? = some (.cells #[.int .i64 t233, .int .i64 t234, .string t235, .bool t236] 25 (0, 0))) ∧ Aside0 (Below w.heap.size w wc))
  case first =>
   have H := HC5.out
   clear HC5
   by_cases c27 : a1_0 = 2
   ·rw [if_pos c27] at H
    have c27b0 : (a1_0 == 2) = true := beq_iff_eq.mpr c27
    have c27b1 : (a1_0 != 2) = false := bne_eq_false_iff_eq.mpr c27
    clear c27
    (first | rw [c27b0] | (simp only [i64_w, i32_w]; rw [c27b0]) | skip)
    by_cases c28 : a0_1 = 2
    ·rw [if_pos c28] at H
     have c28b0 : (a0_1 == 2) = true := beq_iff_eq.mpr c28
     have c28b1 : (a0_1 != 2) = false := bne_eq_false_iff_eq.mpr c28
     clear c28
     have H' := Aside0.mk H
     clear H
     have hnb29 := NB230_229.out
     have hnc29 := NB229_230.out
     have hnb30 := NB230_231.out
     have hnc30 := NB231_230.out
     have hnb31 := NB230_232.out
     have hnc31 := NB232_230.out
     have hnb32 := NB230_238.out
     have hnc32 := NB238_230.out
     have hcz33_0 : w21.cell? ⟨gb230, 0, none⟩ = some (.int .i64 a1_0) := (blk_cell BK230.out 0).trans rfl
     have hcz33_1 : w21.cell? ⟨gb230, 1, none⟩ = some (.int .i64 a1_1) := (blk_cell BK230.out 1).trans rfl
     have hcz33_2 : w21.cell? ⟨gb230, 2, none⟩ = some (.string a1_2) := (blk_cell BK230.out 2).trans rfl
     have hcz33_3 : w21.cell? ⟨gb230, 3, none⟩ = some (.bool a1_3) := (blk_cell BK230.out 3).trans rfl
     have hfz33_0 := blk_frozen BK230.out 0
     have hfz33_1 := blk_frozen BK230.out 1
     have hfz33_2 := blk_frozen BK230.out 2
     have hfz33_3 := blk_frozen BK230.out 3
     have hnb34 := NB229_231.out
     have hnc34 := NB231_229.out
     have hnb35 := NB229_232.out
     have hnc35 := NB232_229.out
     have hnb36 := NB229_238.out
     have hnc36 := NB238_229.out
     have hcz37_0 : w21.cell? ⟨gb229, 0, none⟩ = some (.string a0_0) := (blk_cell BK229.out 0).trans rfl
     have hcz37_1 : w21.cell? ⟨gb229, 1, none⟩ = some (.int .i64 a0_1) := (blk_cell BK229.out 1).trans rfl
     have hcz37_2 : w21.cell? ⟨gb229, 2, none⟩ = some (.int .i64 a0_2) := (blk_cell BK229.out 2).trans rfl
     have hfz37_0 := blk_frozen BK229.out 0
     have hfz37_1 := blk_frozen BK229.out 1
     have hfz37_2 := blk_frozen BK229.out 2
     go_wp2
     go_meet
     case rel => exact ⟨_, (decide ((a1_2.size : Int) > a0_2)), (by first | rfl | (simp; done) | (simp [*]; done)), H', ⟨by first | omega | exact Nat.le_refl _⟩, ⟨by (with_reducible repeat (first | refine blk_drewN ?_ _ | refine blk_drew ?_ | refine blk_alloc ?_ _)); refine blk_far ?_ NB229_238.out _; (with_reducible repeat (first | refine blk_drewN ?_ _ | refine blk_drew ?_ | refine blk_alloc ?_ _)); refine blk_far ?_ NB229_238.out _; (with_reducible repeat (first | refine blk_drewN ?_ _ | refine blk_drew ?_ | refine blk_alloc ?_ _)); refine blk_far ?_ NB229_238.out _; (with_reducible repeat (first | refine blk_drewN ?_ _ | refine blk_drew ?_ | refine blk_alloc ?_ _)); refine blk_far ?_ NB229_238.out _; (with_reducible repeat (first | refine blk_drewN ?_ _ | refine blk_drew ?_ | refine blk_alloc ?_ _)); exact BK229.out⟩, ⟨by (with_reducible repeat (first | refine blk_drewN ?_ _ | refine blk_drew ?_ | refine blk_alloc ?_ _)); refine blk_far ?_ NB230_238.out _; (with_reducible repeat (first | refine blk_drewN ?_ _ | refine blk_drew ?_ | refine blk_alloc ?_ _)); refine blk_far ?_ NB230_238.out _; (with_reducible repeat (first | refine blk_drewN ?_ _ | refine blk_drew ?_ | refine blk_alloc ?_ _)); refine blk_far ?_ NB230_238.out _; (with_reducible repeat (first | refine blk_drewN ?_ _ | refine blk_drew ?_ | refine blk_alloc ?_ _)); refine blk_far ?_ NB230_238.out _; (with_reducible repeat (first | refine blk_drewN ?_ _ | refine blk_drew ?_ | refine blk_alloc ?_ _)); exact BK230.out⟩, ⟨by (with_reducible repeat (first | refine blk_drewN ?_ _ | refine blk_drew ?_ | refine blk_alloc ?_ _)); refine blk_far ?_ NB231_238.out _; (with_reducible repeat (first | refine blk_drewN ?_ _ | refine blk_drew ?_ | refine blk_alloc ?_ _)); refine blk_far ?_ NB231_238.out _; (with_reducible repeat (first | refine blk_drewN ?_ _ | refine blk_drew ?_ | refine blk_alloc ?_ _)); refine blk_far ?_ NB231_238.out _; (with_reducible repeat (first | refine blk_drewN ?_ _ | refine blk_drew ?_ | refine blk_alloc ?_ _)); refine blk_far ?_ NB231_238.out _; (with_reducible repeat (first | refine blk_drewN ?_ _ | refine blk_drew ?_ | refine blk_alloc ?_ _)); exact BK231.out⟩, ⟨by (with_reducible repeat (first | refine blk_drewN ?_ _ | refine blk_drew ?_ | refine blk_alloc ?_ _)); refine blk_far ?_ NB232_238.out _; (with_reducible repeat (first | refine blk_drewN ?_ _ | refine blk_drew ?_ | refine blk_alloc ?_ _)); refine blk_far ?_ NB232_238.out _; (with_reducible repeat (first | refine blk_drewN ?_ _ | refine blk_drew ?_ | refine blk_alloc ?_ _)); refine blk_far ?_ NB232_238.out _; (with_reducible repeat (first | refine blk_drewN ?_ _ | refine blk_drew ?_ | refine blk_alloc ?_ _)); refine blk_far ?_ NB232_238.out _; (with_reducible repeat (first | refine blk_drewN ?_ _ | refine blk_drew ?_ | refine blk_alloc ?_ _)); exact BK232.out⟩, ⟨by (with_reducible repeat (first | refine blk_drewN ?_ _ | refine blk_drew ?_ | refine blk_alloc ?_ _)); refine blk_put (cs := #[.int .i64 t233, .int .i64 t234, .string t235, .bool false]) ?_ 3 _ (by first | rfl | (simp only [w64_256, wu64_256]; rfl) | (subst_vars; simp only [w64_256, wu64_256, shl, wu32_mod, Int.one_mul]; rfl)); (with_reducible repeat (first | refine blk_drewN ?_ _ | refine blk_drew ?_ | refine blk_alloc ?_ _)); refine blk_put (cs := #[.int .i64 t233, .int .i64 t234, .string (⟨#[]⟩ : ByteArray), .bool false]) ?_ 2 _ (by first | rfl | (simp only [w64_256, wu64_256]; rfl) | (subst_vars; simp only [w64_256, wu64_256, shl, wu32_mod, Int.one_mul]; rfl)); (with_reducible repeat (first | refine blk_drewN ?_ _ | refine blk_drew ?_ | refine blk_alloc ?_ _)); refine blk_put (cs := #[.int .i64 t233, .int .i64 0, .string (⟨#[]⟩ : ByteArray), .bool false]) ?_ 1 _ (by first | rfl | (simp only [w64_256, wu64_256]; rfl) | (subst_vars; simp only [w64_256, wu64_256, shl, wu32_mod, Int.one_mul]; rfl)); (with_reducible repeat (first | refine blk_drewN ?_ _ | refine blk_drew ?_ | refine blk_alloc ?_ _)); refine blk_put (cs := #[.int .i64 0, .int .i64 0, .string (⟨#[]⟩ : ByteArray), .bool false]) ?_ 0 _ (by first | rfl | (simp only [w64_256, wu64_256]; rfl) | (subst_vars; simp only [w64_256, wu64_256, shl, wu32_mod, Int.one_mul]; rfl)); (with_reducible repeat (first | refine blk_drewN ?_ _ | refine blk_drew ?_ | refine blk_alloc ?_ _)); exact BK238.out⟩, ⟨by repeat (first | (with_reducible first | exact HB.out | apply below_alloc | apply pw_below_drewN | apply below_drew1 | refine below_set ?_ GE229.out | refine below_set ?_ GE230.out | refine below_set ?_ GE231.out | refine below_set ?_ GE232.out | refine below_set ?_ GE238.out) | exact HB.out | exact below_undrew HB.out)⟩⟩
    ·rw [if_neg c28] at H
     have c28b0 : (a0_1 == 2) = false := beq_eq_false_iff_ne.mpr c28
     have c28b1 : (a0_1 != 2) = true := bne_iff_ne.mpr c28
     have H' := Aside0.mk H
     clear H
     have hnb38 := NB230_229.out
     have hnc38 := NB229_230.out
     have hnb39 := NB230_231.out
     have hnc39 := NB231_230.out
     have hnb40 := NB230_232.out
     have hnc40 := NB232_230.out
     have hnb41 := NB230_238.out
     have hnc41 := NB238_230.out
     have hcz42_0 : w21.cell? ⟨gb230, 0, none⟩ = some (.int .i64 a1_0) := (blk_cell BK230.out 0).trans rfl
     have hcz42_1 : w21.cell? ⟨gb230, 1, none⟩ = some (.int .i64 a1_1) := (blk_cell BK230.out 1).trans rfl
     have hcz42_2 : w21.cell? ⟨gb230, 2, none⟩ = some (.string a1_2) := (blk_cell BK230.out 2).trans rfl
     have hcz42_3 : w21.cell? ⟨gb230, 3, none⟩ = some (.bool a1_3) := (blk_cell BK230.out 3).trans rfl
     have hfz42_0 := blk_frozen BK230.out 0
     have hfz42_1 := blk_frozen BK230.out 1
     have hfz42_2 := blk_frozen BK230.out 2
     have hfz42_3 := blk_frozen BK230.out 3
     have hnb43 := NB229_231.out
     have hnc43 := NB231_229.out
     have hnb44 := NB229_232.out
     have hnc44 := NB232_229.out
     have hnb45 := NB229_238.out
     have hnc45 := NB238_229.out
     have hcz46_0 : w21.cell? ⟨gb229, 0, none⟩ = some (.string a0_0) := (blk_cell BK229.out 0).trans rfl
     have hcz46_1 : w21.cell? ⟨gb229, 1, none⟩ = some (.int .i64 a0_1) := (blk_cell BK229.out 1).trans rfl
     have hcz46_2 : w21.cell? ⟨gb229, 2, none⟩ = some (.int .i64 a0_2) := (blk_cell BK229.out 2).trans rfl
     have hfz46_0 := blk_frozen BK229.out 0
     have hfz46_1 := blk_frozen BK229.out 1
     have hfz46_2 := blk_frozen BK229.out 2
     go_wp2
     go_meet
     case rel => exact ⟨_, (false), (by first | rfl | (simp; done) | (simp [*]; done)), H', ⟨by first | omega | exact Nat.le_refl _⟩, ⟨by (with_reducible repeat (first | refine blk_drewN ?_ _ | refine blk_drew ?_ | refine blk_alloc ?_ _)); refine blk_far ?_ NB229_238.out _; (with_reducible repeat (first | refine blk_drewN ?_ _ | refine blk_drew ?_ | refine blk_alloc ?_ _)); refine blk_far ?_ NB229_238.out _; (with_reducible repeat (first | refine blk_drewN ?_ _ | refine blk_drew ?_ | refine blk_alloc ?_ _)); refine blk_far ?_ NB229_238.out _; (with_reducible repeat (first | refine blk_drewN ?_ _ | refine blk_drew ?_ | refine blk_alloc ?_ _)); refine blk_far ?_ NB229_238.out _; (with_reducible repeat (first | refine blk_drewN ?_ _ | refine blk_drew ?_ | refine blk_alloc ?_ _)); exact BK229.out⟩, ⟨by (with_reducible repeat (first | refine blk_drewN ?_ _ | refine blk_drew ?_ | refine blk_alloc ?_ _)); refine blk_far ?_ NB230_238.out _; (with_reducible repeat (first | refine blk_drewN ?_ _ | refine blk_drew ?_ | refine blk_alloc ?_ _)); refine blk_far ?_ NB230_238.out _; (with_reducible repeat (first | refine blk_drewN ?_ _ | refine blk_drew ?_ | refine blk_alloc ?_ _)); refine blk_far ?_ NB230_238.out _; (with_reducible repeat (first | refine blk_drewN ?_ _ | refine blk_drew ?_ | refine blk_alloc ?_ _)); refine blk_far ?_ NB230_238.out _; (with_reducible repeat (first | refine blk_drewN ?_ _ | refine blk_drew ?_ | refine blk_alloc ?_ _)); exact BK230.out⟩, ⟨by (with_reducible repeat (first | refine blk_drewN ?_ _ | refine blk_drew ?_ | refine blk_alloc ?_ _)); refine blk_far ?_ NB231_238.out _; (with_reducible repeat (first | refine blk_drewN ?_ _ | refine blk_drew ?_ | refine blk_alloc ?_ _)); refine blk_far ?_ NB231_238.out _; (with_reducible repeat (first | refine blk_drewN ?_ _ | refine blk_drew ?_ | refine blk_alloc ?_ _)); refine blk_far ?_ NB231_238.out _; (with_reducible repeat (first | refine blk_drewN ?_ _ | refine blk_drew ?_ | refine blk_alloc ?_ _)); refine blk_far ?_ NB231_238.out _; (with_reducible repeat (first | refine blk_drewN ?_ _ | refine blk_drew ?_ | refine blk_alloc ?_ _)); exact BK231.out⟩, ⟨by (with_reducible repeat (first | refine blk_drewN ?_ _ | refine blk_drew ?_ | refine blk_alloc ?_ _)); refine blk_far ?_ NB232_238.out _; (with_reducible repeat (first | refine blk_drewN ?_ _ | refine blk_drew ?_ | refine blk_alloc ?_ _)); refine blk_far ?_ NB232_238.out _; (with_reducible repeat (first | refine blk_drewN ?_ _ | refine blk_drew ?_ | refine blk_alloc ?_ _)); refine blk_far ?_ NB232_238.out _; (with_reducible repeat (first | refine blk_drewN ?_ _ | refine blk_drew ?_ | refine blk_alloc ?_ _)); refine blk_far ?_ NB232_238.out _; (with_reducible repeat (first | refine blk_drewN ?_ _ | refine blk_drew ?_ | refine blk_alloc ?_ _)); exact BK232.out⟩, ⟨by (with_reducible repeat (first | refine blk_drewN ?_ _ | refine blk_drew ?_ | refine blk_alloc ?_ _)); refine blk_put (cs := #[.int .i64 t233, .int .i64 t234, .string t235, .bool false]) ?_ 3 _ (by first | rfl | (simp only [w64_256, wu64_256]; rfl) | (subst_vars; simp only [w64_256, wu64_256, shl, wu32_mod, Int.one_mul]; rfl)); (with_reducible repeat (first | refine blk_drewN ?_ _ | refine blk_drew ?_ | refine blk_alloc ?_ _)); refine blk_put (cs := #[.int .i64 t233, .int .i64 t234, .string (⟨#[]⟩ : ByteArray), .bool false]) ?_ 2 _ (by first | rfl | (simp only [w64_256, wu64_256]; rfl) | (subst_vars; simp only [w64_256, wu64_256, shl, wu32_mod, Int.one_mul]; rfl)); (with_reducible repeat (first | refine blk_drewN ?_ _ | refine blk_drew ?_ | refine blk_alloc ?_ _)); refine blk_put (cs := #[.int .i64 t233, .int .i64 0, .string (⟨#[]⟩ : ByteArray), .bool false]) ?_ 1 _ (by first | rfl | (simp only [w64_256, wu64_256]; rfl) | (subst_vars; simp only [w64_256, wu64_256, shl, wu32_mod, Int.one_mul]; rfl)); (with_reducible repeat (first | refine blk_drewN ?_ _ | refine blk_drew ?_ | refine blk_alloc ?_ _)); refine blk_put (cs := #[.int .i64 0, .int .i64 0, .string (⟨#[]⟩ : ByteArray), .bool false]) ?_ 0 _ (by first | rfl | (simp only [w64_256, wu64_256]; rfl) | (subst_vars; simp only [w64_256, wu64_256, shl, wu32_mod, Int.one_mul]; rfl)); (with_reducible repeat (first | refine blk_drewN ?_ _ | refine blk_drew ?_ | refine blk_alloc ?_ _)); exact BK238.out⟩, ⟨by repeat (first | (with_reducible first | exact HB.out | apply below_alloc | apply pw_below_drewN | apply below_drew1 | refine below_set ?_ GE229.out | refine below_set ?_ GE230.out | refine below_set ?_ GE231.out | refine below_set ?_ GE232.out | refine below_set ?_ GE238.out) | exact HB.out | exact below_undrew HB.out)⟩⟩
   ·rw [if_neg c27] at H
    have c27b0 : (a1_0 == 2) = false := beq_eq_false_iff_ne.mpr c27
    have c27b1 : (a1_0 != 2) = true := bne_iff_ne.mpr c27
    (first | rw [c27b0] | (simp only [i64_w, i32_w]; rw [c27b0]) | skip)
    have H' := Aside0.mk H
    clear H
    have hnb47 := NB230_229.out
    have hnc47 := NB229_230.out
    have hnb48 := NB230_231.out
    have hnc48 := NB231_230.out
    have hnb49 := NB230_232.out
    have hnc49 := NB232_230.out
    have hnb50 := NB230_238.out
    have hnc50 := NB238_230.out
    have hcz51_0 : w21.cell? ⟨gb230, 0, none⟩ = some (.int .i64 a1_0) := (blk_cell BK230.out 0).trans rfl
    have hcz51_1 : w21.cell? ⟨gb230, 1, none⟩ = some (.int .i64 a1_1) := (blk_cell BK230.out 1).trans rfl
    have hcz51_2 : w21.cell? ⟨gb230, 2, none⟩ = some (.string a1_2) := (blk_cell BK230.out 2).trans rfl
    have hcz51_3 : w21.cell? ⟨gb230, 3, none⟩ = some (.bool a1_3) := (blk_cell BK230.out 3).trans rfl
    have hfz51_0 := blk_frozen BK230.out 0
    have hfz51_1 := blk_frozen BK230.out 1
    have hfz51_2 := blk_frozen BK230.out 2
    have hfz51_3 := blk_frozen BK230.out 3
    go_wp2
    go_meet
    case rel => exact ⟨_, (false), (by first | rfl | (simp; done) | (simp [*]; done)), H', ⟨by first | omega | exact Nat.le_refl _⟩, ⟨by (with_reducible repeat (first | refine blk_drewN ?_ _ | refine blk_drew ?_ | refine blk_alloc ?_ _)); refine blk_far ?_ NB229_238.out _; (with_reducible repeat (first | refine blk_drewN ?_ _ | refine blk_drew ?_ | refine blk_alloc ?_ _)); refine blk_far ?_ NB229_238.out _; (with_reducible repeat (first | refine blk_drewN ?_ _ | refine blk_drew ?_ | refine blk_alloc ?_ _)); refine blk_far ?_ NB229_238.out _; (with_reducible repeat (first | refine blk_drewN ?_ _ | refine blk_drew ?_ | refine blk_alloc ?_ _)); refine blk_far ?_ NB229_238.out _; (with_reducible repeat (first | refine blk_drewN ?_ _ | refine blk_drew ?_ | refine blk_alloc ?_ _)); exact BK229.out⟩, ⟨by (with_reducible repeat (first | refine blk_drewN ?_ _ | refine blk_drew ?_ | refine blk_alloc ?_ _)); refine blk_far ?_ NB230_238.out _; (with_reducible repeat (first | refine blk_drewN ?_ _ | refine blk_drew ?_ | refine blk_alloc ?_ _)); refine blk_far ?_ NB230_238.out _; (with_reducible repeat (first | refine blk_drewN ?_ _ | refine blk_drew ?_ | refine blk_alloc ?_ _)); refine blk_far ?_ NB230_238.out _; (with_reducible repeat (first | refine blk_drewN ?_ _ | refine blk_drew ?_ | refine blk_alloc ?_ _)); refine blk_far ?_ NB230_238.out _; (with_reducible repeat (first | refine blk_drewN ?_ _ | refine blk_drew ?_ | refine blk_alloc ?_ _)); exact BK230.out⟩, ⟨by (with_reducible repeat (first | refine blk_drewN ?_ _ | refine blk_drew ?_ | refine blk_alloc ?_ _)); refine blk_far ?_ NB231_238.out _; (with_reducible repeat (first | refine blk_drewN ?_ _ | refine blk_drew ?_ | refine blk_alloc ?_ _)); refine blk_far ?_ NB231_238.out _; (with_reducible repeat (first | refine blk_drewN ?_ _ | refine blk_drew ?_ | refine blk_alloc ?_ _)); refine blk_far ?_ NB231_238.out _; (with_reducible repeat (first | refine blk_drewN ?_ _ | refine blk_drew ?_ | refine blk_alloc ?_ _)); refine blk_far ?_ NB231_238.out _; (with_reducible repeat (first | refine blk_drewN ?_ _ | refine blk_drew ?_ | refine blk_alloc ?_ _)); exact BK231.out⟩, ⟨by (with_reducible repeat (first | refine blk_drewN ?_ _ | refine blk_drew ?_ | refine blk_alloc ?_ _)); refine blk_far ?_ NB232_238.out _; (with_reducible repeat (first | refine blk_drewN ?_ _ | refine blk_drew ?_ | refine blk_alloc ?_ _)); refine blk_far ?_ NB232_238.out _; (with_reducible repeat (first | refine blk_drewN ?_ _ | refine blk_drew ?_ | refine blk_alloc ?_ _)); refine blk_far ?_ NB232_238.out _; (with_reducible repeat (first | refine blk_drewN ?_ _ | refine blk_drew ?_ | refine blk_alloc ?_ _)); refine blk_far ?_ NB232_238.out _; (with_reducible repeat (first | refine blk_drewN ?_ _ | refine blk_drew ?_ | refine blk_alloc ?_ _)); exact BK232.out⟩, ⟨by (with_reducible repeat (first | refine blk_drewN ?_ _ | refine blk_drew ?_ | refine blk_alloc ?_ _)); refine blk_put (cs := #[.int .i64 t233, .int .i64 t234, .string t235, .bool false]) ?_ 3 _ (by first | rfl | (simp only [w64_256, wu64_256]; rfl) | (subst_vars; simp only [w64_256, wu64_256, shl, wu32_mod, Int.one_mul]; rfl)); (with_reducible repeat (first | refine blk_drewN ?_ _ | refine blk_drew ?_ | refine blk_alloc ?_ _)); refine blk_put (cs := #[.int .i64 t233, .int .i64 t234, .string (⟨#[]⟩ : ByteArray), .bool false]) ?_ 2 _ (by first | rfl | (simp only [w64_256, wu64_256]; rfl) | (subst_vars; simp only [w64_256, wu64_256, shl, wu32_mod, Int.one_mul]; rfl)); (with_reducible repeat (first | refine blk_drewN ?_ _ | refine blk_drew ?_ | refine blk_alloc ?_ _)); refine blk_put (cs := #[.int .i64 t233, .int .i64 0, .string (⟨#[]⟩ : ByteArray), .bool false]) ?_ 1 _ (by first | rfl | (simp only [w64_256, wu64_256]; rfl) | (subst_vars; simp only [w64_256, wu64_256, shl, wu32_mod, Int.one_mul]; rfl)); (with_reducible repeat (first | refine blk_drewN ?_ _ | refine blk_drew ?_ | refine blk_alloc ?_ _)); refine blk_put (cs := #[.int .i64 0, .int .i64 0, .string (⟨#[]⟩ : ByteArray), .bool false]) ?_ 0 _ (by first | rfl | (simp only [w64_256, wu64_256]; rfl) | (subst_vars; simp only [w64_256, wu64_256, shl, wu32_mod, Int.one_mul]; rfl)); (with_reducible repeat (first | refine blk_drewN ?_ _ | refine blk_drew ?_ | refine blk_alloc ?_ _)); exact BK238.out⟩, ⟨by repeat (first | (with_reducible first | exact HB.out | apply below_alloc | apply pw_below_drewN | apply below_drew1 | refine below_set ?_ GE229.out | refine below_set ?_ GE230.out | refine below_set ?_ GE231.out | refine below_set ?_ GE232.out | refine below_set ?_ GE238.out) | exact HB.out | exact below_undrew HB.out)⟩⟩
  case rest =>
   clear HC5
   (try clear c1); (try clear c2); (try clear p2); (try clear q2); (try clear c3); (try clear c4); (try clear c5); (try clear c9); (try clear c10); (try clear c13); (try clear c14); (try clear c15); (try clear c17); (try clear c22); (try clear c23); (try clear q23); (try clear c24); (try clear c25); (try clear c27); (try clear c27b0); (try clear c27b1); (try clear c28); (try clear c28b0); (try clear c28b1); (try clear c29); (try clear c30); (try clear c31); (try clear c32); (try clear c34); (try clear c35); (try clear c36); (try clear c38); (try clear c39); (try clear c40); (try clear c41); (try clear c43); (try clear c44); (try clear c45); (try clear c47); (try clear c48); (try clear c49); (try clear c50); (try clear q239)
   obtain ⟨kq, x28_4, rfl, HA, HJ4, BK229, BK230, BK231, BK232, BK238, HB⟩ := hcut
   cases kq with
   | zero => exact absurd HA.out (by simp [barbicanlaw24_GuardBlind.j0])
   | succ kj4 =>
    have H := HA.out
    clear HA
    simp only [barbicanlaw24_GuardBlind.j0] at H
    by_cases c52 : x28_4 = true
    ·subst c52
     have H1 : (if (IntKind.u64.wrap (wrap64 ((a1_2.size : Int) - a0_2))) = 0 then (none) else (if 0 ≤ (wrap64 (a0_2 + (wrap64 (Int.tmod (IntKind.u64.wrap (a2_0)) (IntKind.u64.wrap (wrap64 ((a1_2.size : Int) - a0_2))))))) then (if (wrap64 (a0_2 + (wrap64 (Int.tmod (IntKind.u64.wrap (a2_0)) (IntKind.u64.wrap (wrap64 ((a1_2.size : Int) - a0_2))))))) ≤ (a1_2.size : Int) then (if (a1_2.extract 0 ((wrap64 (a0_2 + (wrap64 (Int.tmod (IntKind.u64.wrap (a2_0)) (IntKind.u64.wrap (wrap64 ((a1_2.size : Int) - a0_2))))))) : Int).toNat).size + 1 ≤ 9223372036854775807 then (if 0 ≤ (wrap64 ((wrap64 (a0_2 + (wrap64 (Int.tmod (IntKind.u64.wrap (a2_0)) (IntKind.u64.wrap (wrap64 ((a1_2.size : Int) - a0_2))))))) + 1)) then (if (wrap64 ((wrap64 (a0_2 + (wrap64 (Int.tmod (IntKind.u64.wrap (a2_0)) (IntKind.u64.wrap (wrap64 ((a1_2.size : Int) - a0_2))))))) + 1)) ≤ (a1_2.size : Int) then (if ((a1_2.extract 0 ((wrap64 (a0_2 + (wrap64 (Int.tmod (IntKind.u64.wrap (a2_0)) (IntKind.u64.wrap (wrap64 ((a1_2.size : Int) - a0_2))))))) : Int).toNat) ++ (⟨#[126]⟩ : ByteArray)).size + (a1_2.extract ((wrap64 ((wrap64 (a0_2 + (wrap64 (Int.tmod (IntKind.u64.wrap (a2_0)) (IntKind.u64.wrap (wrap64 ((a1_2.size : Int) - a0_2))))))) + 1)) : Int).toNat a1_2.size).size ≤ 9223372036854775807 then ((guard_Apply.f kj4 a0_0 a0_1 a0_2 a1_0 a1_1 (((a1_2.extract 0 ((wrap64 (a0_2 + (wrap64 (Int.tmod (IntKind.u64.wrap (a2_0)) (IntKind.u64.wrap (wrap64 ((a1_2.size : Int) - a0_2))))))) : Int).toNat) ++ (⟨#[126]⟩ : ByteArray)) ++ (a1_2.extract ((wrap64 ((wrap64 (a0_2 + (wrap64 (Int.tmod (IntKind.u64.wrap (a2_0)) (IntKind.u64.wrap (wrap64 ((a1_2.size : Int) - a0_2))))))) + 1)) : Int).toNat a1_2.size)) a1_3).bind fun bt240 => (if bt240.2.2.2.2.isNone = true then (if (t233 == bt240.1 && (t234 == bt240.2.1 && (t235.toList == bt240.2.2.1.toList && (t236 == bt240.2.2.2.1)))) = true then ((barbicanref05_Valid.f kj4 t233 t234 t235 t236).bind fun t247 => (if t247 = 0 then ((barbicanlaw24_sure.f kj4).bind fun t248 => (some t248)) else (some false))) else (some false)) else (some false))) else (none)) else (none)) else (none)) else (none)) else (none)) else (none))) = some r := by rw [if_pos rfl] at H; exact H
     clear H
     have H := H1
     clear H1
     by_cases c53 : (IntKind.u64.wrap (wrap64 ((a1_2.size : Int) - a0_2))) = 0
     ·rw [if_pos c53] at H
      exact absurd H (by simp)
     ·rw [if_neg c53] at H
      have c53b0 : ((IntKind.u64.wrap (wrap64 ((a1_2.size : Int) - a0_2))) == 0) = false := beq_eq_false_iff_ne.mpr c53
      have c53b1 : ((IntKind.u64.wrap (wrap64 ((a1_2.size : Int) - a0_2))) != 0) = true := bne_iff_ne.mpr c53
      obtain ⟨ji54, hji54⟩ : ∃ j_ : Int, (wrap64 (a0_2 + (wrap64 (Int.tmod (IntKind.u64.wrap (a2_0)) (IntKind.u64.wrap (wrap64 ((a1_2.size : Int) - a0_2))))))) = j_ := ⟨_, rfl⟩
      replace H : (if 0 ≤ (ji54) then (if (ji54) ≤ (a1_2.size : Int) then (if (a1_2.extract 0 ((ji54) : Int).toNat).size + 1 ≤ 9223372036854775807 then (if 0 ≤ (wrap64 ((ji54) + 1)) then (if (wrap64 ((ji54) + 1)) ≤ (a1_2.size : Int) then (if ((a1_2.extract 0 ((ji54) : Int).toNat) ++ (⟨#[126]⟩ : ByteArray)).size + (a1_2.extract ((wrap64 ((ji54) + 1)) : Int).toNat a1_2.size).size ≤ 9223372036854775807 then ((guard_Apply.f kj4 a0_0 a0_1 a0_2 a1_0 a1_1 (((a1_2.extract 0 ((ji54) : Int).toNat) ++ (⟨#[126]⟩ : ByteArray)) ++ (a1_2.extract ((wrap64 ((ji54) + 1)) : Int).toNat a1_2.size)) a1_3).bind fun bt240 => (if bt240.2.2.2.2.isNone = true then (if (t233 == bt240.1 && (t234 == bt240.2.1 && (t235.toList == bt240.2.2.1.toList && (t236 == bt240.2.2.2.1)))) = true then ((barbicanref05_Valid.f kj4 t233 t234 t235 t236).bind fun t247 => (if t247 = 0 then ((barbicanlaw24_sure.f kj4).bind fun t248 => (some t248)) else (some false))) else (some false)) else (some false))) else (none)) else (none)) else (none)) else (none)) else (none)) else (none)) = some r := by first | (rw [hji54] at H; exact H) | (simp only [hji54] at H ⊢; exact H)
      have hji54w : (IntKind.i64.wrap (a0_2 + (wrap64 (Int.tmod (IntKind.u64.wrap (a2_0)) (IntKind.u64.wrap (wrap64 ((a1_2.size : Int) - a0_2))))))) = ji54 := (i64_w _).trans hji54
      by_cases c55 : 0 ≤ (ji54)
      ·rw [if_pos c55] at H
       have c55b0 := eq_true c55
       have c55b1 : decide (0 ≤ (ji54)) = true := decide_eq_true c55
       clear c55
       by_cases c56 : (ji54) ≤ (a1_2.size : Int)
       ·rw [if_pos c56] at H
        have c56b0 := eq_true c56
        have c56b1 : decide ((ji54) ≤ (a1_2.size : Int)) = true := decide_eq_true c56
        clear c56
        by_cases c57 : (a1_2.extract 0 ((ji54) : Int).toNat).size + 1 ≤ 9223372036854775807
        ·rw [if_pos c57] at H
         have c57b0 := eq_true c57
         have c57b1 : decide ((a1_2.extract 0 ((ji54) : Int).toNat).size + 1 ≤ 9223372036854775807) = true := decide_eq_true c57
         try have c57b4 : (9223372036854775807 < (ji54 : Int).toNat + 1) = False := eq_false (by have h_ := c57; have hj_ : (ji54 : Int) ≤ (a1_2.size : Int) := of_eq_true (by assumption); simp only [ByteArray.size_extract, ByteArray.size_append] at h_; omega)
         try have c57b2 : (9223372036854775807 < (a1_2.extract 0 ((ji54) : Int).toNat).size + 1) = False := eq_false (Nat.not_lt.2 c57)
         obtain ⟨ji58, hji58⟩ : ∃ j_ : Int, (wrap64 ((ji54) + 1)) = j_ := ⟨_, rfl⟩
         replace H : (if 0 ≤ (ji58) then (if (ji58) ≤ (a1_2.size : Int) then (if ((a1_2.extract 0 ((ji54) : Int).toNat) ++ (⟨#[126]⟩ : ByteArray)).size + (a1_2.extract ((ji58) : Int).toNat a1_2.size).size ≤ 9223372036854775807 then ((guard_Apply.f kj4 a0_0 a0_1 a0_2 a1_0 a1_1 (((a1_2.extract 0 ((ji54) : Int).toNat) ++ (⟨#[126]⟩ : ByteArray)) ++ (a1_2.extract ((ji58) : Int).toNat a1_2.size)) a1_3).bind fun bt240 => (if bt240.2.2.2.2.isNone = true then (if (t233 == bt240.1 && (t234 == bt240.2.1 && (t235.toList == bt240.2.2.1.toList && (t236 == bt240.2.2.2.1)))) = true then ((barbicanref05_Valid.f kj4 t233 t234 t235 t236).bind fun t247 => (if t247 = 0 then ((barbicanlaw24_sure.f kj4).bind fun t248 => (some t248)) else (some false))) else (some false)) else (some false))) else (none)) else (none)) else (none)) = some r := by first | (rw [hji58] at H; exact H) | (simp only [hji58] at H ⊢; exact H)
         have hji58w : (IntKind.i64.wrap ((ji54) + 1)) = ji58 := (i64_w _).trans hji58
         by_cases c59 : 0 ≤ (ji58)
         ·rw [if_pos c59] at H
          have c59b0 := eq_true c59
          have c59b1 : decide (0 ≤ (ji58)) = true := decide_eq_true c59
          clear c59
          by_cases c60 : (ji58) ≤ (a1_2.size : Int)
          ·rw [if_pos c60] at H
           have c60b0 := eq_true c60
           have c60b1 : decide ((ji58) ≤ (a1_2.size : Int)) = true := decide_eq_true c60
           clear c60
           obtain ⟨ji61, hji61⟩ : ∃ j_ : ByteArray, (a1_2.extract ((ji58) : Int).toNat a1_2.size) = j_ := ⟨_, rfl⟩
           replace H : (if ((a1_2.extract 0 ((ji54) : Int).toNat) ++ (⟨#[126]⟩ : ByteArray)).size + (ji61).size ≤ 9223372036854775807 then ((guard_Apply.f kj4 a0_0 a0_1 a0_2 a1_0 a1_1 (((a1_2.extract 0 ((ji54) : Int).toNat) ++ (⟨#[126]⟩ : ByteArray)) ++ (ji61)) a1_3).bind fun bt240 => (if bt240.2.2.2.2.isNone = true then (if (t233 == bt240.1 && (t234 == bt240.2.1 && (t235.toList == bt240.2.2.1.toList && (t236 == bt240.2.2.2.1)))) = true then ((barbicanref05_Valid.f kj4 t233 t234 t235 t236).bind fun t247 => (if t247 = 0 then ((barbicanlaw24_sure.f kj4).bind fun t248 => (some t248)) else (some false))) else (some false)) else (some false))) else (none)) = some r := by first | (rw [hji61] at H; exact H) | (simp only [hji61] at H ⊢; exact H) | exact H
           by_cases c62 : ((a1_2.extract 0 ((ji54) : Int).toNat) ++ (⟨#[126]⟩ : ByteArray)).size + (ji61).size ≤ 9223372036854775807
           ·rw [if_pos c62] at H
            have c62b0 := eq_true c62
            have c62b1 : decide (((a1_2.extract 0 ((ji54) : Int).toNat) ++ (⟨#[126]⟩ : ByteArray)).size + (ji61).size ≤ 9223372036854775807) = true := decide_eq_true c62
            try have c62b3 : (9223372036854775807 < (a1_2.extract 0 ((ji54) : Int).toNat).size + 1 + (ji61).size) = False := eq_false (by have h_ := c62; simp only [ByteArray.size_append, show (⟨#[126]⟩ : ByteArray).size = 1 from rfl] at h_; omega)
            try have c62b5 : (9223372036854775807 < (ji54 : Int).toNat + 1 + (ji61).size) = False := eq_false (by have h_ := c62; have hj_ : (ji54 : Int) ≤ (a1_2.size : Int) := of_eq_true (by assumption); simp only [ByteArray.size_extract, ByteArray.size_append, show (⟨#[126]⟩ : ByteArray).size = 1 from rfl] at h_; omega)
            try have c62b2 : (9223372036854775807 < ((a1_2.extract 0 ((ji54) : Int).toNat) ++ (⟨#[126]⟩ : ByteArray)).size + (ji61).size) = False := eq_false (Nat.not_lt.2 c62)
            replace H := Option.bind_eq_some_iff.mp H
            obtain ⟨⟨t240, t241, t242, t243, t244⟩, A630, H⟩ := H
            replace H : (if t244.isNone = true then (if (t233 == t240 && (t234 == t241 && (t235.toList == t242.toList && (t236 == t243)))) = true then ((barbicanref05_Valid.f kj4 t233 t234 t235 t236).bind fun t247 => (if t247 = 0 then ((barbicanlaw24_sure.f kj4).bind fun t248 => (some t248)) else (some false))) else (some false)) else (some false)) = some r := H
            have A63 := Aside0.mk A630
            clear A630
            rcases t244 with _ | q246
            ·have H1 : (if (t233 == t240 && (t234 == t241 && (t235.toList == t242.toList && (t236 == t243)))) = true then ((barbicanref05_Valid.f kj4 t233 t234 t235 t236).bind fun t247 => (if t247 = 0 then ((barbicanlaw24_sure.f kj4).bind fun t248 => (some t248)) else (some false))) else (some false)) = some r := by rw [if_pos (show (none : Option Int).isNone = true by rfl)] at H; exact H
             clear H
             have H := H1
             clear H1
             try simp only [errW_none, errW_some]
             by_cases c64 : (t233 == t240 && (t234 == t241 && (t235.toList == t242.toList && (t236 == t243)))) = true
             ·rw [if_pos c64] at H
              have c64b0 : (t233 == t240 && (t234 == t241 && (t235.toList == t242.toList && (t236 == t243)))) = true := c64
              (try (have c64b1 : decide (t233 = t240 && (t234 == t241 && (t235.toList == t242.toList && (t236 == t243)))) = true := by simpa using c64))
              (try (have c64b2 : (t233 == t240 && (t234 == t241 && (t235.toList == t242.toList && (t236 == t243)))) = true := by simpa using c64))
              clear c64
              replace H := Option.bind_eq_some_iff.mp H
              obtain ⟨t247, A650, H⟩ := H
              replace H : (if t247 = 0 then ((barbicanlaw24_sure.f kj4).bind fun t248 => (some t248)) else (some false)) = some r := H
              have A65 := Aside0.mk A650
              clear A650
              by_cases c66 : t247 = 0
              ·rw [if_pos c66] at H
               have c66b0 : (t247 == 0) = true := beq_iff_eq.mpr c66
               have c66b1 : (t247 != 0) = false := bne_eq_false_iff_eq.mpr c66
               clear c66
               replace H := Option.bind_eq_some_iff.mp H
               obtain ⟨t248, A670, H⟩ := H
               replace H : (some t248) = some r := H
               have A67 := Aside0.mk A670
               clear A670
               obtain rfl := Option.some.inj H
               try go_wp2
               have n0_ := Aside0.mk (blk_drew BK229.out)
               have n1_ := Aside0.mk (blk_drew BK230.out)
               have n2_ := Aside0.mk (blk_drew BK231.out)
               have n3_ := Aside0.mk (blk_drew BK232.out)
               have n4_ := Aside0.mk (blk_drew BK238.out)
               have n5_ := Aside0.mk (below_drew1 HB.out)
               clear BK229
               clear BK230
               clear BK231
               clear BK232
               clear BK238
               clear HB
               have BK229 := n0_
               have BK230 := n1_
               have BK231 := n2_
               have BK232 := n3_
               have BK238 := n4_
               have HB := n5_
               clear n0_ n1_ n2_ n3_ n4_ n5_
               refine start_ (n := 16) (S := fun w' => w'.cell? ⟨gb229, 0, none⟩ = some (.string a0_0) ∧ w'.cell? ⟨gb229, 1, none⟩ = some (.int .i64 a0_1) ∧ w'.cell? ⟨gb229, 2, none⟩ = some (.int .i64 a0_2) ∧ w'.cell? ⟨gb231, 0, none⟩ = some (.int .i64 a2_0) ∧ w'.cell? ⟨gb231, 1, none⟩ = some (.int .i64 a2_1) ∧ w'.cell? ⟨gb230, 0, none⟩ = some (.int .i64 a1_0) ∧ w'.cell? ⟨gb230, 1, none⟩ = some (.int .i64 a1_1) ∧ w'.cell? ⟨gb230, 2, none⟩ = some (.string a1_2) ∧ w'.cell? ⟨gb230, 3, none⟩ = some (.bool a1_3)) (ds := []) #[false, false, false, false, false, false, false, false, false, false, false, false, false, false, false, false] (by kernel_rfl) rfl rfl ⟨(blk_cell BK229.out 0).trans rfl, (blk_cell BK229.out 1).trans rfl, (blk_cell BK229.out 2).trans rfl, (blk_cell BK231.out 0).trans rfl, (blk_cell BK231.out 1).trans rfl, (blk_cell BK230.out 0).trans rfl, (blk_cell BK230.out 1).trans rfl, (blk_cell BK230.out 2).trans rfl, (blk_cell BK230.out 3).trans rfl⟩ (fun hHeld => ?_); refine with_tabW barbicanlaw24_GuardBlind.tab6 barbicanlaw24_GuardBlind.bits6 (fun HT_ HW_ => ?_)
               generalize wc.drew = w68 at BK229 BK230 BK231 BK232 BK238 HB hHeld ⊢
               refine pure_ (i := 0) (N := some 45) (v := ?_) (a' := ?_) #[true, false, false, false, false, false, false, false, false, false, false, false, false, false, false, false] rfl rfl (any_of HT_.out (by kernel_rfl)) (fun _ _ _ h => h) (Or.inl ⟨by rfl, ?_⟩) ?_ ?_
               rotate_left
               ·intro w'
                go_simp
                with_reducible rfl
               rotate_left
               ·simp only [Act.put, List.setIfInBounds_toArray, List.set_cons_zero, List.set_cons_succ, i64_w, i32_w]
                rfl
               refine pure_ (i := 2) (N := some 47) (v := ?_) (a' := ?_) #[true, false, true, false, false, false, false, false, false, false, false, false, false, false, false, false] rfl rfl (any_of HT_.out (by kernel_rfl)) (fun _ _ _ h => h) (Or.inl ⟨by rfl, ?_⟩) ?_ ?_
               rotate_left
               ·intro w'
                go_simp
                with_reducible rfl
               rotate_left
               ·simp only [Act.put, List.setIfInBounds_toArray, List.set_cons_zero, List.set_cons_succ, i64_w, i32_w]
                rfl
               refine pure_ (i := 5) (N := some 50) (v := ?_) (a' := ?_) #[true, false, true, false, false, true, false, false, false, false, false, false, false, false, false, false] rfl rfl (any_of HT_.out (by kernel_rfl)) (fun _ _ _ h => h) (Or.inl ⟨by rfl, ?_⟩) ?_ ?_
               rotate_left
               ·intro w'
                go_simp
                with_reducible rfl
               rotate_left
               ·simp only [Act.put, List.setIfInBounds_toArray, List.set_cons_zero, List.set_cons_succ, i64_w, i32_w]
                rfl
               refine pure_ (i := 8) (N := some 53) (v := ?_) (a' := ?_) #[true, false, true, false, false, true, false, false, true, false, false, false, false, false, false, false] rfl rfl (any_of HT_.out (by kernel_rfl)) (fun _ _ _ h => h) (Or.inl ⟨by rfl, ?_⟩) ?_ ?_
               rotate_left
               ·intro w'
                go_simp
                with_reducible rfl
               rotate_left
               ·simp only [Act.put, List.setIfInBounds_toArray, List.set_cons_zero, List.set_cons_succ, i64_w, i32_w]
                rfl
               refine take_ (i := 1) (N := some 46) (v := ?_) (a' := ?_) #[true, true, true, false, false, true, false, false, true, false, false, false, false, false, false, false] rfl rfl (take_ofW HT_.out HW_.out (by kernel_rfl)) (fun _ _ _ h => h) (Or.inl ⟨by rfl, ?_⟩) hHeld ?_ ?_
               rotate_left
               ·rintro w' ⟨s0, s1, s2, s3, s4, s5, s6, s7, s8⟩
                go_simp
                with_reducible rfl
               rotate_left
               ·simp only [Act.put, List.setIfInBounds_toArray, List.set_cons_zero, List.set_cons_succ, i64_w, i32_w]
                rfl
               refine take_ (i := 3) (N := some 48) (v := ?_) (a' := ?_) #[true, true, true, true, false, true, false, false, true, false, false, false, false, false, false, false] rfl rfl (take_ofW HT_.out HW_.out (by kernel_rfl)) (fun _ _ _ h => h) (Or.inl ⟨by rfl, ?_⟩) hHeld ?_ ?_
               rotate_left
               ·rintro w' ⟨s0, s1, s2, s3, s4, s5, s6, s7, s8⟩
                go_simp
                with_reducible rfl
               rotate_left
               ·simp only [Act.put, List.setIfInBounds_toArray, List.set_cons_zero, List.set_cons_succ, i64_w, i32_w]
                rfl
               refine pure_ (i := 4) (N := some 49) (v := ?_) (a' := ?_) #[true, true, true, true, true, true, false, false, true, false, false, false, false, false, false, false] rfl rfl (any_of HT_.out (by kernel_rfl)) (fun _ _ _ h => h) (Or.inl ⟨by rfl, ?_⟩) ?_ ?_
               rotate_left
               ·intro w'
                go_simp
                with_reducible rfl
               rotate_left
               ·simp only [Act.put, List.setIfInBounds_toArray, List.set_cons_zero, List.set_cons_succ, i64_w, i32_w]
                rfl
               refine take_ (i := 6) (N := some 51) (v := ?_) (a' := ?_) #[true, true, true, true, true, true, true, false, true, false, false, false, false, false, false, false] rfl rfl (take_ofW HT_.out HW_.out (by kernel_rfl)) (fun _ _ _ h => h) (Or.inl ⟨by rfl, ?_⟩) hHeld ?_ ?_
               rotate_left
               ·rintro w' ⟨s0, s1, s2, s3, s4, s5, s6, s7, s8⟩
                go_simp
                with_reducible rfl
               rotate_left
               ·simp only [Act.put, List.setIfInBounds_toArray, List.set_cons_zero, List.set_cons_succ, i64_w, i32_w]
                rfl
               refine pure_ (i := 7) (N := some 52) (v := ?_) (a' := ?_) #[true, true, true, true, true, true, true, true, true, false, false, false, false, false, false, false] rfl rfl (any_of HT_.out (by kernel_rfl)) (fun _ _ _ h => h) (Or.inl ⟨by rfl, ?_⟩) ?_ ?_
               rotate_left
               ·intro w'
                go_simp
                with_reducible rfl
               rotate_left
               ·simp only [Act.put, List.setIfInBounds_toArray, List.set_cons_zero, List.set_cons_succ, i64_w, i32_w]
                rfl
               refine take_ (i := 9) (N := some 54) (v := ?_) (a' := ?_) #[true, true, true, true, true, true, true, true, true, true, false, false, false, false, false, false] rfl rfl (take_ofW HT_.out HW_.out (by kernel_rfl)) (fun _ _ _ h => h) (Or.inl ⟨by rfl, ?_⟩) hHeld ?_ ?_
               rotate_left
               ·rintro w' ⟨s0, s1, s2, s3, s4, s5, s6, s7, s8⟩
                go_simp
                with_reducible rfl
               rotate_left
               ·simp only [Act.put, List.setIfInBounds_toArray, List.set_cons_zero, List.set_cons_succ, i64_w, i32_w]
                rfl
               refine pure_ (i := 10) (N := some 55) (v := ?_) (a' := ?_) #[true, true, true, true, true, true, true, true, true, true, true, false, false, false, false, false] rfl rfl (any_of HT_.out (by kernel_rfl)) (fun _ _ _ h => h) (Or.inl ⟨by rfl, ?_⟩) ?_ ?_
               rotate_left
               ·intro w'
                go_simp
                with_reducible rfl
               rotate_left
               ·simp only [Act.put, List.setIfInBounds_toArray, List.set_cons_zero, List.set_cons_succ, i64_w, i32_w]
                rfl
               refine pure_ (i := 11) (N := some 56) (v := ?_) (a' := ?_) #[true, true, true, true, true, true, true, true, true, true, true, true, false, false, false, false] rfl rfl (any_of HT_.out (by kernel_rfl)) (fun _ _ _ h => h) (Or.inl ⟨by rfl, ?_⟩) ?_ ?_
               rotate_left
               ·intro w'
                go_simp
                with_reducible rfl
               rotate_left
               ·simp only [Act.put, List.setIfInBounds_toArray, List.set_cons_zero, List.set_cons_succ, i64_w, i32_w]
                rfl
               refine pure_ (i := 12) (N := some 57) (v := ?_) (a' := ?_) #[true, true, true, true, true, true, true, true, true, true, true, true, true, false, false, false] rfl rfl (any_of HT_.out (by kernel_rfl)) (fun _ _ _ h => h) (Or.inl ⟨by rfl, ?_⟩) ?_ ?_
               rotate_left
               ·intro w'
                go_simp
                with_reducible rfl
               rotate_left
               ·simp only [Act.put, List.setIfInBounds_toArray, List.set_cons_zero, List.set_cons_succ, i64_w, i32_w]
                rfl
               refine pure_ (i := 13) (N := some 58) (v := ?_) (a' := ?_) #[true, true, true, true, true, true, true, true, true, true, true, true, true, true, false, false] rfl rfl (any_of HT_.out (by kernel_rfl)) (fun _ _ _ h => h) (Or.inl ⟨by rfl, ?_⟩) ?_ ?_
               rotate_left
               ·intro w'
                go_simp
                with_reducible rfl
               rotate_left
               ·simp only [Act.put, List.setIfInBounds_toArray, List.set_cons_zero, List.set_cons_succ, i64_w, i32_w]
                rfl
               refine pure_ (i := 14) (N := some 59) (v := ?_) (a' := ?_) #[true, true, true, true, true, true, true, true, true, true, true, true, true, true, true, false] rfl rfl (any_of HT_.out (by kernel_rfl)) (fun _ _ _ h => h) (Or.inl ⟨by rfl, ?_⟩) ?_ ?_
               rotate_left
               ·intro w'
                go_simp
                with_reducible rfl
               rotate_left
               ·simp only [Act.put, List.setIfInBounds_toArray, List.set_cons_zero, List.set_cons_succ, i64_w, i32_w]
                rfl
               refine pure_ (i := 15) (N := some 10) (v := ?_) (a' := ?_) #[true, true, true, true, true, true, true, true, true, true, true, true, true, true, true, true] rfl rfl (any_of HT_.out (by kernel_rfl)) (fun _ _ _ h => h) (Or.inl ⟨by rfl, ?_⟩) ?_ ?_
               rotate_left
               ·intro w'
                go_simp
                with_reducible rfl
               rotate_left
               ·simp only [Act.put, List.setIfInBounds_toArray, List.set_cons_zero, List.set_cons_succ, i64_w, i32_w]
                rfl
               refine done_ (done_of HT_.out (by kernel_rfl)) ?_
               try go_wp2
               have n0_ := Aside0.mk (blk_drew BK229.out)
               have n1_ := Aside0.mk (blk_drew BK230.out)
               have n2_ := Aside0.mk (blk_drew BK231.out)
               have n3_ := Aside0.mk (blk_drew BK232.out)
               have n4_ := Aside0.mk (blk_drew BK238.out)
               have n5_ := Aside0.mk (below_drew1 HB.out)
               clear BK229
               clear BK230
               clear BK231
               clear BK232
               clear BK238
               clear HB
               have BK229 := n0_
               have BK230 := n1_
               have BK231 := n2_
               have BK232 := n3_
               have BK238 := n4_
               have HB := n5_
               clear n0_ n1_ n2_ n3_ n4_ n5_
               refine start_ (n := 13) (S := fun w' => w'.cell? ⟨gb230, 0, none⟩ = some (.int .i64 a1_0) ∧ w'.cell? ⟨gb230, 1, none⟩ = some (.int .i64 a1_1) ∧ w'.cell? ⟨gb230, 2, none⟩ = some (.string a1_2) ∧ w'.cell? ⟨gb230, 3, none⟩ = some (.bool a1_3)) (ds := []) #[false, false, false, false, false, false, false, false, false, false, false, false, false] (by kernel_rfl) rfl rfl ⟨(blk_cell BK230.out 0).trans rfl, (blk_cell BK230.out 1).trans rfl, (blk_cell BK230.out 2).trans rfl, (blk_cell BK230.out 3).trans rfl⟩ (fun hHeld => ?_); refine with_tabW barbicanlaw24_GuardBlind.tab7 barbicanlaw24_GuardBlind.bits7 (fun HT_ HW_ => ?_)
               generalize w68.drew = w69 at BK229 BK230 BK231 BK232 BK238 HB hHeld ⊢
               refine pure_ (i := 0) (N := some 60) (v := ?_) (a' := ?_) #[true, false, false, false, false, false, false, false, false, false, false, false, false] rfl rfl (any_of HT_.out (by kernel_rfl)) (fun _ _ _ h => h) (Or.inl ⟨by rfl, ?_⟩) ?_ ?_
               rotate_left
               ·intro w'
                go_simp
                with_reducible rfl
               rotate_left
               ·simp only [Act.put, List.setIfInBounds_toArray, List.set_cons_zero, List.set_cons_succ, i64_w, i32_w]
                rfl
               refine pure_ (i := 2) (N := some 62) (v := ?_) (a' := ?_) #[true, false, true, false, false, false, false, false, false, false, false, false, false] rfl rfl (any_of HT_.out (by kernel_rfl)) (fun _ _ _ h => h) (Or.inl ⟨by rfl, ?_⟩) ?_ ?_
               rotate_left
               ·intro w'
                go_simp
                with_reducible rfl
               rotate_left
               ·simp only [Act.put, List.setIfInBounds_toArray, List.set_cons_zero, List.set_cons_succ, i64_w, i32_w]
                rfl
               refine pure_ (i := 5) (N := some 65) (v := ?_) (a' := ?_) #[true, false, true, false, false, true, false, false, false, false, false, false, false] rfl rfl (any_of HT_.out (by kernel_rfl)) (fun _ _ _ h => h) (Or.inl ⟨by rfl, ?_⟩) ?_ ?_
               rotate_left
               ·intro w'
                go_simp
                with_reducible rfl
               rotate_left
               ·simp only [Act.put, List.setIfInBounds_toArray, List.set_cons_zero, List.set_cons_succ, i64_w, i32_w]
                rfl
               refine pure_ (i := 7) (N := some 67) (v := ?_) (a' := ?_) #[true, false, true, false, false, true, false, true, false, false, false, false, false] rfl rfl (any_of HT_.out (by kernel_rfl)) (fun _ _ _ h => h) (Or.inl ⟨by rfl, ?_⟩) ?_ ?_
               rotate_left
               ·intro w'
                go_simp
                with_reducible rfl
               rotate_left
               ·simp only [Act.put, List.setIfInBounds_toArray, List.set_cons_zero, List.set_cons_succ, i64_w, i32_w]
                rfl
               refine pure_ (i := 8) (N := some 68) (v := ?_) (a' := ?_) #[true, false, true, false, false, true, false, true, true, false, false, false, false] rfl rfl (any_of HT_.out (by kernel_rfl)) (fun _ _ _ h => h) (Or.inl ⟨by rfl, ?_⟩) ?_ ?_
               rotate_left
               ·intro w'
                go_simp
                with_reducible rfl
               rotate_left
               ·simp only [Act.put, List.setIfInBounds_toArray, List.set_cons_zero, List.set_cons_succ, i64_w, i32_w]
                rfl
               refine take_ (i := 1) (N := some 61) (v := ?_) (a' := ?_) #[true, true, true, false, false, true, false, true, true, false, false, false, false] rfl rfl (take_ofW HT_.out HW_.out (by kernel_rfl)) (fun _ _ _ h => h) (Or.inl ⟨by rfl, ?_⟩) hHeld ?_ ?_
               rotate_left
               ·rintro w' ⟨s0, s1, s2, s3⟩
                go_simp
                with_reducible rfl
               rotate_left
               ·simp only [Act.put, List.setIfInBounds_toArray, List.set_cons_zero, List.set_cons_succ, i64_w, i32_w]
                rfl
               refine pure_ (i := 3) (N := some 63) (v := ?_) (a' := ?_) #[true, true, true, true, false, true, false, true, true, false, false, false, false] rfl rfl (any_of HT_.out (by kernel_rfl)) (fun _ _ _ h => h) (Or.inl ⟨by rfl, ?_⟩) ?_ ?_
               rotate_left
               ·intro w'
                go_simp
                with_reducible rfl
               rotate_left
               ·simp only [Act.put, List.setIfInBounds_toArray, List.set_cons_zero, List.set_cons_succ, i64_w, i32_w]
                rfl
               refine pure_ (i := 4) (N := some 64) (v := ?_) (a' := ?_) #[true, true, true, true, true, true, false, true, true, false, false, false, false] rfl rfl (any_of HT_.out (by kernel_rfl)) (fun _ _ _ h => h) (Or.inl ⟨by rfl, ?_⟩) ?_ ?_
               rotate_left
               ·intro w'
                go_simp
                with_reducible rfl
               rotate_left
               ·simp only [Act.put, List.setIfInBounds_toArray, List.set_cons_zero, List.set_cons_succ, i64_w, i32_w]
                rfl
               refine take_ (i := 6) (N := some 66) (v := ?_) (a' := ?_) #[true, true, true, true, true, true, true, true, true, false, false, false, false] rfl rfl (take_ofW HT_.out HW_.out (by kernel_rfl)) (fun _ _ _ h => h) (Or.inl ⟨by rfl, ?_⟩) hHeld ?_ ?_
               rotate_left
               ·rintro w' ⟨s0, s1, s2, s3⟩
                go_simp
                with_reducible rfl
               rotate_left
               ·simp only [Act.put, List.setIfInBounds_toArray, List.set_cons_zero, List.set_cons_succ, i64_w, i32_w]
                rfl
               refine pure_ (i := 9) (N := some 69) (v := ?_) (a' := ?_) #[true, true, true, true, true, true, true, true, true, true, false, false, false] rfl rfl (any_of HT_.out (by kernel_rfl)) (fun _ _ _ h => h) (Or.inl ⟨by rfl, ?_⟩) ?_ ?_
               rotate_left
               ·intro w'
                go_simp
                with_reducible rfl
               rotate_left
               ·simp only [Act.put, List.setIfInBounds_toArray, List.set_cons_zero, List.set_cons_succ, i64_w, i32_w]
                rfl
               refine pure_ (i := 10) (N := some 70) (v := ?_) (a' := ?_) #[true, true, true, true, true, true, true, true, true, true, true, false, false] rfl rfl (any_of HT_.out (by kernel_rfl)) (fun _ _ _ h => h) (Or.inl ⟨by rfl, ?_⟩) ?_ ?_
               rotate_left
               ·intro w'
                go_simp
                with_reducible rfl
               rotate_left
               ·simp only [Act.put, List.setIfInBounds_toArray, List.set_cons_zero, List.set_cons_succ, i64_w, i32_w]
                rfl
               refine pure_ (i := 11) (N := some 71) (v := ?_) (a' := ?_) #[true, true, true, true, true, true, true, true, true, true, true, true, false] rfl rfl (any_of HT_.out (by kernel_rfl)) (fun _ _ _ h => h) (Or.inl ⟨by rfl, ?_⟩) ?_ ?_
               rotate_left
               ·intro w'
                go_simp
                with_reducible rfl
               rotate_left
               ·simp only [Act.put, List.setIfInBounds_toArray, List.set_cons_zero, List.set_cons_succ, i64_w, i32_w]
                rfl
               refine one_ (i := 12) (N := none) #[true, true, true, true, true, true, true, true, true, true, true, true, true] rfl rfl (one_of HT_.out (by kernel_rfl)) (by decide) (fun K hK => ?_)
               have hs70 : w69.cell? ⟨gb232, 2, none⟩ = some (.string a1_2) := (blk_cell BK232.out 2).trans rfl
               have hfs70 := blk_frozen BK232.out 2
               have hns70_0 := NB229_232.out
               have hns70_1 := NB230_232.out
               have hns70_2 := NB231_232.out
               have hns70_4 := NB238_232.out
               have hms70_0 := NB232_229.out
               have hms70_1 := NB232_230.out
               have hms70_2 := NB232_231.out
               have hms70_4 := NB232_238.out
               refine skip_ (w1 := ?_) (by rfl) rfl ?_ ?_
               rotate_left
               ·go_simp
                rfl
               refine hK.out _ _ ⟨((cell_far (p := ⟨gb232, _, none⟩) NB230_232.out _).trans (hHeld.1)), ((cell_far (p := ⟨gb232, _, none⟩) NB230_232.out _).trans (hHeld.2.1)), ((cell_far (p := ⟨gb232, _, none⟩) NB230_232.out _).trans (hHeld.2.2.1)), ((cell_far (p := ⟨gb232, _, none⟩) NB230_232.out _).trans (hHeld.2.2.2))⟩ (fun hHeld => ?_)
               clear hK K
               refine done_ (done_of HT_.out (by kernel_rfl)) ?_
               have hnb71 := NB229_230.out
               have hnc71 := NB230_229.out
               have hnb72 := NB229_231.out
               have hnc72 := NB231_229.out
               have hnb73 := NB229_232.out
               have hnc73 := NB232_229.out
               have hnb74 := NB229_238.out
               have hnc74 := NB238_229.out
               have hcz75_0 : w69.cell? ⟨gb229, 0, none⟩ = some (.string a0_0) := (blk_cell BK229.out 0).trans rfl
               have hcz75_1 : w69.cell? ⟨gb229, 1, none⟩ = some (.int .i64 a0_1) := (blk_cell BK229.out 1).trans rfl
               have hcz75_2 : w69.cell? ⟨gb229, 2, none⟩ = some (.int .i64 a0_2) := (blk_cell BK229.out 2).trans rfl
               have hfz75_0 := blk_frozen BK229.out 0
               have hfz75_1 := blk_frozen BK229.out 1
               have hfz75_2 := blk_frozen BK229.out 2
               have hnb76 := NB232_230.out
               have hnc76 := NB230_232.out
               have hnb77 := NB232_231.out
               have hnc77 := NB231_232.out
               have hnb78 := NB232_238.out
               have hnc78 := NB238_232.out
               have hcz79_0 : w69.cell? ⟨gb232, 0, none⟩ = some (.int .i64 a1_0) := (blk_cell BK232.out 0).trans rfl
               have hcz79_1 : w69.cell? ⟨gb232, 1, none⟩ = some (.int .i64 a1_1) := (blk_cell BK232.out 1).trans rfl
               have hcz79_2 : w69.cell? ⟨gb232, 2, none⟩ = some (.string a1_2) := (blk_cell BK232.out 2).trans rfl
               have hcz79_3 : w69.cell? ⟨gb232, 3, none⟩ = some (.bool a1_3) := (blk_cell BK232.out 3).trans rfl
               have hfz79_0 := blk_frozen BK232.out 0
               have hfz79_1 := blk_frozen BK232.out 1
               have hfz79_2 := blk_frozen BK232.out 2
               have hfz79_3 := blk_frozen BK232.out 3
               try go_wp2_with (first | ((with_reducible refine gate_callee (f := 4) rfl ?_); refine goesL_ (some 134) rfl rfl Try.func4 (by kernel_rfl) rfl #[.agg #[.string a0_0, .int .i64 a0_1, .int .i64 a0_2], .agg #[.int .i64 a1_0, .int .i64 a1_1, .string (((a1_2.extract 0 ((ji54) : Int).toNat) ++ (⟨#[126]⟩ : ByteArray)) ++ (ji61)), .bool a1_3]] rfl (by (try simp only [List.map_toArray, List.map_cons, List.map_nil]); first | done | (simp only [hji54, hji61]; rfl) | rfl | (simp only [List.length_drop, List.length_take]; rfl)) ?_; (with_reducible refine (guard_Apply.calls kj4 a0_0 a0_1 a0_2 a1_0 a1_1 (((a1_2.extract 0 ((ji54) : Int).toNat) ++ (⟨#[126]⟩ : ByteArray)) ++ (ji61)) a1_3 t240 t241 t242 t243 none _ A63.out).mono ?_); rintro e w80 ⟨rfl, hb⟩; refine ⟨_, rfl, ?_⟩; have n0_ := Aside0.mk (blk_below (g := gb229) (o := .cells #[.string a0_0, .int .i64 a0_1, .int .i64 a0_2] 23 (0, 0)) (by (with_reducible repeat (first | refine blk_drewN ?_ _ | refine blk_drew ?_ | refine blk_alloc ?_ _)); refine blk_far ?_ NB229_232.out _; (with_reducible repeat (first | refine blk_drewN ?_ _ | refine blk_drew ?_ | refine blk_alloc ?_ _)); exact BK229.out) hb); have n1_ := Aside0.mk (blk_below (g := gb230) (o := .cells #[.int .i64 a1_0, .int .i64 a1_1, .string a1_2, .bool a1_3] 25 (0, 0)) (by (with_reducible repeat (first | refine blk_drewN ?_ _ | refine blk_drew ?_ | refine blk_alloc ?_ _)); refine blk_far ?_ NB230_232.out _; (with_reducible repeat (first | refine blk_drewN ?_ _ | refine blk_drew ?_ | refine blk_alloc ?_ _)); exact BK230.out) hb); have n2_ := Aside0.mk (blk_below (g := gb231) (o := .cells #[.int .i64 a2_0, .int .i64 a2_1] 26 (0, 0)) (by (with_reducible repeat (first | refine blk_drewN ?_ _ | refine blk_drew ?_ | refine blk_alloc ?_ _)); refine blk_far ?_ NB231_232.out _; (with_reducible repeat (first | refine blk_drewN ?_ _ | refine blk_drew ?_ | refine blk_alloc ?_ _)); exact BK231.out) hb); have n3_ := Aside0.mk (blk_below (g := gb232) (o := .cells #[.int .i64 a1_0, .int .i64 a1_1, .string (((a1_2.extract 0 ((ji54) : Int).toNat) ++ (⟨#[126]⟩ : ByteArray)) ++ (ji61)), .bool a1_3] 25 (0, 0)) (by (with_reducible repeat (first | refine blk_drewN ?_ _ | refine blk_drew ?_ | refine blk_alloc ?_ _)); refine blk_put (cs := #[.int .i64 a1_0, .int .i64 a1_1, .string a1_2, .bool a1_3]) ?_ 2 _ (by first | rfl | (simp only [w64_256, wu64_256]; rfl) | (subst_vars; simp only [w64_256, wu64_256, shl, wu32_mod, Int.one_mul]; rfl)); (with_reducible repeat (first | refine blk_drewN ?_ _ | refine blk_drew ?_ | refine blk_alloc ?_ _)); exact BK232.out) hb); have n4_ := Aside0.mk (blk_below (g := gb238) (o := .cells #[.int .i64 t233, .int .i64 t234, .string t235, .bool t236] 25 (0, 0)) (by (with_reducible repeat (first | refine blk_drewN ?_ _ | refine blk_drew ?_ | refine blk_alloc ?_ _)); refine blk_far ?_ NB238_232.out _; (with_reducible repeat (first | refine blk_drewN ?_ _ | refine blk_drew ?_ | refine blk_alloc ?_ _)); exact BK238.out) hb); have n5_ := Aside0.mk (below_step (bh_ HB) hb); clear BK229; clear BK230; clear BK231; clear BK232; clear BK238; clear HB; have BK229 := n0_; have BK230 := n1_; have BK231 := n2_; have BK232 := n3_; have BK238 := n4_; have HB := n5_; clear n0_ n1_ n2_ n3_ n4_ n5_; (try clear hb); (try clear hb2); (try clear hk); (try clear hi); (try simp only [errW_none, errW_some])) | ((with_reducible refine gate_dst (N := 11) rfl ?_); (try (refine gate_guard (by rfl) ?_; dsimp only)); refine box_event ?hg (N := 11) ?hd (cs := #[.int .i64 0, .int .i64 0, .string (⟨#[]⟩ : ByteArray), .bool false]) (t := 25) ?hr ?_; (case hd => rfl); (case hg => rfl); (case hr => first | (go_simp; done) | (go_simp; rfl)); intro gb245 hg w81 hbox hb; have n0_ := Aside0.mk (blk_below (g := gb229) (o := .cells #[.string a0_0, .int .i64 a0_1, .int .i64 a0_2] 23 (0, 0)) (bk_ BK229) hb); have n1_ := Aside0.mk (blk_below (g := gb230) (o := .cells #[.int .i64 a1_0, .int .i64 a1_1, .string a1_2, .bool a1_3] 25 (0, 0)) (bk_ BK230) hb); have n2_ := Aside0.mk (blk_below (g := gb231) (o := .cells #[.int .i64 a2_0, .int .i64 a2_1] 26 (0, 0)) (bk_ BK231) hb); have n3_ := Aside0.mk (blk_below (g := gb232) (o := .cells #[.int .i64 a1_0, .int .i64 a1_1, .string (((a1_2.extract 0 ((ji54) : Int).toNat) ++ (⟨#[126]⟩ : ByteArray)) ++ (ji61)), .bool a1_3] 25 (0, 0)) (bk_ BK232) hb); have n4_ := Aside0.mk (blk_below (g := gb238) (o := .cells #[.int .i64 t233, .int .i64 t234, .string t235, .bool t236] 25 (0, 0)) (bk_ BK238) hb); have n5_ := Aside0.mk (below_step (bh_ HB) hb); have n6_ := Aside0.mk (hbox); have n7_ := Aside0.mk ((by rw [hg]; exact (below_size (bh_ HB)) : w.heap.size ≤ gb245)); have n8_ := Aside0.mk ((by rw [hg]; exact (below_size (bh_ HB)) : w.heap.size ≤ gb245)); have n9_ := Aside0.mk ((by rw [hg]; exact Nat.ne_of_lt (blk_lt (g := gb229) (o := .cells #[.string a0_0, .int .i64 a0_1, .int .i64 a0_2] 23 (0, 0)) (bk_ BK229)) : gb229 ≠ gb245)); have n10_ := Aside0.mk ((by rw [hg]; exact Nat.ne_of_gt (blk_lt (g := gb229) (o := .cells #[.string a0_0, .int .i64 a0_1, .int .i64 a0_2] 23 (0, 0)) (bk_ BK229)) : gb245 ≠ gb229)); have n11_ := Aside0.mk ((by rw [hg]; exact Nat.ne_of_lt (blk_lt (g := gb230) (o := .cells #[.int .i64 a1_0, .int .i64 a1_1, .string a1_2, .bool a1_3] 25 (0, 0)) (bk_ BK230)) : gb230 ≠ gb245)); have n12_ := Aside0.mk ((by rw [hg]; exact Nat.ne_of_gt (blk_lt (g := gb230) (o := .cells #[.int .i64 a1_0, .int .i64 a1_1, .string a1_2, .bool a1_3] 25 (0, 0)) (bk_ BK230)) : gb245 ≠ gb230)); have n13_ := Aside0.mk ((by rw [hg]; exact Nat.ne_of_lt (blk_lt (g := gb231) (o := .cells #[.int .i64 a2_0, .int .i64 a2_1] 26 (0, 0)) (bk_ BK231)) : gb231 ≠ gb245)); have n14_ := Aside0.mk ((by rw [hg]; exact Nat.ne_of_gt (blk_lt (g := gb231) (o := .cells #[.int .i64 a2_0, .int .i64 a2_1] 26 (0, 0)) (bk_ BK231)) : gb245 ≠ gb231)); have n15_ := Aside0.mk ((by rw [hg]; exact Nat.ne_of_lt (blk_lt (g := gb232) (o := .cells #[.int .i64 a1_0, .int .i64 a1_1, .string (((a1_2.extract 0 ((ji54) : Int).toNat) ++ (⟨#[126]⟩ : ByteArray)) ++ (ji61)), .bool a1_3] 25 (0, 0)) (bk_ BK232)) : gb232 ≠ gb245)); have n16_ := Aside0.mk ((by rw [hg]; exact Nat.ne_of_gt (blk_lt (g := gb232) (o := .cells #[.int .i64 a1_0, .int .i64 a1_1, .string (((a1_2.extract 0 ((ji54) : Int).toNat) ++ (⟨#[126]⟩ : ByteArray)) ++ (ji61)), .bool a1_3] 25 (0, 0)) (bk_ BK232)) : gb245 ≠ gb232)); have n17_ := Aside0.mk ((by rw [hg]; exact Nat.ne_of_lt (blk_lt (g := gb238) (o := .cells #[.int .i64 t233, .int .i64 t234, .string t235, .bool t236] 25 (0, 0)) (bk_ BK238)) : gb238 ≠ gb245)); have n18_ := Aside0.mk ((by rw [hg]; exact Nat.ne_of_gt (blk_lt (g := gb238) (o := .cells #[.int .i64 t233, .int .i64 t234, .string t235, .bool t236] 25 (0, 0)) (bk_ BK238)) : gb245 ≠ gb238)); clear BK229; clear BK230; clear BK231; clear BK232; clear BK238; clear HB; have BK229 := n0_; have BK230 := n1_; have BK231 := n2_; have BK232 := n3_; have BK238 := n4_; have HB := n5_; have BK245 := n6_; have GW245 := n7_; have GE245 := n8_; have NB229_245 := n9_; have NB245_229 := n10_; have NB230_245 := n11_; have NB245_230 := n12_; have NB231_245 := n13_; have NB245_231 := n14_; have NB232_245 := n15_; have NB245_232 := n16_; have NB238_245 := n17_; have NB245_238 := n18_; clear n0_ n1_ n2_ n3_ n4_ n5_ n6_ n7_ n8_ n9_ n10_ n11_ n12_ n13_ n14_ n15_ n16_ n17_ n18_; clear hb hbox hg; have hnb82 := NB245_229.out; have hnc82 := NB229_245.out; have hnb83 := NB245_230.out; have hnc83 := NB230_245.out; have hnb84 := NB245_231.out; have hnc84 := NB231_245.out; have hnb85 := NB245_232.out; have hnc85 := NB232_245.out; have hnb86 := NB245_238.out; have hnc86 := NB238_245.out; have hcz87_0 : w81.cell? ⟨gb245, 0, none⟩ = some (.int .i64 0) := (blk_cell BK245.out 0).trans rfl; have hcz87_1 : w81.cell? ⟨gb245, 1, none⟩ = some (.int .i64 0) := (blk_cell BK245.out 1).trans rfl; have hcz87_2 : w81.cell? ⟨gb245, 2, none⟩ = some (.string (⟨#[]⟩ : ByteArray)) := (blk_cell BK245.out 2).trans rfl; have hcz87_3 : w81.cell? ⟨gb245, 3, none⟩ = some (.bool false) := (blk_cell BK245.out 3).trans rfl; have hfz87_0 := blk_frozen BK245.out 0; have hfz87_1 := blk_frozen BK245.out 1; have hfz87_2 := blk_frozen BK245.out 2; have hfz87_3 := blk_frozen BK245.out 3; have hnb88 := NB238_230.out; have hnc88 := NB230_238.out; have hnb89 := NB238_231.out; have hnc89 := NB231_238.out; have hcz90_0 : w81.cell? ⟨gb238, 0, none⟩ = some (.int .i64 t233) := (blk_cell BK238.out 0).trans rfl; have hcz90_1 : w81.cell? ⟨gb238, 1, none⟩ = some (.int .i64 t234) := (blk_cell BK238.out 1).trans rfl; have hcz90_2 : w81.cell? ⟨gb238, 2, none⟩ = some (.string t235) := (blk_cell BK238.out 2).trans rfl; have hcz90_3 : w81.cell? ⟨gb238, 3, none⟩ = some (.bool t236) := (blk_cell BK238.out 3).trans rfl; have hfz90_0 := blk_frozen BK238.out 0; have hfz90_1 := blk_frozen BK238.out 1; have hfz90_2 := blk_frozen BK238.out 2; have hfz90_3 := blk_frozen BK238.out 3) | (go_at_call 6; (first | ((with_reducible refine (barbicanref05_Valid.calls kj4 t233 t234 t235 t236 t247 _ A65.out).mono ?_))); rintro e wz ⟨rfl, hb⟩; have n0_ := Aside0.mk (blk_below (g := gb229) (o := .cells #[.string a0_0, .int .i64 a0_1, .int .i64 a0_2] 23 (0, 0)) (by (with_reducible repeat (first | refine blk_drewN ?_ _ | refine blk_drew ?_ | refine blk_alloc ?_ _)); refine blk_far ?_ NB229_245.out _; (with_reducible repeat (first | refine blk_drewN ?_ _ | refine blk_drew ?_ | refine blk_alloc ?_ _)); refine blk_far ?_ NB229_245.out _; (with_reducible repeat (first | refine blk_drewN ?_ _ | refine blk_drew ?_ | refine blk_alloc ?_ _)); refine blk_far ?_ NB229_245.out _; (with_reducible repeat (first | refine blk_drewN ?_ _ | refine blk_drew ?_ | refine blk_alloc ?_ _)); refine blk_far ?_ NB229_245.out _; (with_reducible repeat (first | refine blk_drewN ?_ _ | refine blk_drew ?_ | refine blk_alloc ?_ _)); exact BK229.out) hb); have n1_ := Aside0.mk (blk_below (g := gb230) (o := .cells #[.int .i64 a1_0, .int .i64 a1_1, .string a1_2, .bool a1_3] 25 (0, 0)) (by (with_reducible repeat (first | refine blk_drewN ?_ _ | refine blk_drew ?_ | refine blk_alloc ?_ _)); refine blk_far ?_ NB230_245.out _; (with_reducible repeat (first | refine blk_drewN ?_ _ | refine blk_drew ?_ | refine blk_alloc ?_ _)); refine blk_far ?_ NB230_245.out _; (with_reducible repeat (first | refine blk_drewN ?_ _ | refine blk_drew ?_ | refine blk_alloc ?_ _)); refine blk_far ?_ NB230_245.out _; (with_reducible repeat (first | refine blk_drewN ?_ _ | refine blk_drew ?_ | refine blk_alloc ?_ _)); refine blk_far ?_ NB230_245.out _; (with_reducible repeat (first | refine blk_drewN ?_ _ | refine blk_drew ?_ | refine blk_alloc ?_ _)); exact BK230.out) hb); have n2_ := Aside0.mk (blk_below (g := gb231) (o := .cells #[.int .i64 a2_0, .int .i64 a2_1] 26 (0, 0)) (by (with_reducible repeat (first | refine blk_drewN ?_ _ | refine blk_drew ?_ | refine blk_alloc ?_ _)); refine blk_far ?_ NB231_245.out _; (with_reducible repeat (first | refine blk_drewN ?_ _ | refine blk_drew ?_ | refine blk_alloc ?_ _)); refine blk_far ?_ NB231_245.out _; (with_reducible repeat (first | refine blk_drewN ?_ _ | refine blk_drew ?_ | refine blk_alloc ?_ _)); refine blk_far ?_ NB231_245.out _; (with_reducible repeat (first | refine blk_drewN ?_ _ | refine blk_drew ?_ | refine blk_alloc ?_ _)); refine blk_far ?_ NB231_245.out _; (with_reducible repeat (first | refine blk_drewN ?_ _ | refine blk_drew ?_ | refine blk_alloc ?_ _)); exact BK231.out) hb); have n3_ := Aside0.mk (blk_below (g := gb232) (o := .cells #[.int .i64 a1_0, .int .i64 a1_1, .string (((a1_2.extract 0 ((ji54) : Int).toNat) ++ (⟨#[126]⟩ : ByteArray)) ++ (ji61)), .bool a1_3] 25 (0, 0)) (by (with_reducible repeat (first | refine blk_drewN ?_ _ | refine blk_drew ?_ | refine blk_alloc ?_ _)); refine blk_far ?_ NB232_245.out _; (with_reducible repeat (first | refine blk_drewN ?_ _ | refine blk_drew ?_ | refine blk_alloc ?_ _)); refine blk_far ?_ NB232_245.out _; (with_reducible repeat (first | refine blk_drewN ?_ _ | refine blk_drew ?_ | refine blk_alloc ?_ _)); refine blk_far ?_ NB232_245.out _; (with_reducible repeat (first | refine blk_drewN ?_ _ | refine blk_drew ?_ | refine blk_alloc ?_ _)); refine blk_far ?_ NB232_245.out _; (with_reducible repeat (first | refine blk_drewN ?_ _ | refine blk_drew ?_ | refine blk_alloc ?_ _)); exact BK232.out) hb); have n4_ := Aside0.mk (blk_below (g := gb238) (o := .cells #[.int .i64 t233, .int .i64 t234, .string t235, .bool t236] 25 (0, 0)) (by (with_reducible repeat (first | refine blk_drewN ?_ _ | refine blk_drew ?_ | refine blk_alloc ?_ _)); refine blk_far ?_ NB238_245.out _; (with_reducible repeat (first | refine blk_drewN ?_ _ | refine blk_drew ?_ | refine blk_alloc ?_ _)); refine blk_far ?_ NB238_245.out _; (with_reducible repeat (first | refine blk_drewN ?_ _ | refine blk_drew ?_ | refine blk_alloc ?_ _)); refine blk_far ?_ NB238_245.out _; (with_reducible repeat (first | refine blk_drewN ?_ _ | refine blk_drew ?_ | refine blk_alloc ?_ _)); refine blk_far ?_ NB238_245.out _; (with_reducible repeat (first | refine blk_drewN ?_ _ | refine blk_drew ?_ | refine blk_alloc ?_ _)); exact BK238.out) hb); have n5_ := Aside0.mk (blk_below (g := gb245) (o := .cells #[.int .i64 t240, .int .i64 t241, .string t242, .bool t243] 25 (0, 0)) (by (with_reducible repeat (first | refine blk_drewN ?_ _ | refine blk_drew ?_ | refine blk_alloc ?_ _)); refine blk_put (cs := #[.int .i64 t240, .int .i64 t241, .string t242, .bool false]) ?_ 3 _ (by first | rfl | (simp only [w64_256, wu64_256]; rfl) | (subst_vars; simp only [w64_256, wu64_256, shl, wu32_mod, Int.one_mul]; rfl)); (with_reducible repeat (first | refine blk_drewN ?_ _ | refine blk_drew ?_ | refine blk_alloc ?_ _)); refine blk_put (cs := #[.int .i64 t240, .int .i64 t241, .string (⟨#[]⟩ : ByteArray), .bool false]) ?_ 2 _ (by first | rfl | (simp only [w64_256, wu64_256]; rfl) | (subst_vars; simp only [w64_256, wu64_256, shl, wu32_mod, Int.one_mul]; rfl)); (with_reducible repeat (first | refine blk_drewN ?_ _ | refine blk_drew ?_ | refine blk_alloc ?_ _)); refine blk_put (cs := #[.int .i64 t240, .int .i64 0, .string (⟨#[]⟩ : ByteArray), .bool false]) ?_ 1 _ (by first | rfl | (simp only [w64_256, wu64_256]; rfl) | (subst_vars; simp only [w64_256, wu64_256, shl, wu32_mod, Int.one_mul]; rfl)); (with_reducible repeat (first | refine blk_drewN ?_ _ | refine blk_drew ?_ | refine blk_alloc ?_ _)); refine blk_put (cs := #[.int .i64 0, .int .i64 0, .string (⟨#[]⟩ : ByteArray), .bool false]) ?_ 0 _ (by first | rfl | (simp only [w64_256, wu64_256]; rfl) | (subst_vars; simp only [w64_256, wu64_256, shl, wu32_mod, Int.one_mul]; rfl)); (with_reducible repeat (first | refine blk_drewN ?_ _ | refine blk_drew ?_ | refine blk_alloc ?_ _)); exact BK245.out) hb); have n6_ := Aside0.mk (below_step (bh_ HB) hb); clear BK229; clear BK230; clear BK231; clear BK232; clear BK238; clear BK245; clear HB; have BK229 := n0_; have BK230 := n1_; have BK231 := n2_; have BK232 := n3_; have BK238 := n4_; have BK245 := n5_; have HB := n6_; clear n0_ n1_ n2_ n3_ n4_ n5_ n6_; (try clear hb); (try clear hb2); (try clear hk); (try clear hi)) | (go_at_call 5; (first | ((with_reducible refine (barbicanlaw24_sure.calls kj4  t248 _ A67.out).mono ?_))); rintro e wz ⟨rfl, hb⟩; have n0_ := Aside0.mk (blk_below (g := gb229) (o := .cells #[.string a0_0, .int .i64 a0_1, .int .i64 a0_2] 23 (0, 0)) (bk_ BK229) hb); have n1_ := Aside0.mk (blk_below (g := gb230) (o := .cells #[.int .i64 a1_0, .int .i64 a1_1, .string a1_2, .bool a1_3] 25 (0, 0)) (bk_ BK230) hb); have n2_ := Aside0.mk (blk_below (g := gb231) (o := .cells #[.int .i64 a2_0, .int .i64 a2_1] 26 (0, 0)) (bk_ BK231) hb); have n3_ := Aside0.mk (blk_below (g := gb232) (o := .cells #[.int .i64 a1_0, .int .i64 a1_1, .string (((a1_2.extract 0 ((ji54) : Int).toNat) ++ (⟨#[126]⟩ : ByteArray)) ++ (ji61)), .bool a1_3] 25 (0, 0)) (bk_ BK232) hb); have n4_ := Aside0.mk (blk_below (g := gb238) (o := .cells #[.int .i64 t233, .int .i64 t234, .string t235, .bool t236] 25 (0, 0)) (bk_ BK238) hb); have n5_ := Aside0.mk (blk_below (g := gb245) (o := .cells #[.int .i64 t240, .int .i64 t241, .string t242, .bool t243] 25 (0, 0)) (bk_ BK245) hb); have n6_ := Aside0.mk (below_step (bh_ HB) hb); clear BK229; clear BK230; clear BK231; clear BK232; clear BK238; clear BK245; clear HB; have BK229 := n0_; have BK230 := n1_; have BK231 := n2_; have BK232 := n3_; have BK238 := n4_; have BK245 := n5_; have HB := n6_; clear n0_ n1_ n2_ n3_ n4_ n5_ n6_; (try clear hb); (try clear hb2); (try clear hk); (try clear hi)))
               go_ret
               exact ⟨by first | rfl | (simp [errW_none, errW_some] <;> rfl) | (simp only [← hji54, ← hji58, ← hji61]; first | rfl | (simp [errW_none, errW_some] <;> rfl)) | (simp [*, errW_none, errW_some] <;> rfl), by repeat (first | (with_reducible first | exact HB.out | apply below_alloc | apply pw_below_drewN | apply below_drew1 | refine below_set ?_ GE229.out | refine below_set ?_ GE230.out | refine below_set ?_ GE231.out | refine below_set ?_ GE232.out | refine below_set ?_ GE238.out | refine below_set ?_ GE245.out) | exact HB.out | exact below_undrew HB.out)⟩
              ·rw [if_neg c66] at H
               have c66b0 : (t247 == 0) = false := beq_eq_false_iff_ne.mpr c66
               have c66b1 : (t247 != 0) = true := bne_iff_ne.mpr c66
               exact absurd (Option.some.inj H) (by rw [hT.out]; decide)
             ·rw [if_neg c64] at H
              have c64b0 : (t233 == t240 && (t234 == t241 && (t235.toList == t242.toList && (t236 == t243)))) = false := by simpa using c64
              (try (have c64b1 : decide (t233 = t240 && (t234 == t241 && (t235.toList == t242.toList && (t236 == t243)))) = false := by simpa using c64))
              (try (have c64b2 : (t233 == t240 && (t234 == t241 && (t235.toList == t242.toList && (t236 == t243)))) = false := by simpa using c64))
              (try (have c64b3 : ¬ (t233 = t240 && (t234 == t241 && (t235.toList == t242.toList && (t236 == t243)))) := by simpa using c64))
              clear c64
              exact absurd (Option.some.inj H) (by rw [hT.out]; decide)
            ·have H1 : (some false) = some r := by rw [if_neg (show ¬ (some q246).isNone = true by simp)] at H; exact H
             clear H
             have H := H1
             clear H1
             try simp only [errW_none, errW_some]
             exact absurd (Option.some.inj H) (by rw [hT.out]; decide)
           ·rw [if_neg c62] at H
            exact absurd H (by simp)
          ·rw [if_neg c60] at H
           exact absurd H (by simp)
         ·rw [if_neg c59] at H
          exact absurd H (by simp)
        ·rw [if_neg c57] at H
         exact absurd H (by simp)
       ·rw [if_neg c56] at H
        exact absurd H (by simp)
      ·rw [if_neg c55] at H
       exact absurd H (by simp)
    ·replace c52 := Bool.eq_false_iff.mpr c52
     subst c52
     have H1 : (if a1_0 = 1 then (barbicanlaw24_GuardBlind.j1 kj4 (a0_1 == 3) a0_0 a0_1 a0_2 a1_0 a1_1 a1_2 a1_3 a2_0 a2_1 a1_0 a1_1 a1_2 a1_3 t233 t234 t235 t236) else (barbicanlaw24_GuardBlind.j1 kj4 false a0_0 a0_1 a0_2 a1_0 a1_1 a1_2 a1_3 a2_0 a2_1 a1_0 a1_1 a1_2 a1_3 t233 t234 t235 t236)) = some r := by rw [if_neg (show ¬ (false = true) by decide)] at H; exact H
     clear H
     have H := H1
     clear H1
     have HC93 := Aside0.mk H
     clear H
     go_upto_region 8 with (fail)
     go_cut [72] (fun v72 wc => ∃ (kq : Nat) (x72_92 : Bool), v72 = .bool x72_92 ∧ Aside0 (barbicanlaw24_GuardBlind.j1 kq x72_92 a0_0 a0_1 a0_2 a1_0 a1_1 a1_2 a1_3 a2_0 a2_1 a1_0 a1_1 a1_2 a1_3 t233 t234 t235 t236 = some r) ∧ Aside0 (kq ≤ kj4) ∧ Aside0 (wc.heap[gb229]? = some (.cells #[.string a0_0, .int .i64 a0_1, .int .i64 a0_2] 23 (0, 0))) ∧ Aside0 (wc.heap[gb230]? = some (.cells #[.int .i64 a1_0, .int .i64 a1_1, .string a1_2, .bool a1_3] 25 (0, 0))) ∧ Aside0 (wc.heap[gb231]? = some (.cells #[.int .i64 a2_0, .int .i64 a2_1] 26 (0, 0))) ∧ Aside0 (wc.heap[gb232]? = some (.cells #[.int .i64 a1_0, .int .i64 a1_1, .string a1_2, .bool a1_3] 25 (0, 0))) ∧ Aside0 (wc.heap[gb238]? = some (.cells #[.int .i64 t233, .int .i64 t234, .string t235, .bool t236] 25 (0, 0))) ∧ Aside0 (Below w.heap.size w wc))
     case first =>
      have H := HC93.out
      clear HC93
      by_cases c94 : a1_0 = 1
      ·rw [if_pos c94] at H
       have c94b0 : (a1_0 == 1) = true := beq_iff_eq.mpr c94
       have c94b1 : (a1_0 != 1) = false := bne_eq_false_iff_eq.mpr c94
       clear c94
       (first | rw [c94b0] | (simp only [i64_w, i32_w]; rw [c94b0]) | skip)
       have H' := Aside0.mk H
       clear H
       have hnb95 := NB230_229.out
       have hnc95 := NB229_230.out
       have hnb96 := NB230_231.out
       have hnc96 := NB231_230.out
       have hnb97 := NB230_232.out
       have hnc97 := NB232_230.out
       have hnb98 := NB230_238.out
       have hnc98 := NB238_230.out
       have hcz99_0 : wc.cell? ⟨gb230, 0, none⟩ = some (.int .i64 a1_0) := (blk_cell BK230.out 0).trans rfl
       have hcz99_1 : wc.cell? ⟨gb230, 1, none⟩ = some (.int .i64 a1_1) := (blk_cell BK230.out 1).trans rfl
       have hcz99_2 : wc.cell? ⟨gb230, 2, none⟩ = some (.string a1_2) := (blk_cell BK230.out 2).trans rfl
       have hcz99_3 : wc.cell? ⟨gb230, 3, none⟩ = some (.bool a1_3) := (blk_cell BK230.out 3).trans rfl
       have hfz99_0 := blk_frozen BK230.out 0
       have hfz99_1 := blk_frozen BK230.out 1
       have hfz99_2 := blk_frozen BK230.out 2
       have hfz99_3 := blk_frozen BK230.out 3
       have hnb100 := NB229_231.out
       have hnc100 := NB231_229.out
       have hnb101 := NB229_232.out
       have hnc101 := NB232_229.out
       have hnb102 := NB229_238.out
       have hnc102 := NB238_229.out
       have hcz103_0 : wc.cell? ⟨gb229, 0, none⟩ = some (.string a0_0) := (blk_cell BK229.out 0).trans rfl
       have hcz103_1 : wc.cell? ⟨gb229, 1, none⟩ = some (.int .i64 a0_1) := (blk_cell BK229.out 1).trans rfl
       have hcz103_2 : wc.cell? ⟨gb229, 2, none⟩ = some (.int .i64 a0_2) := (blk_cell BK229.out 2).trans rfl
       have hfz103_0 := blk_frozen BK229.out 0
       have hfz103_1 := blk_frozen BK229.out 1
       have hfz103_2 := blk_frozen BK229.out 2
       go_wp2
       go_meet
       case rel => exact ⟨_, ((a0_1 == 3)), (by first | rfl | (simp; done) | (simp [*]; done)), H', ⟨by have := HJ4.out; first | omega | exact Nat.le_refl _⟩, ⟨bk_ BK229⟩, ⟨bk_ BK230⟩, ⟨bk_ BK231⟩, ⟨bk_ BK232⟩, ⟨bk_ BK238⟩, ⟨by repeat (first | (with_reducible first | exact HB.out | apply below_alloc | apply pw_below_drewN | apply below_drew1 | refine below_set ?_ GE229.out | refine below_set ?_ GE230.out | refine below_set ?_ GE231.out | refine below_set ?_ GE232.out | refine below_set ?_ GE238.out) | exact HB.out | exact below_undrew HB.out)⟩⟩
      ·rw [if_neg c94] at H
       have c94b0 : (a1_0 == 1) = false := beq_eq_false_iff_ne.mpr c94
       have c94b1 : (a1_0 != 1) = true := bne_iff_ne.mpr c94
       (first | rw [c94b0] | (simp only [i64_w, i32_w]; rw [c94b0]) | skip)
       have H' := Aside0.mk H
       clear H
       have hnb104 := NB230_229.out
       have hnc104 := NB229_230.out
       have hnb105 := NB230_231.out
       have hnc105 := NB231_230.out
       have hnb106 := NB230_232.out
       have hnc106 := NB232_230.out
       have hnb107 := NB230_238.out
       have hnc107 := NB238_230.out
       have hcz108_0 : wc.cell? ⟨gb230, 0, none⟩ = some (.int .i64 a1_0) := (blk_cell BK230.out 0).trans rfl
       have hcz108_1 : wc.cell? ⟨gb230, 1, none⟩ = some (.int .i64 a1_1) := (blk_cell BK230.out 1).trans rfl
       have hcz108_2 : wc.cell? ⟨gb230, 2, none⟩ = some (.string a1_2) := (blk_cell BK230.out 2).trans rfl
       have hcz108_3 : wc.cell? ⟨gb230, 3, none⟩ = some (.bool a1_3) := (blk_cell BK230.out 3).trans rfl
       have hfz108_0 := blk_frozen BK230.out 0
       have hfz108_1 := blk_frozen BK230.out 1
       have hfz108_2 := blk_frozen BK230.out 2
       have hfz108_3 := blk_frozen BK230.out 3
       go_wp2
       go_meet
       case rel => exact ⟨_, (false), (by first | rfl | (simp; done) | (simp [*]; done)), H', ⟨by have := HJ4.out; first | omega | exact Nat.le_refl _⟩, ⟨bk_ BK229⟩, ⟨bk_ BK230⟩, ⟨bk_ BK231⟩, ⟨bk_ BK232⟩, ⟨bk_ BK238⟩, ⟨by repeat (first | (with_reducible first | exact HB.out | apply below_alloc | apply pw_below_drewN | apply below_drew1 | refine below_set ?_ GE229.out | refine below_set ?_ GE230.out | refine below_set ?_ GE231.out | refine below_set ?_ GE232.out | refine below_set ?_ GE238.out) | exact HB.out | exact below_undrew HB.out)⟩⟩
     case rest =>
      clear HC93
      (try clear c1); (try clear p2); (try clear q2); (try clear c4); (try clear c5); (try clear c6); (try clear p6); (try clear c7); (try clear c8); (try clear c9); (try clear c10); (try clear q23); (try clear q24); (try clear c44); (try clear c45); (try clear c47); (try clear c48); (try clear c49); (try clear c50); (try clear c52); (try clear c53); (try clear c53b0); (try clear c53b1); (try clear c55); (try clear c55b0); (try clear c55b1); (try clear c56); (try clear c56b0); (try clear c56b1); (try clear c57); (try clear c57b0); (try clear c57b1); (try clear c57b2); (try clear c59); (try clear c59b0); (try clear c59b1); (try clear c60); (try clear c60b0); (try clear c60b1); (try clear c62); (try clear c62b0); (try clear c62b1); (try clear c62b2); (try clear c64); (try clear c64b0); (try clear c64b1); (try clear c64b2); (try clear p64); (try clear c66); (try clear c66b0); (try clear c66b1); (try clear c71); (try clear c72); (try clear c73); (try clear c74); (try clear c76); (try clear c77); (try clear c78); (try clear c82); (try clear c83); (try clear c84); (try clear c85); (try clear c86); (try clear c88); (try clear c89); (try clear c94); (try clear c94b0); (try clear c94b1); (try clear c95); (try clear c96); (try clear c97); (try clear c98); (try clear c100); (try clear c101); (try clear c102); (try clear c104); (try clear c105); (try clear c106); (try clear c107); (try clear q239); (try clear q246)
      obtain ⟨kq, x72_92, rfl, HA, HJ92, BK229, BK230, BK231, BK232, BK238, HB⟩ := hcut
      cases kq with
      | zero => exact absurd HA.out (by simp [barbicanlaw24_GuardBlind.j1])
      | succ kj92 =>
       have H := HA.out
       clear HA
       simp only [barbicanlaw24_GuardBlind.j1] at H
       by_cases c109 : x72_92 = true
       ·subst c109
        have H1 : (if (IntKind.u64.wrap (a0_2)) = 0 then (none) else (if (wrap64 (t234 + (wrap64 (Int.tmod (IntKind.u64.wrap (a2_0)) (IntKind.u64.wrap (a0_2)))))) < t234 then ((barbicanlaw24_sure.f kj92).bind fun t249 => (some t249)) else ((guard_Apply.f kj92 a0_0 a0_1 a0_2 a1_0 (wrap64 (t234 + (wrap64 (Int.tmod (IntKind.u64.wrap (a2_0)) (IntKind.u64.wrap (a0_2)))))) a1_2 a1_3).bind fun bt250 => (if bt250.2.2.2.2.isNone = true then (if (t233 == bt250.1 && (t234 == bt250.2.1 && (t235.toList == bt250.2.2.1.toList && (t236 == bt250.2.2.2.1)))) = true then ((barbicanref05_Valid.f kj92 t233 t234 t235 t236).bind fun t257 => (if t257 = 0 then ((barbicanlaw24_sure.f kj92).bind fun t258 => (some t258)) else (some false))) else (some false)) else (some false))))) = some r := by rw [if_pos rfl] at H; exact H
        clear H
        have H := H1
        clear H1
        by_cases c110 : (IntKind.u64.wrap (a0_2)) = 0
        ·rw [if_pos c110] at H
         exact absurd H (by simp)
        ·rw [if_neg c110] at H
         have c110b0 : ((IntKind.u64.wrap (a0_2)) == 0) = false := beq_eq_false_iff_ne.mpr c110
         have c110b1 : ((IntKind.u64.wrap (a0_2)) != 0) = true := bne_iff_ne.mpr c110
         by_cases c111 : (wrap64 (t234 + (wrap64 (Int.tmod (IntKind.u64.wrap (a2_0)) (IntKind.u64.wrap (a0_2)))))) < t234
         ·rw [if_pos c111] at H
          have c111b0 : decide ((wrap64 (t234 + (wrap64 (Int.tmod (IntKind.u64.wrap (a2_0)) (IntKind.u64.wrap (a0_2)))))) < t234) = true := decide_eq_true c111
          clear c111
          replace H := Option.bind_eq_some_iff.mp H
          obtain ⟨t249, A1120, H⟩ := H
          replace H : (some t249) = some r := H
          have A112 := Aside0.mk A1120
          clear A1120
          obtain rfl := Option.some.inj H
          try go_wp2
          have n0_ := Aside0.mk (blk_drew BK229.out)
          have n1_ := Aside0.mk (blk_drew BK230.out)
          have n2_ := Aside0.mk (blk_drew BK231.out)
          have n3_ := Aside0.mk (blk_drew BK232.out)
          have n4_ := Aside0.mk (blk_drew BK238.out)
          have n5_ := Aside0.mk (below_drew1 HB.out)
          clear BK229
          clear BK230
          clear BK231
          clear BK232
          clear BK238
          clear HB
          have BK229 := n0_
          have BK230 := n1_
          have BK231 := n2_
          have BK232 := n3_
          have BK238 := n4_
          have HB := n5_
          clear n0_ n1_ n2_ n3_ n4_ n5_
          refine start_ (n := 13) (S := fun w' => w'.cell? ⟨gb238, 0, none⟩ = some (.int .i64 t233) ∧ w'.cell? ⟨gb238, 1, none⟩ = some (.int .i64 t234) ∧ w'.cell? ⟨gb238, 2, none⟩ = some (.string t235) ∧ w'.cell? ⟨gb238, 3, none⟩ = some (.bool t236) ∧ w'.cell? ⟨gb231, 0, none⟩ = some (.int .i64 a2_0) ∧ w'.cell? ⟨gb231, 1, none⟩ = some (.int .i64 a2_1) ∧ w'.cell? ⟨gb229, 0, none⟩ = some (.string a0_0) ∧ w'.cell? ⟨gb229, 1, none⟩ = some (.int .i64 a0_1) ∧ w'.cell? ⟨gb229, 2, none⟩ = some (.int .i64 a0_2)) (ds := []) #[false, false, false, false, false, false, false, false, false, false, false, false, false] (by kernel_rfl) rfl rfl ⟨(blk_cell BK238.out 0).trans rfl, (blk_cell BK238.out 1).trans rfl, (blk_cell BK238.out 2).trans rfl, (blk_cell BK238.out 3).trans rfl, (blk_cell BK231.out 0).trans rfl, (blk_cell BK231.out 1).trans rfl, (blk_cell BK229.out 0).trans rfl, (blk_cell BK229.out 1).trans rfl, (blk_cell BK229.out 2).trans rfl⟩ (fun hHeld => ?_); refine with_tabW barbicanlaw24_GuardBlind.tab9 barbicanlaw24_GuardBlind.bits9 (fun HT_ HW_ => ?_)
          generalize wc.drew = w113 at BK229 BK230 BK231 BK232 BK238 HB hHeld ⊢
          refine pure_ (i := 0) (N := some 81) (v := ?_) (a' := ?_) #[true, false, false, false, false, false, false, false, false, false, false, false, false] rfl rfl (any_of HT_.out (by kernel_rfl)) (fun _ _ _ h => h) (Or.inl ⟨by rfl, ?_⟩) ?_ ?_
          rotate_left
          ·intro w'
           go_simp
           with_reducible rfl
          rotate_left
          ·simp only [Act.put, List.setIfInBounds_toArray, List.set_cons_zero, List.set_cons_succ, i64_w, i32_w]
           rfl
          refine pure_ (i := 2) (N := some 83) (v := ?_) (a' := ?_) #[true, false, true, false, false, false, false, false, false, false, false, false, false] rfl rfl (any_of HT_.out (by kernel_rfl)) (fun _ _ _ h => h) (Or.inl ⟨by rfl, ?_⟩) ?_ ?_
          rotate_left
          ·intro w'
           go_simp
           with_reducible rfl
          rotate_left
          ·simp only [Act.put, List.setIfInBounds_toArray, List.set_cons_zero, List.set_cons_succ, i64_w, i32_w]
           rfl
          refine pure_ (i := 5) (N := some 86) (v := ?_) (a' := ?_) #[true, false, true, false, false, true, false, false, false, false, false, false, false] rfl rfl (any_of HT_.out (by kernel_rfl)) (fun _ _ _ h => h) (Or.inl ⟨by rfl, ?_⟩) ?_ ?_
          rotate_left
          ·intro w'
           go_simp
           with_reducible rfl
          rotate_left
          ·simp only [Act.put, List.setIfInBounds_toArray, List.set_cons_zero, List.set_cons_succ, i64_w, i32_w]
           rfl
          refine take_ (i := 1) (N := some 82) (v := ?_) (a' := ?_) #[true, true, true, false, false, true, false, false, false, false, false, false, false] rfl rfl (take_ofW HT_.out HW_.out (by kernel_rfl)) (fun _ _ _ h => h) (Or.inl ⟨by rfl, ?_⟩) hHeld ?_ ?_
          rotate_left
          ·rintro w' ⟨s0, s1, s2, s3, s4, s5, s6, s7, s8⟩
           go_simp
           with_reducible rfl
          rotate_left
          ·simp only [Act.put, List.setIfInBounds_toArray, List.set_cons_zero, List.set_cons_succ, i64_w, i32_w]
           rfl
          refine take_ (i := 3) (N := some 84) (v := ?_) (a' := ?_) #[true, true, true, true, false, true, false, false, false, false, false, false, false] rfl rfl (take_ofW HT_.out HW_.out (by kernel_rfl)) (fun _ _ _ h => h) (Or.inl ⟨by rfl, ?_⟩) hHeld ?_ ?_
          rotate_left
          ·rintro w' ⟨s0, s1, s2, s3, s4, s5, s6, s7, s8⟩
           go_simp
           with_reducible rfl
          rotate_left
          ·simp only [Act.put, List.setIfInBounds_toArray, List.set_cons_zero, List.set_cons_succ, i64_w, i32_w]
           rfl
          refine pure_ (i := 4) (N := some 85) (v := ?_) (a' := ?_) #[true, true, true, true, true, true, false, false, false, false, false, false, false] rfl rfl (any_of HT_.out (by kernel_rfl)) (fun _ _ _ h => h) (Or.inl ⟨by rfl, ?_⟩) ?_ ?_
          rotate_left
          ·intro w'
           go_simp
           with_reducible rfl
          rotate_left
          ·simp only [Act.put, List.setIfInBounds_toArray, List.set_cons_zero, List.set_cons_succ, i64_w, i32_w]
           rfl
          refine take_ (i := 6) (N := some 87) (v := ?_) (a' := ?_) #[true, true, true, true, true, true, true, false, false, false, false, false, false] rfl rfl (take_ofW HT_.out HW_.out (by kernel_rfl)) (fun _ _ _ h => h) (Or.inl ⟨by rfl, ?_⟩) hHeld ?_ ?_
          rotate_left
          ·rintro w' ⟨s0, s1, s2, s3, s4, s5, s6, s7, s8⟩
           go_simp
           with_reducible rfl
          rotate_left
          ·simp only [Act.put, List.setIfInBounds_toArray, List.set_cons_zero, List.set_cons_succ, i64_w, i32_w]
           rfl
          refine pure_ (i := 7) (N := some 88) (v := ?_) (a' := ?_) #[true, true, true, true, true, true, true, true, false, false, false, false, false] rfl rfl (any_of HT_.out (by kernel_rfl)) (fun _ _ _ h => h) (Or.inl ⟨by rfl, ?_⟩) ?_ ?_
          rotate_left
          ·intro w'
           go_simp
           with_reducible rfl
          rotate_left
          ·simp only [Act.put, List.setIfInBounds_toArray, List.set_cons_zero, List.set_cons_succ, i64_w, i32_w]
           rfl
          refine pure_ (i := 8) (N := some 89) (v := ?_) (a' := ?_) #[true, true, true, true, true, true, true, true, true, false, false, false, false] rfl rfl (any_of HT_.out (by kernel_rfl)) (fun _ _ _ h => h) (Or.inl ⟨by rfl, ?_⟩) ?_ ?_
          rotate_left
          ·intro w'
           go_simp
           with_reducible rfl
          rotate_left
          ·simp only [Act.put, List.setIfInBounds_toArray, List.set_cons_zero, List.set_cons_succ, i64_w, i32_w]
           rfl
          refine pure_ (i := 9) (N := some 90) (v := ?_) (a' := ?_) #[true, true, true, true, true, true, true, true, true, true, false, false, false] rfl rfl (any_of HT_.out (by kernel_rfl)) (fun _ _ _ h => h) (Or.inl ⟨by rfl, ?_⟩) ?_ ?_
          rotate_left
          ·intro w'
           go_simp
           with_reducible rfl
          rotate_left
          ·simp only [Act.put, List.setIfInBounds_toArray, List.set_cons_zero, List.set_cons_succ, i64_w, i32_w]
           rfl
          refine pure_ (i := 10) (N := some 91) (v := ?_) (a' := ?_) #[true, true, true, true, true, true, true, true, true, true, true, false, false] rfl rfl (any_of HT_.out (by kernel_rfl)) (fun _ _ _ h => h) (Or.inl ⟨by rfl, ?_⟩) ?_ ?_
          rotate_left
          ·intro w'
           go_simp
           with_reducible rfl
          rotate_left
          ·simp only [Act.put, List.setIfInBounds_toArray, List.set_cons_zero, List.set_cons_succ, i64_w, i32_w]
           rfl
          refine pure_ (i := 11) (N := some 92) (v := ?_) (a' := ?_) #[true, true, true, true, true, true, true, true, true, true, true, true, false] rfl rfl (any_of HT_.out (by kernel_rfl)) (fun _ _ _ h => h) (Or.inl ⟨by rfl, ?_⟩) ?_ ?_
          rotate_left
          ·intro w'
           go_simp
           with_reducible rfl
          rotate_left
          ·simp only [Act.put, List.setIfInBounds_toArray, List.set_cons_zero, List.set_cons_succ, i64_w, i32_w]
           rfl
          refine one_ (i := 12) (N := none) #[true, true, true, true, true, true, true, true, true, true, true, true, true] rfl rfl (one_of HT_.out (by kernel_rfl)) (by decide) (fun K hK => ?_)
          have hs114 : w113.cell? ⟨gb232, 1, none⟩ = some (.int .i64 a1_1) := (blk_cell BK232.out 1).trans rfl
          have hfs114 := blk_frozen BK232.out 1
          have hns114_0 := NB229_232.out
          have hns114_1 := NB230_232.out
          have hns114_2 := NB231_232.out
          have hns114_4 := NB238_232.out
          have hms114_0 := NB232_229.out
          have hms114_1 := NB232_230.out
          have hms114_2 := NB232_231.out
          have hms114_4 := NB232_238.out
          refine skip_ (w1 := ?_) (by rfl) rfl ?_ ?_
          rotate_left
          ·go_simp
           rfl
          refine hK.out _ _ ⟨((cell_far (p := ⟨gb232, _, none⟩) NB238_232.out _).trans (hHeld.1)), ((cell_far (p := ⟨gb232, _, none⟩) NB238_232.out _).trans (hHeld.2.1)), ((cell_far (p := ⟨gb232, _, none⟩) NB238_232.out _).trans (hHeld.2.2.1)), ((cell_far (p := ⟨gb232, _, none⟩) NB238_232.out _).trans (hHeld.2.2.2.1)), ((cell_far (p := ⟨gb232, _, none⟩) NB231_232.out _).trans (hHeld.2.2.2.2.1)), ((cell_far (p := ⟨gb232, _, none⟩) NB231_232.out _).trans (hHeld.2.2.2.2.2.1)), ((cell_far (p := ⟨gb232, _, none⟩) NB229_232.out _).trans (hHeld.2.2.2.2.2.2.1)), ((cell_far (p := ⟨gb232, _, none⟩) NB229_232.out _).trans (hHeld.2.2.2.2.2.2.2.1)), ((cell_far (p := ⟨gb232, _, none⟩) NB229_232.out _).trans (hHeld.2.2.2.2.2.2.2.2))⟩ (fun hHeld => ?_)
          clear hK K
          refine done_ (done_of HT_.out (by kernel_rfl)) ?_
          have hnb115 := NB232_229.out
          have hnc115 := NB229_232.out
          have hnb116 := NB232_230.out
          have hnc116 := NB230_232.out
          have hnb117 := NB232_231.out
          have hnc117 := NB231_232.out
          have hnb118 := NB232_238.out
          have hnc118 := NB238_232.out
          have hcz119_0 : w113.cell? ⟨gb232, 0, none⟩ = some (.int .i64 a1_0) := (blk_cell BK232.out 0).trans rfl
          have hcz119_1 : w113.cell? ⟨gb232, 1, none⟩ = some (.int .i64 a1_1) := (blk_cell BK232.out 1).trans rfl
          have hcz119_2 : w113.cell? ⟨gb232, 2, none⟩ = some (.string a1_2) := (blk_cell BK232.out 2).trans rfl
          have hcz119_3 : w113.cell? ⟨gb232, 3, none⟩ = some (.bool a1_3) := (blk_cell BK232.out 3).trans rfl
          have hfz119_0 := blk_frozen BK232.out 0
          have hfz119_1 := blk_frozen BK232.out 1
          have hfz119_2 := blk_frozen BK232.out 2
          have hfz119_3 := blk_frozen BK232.out 3
          have hnb120 := NB238_229.out
          have hnc120 := NB229_238.out
          have hnb121 := NB238_230.out
          have hnc121 := NB230_238.out
          have hnb122 := NB238_231.out
          have hnc122 := NB231_238.out
          have hcz123_0 : w113.cell? ⟨gb238, 0, none⟩ = some (.int .i64 t233) := (blk_cell BK238.out 0).trans rfl
          have hcz123_1 : w113.cell? ⟨gb238, 1, none⟩ = some (.int .i64 t234) := (blk_cell BK238.out 1).trans rfl
          have hcz123_2 : w113.cell? ⟨gb238, 2, none⟩ = some (.string t235) := (blk_cell BK238.out 2).trans rfl
          have hcz123_3 : w113.cell? ⟨gb238, 3, none⟩ = some (.bool t236) := (blk_cell BK238.out 3).trans rfl
          have hfz123_0 := blk_frozen BK238.out 0
          have hfz123_1 := blk_frozen BK238.out 1
          have hfz123_2 := blk_frozen BK238.out 2
          have hfz123_3 := blk_frozen BK238.out 3
          try go_wp2_with (first | ((with_reducible refine gate_callee (f := 5) rfl ?_); refine goesL_ (some 98) rfl rfl Try.func5 (by kernel_rfl) rfl #[] rfl (by (try simp only [List.map_toArray, List.map_cons, List.map_nil]); first | done | rfl | (simp only [List.length_drop, List.length_take]; rfl)) ?_; (with_reducible refine (barbicanlaw24_sure.calls kj92  t249 _ A112.out).mono ?_); rintro e w124 ⟨rfl, hb⟩; refine ⟨_, rfl, ?_⟩; have n0_ := Aside0.mk (blk_below (g := gb229) (o := .cells #[.string a0_0, .int .i64 a0_1, .int .i64 a0_2] 23 (0, 0)) (by (with_reducible repeat (first | refine blk_drewN ?_ _ | refine blk_drew ?_ | refine blk_alloc ?_ _)); refine blk_far ?_ NB229_232.out _; (with_reducible repeat (first | refine blk_drewN ?_ _ | refine blk_drew ?_ | refine blk_alloc ?_ _)); exact BK229.out) hb); have n1_ := Aside0.mk (blk_below (g := gb230) (o := .cells #[.int .i64 a1_0, .int .i64 a1_1, .string a1_2, .bool a1_3] 25 (0, 0)) (by (with_reducible repeat (first | refine blk_drewN ?_ _ | refine blk_drew ?_ | refine blk_alloc ?_ _)); refine blk_far ?_ NB230_232.out _; (with_reducible repeat (first | refine blk_drewN ?_ _ | refine blk_drew ?_ | refine blk_alloc ?_ _)); exact BK230.out) hb); have n2_ := Aside0.mk (blk_below (g := gb231) (o := .cells #[.int .i64 a2_0, .int .i64 a2_1] 26 (0, 0)) (by (with_reducible repeat (first | refine blk_drewN ?_ _ | refine blk_drew ?_ | refine blk_alloc ?_ _)); refine blk_far ?_ NB231_232.out _; (with_reducible repeat (first | refine blk_drewN ?_ _ | refine blk_drew ?_ | refine blk_alloc ?_ _)); exact BK231.out) hb); have n3_ := Aside0.mk (blk_below (g := gb232) (o := .cells #[.int .i64 a1_0, .int .i64 (wrap64 (t234 + (wrap64 (Int.tmod (IntKind.u64.wrap (a2_0)) (IntKind.u64.wrap (a0_2)))))), .string a1_2, .bool a1_3] 25 (0, 0)) (by (with_reducible repeat (first | refine blk_drewN ?_ _ | refine blk_drew ?_ | refine blk_alloc ?_ _)); refine blk_put (cs := #[.int .i64 a1_0, .int .i64 a1_1, .string a1_2, .bool a1_3]) ?_ 1 _ (by first | rfl | (simp only [w64_256, wu64_256]; rfl) | (subst_vars; simp only [w64_256, wu64_256, shl, wu32_mod, Int.one_mul]; rfl)); (with_reducible repeat (first | refine blk_drewN ?_ _ | refine blk_drew ?_ | refine blk_alloc ?_ _)); exact BK232.out) hb); have n4_ := Aside0.mk (blk_below (g := gb238) (o := .cells #[.int .i64 t233, .int .i64 t234, .string t235, .bool t236] 25 (0, 0)) (by (with_reducible repeat (first | refine blk_drewN ?_ _ | refine blk_drew ?_ | refine blk_alloc ?_ _)); refine blk_far ?_ NB238_232.out _; (with_reducible repeat (first | refine blk_drewN ?_ _ | refine blk_drew ?_ | refine blk_alloc ?_ _)); exact BK238.out) hb); have n5_ := Aside0.mk (below_step (bh_ HB) hb); clear BK229; clear BK230; clear BK231; clear BK232; clear BK238; clear HB; have BK229 := n0_; have BK230 := n1_; have BK231 := n2_; have BK232 := n3_; have BK238 := n4_; have HB := n5_; clear n0_ n1_ n2_ n3_ n4_ n5_; (try clear hb); (try clear hb2); (try clear hk); (try clear hi)))
          go_ret
          exact ⟨by first | rfl | (simp [errW_none, errW_some] <;> rfl) | (simp [*, errW_none, errW_some] <;> rfl), by repeat (first | (with_reducible first | exact HB.out | apply below_alloc | apply pw_below_drewN | apply below_drew1 | refine below_set ?_ GE229.out | refine below_set ?_ GE230.out | refine below_set ?_ GE231.out | refine below_set ?_ GE232.out | refine below_set ?_ GE238.out) | exact HB.out | exact below_undrew HB.out)⟩
         ·rw [if_neg c111] at H
          have c111b0 : decide ((wrap64 (t234 + (wrap64 (Int.tmod (IntKind.u64.wrap (a2_0)) (IntKind.u64.wrap (a0_2)))))) < t234) = false := decide_eq_false c111
          clear c111
          replace H := Option.bind_eq_some_iff.mp H
          obtain ⟨⟨t250, t251, t252, t253, t254⟩, A1250, H⟩ := H
          replace H : (if t254.isNone = true then (if (t233 == t250 && (t234 == t251 && (t235.toList == t252.toList && (t236 == t253)))) = true then ((barbicanref05_Valid.f kj92 t233 t234 t235 t236).bind fun t257 => (if t257 = 0 then ((barbicanlaw24_sure.f kj92).bind fun t258 => (some t258)) else (some false))) else (some false)) else (some false)) = some r := H
          have A125 := Aside0.mk A1250
          clear A1250
          rcases t254 with _ | q256
          ·have H1 : (if (t233 == t250 && (t234 == t251 && (t235.toList == t252.toList && (t236 == t253)))) = true then ((barbicanref05_Valid.f kj92 t233 t234 t235 t236).bind fun t257 => (if t257 = 0 then ((barbicanlaw24_sure.f kj92).bind fun t258 => (some t258)) else (some false))) else (some false)) = some r := by rw [if_pos (show (none : Option Int).isNone = true by rfl)] at H; exact H
           clear H
           have H := H1
           clear H1
           try simp only [errW_none, errW_some]
           by_cases c126 : (t233 == t250 && (t234 == t251 && (t235.toList == t252.toList && (t236 == t253)))) = true
           ·rw [if_pos c126] at H
            have c126b0 : (t233 == t250 && (t234 == t251 && (t235.toList == t252.toList && (t236 == t253)))) = true := c126
            (try (have c126b1 : decide (t233 = t250 && (t234 == t251 && (t235.toList == t252.toList && (t236 == t253)))) = true := by simpa using c126))
            (try (have c126b2 : (t233 == t250 && (t234 == t251 && (t235.toList == t252.toList && (t236 == t253)))) = true := by simpa using c126))
            clear c126
            replace H := Option.bind_eq_some_iff.mp H
            obtain ⟨t257, A1270, H⟩ := H
            replace H : (if t257 = 0 then ((barbicanlaw24_sure.f kj92).bind fun t258 => (some t258)) else (some false)) = some r := H
            have A127 := Aside0.mk A1270
            clear A1270
            by_cases c128 : t257 = 0
            ·rw [if_pos c128] at H
             have c128b0 : (t257 == 0) = true := beq_iff_eq.mpr c128
             have c128b1 : (t257 != 0) = false := bne_eq_false_iff_eq.mpr c128
             clear c128
             replace H := Option.bind_eq_some_iff.mp H
             obtain ⟨t258, A1290, H⟩ := H
             replace H : (some t258) = some r := H
             have A129 := Aside0.mk A1290
             clear A1290
             obtain rfl := Option.some.inj H
             try go_wp2
             have n0_ := Aside0.mk (blk_drew BK229.out)
             have n1_ := Aside0.mk (blk_drew BK230.out)
             have n2_ := Aside0.mk (blk_drew BK231.out)
             have n3_ := Aside0.mk (blk_drew BK232.out)
             have n4_ := Aside0.mk (blk_drew BK238.out)
             have n5_ := Aside0.mk (below_drew1 HB.out)
             clear BK229
             clear BK230
             clear BK231
             clear BK232
             clear BK238
             clear HB
             have BK229 := n0_
             have BK230 := n1_
             have BK231 := n2_
             have BK232 := n3_
             have BK238 := n4_
             have HB := n5_
             clear n0_ n1_ n2_ n3_ n4_ n5_
             refine start_ (n := 13) (S := fun w' => w'.cell? ⟨gb238, 0, none⟩ = some (.int .i64 t233) ∧ w'.cell? ⟨gb238, 1, none⟩ = some (.int .i64 t234) ∧ w'.cell? ⟨gb238, 2, none⟩ = some (.string t235) ∧ w'.cell? ⟨gb238, 3, none⟩ = some (.bool t236) ∧ w'.cell? ⟨gb231, 0, none⟩ = some (.int .i64 a2_0) ∧ w'.cell? ⟨gb231, 1, none⟩ = some (.int .i64 a2_1) ∧ w'.cell? ⟨gb229, 0, none⟩ = some (.string a0_0) ∧ w'.cell? ⟨gb229, 1, none⟩ = some (.int .i64 a0_1) ∧ w'.cell? ⟨gb229, 2, none⟩ = some (.int .i64 a0_2)) (ds := []) #[false, false, false, false, false, false, false, false, false, false, false, false, false] (by kernel_rfl) rfl rfl ⟨(blk_cell BK238.out 0).trans rfl, (blk_cell BK238.out 1).trans rfl, (blk_cell BK238.out 2).trans rfl, (blk_cell BK238.out 3).trans rfl, (blk_cell BK231.out 0).trans rfl, (blk_cell BK231.out 1).trans rfl, (blk_cell BK229.out 0).trans rfl, (blk_cell BK229.out 1).trans rfl, (blk_cell BK229.out 2).trans rfl⟩ (fun hHeld => ?_); refine with_tabW barbicanlaw24_GuardBlind.tab9 barbicanlaw24_GuardBlind.bits9 (fun HT_ HW_ => ?_)
             generalize wc.drew = w130 at BK229 BK230 BK231 BK232 BK238 HB hHeld ⊢
             refine pure_ (i := 0) (N := some 81) (v := ?_) (a' := ?_) #[true, false, false, false, false, false, false, false, false, false, false, false, false] rfl rfl (any_of HT_.out (by kernel_rfl)) (fun _ _ _ h => h) (Or.inl ⟨by rfl, ?_⟩) ?_ ?_
             rotate_left
             ·intro w'
              go_simp
              with_reducible rfl
             rotate_left
             ·simp only [Act.put, List.setIfInBounds_toArray, List.set_cons_zero, List.set_cons_succ, i64_w, i32_w]
              rfl
             refine pure_ (i := 2) (N := some 83) (v := ?_) (a' := ?_) #[true, false, true, false, false, false, false, false, false, false, false, false, false] rfl rfl (any_of HT_.out (by kernel_rfl)) (fun _ _ _ h => h) (Or.inl ⟨by rfl, ?_⟩) ?_ ?_
             rotate_left
             ·intro w'
              go_simp
              with_reducible rfl
             rotate_left
             ·simp only [Act.put, List.setIfInBounds_toArray, List.set_cons_zero, List.set_cons_succ, i64_w, i32_w]
              rfl
             refine pure_ (i := 5) (N := some 86) (v := ?_) (a' := ?_) #[true, false, true, false, false, true, false, false, false, false, false, false, false] rfl rfl (any_of HT_.out (by kernel_rfl)) (fun _ _ _ h => h) (Or.inl ⟨by rfl, ?_⟩) ?_ ?_
             rotate_left
             ·intro w'
              go_simp
              with_reducible rfl
             rotate_left
             ·simp only [Act.put, List.setIfInBounds_toArray, List.set_cons_zero, List.set_cons_succ, i64_w, i32_w]
              rfl
             refine take_ (i := 1) (N := some 82) (v := ?_) (a' := ?_) #[true, true, true, false, false, true, false, false, false, false, false, false, false] rfl rfl (take_ofW HT_.out HW_.out (by kernel_rfl)) (fun _ _ _ h => h) (Or.inl ⟨by rfl, ?_⟩) hHeld ?_ ?_
             rotate_left
             ·rintro w' ⟨s0, s1, s2, s3, s4, s5, s6, s7, s8⟩
              go_simp
              with_reducible rfl
             rotate_left
             ·simp only [Act.put, List.setIfInBounds_toArray, List.set_cons_zero, List.set_cons_succ, i64_w, i32_w]
              rfl
             refine take_ (i := 3) (N := some 84) (v := ?_) (a' := ?_) #[true, true, true, true, false, true, false, false, false, false, false, false, false] rfl rfl (take_ofW HT_.out HW_.out (by kernel_rfl)) (fun _ _ _ h => h) (Or.inl ⟨by rfl, ?_⟩) hHeld ?_ ?_
             rotate_left
             ·rintro w' ⟨s0, s1, s2, s3, s4, s5, s6, s7, s8⟩
              go_simp
              with_reducible rfl
             rotate_left
             ·simp only [Act.put, List.setIfInBounds_toArray, List.set_cons_zero, List.set_cons_succ, i64_w, i32_w]
              rfl
             refine pure_ (i := 4) (N := some 85) (v := ?_) (a' := ?_) #[true, true, true, true, true, true, false, false, false, false, false, false, false] rfl rfl (any_of HT_.out (by kernel_rfl)) (fun _ _ _ h => h) (Or.inl ⟨by rfl, ?_⟩) ?_ ?_
             rotate_left
             ·intro w'
              go_simp
              with_reducible rfl
             rotate_left
             ·simp only [Act.put, List.setIfInBounds_toArray, List.set_cons_zero, List.set_cons_succ, i64_w, i32_w]
              rfl
             refine take_ (i := 6) (N := some 87) (v := ?_) (a' := ?_) #[true, true, true, true, true, true, true, false, false, false, false, false, false] rfl rfl (take_ofW HT_.out HW_.out (by kernel_rfl)) (fun _ _ _ h => h) (Or.inl ⟨by rfl, ?_⟩) hHeld ?_ ?_
             rotate_left
             ·rintro w' ⟨s0, s1, s2, s3, s4, s5, s6, s7, s8⟩
              go_simp
              with_reducible rfl
             rotate_left
             ·simp only [Act.put, List.setIfInBounds_toArray, List.set_cons_zero, List.set_cons_succ, i64_w, i32_w]
              rfl
             refine pure_ (i := 7) (N := some 88) (v := ?_) (a' := ?_) #[true, true, true, true, true, true, true, true, false, false, false, false, false] rfl rfl (any_of HT_.out (by kernel_rfl)) (fun _ _ _ h => h) (Or.inl ⟨by rfl, ?_⟩) ?_ ?_
             rotate_left
             ·intro w'
              go_simp
              with_reducible rfl
             rotate_left
             ·simp only [Act.put, List.setIfInBounds_toArray, List.set_cons_zero, List.set_cons_succ, i64_w, i32_w]
              rfl
             refine pure_ (i := 8) (N := some 89) (v := ?_) (a' := ?_) #[true, true, true, true, true, true, true, true, true, false, false, false, false] rfl rfl (any_of HT_.out (by kernel_rfl)) (fun _ _ _ h => h) (Or.inl ⟨by rfl, ?_⟩) ?_ ?_
             rotate_left
             ·intro w'
              go_simp
              with_reducible rfl
             rotate_left
             ·simp only [Act.put, List.setIfInBounds_toArray, List.set_cons_zero, List.set_cons_succ, i64_w, i32_w]
              rfl
             refine pure_ (i := 9) (N := some 90) (v := ?_) (a' := ?_) #[true, true, true, true, true, true, true, true, true, true, false, false, false] rfl rfl (any_of HT_.out (by kernel_rfl)) (fun _ _ _ h => h) (Or.inl ⟨by rfl, ?_⟩) ?_ ?_
             rotate_left
             ·intro w'
              go_simp
              with_reducible rfl
             rotate_left
             ·simp only [Act.put, List.setIfInBounds_toArray, List.set_cons_zero, List.set_cons_succ, i64_w, i32_w]
              rfl
             refine pure_ (i := 10) (N := some 91) (v := ?_) (a' := ?_) #[true, true, true, true, true, true, true, true, true, true, true, false, false] rfl rfl (any_of HT_.out (by kernel_rfl)) (fun _ _ _ h => h) (Or.inl ⟨by rfl, ?_⟩) ?_ ?_
             rotate_left
             ·intro w'
              go_simp
              with_reducible rfl
             rotate_left
             ·simp only [Act.put, List.setIfInBounds_toArray, List.set_cons_zero, List.set_cons_succ, i64_w, i32_w]
              rfl
             refine pure_ (i := 11) (N := some 92) (v := ?_) (a' := ?_) #[true, true, true, true, true, true, true, true, true, true, true, true, false] rfl rfl (any_of HT_.out (by kernel_rfl)) (fun _ _ _ h => h) (Or.inl ⟨by rfl, ?_⟩) ?_ ?_
             rotate_left
             ·intro w'
              go_simp
              with_reducible rfl
             rotate_left
             ·simp only [Act.put, List.setIfInBounds_toArray, List.set_cons_zero, List.set_cons_succ, i64_w, i32_w]
              rfl
             refine one_ (i := 12) (N := none) #[true, true, true, true, true, true, true, true, true, true, true, true, true] rfl rfl (one_of HT_.out (by kernel_rfl)) (by decide) (fun K hK => ?_)
             have hs131 : w130.cell? ⟨gb232, 1, none⟩ = some (.int .i64 a1_1) := (blk_cell BK232.out 1).trans rfl
             have hfs131 := blk_frozen BK232.out 1
             have hns131_0 := NB229_232.out
             have hns131_1 := NB230_232.out
             have hns131_2 := NB231_232.out
             have hns131_4 := NB238_232.out
             have hms131_0 := NB232_229.out
             have hms131_1 := NB232_230.out
             have hms131_2 := NB232_231.out
             have hms131_4 := NB232_238.out
             refine skip_ (w1 := ?_) (by rfl) rfl ?_ ?_
             rotate_left
             ·go_simp
              rfl
             refine hK.out _ _ ⟨((cell_far (p := ⟨gb232, _, none⟩) NB238_232.out _).trans (hHeld.1)), ((cell_far (p := ⟨gb232, _, none⟩) NB238_232.out _).trans (hHeld.2.1)), ((cell_far (p := ⟨gb232, _, none⟩) NB238_232.out _).trans (hHeld.2.2.1)), ((cell_far (p := ⟨gb232, _, none⟩) NB238_232.out _).trans (hHeld.2.2.2.1)), ((cell_far (p := ⟨gb232, _, none⟩) NB231_232.out _).trans (hHeld.2.2.2.2.1)), ((cell_far (p := ⟨gb232, _, none⟩) NB231_232.out _).trans (hHeld.2.2.2.2.2.1)), ((cell_far (p := ⟨gb232, _, none⟩) NB229_232.out _).trans (hHeld.2.2.2.2.2.2.1)), ((cell_far (p := ⟨gb232, _, none⟩) NB229_232.out _).trans (hHeld.2.2.2.2.2.2.2.1)), ((cell_far (p := ⟨gb232, _, none⟩) NB229_232.out _).trans (hHeld.2.2.2.2.2.2.2.2))⟩ (fun hHeld => ?_)
             clear hK K
             refine done_ (done_of HT_.out (by kernel_rfl)) ?_
             have hnb132 := NB232_229.out
             have hnc132 := NB229_232.out
             have hnb133 := NB232_230.out
             have hnc133 := NB230_232.out
             have hnb134 := NB232_231.out
             have hnc134 := NB231_232.out
             have hnb135 := NB232_238.out
             have hnc135 := NB238_232.out
             have hcz136_0 : w130.cell? ⟨gb232, 0, none⟩ = some (.int .i64 a1_0) := (blk_cell BK232.out 0).trans rfl
             have hcz136_1 : w130.cell? ⟨gb232, 1, none⟩ = some (.int .i64 a1_1) := (blk_cell BK232.out 1).trans rfl
             have hcz136_2 : w130.cell? ⟨gb232, 2, none⟩ = some (.string a1_2) := (blk_cell BK232.out 2).trans rfl
             have hcz136_3 : w130.cell? ⟨gb232, 3, none⟩ = some (.bool a1_3) := (blk_cell BK232.out 3).trans rfl
             have hfz136_0 := blk_frozen BK232.out 0
             have hfz136_1 := blk_frozen BK232.out 1
             have hfz136_2 := blk_frozen BK232.out 2
             have hfz136_3 := blk_frozen BK232.out 3
             have hnb137 := NB238_229.out
             have hnc137 := NB229_238.out
             have hnb138 := NB238_230.out
             have hnc138 := NB230_238.out
             have hnb139 := NB238_231.out
             have hnc139 := NB231_238.out
             have hcz140_0 : w130.cell? ⟨gb238, 0, none⟩ = some (.int .i64 t233) := (blk_cell BK238.out 0).trans rfl
             have hcz140_1 : w130.cell? ⟨gb238, 1, none⟩ = some (.int .i64 t234) := (blk_cell BK238.out 1).trans rfl
             have hcz140_2 : w130.cell? ⟨gb238, 2, none⟩ = some (.string t235) := (blk_cell BK238.out 2).trans rfl
             have hcz140_3 : w130.cell? ⟨gb238, 3, none⟩ = some (.bool t236) := (blk_cell BK238.out 3).trans rfl
             have hfz140_0 := blk_frozen BK238.out 0
             have hfz140_1 := blk_frozen BK238.out 1
             have hfz140_2 := blk_frozen BK238.out 2
             have hfz140_3 := blk_frozen BK238.out 3
             have hnb141 := NB229_230.out
             have hnc141 := NB230_229.out
             have hnb142 := NB229_231.out
             have hnc142 := NB231_229.out
             have hcz143_0 : w130.cell? ⟨gb229, 0, none⟩ = some (.string a0_0) := (blk_cell BK229.out 0).trans rfl
             have hcz143_1 : w130.cell? ⟨gb229, 1, none⟩ = some (.int .i64 a0_1) := (blk_cell BK229.out 1).trans rfl
             have hcz143_2 : w130.cell? ⟨gb229, 2, none⟩ = some (.int .i64 a0_2) := (blk_cell BK229.out 2).trans rfl
             have hfz143_0 := blk_frozen BK229.out 0
             have hfz143_1 := blk_frozen BK229.out 1
             have hfz143_2 := blk_frozen BK229.out 2
             try go_wp2_with (first | ((with_reducible refine gate_callee (f := 4) rfl ?_); refine goesL_ (some 134) rfl rfl Try.func4 (by kernel_rfl) rfl #[.agg #[.string a0_0, .int .i64 a0_1, .int .i64 a0_2], .agg #[.int .i64 a1_0, .int .i64 (wrap64 (t234 + (wrap64 (Int.tmod (IntKind.u64.wrap (a2_0)) (IntKind.u64.wrap (a0_2)))))), .string a1_2, .bool a1_3]] rfl (by (try simp only [List.map_toArray, List.map_cons, List.map_nil]); first | done | rfl | (simp only [List.length_drop, List.length_take]; rfl)) ?_; (with_reducible refine (guard_Apply.calls kj92 a0_0 a0_1 a0_2 a1_0 (wrap64 (t234 + (wrap64 (Int.tmod (IntKind.u64.wrap (a2_0)) (IntKind.u64.wrap (a0_2)))))) a1_2 a1_3 t250 t251 t252 t253 none _ A125.out).mono ?_); rintro e w144 ⟨rfl, hb⟩; refine ⟨_, rfl, ?_⟩; have n0_ := Aside0.mk (blk_below (g := gb229) (o := .cells #[.string a0_0, .int .i64 a0_1, .int .i64 a0_2] 23 (0, 0)) (by (with_reducible repeat (first | refine blk_drewN ?_ _ | refine blk_drew ?_ | refine blk_alloc ?_ _)); refine blk_far ?_ NB229_232.out _; (with_reducible repeat (first | refine blk_drewN ?_ _ | refine blk_drew ?_ | refine blk_alloc ?_ _)); exact BK229.out) hb); have n1_ := Aside0.mk (blk_below (g := gb230) (o := .cells #[.int .i64 a1_0, .int .i64 a1_1, .string a1_2, .bool a1_3] 25 (0, 0)) (by (with_reducible repeat (first | refine blk_drewN ?_ _ | refine blk_drew ?_ | refine blk_alloc ?_ _)); refine blk_far ?_ NB230_232.out _; (with_reducible repeat (first | refine blk_drewN ?_ _ | refine blk_drew ?_ | refine blk_alloc ?_ _)); exact BK230.out) hb); have n2_ := Aside0.mk (blk_below (g := gb231) (o := .cells #[.int .i64 a2_0, .int .i64 a2_1] 26 (0, 0)) (by (with_reducible repeat (first | refine blk_drewN ?_ _ | refine blk_drew ?_ | refine blk_alloc ?_ _)); refine blk_far ?_ NB231_232.out _; (with_reducible repeat (first | refine blk_drewN ?_ _ | refine blk_drew ?_ | refine blk_alloc ?_ _)); exact BK231.out) hb); have n3_ := Aside0.mk (blk_below (g := gb232) (o := .cells #[.int .i64 a1_0, .int .i64 (wrap64 (t234 + (wrap64 (Int.tmod (IntKind.u64.wrap (a2_0)) (IntKind.u64.wrap (a0_2)))))), .string a1_2, .bool a1_3] 25 (0, 0)) (by (with_reducible repeat (first | refine blk_drewN ?_ _ | refine blk_drew ?_ | refine blk_alloc ?_ _)); refine blk_put (cs := #[.int .i64 a1_0, .int .i64 a1_1, .string a1_2, .bool a1_3]) ?_ 1 _ (by first | rfl | (simp only [w64_256, wu64_256]; rfl) | (subst_vars; simp only [w64_256, wu64_256, shl, wu32_mod, Int.one_mul]; rfl)); (with_reducible repeat (first | refine blk_drewN ?_ _ | refine blk_drew ?_ | refine blk_alloc ?_ _)); exact BK232.out) hb); have n4_ := Aside0.mk (blk_below (g := gb238) (o := .cells #[.int .i64 t233, .int .i64 t234, .string t235, .bool t236] 25 (0, 0)) (by (with_reducible repeat (first | refine blk_drewN ?_ _ | refine blk_drew ?_ | refine blk_alloc ?_ _)); refine blk_far ?_ NB238_232.out _; (with_reducible repeat (first | refine blk_drewN ?_ _ | refine blk_drew ?_ | refine blk_alloc ?_ _)); exact BK238.out) hb); have n5_ := Aside0.mk (below_step (bh_ HB) hb); clear BK229; clear BK230; clear BK231; clear BK232; clear BK238; clear HB; have BK229 := n0_; have BK230 := n1_; have BK231 := n2_; have BK232 := n3_; have BK238 := n4_; have HB := n5_; clear n0_ n1_ n2_ n3_ n4_ n5_; (try clear hb); (try clear hb2); (try clear hk); (try clear hi); (try simp only [errW_none, errW_some])) | ((with_reducible refine gate_dst (N := 11) rfl ?_); (try (refine gate_guard (by rfl) ?_; dsimp only)); refine box_event ?hg (N := 11) ?hd (cs := #[.int .i64 0, .int .i64 0, .string (⟨#[]⟩ : ByteArray), .bool false]) (t := 25) ?hr ?_; (case hd => rfl); (case hg => rfl); (case hr => first | (go_simp; done) | (go_simp; rfl)); intro gb255 hg w145 hbox hb; have n0_ := Aside0.mk (blk_below (g := gb229) (o := .cells #[.string a0_0, .int .i64 a0_1, .int .i64 a0_2] 23 (0, 0)) (bk_ BK229) hb); have n1_ := Aside0.mk (blk_below (g := gb230) (o := .cells #[.int .i64 a1_0, .int .i64 a1_1, .string a1_2, .bool a1_3] 25 (0, 0)) (bk_ BK230) hb); have n2_ := Aside0.mk (blk_below (g := gb231) (o := .cells #[.int .i64 a2_0, .int .i64 a2_1] 26 (0, 0)) (bk_ BK231) hb); have n3_ := Aside0.mk (blk_below (g := gb232) (o := .cells #[.int .i64 a1_0, .int .i64 (wrap64 (t234 + (wrap64 (Int.tmod (IntKind.u64.wrap (a2_0)) (IntKind.u64.wrap (a0_2)))))), .string a1_2, .bool a1_3] 25 (0, 0)) (bk_ BK232) hb); have n4_ := Aside0.mk (blk_below (g := gb238) (o := .cells #[.int .i64 t233, .int .i64 t234, .string t235, .bool t236] 25 (0, 0)) (bk_ BK238) hb); have n5_ := Aside0.mk (below_step (bh_ HB) hb); have n6_ := Aside0.mk (hbox); have n7_ := Aside0.mk ((by rw [hg]; exact (below_size (bh_ HB)) : w.heap.size ≤ gb255)); have n8_ := Aside0.mk ((by rw [hg]; exact (below_size (bh_ HB)) : w.heap.size ≤ gb255)); have n9_ := Aside0.mk ((by rw [hg]; exact Nat.ne_of_lt (blk_lt (g := gb229) (o := .cells #[.string a0_0, .int .i64 a0_1, .int .i64 a0_2] 23 (0, 0)) (bk_ BK229)) : gb229 ≠ gb255)); have n10_ := Aside0.mk ((by rw [hg]; exact Nat.ne_of_gt (blk_lt (g := gb229) (o := .cells #[.string a0_0, .int .i64 a0_1, .int .i64 a0_2] 23 (0, 0)) (bk_ BK229)) : gb255 ≠ gb229)); have n11_ := Aside0.mk ((by rw [hg]; exact Nat.ne_of_lt (blk_lt (g := gb230) (o := .cells #[.int .i64 a1_0, .int .i64 a1_1, .string a1_2, .bool a1_3] 25 (0, 0)) (bk_ BK230)) : gb230 ≠ gb255)); have n12_ := Aside0.mk ((by rw [hg]; exact Nat.ne_of_gt (blk_lt (g := gb230) (o := .cells #[.int .i64 a1_0, .int .i64 a1_1, .string a1_2, .bool a1_3] 25 (0, 0)) (bk_ BK230)) : gb255 ≠ gb230)); have n13_ := Aside0.mk ((by rw [hg]; exact Nat.ne_of_lt (blk_lt (g := gb231) (o := .cells #[.int .i64 a2_0, .int .i64 a2_1] 26 (0, 0)) (bk_ BK231)) : gb231 ≠ gb255)); have n14_ := Aside0.mk ((by rw [hg]; exact Nat.ne_of_gt (blk_lt (g := gb231) (o := .cells #[.int .i64 a2_0, .int .i64 a2_1] 26 (0, 0)) (bk_ BK231)) : gb255 ≠ gb231)); have n15_ := Aside0.mk ((by rw [hg]; exact Nat.ne_of_lt (blk_lt (g := gb232) (o := .cells #[.int .i64 a1_0, .int .i64 (wrap64 (t234 + (wrap64 (Int.tmod (IntKind.u64.wrap (a2_0)) (IntKind.u64.wrap (a0_2)))))), .string a1_2, .bool a1_3] 25 (0, 0)) (bk_ BK232)) : gb232 ≠ gb255)); have n16_ := Aside0.mk ((by rw [hg]; exact Nat.ne_of_gt (blk_lt (g := gb232) (o := .cells #[.int .i64 a1_0, .int .i64 (wrap64 (t234 + (wrap64 (Int.tmod (IntKind.u64.wrap (a2_0)) (IntKind.u64.wrap (a0_2)))))), .string a1_2, .bool a1_3] 25 (0, 0)) (bk_ BK232)) : gb255 ≠ gb232)); have n17_ := Aside0.mk ((by rw [hg]; exact Nat.ne_of_lt (blk_lt (g := gb238) (o := .cells #[.int .i64 t233, .int .i64 t234, .string t235, .bool t236] 25 (0, 0)) (bk_ BK238)) : gb238 ≠ gb255)); have n18_ := Aside0.mk ((by rw [hg]; exact Nat.ne_of_gt (blk_lt (g := gb238) (o := .cells #[.int .i64 t233, .int .i64 t234, .string t235, .bool t236] 25 (0, 0)) (bk_ BK238)) : gb255 ≠ gb238)); clear BK229; clear BK230; clear BK231; clear BK232; clear BK238; clear HB; have BK229 := n0_; have BK230 := n1_; have BK231 := n2_; have BK232 := n3_; have BK238 := n4_; have HB := n5_; have BK255 := n6_; have GW255 := n7_; have GE255 := n8_; have NB229_255 := n9_; have NB255_229 := n10_; have NB230_255 := n11_; have NB255_230 := n12_; have NB231_255 := n13_; have NB255_231 := n14_; have NB232_255 := n15_; have NB255_232 := n16_; have NB238_255 := n17_; have NB255_238 := n18_; clear n0_ n1_ n2_ n3_ n4_ n5_ n6_ n7_ n8_ n9_ n10_ n11_ n12_ n13_ n14_ n15_ n16_ n17_ n18_; clear hb hbox hg; have hnb146 := NB255_229.out; have hnc146 := NB229_255.out; have hnb147 := NB255_230.out; have hnc147 := NB230_255.out; have hnb148 := NB255_231.out; have hnc148 := NB231_255.out; have hnb149 := NB255_232.out; have hnc149 := NB232_255.out; have hnb150 := NB255_238.out; have hnc150 := NB238_255.out; have hcz151_0 : w145.cell? ⟨gb255, 0, none⟩ = some (.int .i64 0) := (blk_cell BK255.out 0).trans rfl; have hcz151_1 : w145.cell? ⟨gb255, 1, none⟩ = some (.int .i64 0) := (blk_cell BK255.out 1).trans rfl; have hcz151_2 : w145.cell? ⟨gb255, 2, none⟩ = some (.string (⟨#[]⟩ : ByteArray)) := (blk_cell BK255.out 2).trans rfl; have hcz151_3 : w145.cell? ⟨gb255, 3, none⟩ = some (.bool false) := (blk_cell BK255.out 3).trans rfl; have hfz151_0 := blk_frozen BK255.out 0; have hfz151_1 := blk_frozen BK255.out 1; have hfz151_2 := blk_frozen BK255.out 2; have hfz151_3 := blk_frozen BK255.out 3; have hcz152_0 : w145.cell? ⟨gb238, 0, none⟩ = some (.int .i64 t233) := (blk_cell BK238.out 0).trans rfl; have hcz152_1 : w145.cell? ⟨gb238, 1, none⟩ = some (.int .i64 t234) := (blk_cell BK238.out 1).trans rfl; have hcz152_2 : w145.cell? ⟨gb238, 2, none⟩ = some (.string t235) := (blk_cell BK238.out 2).trans rfl; have hcz152_3 : w145.cell? ⟨gb238, 3, none⟩ = some (.bool t236) := (blk_cell BK238.out 3).trans rfl; have hfz152_0 := blk_frozen BK238.out 0; have hfz152_1 := blk_frozen BK238.out 1; have hfz152_2 := blk_frozen BK238.out 2; have hfz152_3 := blk_frozen BK238.out 3) | (go_at_call 6; (first | ((with_reducible refine (barbicanref05_Valid.calls kj92 t233 t234 t235 t236 t257 _ A127.out).mono ?_))); rintro e wz ⟨rfl, hb⟩; have n0_ := Aside0.mk (blk_below (g := gb229) (o := .cells #[.string a0_0, .int .i64 a0_1, .int .i64 a0_2] 23 (0, 0)) (by (with_reducible repeat (first | refine blk_drewN ?_ _ | refine blk_drew ?_ | refine blk_alloc ?_ _)); refine blk_far ?_ NB229_255.out _; (with_reducible repeat (first | refine blk_drewN ?_ _ | refine blk_drew ?_ | refine blk_alloc ?_ _)); refine blk_far ?_ NB229_255.out _; (with_reducible repeat (first | refine blk_drewN ?_ _ | refine blk_drew ?_ | refine blk_alloc ?_ _)); refine blk_far ?_ NB229_255.out _; (with_reducible repeat (first | refine blk_drewN ?_ _ | refine blk_drew ?_ | refine blk_alloc ?_ _)); refine blk_far ?_ NB229_255.out _; (with_reducible repeat (first | refine blk_drewN ?_ _ | refine blk_drew ?_ | refine blk_alloc ?_ _)); exact BK229.out) hb); have n1_ := Aside0.mk (blk_below (g := gb230) (o := .cells #[.int .i64 a1_0, .int .i64 a1_1, .string a1_2, .bool a1_3] 25 (0, 0)) (by (with_reducible repeat (first | refine blk_drewN ?_ _ | refine blk_drew ?_ | refine blk_alloc ?_ _)); refine blk_far ?_ NB230_255.out _; (with_reducible repeat (first | refine blk_drewN ?_ _ | refine blk_drew ?_ | refine blk_alloc ?_ _)); refine blk_far ?_ NB230_255.out _; (with_reducible repeat (first | refine blk_drewN ?_ _ | refine blk_drew ?_ | refine blk_alloc ?_ _)); refine blk_far ?_ NB230_255.out _; (with_reducible repeat (first | refine blk_drewN ?_ _ | refine blk_drew ?_ | refine blk_alloc ?_ _)); refine blk_far ?_ NB230_255.out _; (with_reducible repeat (first | refine blk_drewN ?_ _ | refine blk_drew ?_ | refine blk_alloc ?_ _)); exact BK230.out) hb); have n2_ := Aside0.mk (blk_below (g := gb231) (o := .cells #[.int .i64 a2_0, .int .i64 a2_1] 26 (0, 0)) (by (with_reducible repeat (first | refine blk_drewN ?_ _ | refine blk_drew ?_ | refine blk_alloc ?_ _)); refine blk_far ?_ NB231_255.out _; (with_reducible repeat (first | refine blk_drewN ?_ _ | refine blk_drew ?_ | refine blk_alloc ?_ _)); refine blk_far ?_ NB231_255.out _; (with_reducible repeat (first | refine blk_drewN ?_ _ | refine blk_drew ?_ | refine blk_alloc ?_ _)); refine blk_far ?_ NB231_255.out _; (with_reducible repeat (first | refine blk_drewN ?_ _ | refine blk_drew ?_ | refine blk_alloc ?_ _)); refine blk_far ?_ NB231_255.out _; (with_reducible repeat (first | refine blk_drewN ?_ _ | refine blk_drew ?_ | refine blk_alloc ?_ _)); exact BK231.out) hb); have n3_ := Aside0.mk (blk_below (g := gb232) (o := .cells #[.int .i64 a1_0, .int .i64 (wrap64 (t234 + (wrap64 (Int.tmod (IntKind.u64.wrap (a2_0)) (IntKind.u64.wrap (a0_2)))))), .string a1_2, .bool a1_3] 25 (0, 0)) (by (with_reducible repeat (first | refine blk_drewN ?_ _ | refine blk_drew ?_ | refine blk_alloc ?_ _)); refine blk_far ?_ NB232_255.out _; (with_reducible repeat (first | refine blk_drewN ?_ _ | refine blk_drew ?_ | refine blk_alloc ?_ _)); refine blk_far ?_ NB232_255.out _; (with_reducible repeat (first | refine blk_drewN ?_ _ | refine blk_drew ?_ | refine blk_alloc ?_ _)); refine blk_far ?_ NB232_255.out _; (with_reducible repeat (first | refine blk_drewN ?_ _ | refine blk_drew ?_ | refine blk_alloc ?_ _)); refine blk_far ?_ NB232_255.out _; (with_reducible repeat (first | refine blk_drewN ?_ _ | refine blk_drew ?_ | refine blk_alloc ?_ _)); exact BK232.out) hb); have n4_ := Aside0.mk (blk_below (g := gb238) (o := .cells #[.int .i64 t233, .int .i64 t234, .string t235, .bool t236] 25 (0, 0)) (by (with_reducible repeat (first | refine blk_drewN ?_ _ | refine blk_drew ?_ | refine blk_alloc ?_ _)); refine blk_far ?_ NB238_255.out _; (with_reducible repeat (first | refine blk_drewN ?_ _ | refine blk_drew ?_ | refine blk_alloc ?_ _)); refine blk_far ?_ NB238_255.out _; (with_reducible repeat (first | refine blk_drewN ?_ _ | refine blk_drew ?_ | refine blk_alloc ?_ _)); refine blk_far ?_ NB238_255.out _; (with_reducible repeat (first | refine blk_drewN ?_ _ | refine blk_drew ?_ | refine blk_alloc ?_ _)); refine blk_far ?_ NB238_255.out _; (with_reducible repeat (first | refine blk_drewN ?_ _ | refine blk_drew ?_ | refine blk_alloc ?_ _)); exact BK238.out) hb); have n5_ := Aside0.mk (blk_below (g := gb255) (o := .cells #[.int .i64 t250, .int .i64 t251, .string t252, .bool t253] 25 (0, 0)) (by (with_reducible repeat (first | refine blk_drewN ?_ _ | refine blk_drew ?_ | refine blk_alloc ?_ _)); refine blk_put (cs := #[.int .i64 t250, .int .i64 t251, .string t252, .bool false]) ?_ 3 _ (by first | rfl | (simp only [w64_256, wu64_256]; rfl) | (subst_vars; simp only [w64_256, wu64_256, shl, wu32_mod, Int.one_mul]; rfl)); (with_reducible repeat (first | refine blk_drewN ?_ _ | refine blk_drew ?_ | refine blk_alloc ?_ _)); refine blk_put (cs := #[.int .i64 t250, .int .i64 t251, .string (⟨#[]⟩ : ByteArray), .bool false]) ?_ 2 _ (by first | rfl | (simp only [w64_256, wu64_256]; rfl) | (subst_vars; simp only [w64_256, wu64_256, shl, wu32_mod, Int.one_mul]; rfl)); (with_reducible repeat (first | refine blk_drewN ?_ _ | refine blk_drew ?_ | refine blk_alloc ?_ _)); refine blk_put (cs := #[.int .i64 t250, .int .i64 0, .string (⟨#[]⟩ : ByteArray), .bool false]) ?_ 1 _ (by first | rfl | (simp only [w64_256, wu64_256]; rfl) | (subst_vars; simp only [w64_256, wu64_256, shl, wu32_mod, Int.one_mul]; rfl)); (with_reducible repeat (first | refine blk_drewN ?_ _ | refine blk_drew ?_ | refine blk_alloc ?_ _)); refine blk_put (cs := #[.int .i64 0, .int .i64 0, .string (⟨#[]⟩ : ByteArray), .bool false]) ?_ 0 _ (by first | rfl | (simp only [w64_256, wu64_256]; rfl) | (subst_vars; simp only [w64_256, wu64_256, shl, wu32_mod, Int.one_mul]; rfl)); (with_reducible repeat (first | refine blk_drewN ?_ _ | refine blk_drew ?_ | refine blk_alloc ?_ _)); exact BK255.out) hb); have n6_ := Aside0.mk (below_step (bh_ HB) hb); clear BK229; clear BK230; clear BK231; clear BK232; clear BK238; clear BK255; clear HB; have BK229 := n0_; have BK230 := n1_; have BK231 := n2_; have BK232 := n3_; have BK238 := n4_; have BK255 := n5_; have HB := n6_; clear n0_ n1_ n2_ n3_ n4_ n5_ n6_; (try clear hb); (try clear hb2); (try clear hk); (try clear hi)) | (go_at_call 5; (first | ((with_reducible refine (barbicanlaw24_sure.calls kj92  t258 _ A129.out).mono ?_))); rintro e wz ⟨rfl, hb⟩; have n0_ := Aside0.mk (blk_below (g := gb229) (o := .cells #[.string a0_0, .int .i64 a0_1, .int .i64 a0_2] 23 (0, 0)) (bk_ BK229) hb); have n1_ := Aside0.mk (blk_below (g := gb230) (o := .cells #[.int .i64 a1_0, .int .i64 a1_1, .string a1_2, .bool a1_3] 25 (0, 0)) (bk_ BK230) hb); have n2_ := Aside0.mk (blk_below (g := gb231) (o := .cells #[.int .i64 a2_0, .int .i64 a2_1] 26 (0, 0)) (bk_ BK231) hb); have n3_ := Aside0.mk (blk_below (g := gb232) (o := .cells #[.int .i64 a1_0, .int .i64 (wrap64 (t234 + (wrap64 (Int.tmod (IntKind.u64.wrap (a2_0)) (IntKind.u64.wrap (a0_2)))))), .string a1_2, .bool a1_3] 25 (0, 0)) (bk_ BK232) hb); have n4_ := Aside0.mk (blk_below (g := gb238) (o := .cells #[.int .i64 t233, .int .i64 t234, .string t235, .bool t236] 25 (0, 0)) (bk_ BK238) hb); have n5_ := Aside0.mk (blk_below (g := gb255) (o := .cells #[.int .i64 t250, .int .i64 t251, .string t252, .bool t253] 25 (0, 0)) (bk_ BK255) hb); have n6_ := Aside0.mk (below_step (bh_ HB) hb); clear BK229; clear BK230; clear BK231; clear BK232; clear BK238; clear BK255; clear HB; have BK229 := n0_; have BK230 := n1_; have BK231 := n2_; have BK232 := n3_; have BK238 := n4_; have BK255 := n5_; have HB := n6_; clear n0_ n1_ n2_ n3_ n4_ n5_ n6_; (try clear hb); (try clear hb2); (try clear hk); (try clear hi)))
             go_ret
             exact ⟨by first | rfl | (simp [errW_none, errW_some] <;> rfl) | (simp [*, errW_none, errW_some] <;> rfl), by repeat (first | (with_reducible first | exact HB.out | apply below_alloc | apply pw_below_drewN | apply below_drew1 | refine below_set ?_ GE229.out | refine below_set ?_ GE230.out | refine below_set ?_ GE231.out | refine below_set ?_ GE232.out | refine below_set ?_ GE238.out | refine below_set ?_ GE255.out) | exact HB.out | exact below_undrew HB.out)⟩
            ·rw [if_neg c128] at H
             have c128b0 : (t257 == 0) = false := beq_eq_false_iff_ne.mpr c128
             have c128b1 : (t257 != 0) = true := bne_iff_ne.mpr c128
             exact absurd (Option.some.inj H) (by rw [hT.out]; decide)
           ·rw [if_neg c126] at H
            have c126b0 : (t233 == t250 && (t234 == t251 && (t235.toList == t252.toList && (t236 == t253)))) = false := by simpa using c126
            (try (have c126b1 : decide (t233 = t250 && (t234 == t251 && (t235.toList == t252.toList && (t236 == t253)))) = false := by simpa using c126))
            (try (have c126b2 : (t233 == t250 && (t234 == t251 && (t235.toList == t252.toList && (t236 == t253)))) = false := by simpa using c126))
            (try (have c126b3 : ¬ (t233 = t250 && (t234 == t251 && (t235.toList == t252.toList && (t236 == t253)))) := by simpa using c126))
            clear c126
            exact absurd (Option.some.inj H) (by rw [hT.out]; decide)
          ·have H1 : (some false) = some r := by rw [if_neg (show ¬ (some q256).isNone = true by simp)] at H; exact H
           clear H
           have H := H1
           clear H1
           try simp only [errW_none, errW_some]
           exact absurd (Option.some.inj H) (by rw [hT.out]; decide)
       ·replace c109 := Bool.eq_false_iff.mpr c109
        subst c109
        have H1 : (if a1_0 = 2 then (barbicanlaw24_GuardBlind.j2 kj92 (a0_1 == 3) a0_0 a0_1 a0_2 a1_0 a1_1 a1_2 a1_3 a1_0 a1_1 a1_2 a1_3 t233 t234 t235 t236) else (barbicanlaw24_GuardBlind.j2 kj92 false a0_0 a0_1 a0_2 a1_0 a1_1 a1_2 a1_3 a1_0 a1_1 a1_2 a1_3 t233 t234 t235 t236)) = some r := by rw [if_neg (show ¬ (false = true) by decide)] at H; exact H
        clear H
        have H := H1
        clear H1
        have HC155 := Aside0.mk H
        clear H
        go_upto_region 12 with (fail)
        go_cut [99] (fun v99 wc => ∃ (kq : Nat) (x99_154 : Bool), v99 = .bool x99_154 ∧ Aside0 (barbicanlaw24_GuardBlind.j2 kq x99_154 a0_0 a0_1 a0_2 a1_0 a1_1 a1_2 a1_3 a1_0 a1_1 a1_2 a1_3 t233 t234 t235 t236 = some r) ∧ Aside0 (kq ≤ kj92) ∧ Aside0 (wc.heap[gb229]? = some (.cells #[.string a0_0, .int .i64 a0_1, .int .i64 a0_2] 23 (0, 0))) ∧ Aside0 (wc.heap[gb230]? = some (.cells #[.int .i64 a1_0, .int .i64 a1_1, .string a1_2, .bool a1_3] 25 (0, 0))) ∧ Aside0 (wc.heap[gb231]? = some (.cells #[.int .i64 a2_0, .int .i64 a2_1] 26 (0, 0))) ∧ Aside0 (wc.heap[gb232]? = some (.cells #[.int .i64 a1_0, .int .i64 a1_1, .string a1_2, .bool a1_3] 25 (0, 0))) ∧ Aside0 (wc.heap[gb238]? = some (.cells #[.int .i64 t233, .int .i64 t234, .string t235, .bool t236] 25 (0, 0))) ∧ Aside0 (Below w.heap.size w wc))
        case first =>
         have H := HC155.out
         clear HC155
         by_cases c156 : a1_0 = 2
         ·rw [if_pos c156] at H
          have c156b0 : (a1_0 == 2) = true := beq_iff_eq.mpr c156
          have c156b1 : (a1_0 != 2) = false := bne_eq_false_iff_eq.mpr c156
          clear c156
          (first | rw [c156b0] | (simp only [i64_w, i32_w]; rw [c156b0]) | skip)
          have H' := Aside0.mk H
          clear H
          have hnb157 := NB230_229.out
          have hnc157 := NB229_230.out
          have hnb158 := NB230_231.out
          have hnc158 := NB231_230.out
          have hnb159 := NB230_232.out
          have hnc159 := NB232_230.out
          have hnb160 := NB230_238.out
          have hnc160 := NB238_230.out
          have hcz161_0 : wc.cell? ⟨gb230, 0, none⟩ = some (.int .i64 a1_0) := (blk_cell BK230.out 0).trans rfl
          have hcz161_1 : wc.cell? ⟨gb230, 1, none⟩ = some (.int .i64 a1_1) := (blk_cell BK230.out 1).trans rfl
          have hcz161_2 : wc.cell? ⟨gb230, 2, none⟩ = some (.string a1_2) := (blk_cell BK230.out 2).trans rfl
          have hcz161_3 : wc.cell? ⟨gb230, 3, none⟩ = some (.bool a1_3) := (blk_cell BK230.out 3).trans rfl
          have hfz161_0 := blk_frozen BK230.out 0
          have hfz161_1 := blk_frozen BK230.out 1
          have hfz161_2 := blk_frozen BK230.out 2
          have hfz161_3 := blk_frozen BK230.out 3
          have hnb162 := NB229_231.out
          have hnc162 := NB231_229.out
          have hnb163 := NB229_232.out
          have hnc163 := NB232_229.out
          have hnb164 := NB229_238.out
          have hnc164 := NB238_229.out
          have hcz165_0 : wc.cell? ⟨gb229, 0, none⟩ = some (.string a0_0) := (blk_cell BK229.out 0).trans rfl
          have hcz165_1 : wc.cell? ⟨gb229, 1, none⟩ = some (.int .i64 a0_1) := (blk_cell BK229.out 1).trans rfl
          have hcz165_2 : wc.cell? ⟨gb229, 2, none⟩ = some (.int .i64 a0_2) := (blk_cell BK229.out 2).trans rfl
          have hfz165_0 := blk_frozen BK229.out 0
          have hfz165_1 := blk_frozen BK229.out 1
          have hfz165_2 := blk_frozen BK229.out 2
          go_wp2
          go_meet
          case rel => exact ⟨_, ((a0_1 == 3)), (by first | rfl | (simp; done) | (simp [*]; done)), H', ⟨by have := HJ4.out; have := HJ92.out; first | omega | exact Nat.le_refl _⟩, ⟨bk_ BK229⟩, ⟨bk_ BK230⟩, ⟨bk_ BK231⟩, ⟨bk_ BK232⟩, ⟨bk_ BK238⟩, ⟨by repeat (first | (with_reducible first | exact HB.out | apply below_alloc | apply pw_below_drewN | apply below_drew1 | refine below_set ?_ GE229.out | refine below_set ?_ GE230.out | refine below_set ?_ GE231.out | refine below_set ?_ GE232.out | refine below_set ?_ GE238.out) | exact HB.out | exact below_undrew HB.out)⟩⟩
         ·rw [if_neg c156] at H
          have c156b0 : (a1_0 == 2) = false := beq_eq_false_iff_ne.mpr c156
          have c156b1 : (a1_0 != 2) = true := bne_iff_ne.mpr c156
          (first | rw [c156b0] | (simp only [i64_w, i32_w]; rw [c156b0]) | skip)
          have H' := Aside0.mk H
          clear H
          have hnb166 := NB230_229.out
          have hnc166 := NB229_230.out
          have hnb167 := NB230_231.out
          have hnc167 := NB231_230.out
          have hnb168 := NB230_232.out
          have hnc168 := NB232_230.out
          have hnb169 := NB230_238.out
          have hnc169 := NB238_230.out
          have hcz170_0 : wc.cell? ⟨gb230, 0, none⟩ = some (.int .i64 a1_0) := (blk_cell BK230.out 0).trans rfl
          have hcz170_1 : wc.cell? ⟨gb230, 1, none⟩ = some (.int .i64 a1_1) := (blk_cell BK230.out 1).trans rfl
          have hcz170_2 : wc.cell? ⟨gb230, 2, none⟩ = some (.string a1_2) := (blk_cell BK230.out 2).trans rfl
          have hcz170_3 : wc.cell? ⟨gb230, 3, none⟩ = some (.bool a1_3) := (blk_cell BK230.out 3).trans rfl
          have hfz170_0 := blk_frozen BK230.out 0
          have hfz170_1 := blk_frozen BK230.out 1
          have hfz170_2 := blk_frozen BK230.out 2
          have hfz170_3 := blk_frozen BK230.out 3
          go_wp2
          go_meet
          case rel => exact ⟨_, (false), (by first | rfl | (simp; done) | (simp [*]; done)), H', ⟨by have := HJ4.out; have := HJ92.out; first | omega | exact Nat.le_refl _⟩, ⟨bk_ BK229⟩, ⟨bk_ BK230⟩, ⟨bk_ BK231⟩, ⟨bk_ BK232⟩, ⟨bk_ BK238⟩, ⟨by repeat (first | (with_reducible first | exact HB.out | apply below_alloc | apply pw_below_drewN | apply below_drew1 | refine below_set ?_ GE229.out | refine below_set ?_ GE230.out | refine below_set ?_ GE231.out | refine below_set ?_ GE232.out | refine below_set ?_ GE238.out) | exact HB.out | exact below_undrew HB.out)⟩⟩
        case rest =>
         clear HC155
         (try clear c1); (try clear p2); (try clear q2); (try clear c4); (try clear c5); (try clear p6); (try clear c10); (try clear c11); (try clear c12); (try clear c13); (try clear c14); (try clear c15); (try clear c16); (try clear q23); (try clear q24); (try clear q25); (try clear p64); (try clear c109); (try clear c110); (try clear c110b0); (try clear c110b1); (try clear c111); (try clear c111b0); (try clear c115); (try clear c116); (try clear c117); (try clear c118); (try clear c120); (try clear c121); (try clear c122); (try clear c126); (try clear c126b0); (try clear c126b1); (try clear c126b2); (try clear c128); (try clear c128b0); (try clear c128b1); (try clear c132); (try clear c133); (try clear c134); (try clear c135); (try clear c137); (try clear c138); (try clear c139); (try clear c141); (try clear c142); (try clear c146); (try clear c147); (try clear c148); (try clear c149); (try clear c150); (try clear c156); (try clear c156b0); (try clear c156b1); (try clear c157); (try clear c158); (try clear c159); (try clear c160); (try clear c162); (try clear c163); (try clear c164); (try clear c166); (try clear c167); (try clear c168); (try clear c169); (try clear q239); (try clear q246); (try clear q256)
         obtain ⟨kq, x99_154, rfl, HA, HJ154, BK229, BK230, BK231, BK232, BK238, HB⟩ := hcut
         cases kq with
         | zero => exact absurd HA.out (by simp [barbicanlaw24_GuardBlind.j2])
         | succ kj154 =>
          have H := HA.out
          clear HA
          simp only [barbicanlaw24_GuardBlind.j2] at H
          by_cases c171 : x99_154 = true
          ·subst c171
           have H1 : (if 0 ≤ (mn a0_2 (a1_2.size : Int)) then (if (mn a0_2 (a1_2.size : Int)) ≤ (a1_2.size : Int) then ((guard_Apply.f kj154 a0_0 a0_1 a0_2 a1_0 a1_1 (a1_2.extract 0 ((mn a0_2 (a1_2.size : Int)) : Int).toNat) a1_3).bind fun bt259 => (if bt259.2.2.2.2.isNone = true then (if (t233 == bt259.1 && (t234 == bt259.2.1 && (t235.toList == bt259.2.2.1.toList && (t236 == bt259.2.2.2.1)))) = true then ((barbicanref05_Valid.f kj154 t233 t234 t235 t236).bind fun t266 => (if t266 = 0 then ((barbicanlaw24_sure.f kj154).bind fun t267 => (some t267)) else (some false))) else (some false)) else (some false))) else (none)) else (none)) = some r := by rw [if_pos rfl] at H; exact H
           clear H
           have H := H1
           clear H1
           obtain ⟨ji172, hji172⟩ : ∃ j_ : Int, (mn a0_2 (a1_2.size : Int)) = j_ := ⟨_, rfl⟩
           replace H : (if 0 ≤ (ji172) then (if (ji172) ≤ (a1_2.size : Int) then ((guard_Apply.f kj154 a0_0 a0_1 a0_2 a1_0 a1_1 (a1_2.extract 0 ((ji172) : Int).toNat) a1_3).bind fun bt259 => (if bt259.2.2.2.2.isNone = true then (if (t233 == bt259.1 && (t234 == bt259.2.1 && (t235.toList == bt259.2.2.1.toList && (t236 == bt259.2.2.2.1)))) = true then ((barbicanref05_Valid.f kj154 t233 t234 t235 t236).bind fun t266 => (if t266 = 0 then ((barbicanlaw24_sure.f kj154).bind fun t267 => (some t267)) else (some false))) else (some false)) else (some false))) else (none)) else (none)) = some r := by first | (rw [hji172] at H; exact H) | (simp only [hji172] at H ⊢; exact H)
           have hji172_ : (if (a1_2.size : Int) < a0_2 then (a1_2.size : Int) else a0_2) = ji172 := hji172
           by_cases c173 : 0 ≤ (ji172)
           ·rw [if_pos c173] at H
            have c173b0 := eq_true c173
            have c173b1 : decide (0 ≤ (ji172)) = true := decide_eq_true c173
            clear c173
            by_cases c174 : (ji172) ≤ (a1_2.size : Int)
            ·rw [if_pos c174] at H
             have c174b0 := eq_true c174
             have c174b1 : decide ((ji172) ≤ (a1_2.size : Int)) = true := decide_eq_true c174
             clear c174
             replace H := Option.bind_eq_some_iff.mp H
             obtain ⟨⟨t259, t260, t261, t262, t263⟩, A1750, H⟩ := H
             replace H : (if t263.isNone = true then (if (t233 == t259 && (t234 == t260 && (t235.toList == t261.toList && (t236 == t262)))) = true then ((barbicanref05_Valid.f kj154 t233 t234 t235 t236).bind fun t266 => (if t266 = 0 then ((barbicanlaw24_sure.f kj154).bind fun t267 => (some t267)) else (some false))) else (some false)) else (some false)) = some r := H
             have A175 := Aside0.mk A1750
             clear A1750
             rcases t263 with _ | q265
             ·have H1 : (if (t233 == t259 && (t234 == t260 && (t235.toList == t261.toList && (t236 == t262)))) = true then ((barbicanref05_Valid.f kj154 t233 t234 t235 t236).bind fun t266 => (if t266 = 0 then ((barbicanlaw24_sure.f kj154).bind fun t267 => (some t267)) else (some false))) else (some false)) = some r := by rw [if_pos (show (none : Option Int).isNone = true by rfl)] at H; exact H
              clear H
              have H := H1
              clear H1
              try simp only [errW_none, errW_some]
              by_cases c176 : (t233 == t259 && (t234 == t260 && (t235.toList == t261.toList && (t236 == t262)))) = true
              ·rw [if_pos c176] at H
               have c176b0 : (t233 == t259 && (t234 == t260 && (t235.toList == t261.toList && (t236 == t262)))) = true := c176
               (try (have c176b1 : decide (t233 = t259 && (t234 == t260 && (t235.toList == t261.toList && (t236 == t262)))) = true := by simpa using c176))
               (try (have c176b2 : (t233 == t259 && (t234 == t260 && (t235.toList == t261.toList && (t236 == t262)))) = true := by simpa using c176))
               clear c176
               replace H := Option.bind_eq_some_iff.mp H
               obtain ⟨t266, A1770, H⟩ := H
               replace H : (if t266 = 0 then ((barbicanlaw24_sure.f kj154).bind fun t267 => (some t267)) else (some false)) = some r := H
               have A177 := Aside0.mk A1770
               clear A1770
               by_cases c178 : t266 = 0
               ·rw [if_pos c178] at H
                have c178b0 : (t266 == 0) = true := beq_iff_eq.mpr c178
                have c178b1 : (t266 != 0) = false := bne_eq_false_iff_eq.mpr c178
                clear c178
                replace H := Option.bind_eq_some_iff.mp H
                obtain ⟨t267, A1790, H⟩ := H
                replace H : (some t267) = some r := H
                have A179 := Aside0.mk A1790
                clear A1790
                obtain rfl := Option.some.inj H
                have hnb180 := NB230_229.out
                have hnc180 := NB229_230.out
                have hnb181 := NB230_231.out
                have hnc181 := NB231_230.out
                have hnb182 := NB230_232.out
                have hnc182 := NB232_230.out
                have hnb183 := NB230_238.out
                have hnc183 := NB238_230.out
                have hcz184_0 : wc.cell? ⟨gb230, 0, none⟩ = some (.int .i64 a1_0) := (blk_cell BK230.out 0).trans rfl
                have hcz184_1 : wc.cell? ⟨gb230, 1, none⟩ = some (.int .i64 a1_1) := (blk_cell BK230.out 1).trans rfl
                have hcz184_2 : wc.cell? ⟨gb230, 2, none⟩ = some (.string a1_2) := (blk_cell BK230.out 2).trans rfl
                have hcz184_3 : wc.cell? ⟨gb230, 3, none⟩ = some (.bool a1_3) := (blk_cell BK230.out 3).trans rfl
                have hfz184_0 := blk_frozen BK230.out 0
                have hfz184_1 := blk_frozen BK230.out 1
                have hfz184_2 := blk_frozen BK230.out 2
                have hfz184_3 := blk_frozen BK230.out 3
                have hnb185 := NB229_231.out
                have hnc185 := NB231_229.out
                have hnb186 := NB229_232.out
                have hnc186 := NB232_229.out
                have hnb187 := NB229_238.out
                have hnc187 := NB238_229.out
                have hcz188_0 : wc.cell? ⟨gb229, 0, none⟩ = some (.string a0_0) := (blk_cell BK229.out 0).trans rfl
                have hcz188_1 : wc.cell? ⟨gb229, 1, none⟩ = some (.int .i64 a0_1) := (blk_cell BK229.out 1).trans rfl
                have hcz188_2 : wc.cell? ⟨gb229, 2, none⟩ = some (.int .i64 a0_2) := (blk_cell BK229.out 2).trans rfl
                have hfz188_0 := blk_frozen BK229.out 0
                have hfz188_1 := blk_frozen BK229.out 1
                have hfz188_2 := blk_frozen BK229.out 2
                have hnb189 := NB232_231.out
                have hnc189 := NB231_232.out
                have hnb190 := NB232_238.out
                have hnc190 := NB238_232.out
                have hcz191_0 : wc.cell? ⟨gb232, 0, none⟩ = some (.int .i64 a1_0) := (blk_cell BK232.out 0).trans rfl
                have hcz191_1 : wc.cell? ⟨gb232, 1, none⟩ = some (.int .i64 a1_1) := (blk_cell BK232.out 1).trans rfl
                have hcz191_2 : wc.cell? ⟨gb232, 2, none⟩ = some (.string a1_2) := (blk_cell BK232.out 2).trans rfl
                have hcz191_3 : wc.cell? ⟨gb232, 3, none⟩ = some (.bool a1_3) := (blk_cell BK232.out 3).trans rfl
                have hfz191_0 := blk_frozen BK232.out 0
                have hfz191_1 := blk_frozen BK232.out 1
                have hfz191_2 := blk_frozen BK232.out 2
                have hfz191_3 := blk_frozen BK232.out 3
                go_wp2_with (first | ((with_reducible refine gate_callee (f := 4) rfl ?_); refine goesL_ (some 134) rfl rfl Try.func4 (by kernel_rfl) rfl #[.agg #[.string a0_0, .int .i64 a0_1, .int .i64 a0_2], .agg #[.int .i64 a1_0, .int .i64 a1_1, .string (a1_2.extract 0 ((ji172) : Int).toNat), .bool a1_3]] rfl (by (try simp only [List.map_toArray, List.map_cons, List.map_nil]); first | done | (simp only [hji172]; rfl) | rfl | (simp only [List.length_drop, List.length_take]; rfl)) ?_; (with_reducible refine (guard_Apply.calls kj154 a0_0 a0_1 a0_2 a1_0 a1_1 (a1_2.extract 0 ((ji172) : Int).toNat) a1_3 t259 t260 t261 t262 none _ A175.out).mono ?_); rintro e w192 ⟨rfl, hb⟩; refine ⟨_, rfl, ?_⟩; have n0_ := Aside0.mk (blk_below (g := gb229) (o := .cells #[.string a0_0, .int .i64 a0_1, .int .i64 a0_2] 23 (0, 0)) (by (with_reducible repeat (first | refine blk_drewN ?_ _ | refine blk_drew ?_ | refine blk_alloc ?_ _)); refine blk_far ?_ NB229_232.out _; (with_reducible repeat (first | refine blk_drewN ?_ _ | refine blk_drew ?_ | refine blk_alloc ?_ _)); exact BK229.out) hb); have n1_ := Aside0.mk (blk_below (g := gb230) (o := .cells #[.int .i64 a1_0, .int .i64 a1_1, .string a1_2, .bool a1_3] 25 (0, 0)) (by (with_reducible repeat (first | refine blk_drewN ?_ _ | refine blk_drew ?_ | refine blk_alloc ?_ _)); refine blk_far ?_ NB230_232.out _; (with_reducible repeat (first | refine blk_drewN ?_ _ | refine blk_drew ?_ | refine blk_alloc ?_ _)); exact BK230.out) hb); have n2_ := Aside0.mk (blk_below (g := gb231) (o := .cells #[.int .i64 a2_0, .int .i64 a2_1] 26 (0, 0)) (by (with_reducible repeat (first | refine blk_drewN ?_ _ | refine blk_drew ?_ | refine blk_alloc ?_ _)); refine blk_far ?_ NB231_232.out _; (with_reducible repeat (first | refine blk_drewN ?_ _ | refine blk_drew ?_ | refine blk_alloc ?_ _)); exact BK231.out) hb); have n3_ := Aside0.mk (blk_below (g := gb232) (o := .cells #[.int .i64 a1_0, .int .i64 a1_1, .string (a1_2.extract 0 ((ji172) : Int).toNat), .bool a1_3] 25 (0, 0)) (by (with_reducible repeat (first | refine blk_drewN ?_ _ | refine blk_drew ?_ | refine blk_alloc ?_ _)); refine blk_put (cs := #[.int .i64 a1_0, .int .i64 a1_1, .string a1_2, .bool a1_3]) ?_ 2 _ (by first | rfl | (simp only [w64_256, wu64_256]; rfl) | (subst_vars; simp only [w64_256, wu64_256, shl, wu32_mod, Int.one_mul]; rfl)); (with_reducible repeat (first | refine blk_drewN ?_ _ | refine blk_drew ?_ | refine blk_alloc ?_ _)); exact BK232.out) hb); have n4_ := Aside0.mk (blk_below (g := gb238) (o := .cells #[.int .i64 t233, .int .i64 t234, .string t235, .bool t236] 25 (0, 0)) (by (with_reducible repeat (first | refine blk_drewN ?_ _ | refine blk_drew ?_ | refine blk_alloc ?_ _)); refine blk_far ?_ NB238_232.out _; (with_reducible repeat (first | refine blk_drewN ?_ _ | refine blk_drew ?_ | refine blk_alloc ?_ _)); exact BK238.out) hb); have n5_ := Aside0.mk (below_step (bh_ HB) hb); clear BK229; clear BK230; clear BK231; clear BK232; clear BK238; clear HB; have BK229 := n0_; have BK230 := n1_; have BK231 := n2_; have BK232 := n3_; have BK238 := n4_; have HB := n5_; clear n0_ n1_ n2_ n3_ n4_ n5_; (try clear hb); (try clear hb2); (try clear hk); (try clear hi); (try simp only [errW_none, errW_some])) | ((with_reducible refine gate_dst (N := 11) rfl ?_); (try (refine gate_guard (by rfl) ?_; dsimp only)); refine box_event ?hg (N := 11) ?hd (cs := #[.int .i64 0, .int .i64 0, .string (⟨#[]⟩ : ByteArray), .bool false]) (t := 25) ?hr ?_; (case hd => rfl); (case hg => rfl); (case hr => first | (go_simp; done) | (go_simp; rfl)); intro gb264 hg w193 hbox hb; have n0_ := Aside0.mk (blk_below (g := gb229) (o := .cells #[.string a0_0, .int .i64 a0_1, .int .i64 a0_2] 23 (0, 0)) (bk_ BK229) hb); have n1_ := Aside0.mk (blk_below (g := gb230) (o := .cells #[.int .i64 a1_0, .int .i64 a1_1, .string a1_2, .bool a1_3] 25 (0, 0)) (bk_ BK230) hb); have n2_ := Aside0.mk (blk_below (g := gb231) (o := .cells #[.int .i64 a2_0, .int .i64 a2_1] 26 (0, 0)) (bk_ BK231) hb); have n3_ := Aside0.mk (blk_below (g := gb232) (o := .cells #[.int .i64 a1_0, .int .i64 a1_1, .string (a1_2.extract 0 ((ji172) : Int).toNat), .bool a1_3] 25 (0, 0)) (bk_ BK232) hb); have n4_ := Aside0.mk (blk_below (g := gb238) (o := .cells #[.int .i64 t233, .int .i64 t234, .string t235, .bool t236] 25 (0, 0)) (bk_ BK238) hb); have n5_ := Aside0.mk (below_step (bh_ HB) hb); have n6_ := Aside0.mk (hbox); have n7_ := Aside0.mk ((by rw [hg]; exact (below_size (bh_ HB)) : w.heap.size ≤ gb264)); have n8_ := Aside0.mk ((by rw [hg]; exact (below_size (bh_ HB)) : w.heap.size ≤ gb264)); have n9_ := Aside0.mk ((by rw [hg]; exact Nat.ne_of_lt (blk_lt (g := gb229) (o := .cells #[.string a0_0, .int .i64 a0_1, .int .i64 a0_2] 23 (0, 0)) (bk_ BK229)) : gb229 ≠ gb264)); have n10_ := Aside0.mk ((by rw [hg]; exact Nat.ne_of_gt (blk_lt (g := gb229) (o := .cells #[.string a0_0, .int .i64 a0_1, .int .i64 a0_2] 23 (0, 0)) (bk_ BK229)) : gb264 ≠ gb229)); have n11_ := Aside0.mk ((by rw [hg]; exact Nat.ne_of_lt (blk_lt (g := gb230) (o := .cells #[.int .i64 a1_0, .int .i64 a1_1, .string a1_2, .bool a1_3] 25 (0, 0)) (bk_ BK230)) : gb230 ≠ gb264)); have n12_ := Aside0.mk ((by rw [hg]; exact Nat.ne_of_gt (blk_lt (g := gb230) (o := .cells #[.int .i64 a1_0, .int .i64 a1_1, .string a1_2, .bool a1_3] 25 (0, 0)) (bk_ BK230)) : gb264 ≠ gb230)); have n13_ := Aside0.mk ((by rw [hg]; exact Nat.ne_of_lt (blk_lt (g := gb231) (o := .cells #[.int .i64 a2_0, .int .i64 a2_1] 26 (0, 0)) (bk_ BK231)) : gb231 ≠ gb264)); have n14_ := Aside0.mk ((by rw [hg]; exact Nat.ne_of_gt (blk_lt (g := gb231) (o := .cells #[.int .i64 a2_0, .int .i64 a2_1] 26 (0, 0)) (bk_ BK231)) : gb264 ≠ gb231)); have n15_ := Aside0.mk ((by rw [hg]; exact Nat.ne_of_lt (blk_lt (g := gb232) (o := .cells #[.int .i64 a1_0, .int .i64 a1_1, .string (a1_2.extract 0 ((ji172) : Int).toNat), .bool a1_3] 25 (0, 0)) (bk_ BK232)) : gb232 ≠ gb264)); have n16_ := Aside0.mk ((by rw [hg]; exact Nat.ne_of_gt (blk_lt (g := gb232) (o := .cells #[.int .i64 a1_0, .int .i64 a1_1, .string (a1_2.extract 0 ((ji172) : Int).toNat), .bool a1_3] 25 (0, 0)) (bk_ BK232)) : gb264 ≠ gb232)); have n17_ := Aside0.mk ((by rw [hg]; exact Nat.ne_of_lt (blk_lt (g := gb238) (o := .cells #[.int .i64 t233, .int .i64 t234, .string t235, .bool t236] 25 (0, 0)) (bk_ BK238)) : gb238 ≠ gb264)); have n18_ := Aside0.mk ((by rw [hg]; exact Nat.ne_of_gt (blk_lt (g := gb238) (o := .cells #[.int .i64 t233, .int .i64 t234, .string t235, .bool t236] 25 (0, 0)) (bk_ BK238)) : gb264 ≠ gb238)); clear BK229; clear BK230; clear BK231; clear BK232; clear BK238; clear HB; have BK229 := n0_; have BK230 := n1_; have BK231 := n2_; have BK232 := n3_; have BK238 := n4_; have HB := n5_; have BK264 := n6_; have GW264 := n7_; have GE264 := n8_; have NB229_264 := n9_; have NB264_229 := n10_; have NB230_264 := n11_; have NB264_230 := n12_; have NB231_264 := n13_; have NB264_231 := n14_; have NB232_264 := n15_; have NB264_232 := n16_; have NB238_264 := n17_; have NB264_238 := n18_; clear n0_ n1_ n2_ n3_ n4_ n5_ n6_ n7_ n8_ n9_ n10_ n11_ n12_ n13_ n14_ n15_ n16_ n17_ n18_; clear hb hbox hg; have hnb194 := NB264_229.out; have hnc194 := NB229_264.out; have hnb195 := NB264_230.out; have hnc195 := NB230_264.out; have hnb196 := NB264_231.out; have hnc196 := NB231_264.out; have hnb197 := NB264_232.out; have hnc197 := NB232_264.out; have hnb198 := NB264_238.out; have hnc198 := NB238_264.out; have hcz199_0 : w193.cell? ⟨gb264, 0, none⟩ = some (.int .i64 0) := (blk_cell BK264.out 0).trans rfl; have hcz199_1 : w193.cell? ⟨gb264, 1, none⟩ = some (.int .i64 0) := (blk_cell BK264.out 1).trans rfl; have hcz199_2 : w193.cell? ⟨gb264, 2, none⟩ = some (.string (⟨#[]⟩ : ByteArray)) := (blk_cell BK264.out 2).trans rfl; have hcz199_3 : w193.cell? ⟨gb264, 3, none⟩ = some (.bool false) := (blk_cell BK264.out 3).trans rfl; have hfz199_0 := blk_frozen BK264.out 0; have hfz199_1 := blk_frozen BK264.out 1; have hfz199_2 := blk_frozen BK264.out 2; have hfz199_3 := blk_frozen BK264.out 3; have hnb200 := NB238_231.out; have hnc200 := NB231_238.out; have hcz201_0 : w193.cell? ⟨gb238, 0, none⟩ = some (.int .i64 t233) := (blk_cell BK238.out 0).trans rfl; have hcz201_1 : w193.cell? ⟨gb238, 1, none⟩ = some (.int .i64 t234) := (blk_cell BK238.out 1).trans rfl; have hcz201_2 : w193.cell? ⟨gb238, 2, none⟩ = some (.string t235) := (blk_cell BK238.out 2).trans rfl; have hcz201_3 : w193.cell? ⟨gb238, 3, none⟩ = some (.bool t236) := (blk_cell BK238.out 3).trans rfl; have hfz201_0 := blk_frozen BK238.out 0; have hfz201_1 := blk_frozen BK238.out 1; have hfz201_2 := blk_frozen BK238.out 2; have hfz201_3 := blk_frozen BK238.out 3) | (go_at_call 6; (first | ((with_reducible refine (barbicanref05_Valid.calls kj154 t233 t234 t235 t236 t266 _ A177.out).mono ?_))); rintro e wz ⟨rfl, hb⟩; have n0_ := Aside0.mk (blk_below (g := gb229) (o := .cells #[.string a0_0, .int .i64 a0_1, .int .i64 a0_2] 23 (0, 0)) (by (with_reducible repeat (first | refine blk_drewN ?_ _ | refine blk_drew ?_ | refine blk_alloc ?_ _)); refine blk_far ?_ NB229_264.out _; (with_reducible repeat (first | refine blk_drewN ?_ _ | refine blk_drew ?_ | refine blk_alloc ?_ _)); refine blk_far ?_ NB229_264.out _; (with_reducible repeat (first | refine blk_drewN ?_ _ | refine blk_drew ?_ | refine blk_alloc ?_ _)); refine blk_far ?_ NB229_264.out _; (with_reducible repeat (first | refine blk_drewN ?_ _ | refine blk_drew ?_ | refine blk_alloc ?_ _)); refine blk_far ?_ NB229_264.out _; (with_reducible repeat (first | refine blk_drewN ?_ _ | refine blk_drew ?_ | refine blk_alloc ?_ _)); exact BK229.out) hb); have n1_ := Aside0.mk (blk_below (g := gb230) (o := .cells #[.int .i64 a1_0, .int .i64 a1_1, .string a1_2, .bool a1_3] 25 (0, 0)) (by (with_reducible repeat (first | refine blk_drewN ?_ _ | refine blk_drew ?_ | refine blk_alloc ?_ _)); refine blk_far ?_ NB230_264.out _; (with_reducible repeat (first | refine blk_drewN ?_ _ | refine blk_drew ?_ | refine blk_alloc ?_ _)); refine blk_far ?_ NB230_264.out _; (with_reducible repeat (first | refine blk_drewN ?_ _ | refine blk_drew ?_ | refine blk_alloc ?_ _)); refine blk_far ?_ NB230_264.out _; (with_reducible repeat (first | refine blk_drewN ?_ _ | refine blk_drew ?_ | refine blk_alloc ?_ _)); refine blk_far ?_ NB230_264.out _; (with_reducible repeat (first | refine blk_drewN ?_ _ | refine blk_drew ?_ | refine blk_alloc ?_ _)); exact BK230.out) hb); have n2_ := Aside0.mk (blk_below (g := gb231) (o := .cells #[.int .i64 a2_0, .int .i64 a2_1] 26 (0, 0)) (by (with_reducible repeat (first | refine blk_drewN ?_ _ | refine blk_drew ?_ | refine blk_alloc ?_ _)); refine blk_far ?_ NB231_264.out _; (with_reducible repeat (first | refine blk_drewN ?_ _ | refine blk_drew ?_ | refine blk_alloc ?_ _)); refine blk_far ?_ NB231_264.out _; (with_reducible repeat (first | refine blk_drewN ?_ _ | refine blk_drew ?_ | refine blk_alloc ?_ _)); refine blk_far ?_ NB231_264.out _; (with_reducible repeat (first | refine blk_drewN ?_ _ | refine blk_drew ?_ | refine blk_alloc ?_ _)); refine blk_far ?_ NB231_264.out _; (with_reducible repeat (first | refine blk_drewN ?_ _ | refine blk_drew ?_ | refine blk_alloc ?_ _)); exact BK231.out) hb); have n3_ := Aside0.mk (blk_below (g := gb232) (o := .cells #[.int .i64 a1_0, .int .i64 a1_1, .string (a1_2.extract 0 ((ji172) : Int).toNat), .bool a1_3] 25 (0, 0)) (by (with_reducible repeat (first | refine blk_drewN ?_ _ | refine blk_drew ?_ | refine blk_alloc ?_ _)); refine blk_far ?_ NB232_264.out _; (with_reducible repeat (first | refine blk_drewN ?_ _ | refine blk_drew ?_ | refine blk_alloc ?_ _)); refine blk_far ?_ NB232_264.out _; (with_reducible repeat (first | refine blk_drewN ?_ _ | refine blk_drew ?_ | refine blk_alloc ?_ _)); refine blk_far ?_ NB232_264.out _; (with_reducible repeat (first | refine blk_drewN ?_ _ | refine blk_drew ?_ | refine blk_alloc ?_ _)); refine blk_far ?_ NB232_264.out _; (with_reducible repeat (first | refine blk_drewN ?_ _ | refine blk_drew ?_ | refine blk_alloc ?_ _)); exact BK232.out) hb); have n4_ := Aside0.mk (blk_below (g := gb238) (o := .cells #[.int .i64 t233, .int .i64 t234, .string t235, .bool t236] 25 (0, 0)) (by (with_reducible repeat (first | refine blk_drewN ?_ _ | refine blk_drew ?_ | refine blk_alloc ?_ _)); refine blk_far ?_ NB238_264.out _; (with_reducible repeat (first | refine blk_drewN ?_ _ | refine blk_drew ?_ | refine blk_alloc ?_ _)); refine blk_far ?_ NB238_264.out _; (with_reducible repeat (first | refine blk_drewN ?_ _ | refine blk_drew ?_ | refine blk_alloc ?_ _)); refine blk_far ?_ NB238_264.out _; (with_reducible repeat (first | refine blk_drewN ?_ _ | refine blk_drew ?_ | refine blk_alloc ?_ _)); refine blk_far ?_ NB238_264.out _; (with_reducible repeat (first | refine blk_drewN ?_ _ | refine blk_drew ?_ | refine blk_alloc ?_ _)); exact BK238.out) hb); have n5_ := Aside0.mk (blk_below (g := gb264) (o := .cells #[.int .i64 t259, .int .i64 t260, .string t261, .bool t262] 25 (0, 0)) (by (with_reducible repeat (first | refine blk_drewN ?_ _ | refine blk_drew ?_ | refine blk_alloc ?_ _)); refine blk_put (cs := #[.int .i64 t259, .int .i64 t260, .string t261, .bool false]) ?_ 3 _ (by first | rfl | (simp only [w64_256, wu64_256]; rfl) | (subst_vars; simp only [w64_256, wu64_256, shl, wu32_mod, Int.one_mul]; rfl)); (with_reducible repeat (first | refine blk_drewN ?_ _ | refine blk_drew ?_ | refine blk_alloc ?_ _)); refine blk_put (cs := #[.int .i64 t259, .int .i64 t260, .string (⟨#[]⟩ : ByteArray), .bool false]) ?_ 2 _ (by first | rfl | (simp only [w64_256, wu64_256]; rfl) | (subst_vars; simp only [w64_256, wu64_256, shl, wu32_mod, Int.one_mul]; rfl)); (with_reducible repeat (first | refine blk_drewN ?_ _ | refine blk_drew ?_ | refine blk_alloc ?_ _)); refine blk_put (cs := #[.int .i64 t259, .int .i64 0, .string (⟨#[]⟩ : ByteArray), .bool false]) ?_ 1 _ (by first | rfl | (simp only [w64_256, wu64_256]; rfl) | (subst_vars; simp only [w64_256, wu64_256, shl, wu32_mod, Int.one_mul]; rfl)); (with_reducible repeat (first | refine blk_drewN ?_ _ | refine blk_drew ?_ | refine blk_alloc ?_ _)); refine blk_put (cs := #[.int .i64 0, .int .i64 0, .string (⟨#[]⟩ : ByteArray), .bool false]) ?_ 0 _ (by first | rfl | (simp only [w64_256, wu64_256]; rfl) | (subst_vars; simp only [w64_256, wu64_256, shl, wu32_mod, Int.one_mul]; rfl)); (with_reducible repeat (first | refine blk_drewN ?_ _ | refine blk_drew ?_ | refine blk_alloc ?_ _)); exact BK264.out) hb); have n6_ := Aside0.mk (below_step (bh_ HB) hb); clear BK229; clear BK230; clear BK231; clear BK232; clear BK238; clear BK264; clear HB; have BK229 := n0_; have BK230 := n1_; have BK231 := n2_; have BK232 := n3_; have BK238 := n4_; have BK264 := n5_; have HB := n6_; clear n0_ n1_ n2_ n3_ n4_ n5_ n6_; (try clear hb); (try clear hb2); (try clear hk); (try clear hi)) | (go_at_call 5; (first | ((with_reducible refine (barbicanlaw24_sure.calls kj154  t267 _ A179.out).mono ?_))); rintro e wz ⟨rfl, hb⟩; have n0_ := Aside0.mk (blk_below (g := gb229) (o := .cells #[.string a0_0, .int .i64 a0_1, .int .i64 a0_2] 23 (0, 0)) (bk_ BK229) hb); have n1_ := Aside0.mk (blk_below (g := gb230) (o := .cells #[.int .i64 a1_0, .int .i64 a1_1, .string a1_2, .bool a1_3] 25 (0, 0)) (bk_ BK230) hb); have n2_ := Aside0.mk (blk_below (g := gb231) (o := .cells #[.int .i64 a2_0, .int .i64 a2_1] 26 (0, 0)) (bk_ BK231) hb); have n3_ := Aside0.mk (blk_below (g := gb232) (o := .cells #[.int .i64 a1_0, .int .i64 a1_1, .string (a1_2.extract 0 ((ji172) : Int).toNat), .bool a1_3] 25 (0, 0)) (bk_ BK232) hb); have n4_ := Aside0.mk (blk_below (g := gb238) (o := .cells #[.int .i64 t233, .int .i64 t234, .string t235, .bool t236] 25 (0, 0)) (bk_ BK238) hb); have n5_ := Aside0.mk (blk_below (g := gb264) (o := .cells #[.int .i64 t259, .int .i64 t260, .string t261, .bool t262] 25 (0, 0)) (bk_ BK264) hb); have n6_ := Aside0.mk (below_step (bh_ HB) hb); clear BK229; clear BK230; clear BK231; clear BK232; clear BK238; clear BK264; clear HB; have BK229 := n0_; have BK230 := n1_; have BK231 := n2_; have BK232 := n3_; have BK238 := n4_; have BK264 := n5_; have HB := n6_; clear n0_ n1_ n2_ n3_ n4_ n5_ n6_; (try clear hb); (try clear hb2); (try clear hk); (try clear hi)))
                go_ret
                exact ⟨by first | rfl | (simp [errW_none, errW_some] <;> rfl) | (simp only [← hji172]; first | rfl | (simp [errW_none, errW_some] <;> rfl)) | (simp [*, errW_none, errW_some] <;> rfl), by repeat (first | (with_reducible first | exact HB.out | apply below_alloc | apply pw_below_drewN | apply below_drew1 | refine below_set ?_ GE229.out | refine below_set ?_ GE230.out | refine below_set ?_ GE231.out | refine below_set ?_ GE232.out | refine below_set ?_ GE238.out | refine below_set ?_ GE264.out) | exact HB.out | exact below_undrew HB.out)⟩
               ·rw [if_neg c178] at H
                have c178b0 : (t266 == 0) = false := beq_eq_false_iff_ne.mpr c178
                have c178b1 : (t266 != 0) = true := bne_iff_ne.mpr c178
                exact absurd (Option.some.inj H) (by rw [hT.out]; decide)
              ·rw [if_neg c176] at H
               have c176b0 : (t233 == t259 && (t234 == t260 && (t235.toList == t261.toList && (t236 == t262)))) = false := by simpa using c176
               (try (have c176b1 : decide (t233 = t259 && (t234 == t260 && (t235.toList == t261.toList && (t236 == t262)))) = false := by simpa using c176))
               (try (have c176b2 : (t233 == t259 && (t234 == t260 && (t235.toList == t261.toList && (t236 == t262)))) = false := by simpa using c176))
               (try (have c176b3 : ¬ (t233 = t259 && (t234 == t260 && (t235.toList == t261.toList && (t236 == t262)))) := by simpa using c176))
               clear c176
               exact absurd (Option.some.inj H) (by rw [hT.out]; decide)
             ·have H1 : (some false) = some r := by rw [if_neg (show ¬ (some q265).isNone = true by simp)] at H; exact H
              clear H
              have H := H1
              clear H1
              try simp only [errW_none, errW_some]
              exact absurd (Option.some.inj H) (by rw [hT.out]; decide)
            ·rw [if_neg c174] at H
             exact absurd H (by simp)
           ·rw [if_neg c173] at H
            exact absurd H (by simp)
          ·replace c171 := Bool.eq_false_iff.mpr c171
           subst c171
           have H1 : (if a1_0 = 3 then (barbicanlaw24_GuardBlind.j3 kj154 (a0_1 != 1) a0_0 a0_1 a0_2 a1_0 a1_1 a1_2 a1_3 a1_0 a1_1 a1_2 a1_3 t233 t234 t235 t236) else (barbicanlaw24_GuardBlind.j3 kj154 false a0_0 a0_1 a0_2 a1_0 a1_1 a1_2 a1_3 a1_0 a1_1 a1_2 a1_3 t233 t234 t235 t236)) = some r := by rw [if_neg (show ¬ (false = true) by decide)] at H; exact H
           clear H
           have H := H1
           clear H1
           have HC204 := Aside0.mk H
           clear H
           go_upto_region 14 with (fail)
           go_cut [118] (fun v118 wc => ∃ (kq : Nat) (x118_203 : Bool), v118 = .bool x118_203 ∧ Aside0 (barbicanlaw24_GuardBlind.j3 kq x118_203 a0_0 a0_1 a0_2 a1_0 a1_1 a1_2 a1_3 a1_0 a1_1 a1_2 a1_3 t233 t234 t235 t236 = some r) ∧ Aside0 (kq ≤ kj154) ∧ Aside0 (wc.heap[gb229]? = some (.cells #[.string a0_0, .int .i64 a0_1, .int .i64 a0_2] 23 (0, 0))) ∧ Aside0 (wc.heap[gb230]? = some (.cells #[.int .i64 a1_0, .int .i64 a1_1, .string a1_2, .bool a1_3] 25 (0, 0))) ∧ Aside0 (wc.heap[gb231]? = some (.cells #[.int .i64 a2_0, .int .i64 a2_1] 26 (0, 0))) ∧ Aside0 (wc.heap[gb232]? = some (.cells #[.int .i64 a1_0, .int .i64 a1_1, .string a1_2, .bool a1_3] 25 (0, 0))) ∧ Aside0 (wc.heap[gb238]? = some (.cells #[.int .i64 t233, .int .i64 t234, .string t235, .bool t236] 25 (0, 0))) ∧ Aside0 (Below w.heap.size w wc))
           case first =>
            have H := HC204.out
            clear HC204
            by_cases c205 : a1_0 = 3
            ·rw [if_pos c205] at H
             have c205b0 : (a1_0 == 3) = true := beq_iff_eq.mpr c205
             have c205b1 : (a1_0 != 3) = false := bne_eq_false_iff_eq.mpr c205
             clear c205
             (first | rw [c205b0] | (simp only [i64_w, i32_w]; rw [c205b0]) | skip)
             have H' := Aside0.mk H
             clear H
             have hnb206 := NB230_229.out
             have hnc206 := NB229_230.out
             have hnb207 := NB230_231.out
             have hnc207 := NB231_230.out
             have hnb208 := NB230_232.out
             have hnc208 := NB232_230.out
             have hnb209 := NB230_238.out
             have hnc209 := NB238_230.out
             have hcz210_0 : wc.cell? ⟨gb230, 0, none⟩ = some (.int .i64 a1_0) := (blk_cell BK230.out 0).trans rfl
             have hcz210_1 : wc.cell? ⟨gb230, 1, none⟩ = some (.int .i64 a1_1) := (blk_cell BK230.out 1).trans rfl
             have hcz210_2 : wc.cell? ⟨gb230, 2, none⟩ = some (.string a1_2) := (blk_cell BK230.out 2).trans rfl
             have hcz210_3 : wc.cell? ⟨gb230, 3, none⟩ = some (.bool a1_3) := (blk_cell BK230.out 3).trans rfl
             have hfz210_0 := blk_frozen BK230.out 0
             have hfz210_1 := blk_frozen BK230.out 1
             have hfz210_2 := blk_frozen BK230.out 2
             have hfz210_3 := blk_frozen BK230.out 3
             have hnb211 := NB229_231.out
             have hnc211 := NB231_229.out
             have hnb212 := NB229_232.out
             have hnc212 := NB232_229.out
             have hnb213 := NB229_238.out
             have hnc213 := NB238_229.out
             have hcz214_0 : wc.cell? ⟨gb229, 0, none⟩ = some (.string a0_0) := (blk_cell BK229.out 0).trans rfl
             have hcz214_1 : wc.cell? ⟨gb229, 1, none⟩ = some (.int .i64 a0_1) := (blk_cell BK229.out 1).trans rfl
             have hcz214_2 : wc.cell? ⟨gb229, 2, none⟩ = some (.int .i64 a0_2) := (blk_cell BK229.out 2).trans rfl
             have hfz214_0 := blk_frozen BK229.out 0
             have hfz214_1 := blk_frozen BK229.out 1
             have hfz214_2 := blk_frozen BK229.out 2
             go_wp2
             go_meet
             case rel => exact ⟨_, ((a0_1 != 1)), (by first | rfl | (simp; done) | (simp [*]; done)), H', ⟨by have := HJ4.out; have := HJ92.out; have := HJ154.out; first | omega | exact Nat.le_refl _⟩, ⟨bk_ BK229⟩, ⟨bk_ BK230⟩, ⟨bk_ BK231⟩, ⟨bk_ BK232⟩, ⟨bk_ BK238⟩, ⟨by repeat (first | (with_reducible first | exact HB.out | apply below_alloc | apply pw_below_drewN | apply below_drew1 | refine below_set ?_ GE229.out | refine below_set ?_ GE230.out | refine below_set ?_ GE231.out | refine below_set ?_ GE232.out | refine below_set ?_ GE238.out) | exact HB.out | exact below_undrew HB.out)⟩⟩
            ·rw [if_neg c205] at H
             have c205b0 : (a1_0 == 3) = false := beq_eq_false_iff_ne.mpr c205
             have c205b1 : (a1_0 != 3) = true := bne_iff_ne.mpr c205
             (first | rw [c205b0] | (simp only [i64_w, i32_w]; rw [c205b0]) | skip)
             have H' := Aside0.mk H
             clear H
             have hnb215 := NB230_229.out
             have hnc215 := NB229_230.out
             have hnb216 := NB230_231.out
             have hnc216 := NB231_230.out
             have hnb217 := NB230_232.out
             have hnc217 := NB232_230.out
             have hnb218 := NB230_238.out
             have hnc218 := NB238_230.out
             have hcz219_0 : wc.cell? ⟨gb230, 0, none⟩ = some (.int .i64 a1_0) := (blk_cell BK230.out 0).trans rfl
             have hcz219_1 : wc.cell? ⟨gb230, 1, none⟩ = some (.int .i64 a1_1) := (blk_cell BK230.out 1).trans rfl
             have hcz219_2 : wc.cell? ⟨gb230, 2, none⟩ = some (.string a1_2) := (blk_cell BK230.out 2).trans rfl
             have hcz219_3 : wc.cell? ⟨gb230, 3, none⟩ = some (.bool a1_3) := (blk_cell BK230.out 3).trans rfl
             have hfz219_0 := blk_frozen BK230.out 0
             have hfz219_1 := blk_frozen BK230.out 1
             have hfz219_2 := blk_frozen BK230.out 2
             have hfz219_3 := blk_frozen BK230.out 3
             go_wp2
             go_meet
             case rel => exact ⟨_, (false), (by first | rfl | (simp; done) | (simp [*]; done)), H', ⟨by have := HJ4.out; have := HJ92.out; have := HJ154.out; first | omega | exact Nat.le_refl _⟩, ⟨bk_ BK229⟩, ⟨bk_ BK230⟩, ⟨bk_ BK231⟩, ⟨bk_ BK232⟩, ⟨bk_ BK238⟩, ⟨by repeat (first | (with_reducible first | exact HB.out | apply below_alloc | apply pw_below_drewN | apply below_drew1 | refine below_set ?_ GE229.out | refine below_set ?_ GE230.out | refine below_set ?_ GE231.out | refine below_set ?_ GE232.out | refine below_set ?_ GE238.out) | exact HB.out | exact below_undrew HB.out)⟩⟩
           case rest =>
            clear HC204
            (try clear c1); (try clear c2); (try clear p2); (try clear q2); (try clear c4); (try clear c5); (try clear p6); (try clear c10); (try clear c11); (try clear c12); (try clear c13); (try clear c14); (try clear c15); (try clear c16); (try clear c17); (try clear c18); (try clear c19); (try clear c20); (try clear c21); (try clear q23); (try clear q24); (try clear q25); (try clear q26); (try clear p64); (try clear c109); (try clear c110); (try clear c110b0); (try clear c110b1); (try clear c111); (try clear c111b0); (try clear c115); (try clear c116); (try clear c117); (try clear c118); (try clear c120); (try clear c121); (try clear c122); (try clear c126); (try clear c126b0); (try clear c126b1); (try clear c126b2); (try clear c128); (try clear c128b0); (try clear c128b1); (try clear c132); (try clear c133); (try clear c134); (try clear c135); (try clear c137); (try clear c138); (try clear c139); (try clear c141); (try clear c142); (try clear c146); (try clear c147); (try clear c148); (try clear c149); (try clear c150); (try clear c156); (try clear c156b0); (try clear c156b1); (try clear c157); (try clear c158); (try clear c159); (try clear c160); (try clear c162); (try clear c163); (try clear c164); (try clear c166); (try clear c167); (try clear c168); (try clear c169); (try clear c171); (try clear c173); (try clear c173b0); (try clear c173b1); (try clear c174); (try clear c174b0); (try clear c174b1); (try clear c176); (try clear c176b0); (try clear c176b1); (try clear c176b2); (try clear c178); (try clear c178b0); (try clear c178b1); (try clear c180); (try clear c181); (try clear c182); (try clear c183); (try clear c185); (try clear c186); (try clear c187); (try clear c189); (try clear c190); (try clear c194); (try clear c195); (try clear c196); (try clear c197); (try clear c198); (try clear c200); (try clear c205); (try clear c205b0); (try clear c205b1); (try clear c206); (try clear c207); (try clear c208); (try clear c209); (try clear c211); (try clear c212); (try clear c213); (try clear c215); (try clear c216); (try clear c217); (try clear c218); (try clear p2); (try clear p6); (try clear p64); (try clear q2); (try clear q23); (try clear q239); (try clear q24); (try clear q246); (try clear q25); (try clear q256); (try clear q265)
            obtain ⟨kq, x118_203, rfl, HA, HJ203, BK229, BK230, BK231, BK232, BK238, HB⟩ := hcut
            cases kq with
            | zero => exact absurd HA.out (by simp [barbicanlaw24_GuardBlind.j3])
            | succ kj203 =>
             have H := HA.out
             clear HA
             simp only [barbicanlaw24_GuardBlind.j3] at H
             by_cases c220 : x118_203 = true
             ·subst c220
              have H1 : ((guard_Apply.f kj203 a0_0 a0_1 a0_2 a1_0 a1_1 a1_2 (!a1_3)).bind fun bt268 => (if bt268.2.2.2.2.isNone = true then (if (t233 == bt268.1 && (t234 == bt268.2.1 && (t235.toList == bt268.2.2.1.toList && (t236 == bt268.2.2.2.1)))) = true then ((barbicanref05_Valid.f kj203 t233 t234 t235 t236).bind fun t275 => (if t275 = 0 then ((barbicanlaw24_sure.f kj203).bind fun t276 => (some t276)) else (some false))) else (some false)) else (some false))) = some r := by rw [if_pos rfl] at H; exact H
              clear H
              have H := H1
              clear H1
              replace H := Option.bind_eq_some_iff.mp H
              obtain ⟨⟨t268, t269, t270, t271, t272⟩, A2210, H⟩ := H
              replace H : (if t272.isNone = true then (if (t233 == t268 && (t234 == t269 && (t235.toList == t270.toList && (t236 == t271)))) = true then ((barbicanref05_Valid.f kj203 t233 t234 t235 t236).bind fun t275 => (if t275 = 0 then ((barbicanlaw24_sure.f kj203).bind fun t276 => (some t276)) else (some false))) else (some false)) else (some false)) = some r := H
              have A221 := Aside0.mk A2210
              clear A2210
              rcases t272 with _ | q274
              ·have H1 : (if (t233 == t268 && (t234 == t269 && (t235.toList == t270.toList && (t236 == t271)))) = true then ((barbicanref05_Valid.f kj203 t233 t234 t235 t236).bind fun t275 => (if t275 = 0 then ((barbicanlaw24_sure.f kj203).bind fun t276 => (some t276)) else (some false))) else (some false)) = some r := by rw [if_pos (show (none : Option Int).isNone = true by rfl)] at H; exact H
               clear H
               have H := H1
               clear H1
               try simp only [errW_none, errW_some]
               by_cases c222 : (t233 == t268 && (t234 == t269 && (t235.toList == t270.toList && (t236 == t271)))) = true
               ·rw [if_pos c222] at H
                have c222b0 : (t233 == t268 && (t234 == t269 && (t235.toList == t270.toList && (t236 == t271)))) = true := c222
                (try (have c222b1 : decide (t233 = t268 && (t234 == t269 && (t235.toList == t270.toList && (t236 == t271)))) = true := by simpa using c222))
                (try (have c222b2 : (t233 == t268 && (t234 == t269 && (t235.toList == t270.toList && (t236 == t271)))) = true := by simpa using c222))
                clear c222
                replace H := Option.bind_eq_some_iff.mp H
                obtain ⟨t275, A2230, H⟩ := H
                replace H : (if t275 = 0 then ((barbicanlaw24_sure.f kj203).bind fun t276 => (some t276)) else (some false)) = some r := H
                have A223 := Aside0.mk A2230
                clear A2230
                by_cases c224 : t275 = 0
                ·rw [if_pos c224] at H
                 have c224b0 : (t275 == 0) = true := beq_iff_eq.mpr c224
                 have c224b1 : (t275 != 0) = false := bne_eq_false_iff_eq.mpr c224
                 clear c224
                 replace H := Option.bind_eq_some_iff.mp H
                 obtain ⟨t276, A2250, H⟩ := H
                 replace H : (some t276) = some r := H
                 have A225 := Aside0.mk A2250
                 clear A2250
                 obtain rfl := Option.some.inj H
                 have hnb226 := NB230_229.out
                 have hnc226 := NB229_230.out
                 have hnb227 := NB230_231.out
                 have hnc227 := NB231_230.out
                 have hnb228 := NB230_232.out
                 have hnc228 := NB232_230.out
                 have hnb229 := NB230_238.out
                 have hnc229 := NB238_230.out
                 have hcz230_0 : wc.cell? ⟨gb230, 0, none⟩ = some (.int .i64 a1_0) := (blk_cell BK230.out 0).trans rfl
                 have hcz230_1 : wc.cell? ⟨gb230, 1, none⟩ = some (.int .i64 a1_1) := (blk_cell BK230.out 1).trans rfl
                 have hcz230_2 : wc.cell? ⟨gb230, 2, none⟩ = some (.string a1_2) := (blk_cell BK230.out 2).trans rfl
                 have hcz230_3 : wc.cell? ⟨gb230, 3, none⟩ = some (.bool a1_3) := (blk_cell BK230.out 3).trans rfl
                 have hfz230_0 := blk_frozen BK230.out 0
                 have hfz230_1 := blk_frozen BK230.out 1
                 have hfz230_2 := blk_frozen BK230.out 2
                 have hfz230_3 := blk_frozen BK230.out 3
                 have hnb231 := NB232_229.out
                 have hnc231 := NB229_232.out
                 have hnb232 := NB232_231.out
                 have hnc232 := NB231_232.out
                 have hnb233 := NB232_238.out
                 have hnc233 := NB238_232.out
                 have hcz234_0 : wc.cell? ⟨gb232, 0, none⟩ = some (.int .i64 a1_0) := (blk_cell BK232.out 0).trans rfl
                 have hcz234_1 : wc.cell? ⟨gb232, 1, none⟩ = some (.int .i64 a1_1) := (blk_cell BK232.out 1).trans rfl
                 have hcz234_2 : wc.cell? ⟨gb232, 2, none⟩ = some (.string a1_2) := (blk_cell BK232.out 2).trans rfl
                 have hcz234_3 : wc.cell? ⟨gb232, 3, none⟩ = some (.bool a1_3) := (blk_cell BK232.out 3).trans rfl
                 have hfz234_0 := blk_frozen BK232.out 0
                 have hfz234_1 := blk_frozen BK232.out 1
                 have hfz234_2 := blk_frozen BK232.out 2
                 have hfz234_3 := blk_frozen BK232.out 3
                 have hnb235 := NB229_231.out
                 have hnc235 := NB231_229.out
                 have hnb236 := NB229_238.out
                 have hnc236 := NB238_229.out
                 have hcz237_0 : wc.cell? ⟨gb229, 0, none⟩ = some (.string a0_0) := (blk_cell BK229.out 0).trans rfl
                 have hcz237_1 : wc.cell? ⟨gb229, 1, none⟩ = some (.int .i64 a0_1) := (blk_cell BK229.out 1).trans rfl
                 have hcz237_2 : wc.cell? ⟨gb229, 2, none⟩ = some (.int .i64 a0_2) := (blk_cell BK229.out 2).trans rfl
                 have hfz237_0 := blk_frozen BK229.out 0
                 have hfz237_1 := blk_frozen BK229.out 1
                 have hfz237_2 := blk_frozen BK229.out 2
                 go_wp2_with (first | ((with_reducible refine gate_callee (f := 4) rfl ?_); refine goesL_ (some 134) rfl rfl Try.func4 (by kernel_rfl) rfl #[.agg #[.string a0_0, .int .i64 a0_1, .int .i64 a0_2], .agg #[.int .i64 a1_0, .int .i64 a1_1, .string a1_2, .bool (!a1_3)]] rfl (by (try simp only [List.map_toArray, List.map_cons, List.map_nil]); first | done | rfl | (simp only [List.length_drop, List.length_take]; rfl)) ?_; (with_reducible refine (guard_Apply.calls kj203 a0_0 a0_1 a0_2 a1_0 a1_1 a1_2 (!a1_3) t268 t269 t270 t271 none _ A221.out).mono ?_); rintro e w238 ⟨rfl, hb⟩; refine ⟨_, rfl, ?_⟩; have n0_ := Aside0.mk (blk_below (g := gb229) (o := .cells #[.string a0_0, .int .i64 a0_1, .int .i64 a0_2] 23 (0, 0)) (by (with_reducible repeat (first | refine blk_drewN ?_ _ | refine blk_drew ?_ | refine blk_alloc ?_ _)); refine blk_far ?_ NB229_232.out _; (with_reducible repeat (first | refine blk_drewN ?_ _ | refine blk_drew ?_ | refine blk_alloc ?_ _)); exact BK229.out) hb); have n1_ := Aside0.mk (blk_below (g := gb230) (o := .cells #[.int .i64 a1_0, .int .i64 a1_1, .string a1_2, .bool a1_3] 25 (0, 0)) (by (with_reducible repeat (first | refine blk_drewN ?_ _ | refine blk_drew ?_ | refine blk_alloc ?_ _)); refine blk_far ?_ NB230_232.out _; (with_reducible repeat (first | refine blk_drewN ?_ _ | refine blk_drew ?_ | refine blk_alloc ?_ _)); exact BK230.out) hb); have n2_ := Aside0.mk (blk_below (g := gb231) (o := .cells #[.int .i64 a2_0, .int .i64 a2_1] 26 (0, 0)) (by (with_reducible repeat (first | refine blk_drewN ?_ _ | refine blk_drew ?_ | refine blk_alloc ?_ _)); refine blk_far ?_ NB231_232.out _; (with_reducible repeat (first | refine blk_drewN ?_ _ | refine blk_drew ?_ | refine blk_alloc ?_ _)); exact BK231.out) hb); have n3_ := Aside0.mk (blk_below (g := gb232) (o := .cells #[.int .i64 a1_0, .int .i64 a1_1, .string a1_2, .bool (!a1_3)] 25 (0, 0)) (by (with_reducible repeat (first | refine blk_drewN ?_ _ | refine blk_drew ?_ | refine blk_alloc ?_ _)); refine blk_put (cs := #[.int .i64 a1_0, .int .i64 a1_1, .string a1_2, .bool a1_3]) ?_ 3 _ (by first | rfl | (simp only [w64_256, wu64_256]; rfl) | (subst_vars; simp only [w64_256, wu64_256, shl, wu32_mod, Int.one_mul]; rfl)); (with_reducible repeat (first | refine blk_drewN ?_ _ | refine blk_drew ?_ | refine blk_alloc ?_ _)); exact BK232.out) hb); have n4_ := Aside0.mk (blk_below (g := gb238) (o := .cells #[.int .i64 t233, .int .i64 t234, .string t235, .bool t236] 25 (0, 0)) (by (with_reducible repeat (first | refine blk_drewN ?_ _ | refine blk_drew ?_ | refine blk_alloc ?_ _)); refine blk_far ?_ NB238_232.out _; (with_reducible repeat (first | refine blk_drewN ?_ _ | refine blk_drew ?_ | refine blk_alloc ?_ _)); exact BK238.out) hb); have n5_ := Aside0.mk (below_step (bh_ HB) hb); clear BK229; clear BK230; clear BK231; clear BK232; clear BK238; clear HB; have BK229 := n0_; have BK230 := n1_; have BK231 := n2_; have BK232 := n3_; have BK238 := n4_; have HB := n5_; clear n0_ n1_ n2_ n3_ n4_ n5_; (try clear hb); (try clear hb2); (try clear hk); (try clear hi); (try simp only [errW_none, errW_some])) | ((with_reducible refine gate_dst (N := 11) rfl ?_); (try (refine gate_guard (by rfl) ?_; dsimp only)); refine box_event ?hg (N := 11) ?hd (cs := #[.int .i64 0, .int .i64 0, .string (⟨#[]⟩ : ByteArray), .bool false]) (t := 25) ?hr ?_; (case hd => rfl); (case hg => rfl); (case hr => first | (go_simp; done) | (go_simp; rfl)); intro gb273 hg w239 hbox hb; have n0_ := Aside0.mk (blk_below (g := gb229) (o := .cells #[.string a0_0, .int .i64 a0_1, .int .i64 a0_2] 23 (0, 0)) (bk_ BK229) hb); have n1_ := Aside0.mk (blk_below (g := gb230) (o := .cells #[.int .i64 a1_0, .int .i64 a1_1, .string a1_2, .bool a1_3] 25 (0, 0)) (bk_ BK230) hb); have n2_ := Aside0.mk (blk_below (g := gb231) (o := .cells #[.int .i64 a2_0, .int .i64 a2_1] 26 (0, 0)) (bk_ BK231) hb); have n3_ := Aside0.mk (blk_below (g := gb232) (o := .cells #[.int .i64 a1_0, .int .i64 a1_1, .string a1_2, .bool (!a1_3)] 25 (0, 0)) (bk_ BK232) hb); have n4_ := Aside0.mk (blk_below (g := gb238) (o := .cells #[.int .i64 t233, .int .i64 t234, .string t235, .bool t236] 25 (0, 0)) (bk_ BK238) hb); have n5_ := Aside0.mk (below_step (bh_ HB) hb); have n6_ := Aside0.mk (hbox); have n7_ := Aside0.mk ((by rw [hg]; exact (below_size (bh_ HB)) : w.heap.size ≤ gb273)); have n8_ := Aside0.mk ((by rw [hg]; exact (below_size (bh_ HB)) : w.heap.size ≤ gb273)); have n9_ := Aside0.mk ((by rw [hg]; exact Nat.ne_of_lt (blk_lt (g := gb229) (o := .cells #[.string a0_0, .int .i64 a0_1, .int .i64 a0_2] 23 (0, 0)) (bk_ BK229)) : gb229 ≠ gb273)); have n10_ := Aside0.mk ((by rw [hg]; exact Nat.ne_of_gt (blk_lt (g := gb229) (o := .cells #[.string a0_0, .int .i64 a0_1, .int .i64 a0_2] 23 (0, 0)) (bk_ BK229)) : gb273 ≠ gb229)); have n11_ := Aside0.mk ((by rw [hg]; exact Nat.ne_of_lt (blk_lt (g := gb230) (o := .cells #[.int .i64 a1_0, .int .i64 a1_1, .string a1_2, .bool a1_3] 25 (0, 0)) (bk_ BK230)) : gb230 ≠ gb273)); have n12_ := Aside0.mk ((by rw [hg]; exact Nat.ne_of_gt (blk_lt (g := gb230) (o := .cells #[.int .i64 a1_0, .int .i64 a1_1, .string a1_2, .bool a1_3] 25 (0, 0)) (bk_ BK230)) : gb273 ≠ gb230)); have n13_ := Aside0.mk ((by rw [hg]; exact Nat.ne_of_lt (blk_lt (g := gb231) (o := .cells #[.int .i64 a2_0, .int .i64 a2_1] 26 (0, 0)) (bk_ BK231)) : gb231 ≠ gb273)); have n14_ := Aside0.mk ((by rw [hg]; exact Nat.ne_of_gt (blk_lt (g := gb231) (o := .cells #[.int .i64 a2_0, .int .i64 a2_1] 26 (0, 0)) (bk_ BK231)) : gb273 ≠ gb231)); have n15_ := Aside0.mk ((by rw [hg]; exact Nat.ne_of_lt (blk_lt (g := gb232) (o := .cells #[.int .i64 a1_0, .int .i64 a1_1, .string a1_2, .bool (!a1_3)] 25 (0, 0)) (bk_ BK232)) : gb232 ≠ gb273)); have n16_ := Aside0.mk ((by rw [hg]; exact Nat.ne_of_gt (blk_lt (g := gb232) (o := .cells #[.int .i64 a1_0, .int .i64 a1_1, .string a1_2, .bool (!a1_3)] 25 (0, 0)) (bk_ BK232)) : gb273 ≠ gb232)); have n17_ := Aside0.mk ((by rw [hg]; exact Nat.ne_of_lt (blk_lt (g := gb238) (o := .cells #[.int .i64 t233, .int .i64 t234, .string t235, .bool t236] 25 (0, 0)) (bk_ BK238)) : gb238 ≠ gb273)); have n18_ := Aside0.mk ((by rw [hg]; exact Nat.ne_of_gt (blk_lt (g := gb238) (o := .cells #[.int .i64 t233, .int .i64 t234, .string t235, .bool t236] 25 (0, 0)) (bk_ BK238)) : gb273 ≠ gb238)); clear BK229; clear BK230; clear BK231; clear BK232; clear BK238; clear HB; have BK229 := n0_; have BK230 := n1_; have BK231 := n2_; have BK232 := n3_; have BK238 := n4_; have HB := n5_; have BK273 := n6_; have GW273 := n7_; have GE273 := n8_; have NB229_273 := n9_; have NB273_229 := n10_; have NB230_273 := n11_; have NB273_230 := n12_; have NB231_273 := n13_; have NB273_231 := n14_; have NB232_273 := n15_; have NB273_232 := n16_; have NB238_273 := n17_; have NB273_238 := n18_; clear n0_ n1_ n2_ n3_ n4_ n5_ n6_ n7_ n8_ n9_ n10_ n11_ n12_ n13_ n14_ n15_ n16_ n17_ n18_; clear hb hbox hg; have hnb240 := NB273_229.out; have hnc240 := NB229_273.out; have hnb241 := NB273_230.out; have hnc241 := NB230_273.out; have hnb242 := NB273_231.out; have hnc242 := NB231_273.out; have hnb243 := NB273_232.out; have hnc243 := NB232_273.out; have hnb244 := NB273_238.out; have hnc244 := NB238_273.out; have hcz245_0 : w239.cell? ⟨gb273, 0, none⟩ = some (.int .i64 0) := (blk_cell BK273.out 0).trans rfl; have hcz245_1 : w239.cell? ⟨gb273, 1, none⟩ = some (.int .i64 0) := (blk_cell BK273.out 1).trans rfl; have hcz245_2 : w239.cell? ⟨gb273, 2, none⟩ = some (.string (⟨#[]⟩ : ByteArray)) := (blk_cell BK273.out 2).trans rfl; have hcz245_3 : w239.cell? ⟨gb273, 3, none⟩ = some (.bool false) := (blk_cell BK273.out 3).trans rfl; have hfz245_0 := blk_frozen BK273.out 0; have hfz245_1 := blk_frozen BK273.out 1; have hfz245_2 := blk_frozen BK273.out 2; have hfz245_3 := blk_frozen BK273.out 3; have hnb246 := NB238_231.out; have hnc246 := NB231_238.out; have hcz247_0 : w239.cell? ⟨gb238, 0, none⟩ = some (.int .i64 t233) := (blk_cell BK238.out 0).trans rfl; have hcz247_1 : w239.cell? ⟨gb238, 1, none⟩ = some (.int .i64 t234) := (blk_cell BK238.out 1).trans rfl; have hcz247_2 : w239.cell? ⟨gb238, 2, none⟩ = some (.string t235) := (blk_cell BK238.out 2).trans rfl; have hcz247_3 : w239.cell? ⟨gb238, 3, none⟩ = some (.bool t236) := (blk_cell BK238.out 3).trans rfl; have hfz247_0 := blk_frozen BK238.out 0; have hfz247_1 := blk_frozen BK238.out 1; have hfz247_2 := blk_frozen BK238.out 2; have hfz247_3 := blk_frozen BK238.out 3) | (go_at_call 6; (first | ((with_reducible refine (barbicanref05_Valid.calls kj203 t233 t234 t235 t236 t275 _ A223.out).mono ?_))); rintro e wz ⟨rfl, hb⟩; have n0_ := Aside0.mk (blk_below (g := gb229) (o := .cells #[.string a0_0, .int .i64 a0_1, .int .i64 a0_2] 23 (0, 0)) (by (with_reducible repeat (first | refine blk_drewN ?_ _ | refine blk_drew ?_ | refine blk_alloc ?_ _)); refine blk_far ?_ NB229_273.out _; (with_reducible repeat (first | refine blk_drewN ?_ _ | refine blk_drew ?_ | refine blk_alloc ?_ _)); refine blk_far ?_ NB229_273.out _; (with_reducible repeat (first | refine blk_drewN ?_ _ | refine blk_drew ?_ | refine blk_alloc ?_ _)); refine blk_far ?_ NB229_273.out _; (with_reducible repeat (first | refine blk_drewN ?_ _ | refine blk_drew ?_ | refine blk_alloc ?_ _)); refine blk_far ?_ NB229_273.out _; (with_reducible repeat (first | refine blk_drewN ?_ _ | refine blk_drew ?_ | refine blk_alloc ?_ _)); exact BK229.out) hb); have n1_ := Aside0.mk (blk_below (g := gb230) (o := .cells #[.int .i64 a1_0, .int .i64 a1_1, .string a1_2, .bool a1_3] 25 (0, 0)) (by (with_reducible repeat (first | refine blk_drewN ?_ _ | refine blk_drew ?_ | refine blk_alloc ?_ _)); refine blk_far ?_ NB230_273.out _; (with_reducible repeat (first | refine blk_drewN ?_ _ | refine blk_drew ?_ | refine blk_alloc ?_ _)); refine blk_far ?_ NB230_273.out _; (with_reducible repeat (first | refine blk_drewN ?_ _ | refine blk_drew ?_ | refine blk_alloc ?_ _)); refine blk_far ?_ NB230_273.out _; (with_reducible repeat (first | refine blk_drewN ?_ _ | refine blk_drew ?_ | refine blk_alloc ?_ _)); refine blk_far ?_ NB230_273.out _; (with_reducible repeat (first | refine blk_drewN ?_ _ | refine blk_drew ?_ | refine blk_alloc ?_ _)); exact BK230.out) hb); have n2_ := Aside0.mk (blk_below (g := gb231) (o := .cells #[.int .i64 a2_0, .int .i64 a2_1] 26 (0, 0)) (by (with_reducible repeat (first | refine blk_drewN ?_ _ | refine blk_drew ?_ | refine blk_alloc ?_ _)); refine blk_far ?_ NB231_273.out _; (with_reducible repeat (first | refine blk_drewN ?_ _ | refine blk_drew ?_ | refine blk_alloc ?_ _)); refine blk_far ?_ NB231_273.out _; (with_reducible repeat (first | refine blk_drewN ?_ _ | refine blk_drew ?_ | refine blk_alloc ?_ _)); refine blk_far ?_ NB231_273.out _; (with_reducible repeat (first | refine blk_drewN ?_ _ | refine blk_drew ?_ | refine blk_alloc ?_ _)); refine blk_far ?_ NB231_273.out _; (with_reducible repeat (first | refine blk_drewN ?_ _ | refine blk_drew ?_ | refine blk_alloc ?_ _)); exact BK231.out) hb); have n3_ := Aside0.mk (blk_below (g := gb232) (o := .cells #[.int .i64 a1_0, .int .i64 a1_1, .string a1_2, .bool (!a1_3)] 25 (0, 0)) (by (with_reducible repeat (first | refine blk_drewN ?_ _ | refine blk_drew ?_ | refine blk_alloc ?_ _)); refine blk_far ?_ NB232_273.out _; (with_reducible repeat (first | refine blk_drewN ?_ _ | refine blk_drew ?_ | refine blk_alloc ?_ _)); refine blk_far ?_ NB232_273.out _; (with_reducible repeat (first | refine blk_drewN ?_ _ | refine blk_drew ?_ | refine blk_alloc ?_ _)); refine blk_far ?_ NB232_273.out _; (with_reducible repeat (first | refine blk_drewN ?_ _ | refine blk_drew ?_ | refine blk_alloc ?_ _)); refine blk_far ?_ NB232_273.out _; (with_reducible repeat (first | refine blk_drewN ?_ _ | refine blk_drew ?_ | refine blk_alloc ?_ _)); exact BK232.out) hb); have n4_ := Aside0.mk (blk_below (g := gb238) (o := .cells #[.int .i64 t233, .int .i64 t234, .string t235, .bool t236] 25 (0, 0)) (by (with_reducible repeat (first | refine blk_drewN ?_ _ | refine blk_drew ?_ | refine blk_alloc ?_ _)); refine blk_far ?_ NB238_273.out _; (with_reducible repeat (first | refine blk_drewN ?_ _ | refine blk_drew ?_ | refine blk_alloc ?_ _)); refine blk_far ?_ NB238_273.out _; (with_reducible repeat (first | refine blk_drewN ?_ _ | refine blk_drew ?_ | refine blk_alloc ?_ _)); refine blk_far ?_ NB238_273.out _; (with_reducible repeat (first | refine blk_drewN ?_ _ | refine blk_drew ?_ | refine blk_alloc ?_ _)); refine blk_far ?_ NB238_273.out _; (with_reducible repeat (first | refine blk_drewN ?_ _ | refine blk_drew ?_ | refine blk_alloc ?_ _)); exact BK238.out) hb); have n5_ := Aside0.mk (blk_below (g := gb273) (o := .cells #[.int .i64 t268, .int .i64 t269, .string t270, .bool t271] 25 (0, 0)) (by (with_reducible repeat (first | refine blk_drewN ?_ _ | refine blk_drew ?_ | refine blk_alloc ?_ _)); refine blk_put (cs := #[.int .i64 t268, .int .i64 t269, .string t270, .bool false]) ?_ 3 _ (by first | rfl | (simp only [w64_256, wu64_256]; rfl) | (subst_vars; simp only [w64_256, wu64_256, shl, wu32_mod, Int.one_mul]; rfl)); (with_reducible repeat (first | refine blk_drewN ?_ _ | refine blk_drew ?_ | refine blk_alloc ?_ _)); refine blk_put (cs := #[.int .i64 t268, .int .i64 t269, .string (⟨#[]⟩ : ByteArray), .bool false]) ?_ 2 _ (by first | rfl | (simp only [w64_256, wu64_256]; rfl) | (subst_vars; simp only [w64_256, wu64_256, shl, wu32_mod, Int.one_mul]; rfl)); (with_reducible repeat (first | refine blk_drewN ?_ _ | refine blk_drew ?_ | refine blk_alloc ?_ _)); refine blk_put (cs := #[.int .i64 t268, .int .i64 0, .string (⟨#[]⟩ : ByteArray), .bool false]) ?_ 1 _ (by first | rfl | (simp only [w64_256, wu64_256]; rfl) | (subst_vars; simp only [w64_256, wu64_256, shl, wu32_mod, Int.one_mul]; rfl)); (with_reducible repeat (first | refine blk_drewN ?_ _ | refine blk_drew ?_ | refine blk_alloc ?_ _)); refine blk_put (cs := #[.int .i64 0, .int .i64 0, .string (⟨#[]⟩ : ByteArray), .bool false]) ?_ 0 _ (by first | rfl | (simp only [w64_256, wu64_256]; rfl) | (subst_vars; simp only [w64_256, wu64_256, shl, wu32_mod, Int.one_mul]; rfl)); (with_reducible repeat (first | refine blk_drewN ?_ _ | refine blk_drew ?_ | refine blk_alloc ?_ _)); exact BK273.out) hb); have n6_ := Aside0.mk (below_step (bh_ HB) hb); clear BK229; clear BK230; clear BK231; clear BK232; clear BK238; clear BK273; clear HB; have BK229 := n0_; have BK230 := n1_; have BK231 := n2_; have BK232 := n3_; have BK238 := n4_; have BK273 := n5_; have HB := n6_; clear n0_ n1_ n2_ n3_ n4_ n5_ n6_; (try clear hb); (try clear hb2); (try clear hk); (try clear hi)) | (go_at_call 5; (first | ((with_reducible refine (barbicanlaw24_sure.calls kj203  t276 _ A225.out).mono ?_))); rintro e wz ⟨rfl, hb⟩; have n0_ := Aside0.mk (blk_below (g := gb229) (o := .cells #[.string a0_0, .int .i64 a0_1, .int .i64 a0_2] 23 (0, 0)) (bk_ BK229) hb); have n1_ := Aside0.mk (blk_below (g := gb230) (o := .cells #[.int .i64 a1_0, .int .i64 a1_1, .string a1_2, .bool a1_3] 25 (0, 0)) (bk_ BK230) hb); have n2_ := Aside0.mk (blk_below (g := gb231) (o := .cells #[.int .i64 a2_0, .int .i64 a2_1] 26 (0, 0)) (bk_ BK231) hb); have n3_ := Aside0.mk (blk_below (g := gb232) (o := .cells #[.int .i64 a1_0, .int .i64 a1_1, .string a1_2, .bool (!a1_3)] 25 (0, 0)) (bk_ BK232) hb); have n4_ := Aside0.mk (blk_below (g := gb238) (o := .cells #[.int .i64 t233, .int .i64 t234, .string t235, .bool t236] 25 (0, 0)) (bk_ BK238) hb); have n5_ := Aside0.mk (blk_below (g := gb273) (o := .cells #[.int .i64 t268, .int .i64 t269, .string t270, .bool t271] 25 (0, 0)) (bk_ BK273) hb); have n6_ := Aside0.mk (below_step (bh_ HB) hb); clear BK229; clear BK230; clear BK231; clear BK232; clear BK238; clear BK273; clear HB; have BK229 := n0_; have BK230 := n1_; have BK231 := n2_; have BK232 := n3_; have BK238 := n4_; have BK273 := n5_; have HB := n6_; clear n0_ n1_ n2_ n3_ n4_ n5_ n6_; (try clear hb); (try clear hb2); (try clear hk); (try clear hi)))
                 go_ret
                 exact ⟨by first | rfl | (simp [errW_none, errW_some] <;> rfl) | (simp [*, errW_none, errW_some] <;> rfl), by repeat (first | (with_reducible first | exact HB.out | apply below_alloc | apply pw_below_drewN | apply below_drew1 | refine below_set ?_ GE229.out | refine below_set ?_ GE230.out | refine below_set ?_ GE231.out | refine below_set ?_ GE232.out | refine below_set ?_ GE238.out | refine below_set ?_ GE273.out) | exact HB.out | exact below_undrew HB.out)⟩
                ·rw [if_neg c224] at H
                 have c224b0 : (t275 == 0) = false := beq_eq_false_iff_ne.mpr c224
                 have c224b1 : (t275 != 0) = true := bne_iff_ne.mpr c224
                 exact absurd (Option.some.inj H) (by rw [hT.out]; decide)
               ·rw [if_neg c222] at H
                have c222b0 : (t233 == t268 && (t234 == t269 && (t235.toList == t270.toList && (t236 == t271)))) = false := by simpa using c222
                (try (have c222b1 : decide (t233 = t268 && (t234 == t269 && (t235.toList == t270.toList && (t236 == t271)))) = false := by simpa using c222))
                (try (have c222b2 : (t233 == t268 && (t234 == t269 && (t235.toList == t270.toList && (t236 == t271)))) = false := by simpa using c222))
                (try (have c222b3 : ¬ (t233 = t268 && (t234 == t269 && (t235.toList == t270.toList && (t236 == t271)))) := by simpa using c222))
                clear c222
                exact absurd (Option.some.inj H) (by rw [hT.out]; decide)
              ·have H1 : (some false) = some r := by rw [if_neg (show ¬ (some q274).isNone = true by simp)] at H; exact H
               clear H
               have H := H1
               clear H1
               try simp only [errW_none, errW_some]
               exact absurd (Option.some.inj H) (by rw [hT.out]; decide)
             ·replace c220 := Bool.eq_false_iff.mpr c220
              subst c220
              have H1 : ((guard_Apply.f kj203 a0_0 a0_1 a0_2 a1_0 a1_1 a1_2 a1_3).bind fun bt277 => (if bt277.2.2.2.2.isNone = true then (if (t233 == bt277.1 && (t234 == bt277.2.1 && (t235.toList == bt277.2.2.1.toList && (t236 == bt277.2.2.2.1)))) = true then ((barbicanref05_Valid.f kj203 t233 t234 t235 t236).bind fun t284 => (if t284 = 0 then ((barbicanlaw24_sure.f kj203).bind fun t285 => (some t285)) else (some false))) else (some false)) else (some false))) = some r := by rw [if_neg (show ¬ (false = true) by decide)] at H; exact H
              clear H
              have H := H1
              clear H1
              replace H := Option.bind_eq_some_iff.mp H
              obtain ⟨⟨t277, t278, t279, t280, t281⟩, A2500, H⟩ := H
              replace H : (if t281.isNone = true then (if (t233 == t277 && (t234 == t278 && (t235.toList == t279.toList && (t236 == t280)))) = true then ((barbicanref05_Valid.f kj203 t233 t234 t235 t236).bind fun t284 => (if t284 = 0 then ((barbicanlaw24_sure.f kj203).bind fun t285 => (some t285)) else (some false))) else (some false)) else (some false)) = some r := H
              have A250 := Aside0.mk A2500
              clear A2500
              rcases t281 with _ | q283
              ·have H1 : (if (t233 == t277 && (t234 == t278 && (t235.toList == t279.toList && (t236 == t280)))) = true then ((barbicanref05_Valid.f kj203 t233 t234 t235 t236).bind fun t284 => (if t284 = 0 then ((barbicanlaw24_sure.f kj203).bind fun t285 => (some t285)) else (some false))) else (some false)) = some r := by rw [if_pos (show (none : Option Int).isNone = true by rfl)] at H; exact H
               clear H
               have H := H1
               clear H1
               try simp only [errW_none, errW_some]
               by_cases c251 : (t233 == t277 && (t234 == t278 && (t235.toList == t279.toList && (t236 == t280)))) = true
               ·rw [if_pos c251] at H
                have c251b0 : (t233 == t277 && (t234 == t278 && (t235.toList == t279.toList && (t236 == t280)))) = true := c251
                (try (have c251b1 : decide (t233 = t277 && (t234 == t278 && (t235.toList == t279.toList && (t236 == t280)))) = true := by simpa using c251))
                (try (have c251b2 : (t233 == t277 && (t234 == t278 && (t235.toList == t279.toList && (t236 == t280)))) = true := by simpa using c251))
                clear c251
                replace H := Option.bind_eq_some_iff.mp H
                obtain ⟨t284, A2520, H⟩ := H
                replace H : (if t284 = 0 then ((barbicanlaw24_sure.f kj203).bind fun t285 => (some t285)) else (some false)) = some r := H
                have A252 := Aside0.mk A2520
                clear A2520
                by_cases c253 : t284 = 0
                ·rw [if_pos c253] at H
                 have c253b0 : (t284 == 0) = true := beq_iff_eq.mpr c253
                 have c253b1 : (t284 != 0) = false := bne_eq_false_iff_eq.mpr c253
                 clear c253
                 replace H := Option.bind_eq_some_iff.mp H
                 obtain ⟨t285, A2540, H⟩ := H
                 replace H : (some t285) = some r := H
                 have A254 := Aside0.mk A2540
                 clear A2540
                 obtain rfl := Option.some.inj H
                 have hnb255 := NB229_230.out
                 have hnc255 := NB230_229.out
                 have hnb256 := NB229_231.out
                 have hnc256 := NB231_229.out
                 have hnb257 := NB229_232.out
                 have hnc257 := NB232_229.out
                 have hnb258 := NB229_238.out
                 have hnc258 := NB238_229.out
                 have hcz259_0 : wc.cell? ⟨gb229, 0, none⟩ = some (.string a0_0) := (blk_cell BK229.out 0).trans rfl
                 have hcz259_1 : wc.cell? ⟨gb229, 1, none⟩ = some (.int .i64 a0_1) := (blk_cell BK229.out 1).trans rfl
                 have hcz259_2 : wc.cell? ⟨gb229, 2, none⟩ = some (.int .i64 a0_2) := (blk_cell BK229.out 2).trans rfl
                 have hfz259_0 := blk_frozen BK229.out 0
                 have hfz259_1 := blk_frozen BK229.out 1
                 have hfz259_2 := blk_frozen BK229.out 2
                 have hnb260 := NB232_230.out
                 have hnc260 := NB230_232.out
                 have hnb261 := NB232_231.out
                 have hnc261 := NB231_232.out
                 have hnb262 := NB232_238.out
                 have hnc262 := NB238_232.out
                 have hcz263_0 : wc.cell? ⟨gb232, 0, none⟩ = some (.int .i64 a1_0) := (blk_cell BK232.out 0).trans rfl
                 have hcz263_1 : wc.cell? ⟨gb232, 1, none⟩ = some (.int .i64 a1_1) := (blk_cell BK232.out 1).trans rfl
                 have hcz263_2 : wc.cell? ⟨gb232, 2, none⟩ = some (.string a1_2) := (blk_cell BK232.out 2).trans rfl
                 have hcz263_3 : wc.cell? ⟨gb232, 3, none⟩ = some (.bool a1_3) := (blk_cell BK232.out 3).trans rfl
                 have hfz263_0 := blk_frozen BK232.out 0
                 have hfz263_1 := blk_frozen BK232.out 1
                 have hfz263_2 := blk_frozen BK232.out 2
                 have hfz263_3 := blk_frozen BK232.out 3
                 go_wp2_with (first | ((with_reducible refine gate_callee (f := 4) rfl ?_); refine goesL_ (some 134) rfl rfl Try.func4 (by kernel_rfl) rfl #[.agg #[.string a0_0, .int .i64 a0_1, .int .i64 a0_2], .agg #[.int .i64 a1_0, .int .i64 a1_1, .string a1_2, .bool a1_3]] rfl (by (try simp only [List.map_toArray, List.map_cons, List.map_nil]); first | done | rfl | (simp only [List.length_drop, List.length_take]; rfl)) ?_; (with_reducible refine (guard_Apply.calls kj203 a0_0 a0_1 a0_2 a1_0 a1_1 a1_2 a1_3 t277 t278 t279 t280 none _ A250.out).mono ?_); rintro e w264 ⟨rfl, hb⟩; refine ⟨_, rfl, ?_⟩; have n0_ := Aside0.mk (blk_below (g := gb229) (o := .cells #[.string a0_0, .int .i64 a0_1, .int .i64 a0_2] 23 (0, 0)) (bk_ BK229) hb); have n1_ := Aside0.mk (blk_below (g := gb230) (o := .cells #[.int .i64 a1_0, .int .i64 a1_1, .string a1_2, .bool a1_3] 25 (0, 0)) (bk_ BK230) hb); have n2_ := Aside0.mk (blk_below (g := gb231) (o := .cells #[.int .i64 a2_0, .int .i64 a2_1] 26 (0, 0)) (bk_ BK231) hb); have n3_ := Aside0.mk (blk_below (g := gb232) (o := .cells #[.int .i64 a1_0, .int .i64 a1_1, .string a1_2, .bool a1_3] 25 (0, 0)) (bk_ BK232) hb); have n4_ := Aside0.mk (blk_below (g := gb238) (o := .cells #[.int .i64 t233, .int .i64 t234, .string t235, .bool t236] 25 (0, 0)) (bk_ BK238) hb); have n5_ := Aside0.mk (below_step (bh_ HB) hb); clear BK229; clear BK230; clear BK231; clear BK232; clear BK238; clear HB; have BK229 := n0_; have BK230 := n1_; have BK231 := n2_; have BK232 := n3_; have BK238 := n4_; have HB := n5_; clear n0_ n1_ n2_ n3_ n4_ n5_; (try clear hb); (try clear hb2); (try clear hk); (try clear hi); (try simp only [errW_none, errW_some])) | ((with_reducible refine gate_dst (N := 11) rfl ?_); (try (refine gate_guard (by rfl) ?_; dsimp only)); refine box_event ?hg (N := 11) ?hd (cs := #[.int .i64 0, .int .i64 0, .string (⟨#[]⟩ : ByteArray), .bool false]) (t := 25) ?hr ?_; (case hd => rfl); (case hg => rfl); (case hr => first | (go_simp; done) | (go_simp; rfl)); intro gb282 hg w265 hbox hb; have n0_ := Aside0.mk (blk_below (g := gb229) (o := .cells #[.string a0_0, .int .i64 a0_1, .int .i64 a0_2] 23 (0, 0)) (bk_ BK229) hb); have n1_ := Aside0.mk (blk_below (g := gb230) (o := .cells #[.int .i64 a1_0, .int .i64 a1_1, .string a1_2, .bool a1_3] 25 (0, 0)) (bk_ BK230) hb); have n2_ := Aside0.mk (blk_below (g := gb231) (o := .cells #[.int .i64 a2_0, .int .i64 a2_1] 26 (0, 0)) (bk_ BK231) hb); have n3_ := Aside0.mk (blk_below (g := gb232) (o := .cells #[.int .i64 a1_0, .int .i64 a1_1, .string a1_2, .bool a1_3] 25 (0, 0)) (bk_ BK232) hb); have n4_ := Aside0.mk (blk_below (g := gb238) (o := .cells #[.int .i64 t233, .int .i64 t234, .string t235, .bool t236] 25 (0, 0)) (bk_ BK238) hb); have n5_ := Aside0.mk (below_step (bh_ HB) hb); have n6_ := Aside0.mk (hbox); have n7_ := Aside0.mk ((by rw [hg]; exact (below_size (bh_ HB)) : w.heap.size ≤ gb282)); have n8_ := Aside0.mk ((by rw [hg]; exact (below_size (bh_ HB)) : w.heap.size ≤ gb282)); have n9_ := Aside0.mk ((by rw [hg]; exact Nat.ne_of_lt (blk_lt (g := gb229) (o := .cells #[.string a0_0, .int .i64 a0_1, .int .i64 a0_2] 23 (0, 0)) (bk_ BK229)) : gb229 ≠ gb282)); have n10_ := Aside0.mk ((by rw [hg]; exact Nat.ne_of_gt (blk_lt (g := gb229) (o := .cells #[.string a0_0, .int .i64 a0_1, .int .i64 a0_2] 23 (0, 0)) (bk_ BK229)) : gb282 ≠ gb229)); have n11_ := Aside0.mk ((by rw [hg]; exact Nat.ne_of_lt (blk_lt (g := gb230) (o := .cells #[.int .i64 a1_0, .int .i64 a1_1, .string a1_2, .bool a1_3] 25 (0, 0)) (bk_ BK230)) : gb230 ≠ gb282)); have n12_ := Aside0.mk ((by rw [hg]; exact Nat.ne_of_gt (blk_lt (g := gb230) (o := .cells #[.int .i64 a1_0, .int .i64 a1_1, .string a1_2, .bool a1_3] 25 (0, 0)) (bk_ BK230)) : gb282 ≠ gb230)); have n13_ := Aside0.mk ((by rw [hg]; exact Nat.ne_of_lt (blk_lt (g := gb231) (o := .cells #[.int .i64 a2_0, .int .i64 a2_1] 26 (0, 0)) (bk_ BK231)) : gb231 ≠ gb282)); have n14_ := Aside0.mk ((by rw [hg]; exact Nat.ne_of_gt (blk_lt (g := gb231) (o := .cells #[.int .i64 a2_0, .int .i64 a2_1] 26 (0, 0)) (bk_ BK231)) : gb282 ≠ gb231)); have n15_ := Aside0.mk ((by rw [hg]; exact Nat.ne_of_lt (blk_lt (g := gb232) (o := .cells #[.int .i64 a1_0, .int .i64 a1_1, .string a1_2, .bool a1_3] 25 (0, 0)) (bk_ BK232)) : gb232 ≠ gb282)); have n16_ := Aside0.mk ((by rw [hg]; exact Nat.ne_of_gt (blk_lt (g := gb232) (o := .cells #[.int .i64 a1_0, .int .i64 a1_1, .string a1_2, .bool a1_3] 25 (0, 0)) (bk_ BK232)) : gb282 ≠ gb232)); have n17_ := Aside0.mk ((by rw [hg]; exact Nat.ne_of_lt (blk_lt (g := gb238) (o := .cells #[.int .i64 t233, .int .i64 t234, .string t235, .bool t236] 25 (0, 0)) (bk_ BK238)) : gb238 ≠ gb282)); have n18_ := Aside0.mk ((by rw [hg]; exact Nat.ne_of_gt (blk_lt (g := gb238) (o := .cells #[.int .i64 t233, .int .i64 t234, .string t235, .bool t236] 25 (0, 0)) (bk_ BK238)) : gb282 ≠ gb238)); clear BK229; clear BK230; clear BK231; clear BK232; clear BK238; clear HB; have BK229 := n0_; have BK230 := n1_; have BK231 := n2_; have BK232 := n3_; have BK238 := n4_; have HB := n5_; have BK282 := n6_; have GW282 := n7_; have GE282 := n8_; have NB229_282 := n9_; have NB282_229 := n10_; have NB230_282 := n11_; have NB282_230 := n12_; have NB231_282 := n13_; have NB282_231 := n14_; have NB232_282 := n15_; have NB282_232 := n16_; have NB238_282 := n17_; have NB282_238 := n18_; clear n0_ n1_ n2_ n3_ n4_ n5_ n6_ n7_ n8_ n9_ n10_ n11_ n12_ n13_ n14_ n15_ n16_ n17_ n18_; clear hb hbox hg; have hnb266 := NB282_229.out; have hnc266 := NB229_282.out; have hnb267 := NB282_230.out; have hnc267 := NB230_282.out; have hnb268 := NB282_231.out; have hnc268 := NB231_282.out; have hnb269 := NB282_232.out; have hnc269 := NB232_282.out; have hnb270 := NB282_238.out; have hnc270 := NB238_282.out; have hcz271_0 : w265.cell? ⟨gb282, 0, none⟩ = some (.int .i64 0) := (blk_cell BK282.out 0).trans rfl; have hcz271_1 : w265.cell? ⟨gb282, 1, none⟩ = some (.int .i64 0) := (blk_cell BK282.out 1).trans rfl; have hcz271_2 : w265.cell? ⟨gb282, 2, none⟩ = some (.string (⟨#[]⟩ : ByteArray)) := (blk_cell BK282.out 2).trans rfl; have hcz271_3 : w265.cell? ⟨gb282, 3, none⟩ = some (.bool false) := (blk_cell BK282.out 3).trans rfl; have hfz271_0 := blk_frozen BK282.out 0; have hfz271_1 := blk_frozen BK282.out 1; have hfz271_2 := blk_frozen BK282.out 2; have hfz271_3 := blk_frozen BK282.out 3; have hnb272 := NB238_230.out; have hnc272 := NB230_238.out; have hnb273 := NB238_231.out; have hnc273 := NB231_238.out; have hcz274_0 : w265.cell? ⟨gb238, 0, none⟩ = some (.int .i64 t233) := (blk_cell BK238.out 0).trans rfl; have hcz274_1 : w265.cell? ⟨gb238, 1, none⟩ = some (.int .i64 t234) := (blk_cell BK238.out 1).trans rfl; have hcz274_2 : w265.cell? ⟨gb238, 2, none⟩ = some (.string t235) := (blk_cell BK238.out 2).trans rfl; have hcz274_3 : w265.cell? ⟨gb238, 3, none⟩ = some (.bool t236) := (blk_cell BK238.out 3).trans rfl; have hfz274_0 := blk_frozen BK238.out 0; have hfz274_1 := blk_frozen BK238.out 1; have hfz274_2 := blk_frozen BK238.out 2; have hfz274_3 := blk_frozen BK238.out 3) | (go_at_call 6; (first | ((with_reducible refine (barbicanref05_Valid.calls kj203 t233 t234 t235 t236 t284 _ A252.out).mono ?_))); rintro e wz ⟨rfl, hb⟩; have n0_ := Aside0.mk (blk_below (g := gb229) (o := .cells #[.string a0_0, .int .i64 a0_1, .int .i64 a0_2] 23 (0, 0)) (by (with_reducible repeat (first | refine blk_drewN ?_ _ | refine blk_drew ?_ | refine blk_alloc ?_ _)); refine blk_far ?_ NB229_282.out _; (with_reducible repeat (first | refine blk_drewN ?_ _ | refine blk_drew ?_ | refine blk_alloc ?_ _)); refine blk_far ?_ NB229_282.out _; (with_reducible repeat (first | refine blk_drewN ?_ _ | refine blk_drew ?_ | refine blk_alloc ?_ _)); refine blk_far ?_ NB229_282.out _; (with_reducible repeat (first | refine blk_drewN ?_ _ | refine blk_drew ?_ | refine blk_alloc ?_ _)); refine blk_far ?_ NB229_282.out _; (with_reducible repeat (first | refine blk_drewN ?_ _ | refine blk_drew ?_ | refine blk_alloc ?_ _)); exact BK229.out) hb); have n1_ := Aside0.mk (blk_below (g := gb230) (o := .cells #[.int .i64 a1_0, .int .i64 a1_1, .string a1_2, .bool a1_3] 25 (0, 0)) (by (with_reducible repeat (first | refine blk_drewN ?_ _ | refine blk_drew ?_ | refine blk_alloc ?_ _)); refine blk_far ?_ NB230_282.out _; (with_reducible repeat (first | refine blk_drewN ?_ _ | refine blk_drew ?_ | refine blk_alloc ?_ _)); refine blk_far ?_ NB230_282.out _; (with_reducible repeat (first | refine blk_drewN ?_ _ | refine blk_drew ?_ | refine blk_alloc ?_ _)); refine blk_far ?_ NB230_282.out _; (with_reducible repeat (first | refine blk_drewN ?_ _ | refine blk_drew ?_ | refine blk_alloc ?_ _)); refine blk_far ?_ NB230_282.out _; (with_reducible repeat (first | refine blk_drewN ?_ _ | refine blk_drew ?_ | refine blk_alloc ?_ _)); exact BK230.out) hb); have n2_ := Aside0.mk (blk_below (g := gb231) (o := .cells #[.int .i64 a2_0, .int .i64 a2_1] 26 (0, 0)) (by (with_reducible repeat (first | refine blk_drewN ?_ _ | refine blk_drew ?_ | refine blk_alloc ?_ _)); refine blk_far ?_ NB231_282.out _; (with_reducible repeat (first | refine blk_drewN ?_ _ | refine blk_drew ?_ | refine blk_alloc ?_ _)); refine blk_far ?_ NB231_282.out _; (with_reducible repeat (first | refine blk_drewN ?_ _ | refine blk_drew ?_ | refine blk_alloc ?_ _)); refine blk_far ?_ NB231_282.out _; (with_reducible repeat (first | refine blk_drewN ?_ _ | refine blk_drew ?_ | refine blk_alloc ?_ _)); refine blk_far ?_ NB231_282.out _; (with_reducible repeat (first | refine blk_drewN ?_ _ | refine blk_drew ?_ | refine blk_alloc ?_ _)); exact BK231.out) hb); have n3_ := Aside0.mk (blk_below (g := gb232) (o := .cells #[.int .i64 a1_0, .int .i64 a1_1, .string a1_2, .bool a1_3] 25 (0, 0)) (by (with_reducible repeat (first | refine blk_drewN ?_ _ | refine blk_drew ?_ | refine blk_alloc ?_ _)); refine blk_far ?_ NB232_282.out _; (with_reducible repeat (first | refine blk_drewN ?_ _ | refine blk_drew ?_ | refine blk_alloc ?_ _)); refine blk_far ?_ NB232_282.out _; (with_reducible repeat (first | refine blk_drewN ?_ _ | refine blk_drew ?_ | refine blk_alloc ?_ _)); refine blk_far ?_ NB232_282.out _; (with_reducible repeat (first | refine blk_drewN ?_ _ | refine blk_drew ?_ | refine blk_alloc ?_ _)); refine blk_far ?_ NB232_282.out _; (with_reducible repeat (first | refine blk_drewN ?_ _ | refine blk_drew ?_ | refine blk_alloc ?_ _)); exact BK232.out) hb); have n4_ := Aside0.mk (blk_below (g := gb238) (o := .cells #[.int .i64 t233, .int .i64 t234, .string t235, .bool t236] 25 (0, 0)) (by (with_reducible repeat (first | refine blk_drewN ?_ _ | refine blk_drew ?_ | refine blk_alloc ?_ _)); refine blk_far ?_ NB238_282.out _; (with_reducible repeat (first | refine blk_drewN ?_ _ | refine blk_drew ?_ | refine blk_alloc ?_ _)); refine blk_far ?_ NB238_282.out _; (with_reducible repeat (first | refine blk_drewN ?_ _ | refine blk_drew ?_ | refine blk_alloc ?_ _)); refine blk_far ?_ NB238_282.out _; (with_reducible repeat (first | refine blk_drewN ?_ _ | refine blk_drew ?_ | refine blk_alloc ?_ _)); refine blk_far ?_ NB238_282.out _; (with_reducible repeat (first | refine blk_drewN ?_ _ | refine blk_drew ?_ | refine blk_alloc ?_ _)); exact BK238.out) hb); have n5_ := Aside0.mk (blk_below (g := gb282) (o := .cells #[.int .i64 t277, .int .i64 t278, .string t279, .bool t280] 25 (0, 0)) (by (with_reducible repeat (first | refine blk_drewN ?_ _ | refine blk_drew ?_ | refine blk_alloc ?_ _)); refine blk_put (cs := #[.int .i64 t277, .int .i64 t278, .string t279, .bool false]) ?_ 3 _ (by first | rfl | (simp only [w64_256, wu64_256]; rfl) | (subst_vars; simp only [w64_256, wu64_256, shl, wu32_mod, Int.one_mul]; rfl)); (with_reducible repeat (first | refine blk_drewN ?_ _ | refine blk_drew ?_ | refine blk_alloc ?_ _)); refine blk_put (cs := #[.int .i64 t277, .int .i64 t278, .string (⟨#[]⟩ : ByteArray), .bool false]) ?_ 2 _ (by first | rfl | (simp only [w64_256, wu64_256]; rfl) | (subst_vars; simp only [w64_256, wu64_256, shl, wu32_mod, Int.one_mul]; rfl)); (with_reducible repeat (first | refine blk_drewN ?_ _ | refine blk_drew ?_ | refine blk_alloc ?_ _)); refine blk_put (cs := #[.int .i64 t277, .int .i64 0, .string (⟨#[]⟩ : ByteArray), .bool false]) ?_ 1 _ (by first | rfl | (simp only [w64_256, wu64_256]; rfl) | (subst_vars; simp only [w64_256, wu64_256, shl, wu32_mod, Int.one_mul]; rfl)); (with_reducible repeat (first | refine blk_drewN ?_ _ | refine blk_drew ?_ | refine blk_alloc ?_ _)); refine blk_put (cs := #[.int .i64 0, .int .i64 0, .string (⟨#[]⟩ : ByteArray), .bool false]) ?_ 0 _ (by first | rfl | (simp only [w64_256, wu64_256]; rfl) | (subst_vars; simp only [w64_256, wu64_256, shl, wu32_mod, Int.one_mul]; rfl)); (with_reducible repeat (first | refine blk_drewN ?_ _ | refine blk_drew ?_ | refine blk_alloc ?_ _)); exact BK282.out) hb); have n6_ := Aside0.mk (below_step (bh_ HB) hb); clear BK229; clear BK230; clear BK231; clear BK232; clear BK238; clear BK282; clear HB; have BK229 := n0_; have BK230 := n1_; have BK231 := n2_; have BK232 := n3_; have BK238 := n4_; have BK282 := n5_; have HB := n6_; clear n0_ n1_ n2_ n3_ n4_ n5_ n6_; (try clear hb); (try clear hb2); (try clear hk); (try clear hi)) | (go_at_call 5; (first | ((with_reducible refine (barbicanlaw24_sure.calls kj203  t285 _ A254.out).mono ?_))); rintro e wz ⟨rfl, hb⟩; have n0_ := Aside0.mk (blk_below (g := gb229) (o := .cells #[.string a0_0, .int .i64 a0_1, .int .i64 a0_2] 23 (0, 0)) (bk_ BK229) hb); have n1_ := Aside0.mk (blk_below (g := gb230) (o := .cells #[.int .i64 a1_0, .int .i64 a1_1, .string a1_2, .bool a1_3] 25 (0, 0)) (bk_ BK230) hb); have n2_ := Aside0.mk (blk_below (g := gb231) (o := .cells #[.int .i64 a2_0, .int .i64 a2_1] 26 (0, 0)) (bk_ BK231) hb); have n3_ := Aside0.mk (blk_below (g := gb232) (o := .cells #[.int .i64 a1_0, .int .i64 a1_1, .string a1_2, .bool a1_3] 25 (0, 0)) (bk_ BK232) hb); have n4_ := Aside0.mk (blk_below (g := gb238) (o := .cells #[.int .i64 t233, .int .i64 t234, .string t235, .bool t236] 25 (0, 0)) (bk_ BK238) hb); have n5_ := Aside0.mk (blk_below (g := gb282) (o := .cells #[.int .i64 t277, .int .i64 t278, .string t279, .bool t280] 25 (0, 0)) (bk_ BK282) hb); have n6_ := Aside0.mk (below_step (bh_ HB) hb); clear BK229; clear BK230; clear BK231; clear BK232; clear BK238; clear BK282; clear HB; have BK229 := n0_; have BK230 := n1_; have BK231 := n2_; have BK232 := n3_; have BK238 := n4_; have BK282 := n5_; have HB := n6_; clear n0_ n1_ n2_ n3_ n4_ n5_ n6_; (try clear hb); (try clear hb2); (try clear hk); (try clear hi)))
                 go_ret
                 exact ⟨by first | rfl | (simp [errW_none, errW_some] <;> rfl) | (simp [*, errW_none, errW_some] <;> rfl), by repeat (first | (with_reducible first | exact HB.out | apply below_alloc | apply pw_below_drewN | apply below_drew1 | refine below_set ?_ GE229.out | refine below_set ?_ GE230.out | refine below_set ?_ GE231.out | refine below_set ?_ GE232.out | refine below_set ?_ GE238.out | refine below_set ?_ GE282.out) | exact HB.out | exact below_undrew HB.out)⟩
                ·rw [if_neg c253] at H
                 have c253b0 : (t284 == 0) = false := beq_eq_false_iff_ne.mpr c253
                 have c253b1 : (t284 != 0) = true := bne_iff_ne.mpr c253
                 exact absurd (Option.some.inj H) (by rw [hT.out]; decide)
               ·rw [if_neg c251] at H
                have c251b0 : (t233 == t277 && (t234 == t278 && (t235.toList == t279.toList && (t236 == t280)))) = false := by simpa using c251
                (try (have c251b1 : decide (t233 = t277 && (t234 == t278 && (t235.toList == t279.toList && (t236 == t280)))) = false := by simpa using c251))
                (try (have c251b2 : (t233 == t277 && (t234 == t278 && (t235.toList == t279.toList && (t236 == t280)))) = false := by simpa using c251))
                (try (have c251b3 : ¬ (t233 = t277 && (t234 == t278 && (t235.toList == t279.toList && (t236 == t280)))) := by simpa using c251))
                clear c251
                exact absurd (Option.some.inj H) (by rw [hT.out]; decide)
              ·have H1 : (some false) = some r := by rw [if_neg (show ¬ (some q283).isNone = true by simp)] at H; exact H
               clear H
               have H := H1
               clear H1
               try simp only [errW_none, errW_some]
               exact absurd (Option.some.inj H) (by rw [hT.out]; decide)
 ·have H1 : (if (t233 == 0 && (t234 == 0 && (t235.toList == ([] : List UInt8) && (!t236)))) = true then ((barbicanlaw24_sure.f k).bind fun t286 => (some t286)) else (some false)) = some r := by rw [if_neg (show ¬ (some q239).isNone = true by simp)] at H; exact H
  clear H
  have H := H1
  clear H1
  try simp only [errW_none, errW_some]
  by_cases c277 : (t233 == 0 && (t234 == 0 && (t235.toList == ([] : List UInt8) && (!t236)))) = true
  ·rw [if_pos c277] at H
   have c277b0 : (t233 == 0 && (t234 == 0 && (t235.toList == ([] : List UInt8) && (!t236)))) = true := c277
   (try (have c277b1 : decide (t233 = 0 && (t234 == 0 && (t235.toList == ([] : List UInt8) && (!t236)))) = true := by simpa using c277))
   (try (have c277b2 : (t233 == 0 && (t234 == 0 && (t235.toList == ([] : List UInt8) && (!t236)))) = true := by simpa using c277))
   (try (have c277b6 : (t233 = 0 ∧ t234 = 0 ∧ t235.toList = ([] : List UInt8) ∧ t236 = false) = True := eq_true (by simpa using c277)))
   clear c277
   replace H := Option.bind_eq_some_iff.mp H
   obtain ⟨t286, A2780, H⟩ := H
   replace H : (some t286) = some r := H
   have A278 := Aside0.mk A2780
   clear A2780
   obtain rfl := Option.some.inj H
   go_enter Try.func3, Try.ntmps3
   go_wp2_with (first | ((with_reducible refine gate_dst (N := 3) rfl ?_); (try (refine gate_guard (by rfl) ?_; dsimp only)); refine box_event ?hg (N := 3) ?hd (cs := #[.string a0_0, .int .i64 a0_1, .int .i64 a0_2]) (t := 23) ?hr ?_; (case hd => rfl); (case hg => rfl); (case hr => first | (go_simp; done) | (go_simp; rfl)); intro gb229 hg w279 hbox hb; have n0_ := Aside0.mk (below_step (bh_ HB) hb); have n1_ := Aside0.mk (hbox); have n2_ := Aside0.mk ((by rw [hg]; exact (below_size (bh_ HB)) : w.heap.size ≤ gb229)); have n3_ := Aside0.mk ((by rw [hg]; exact (below_size (bh_ HB)) : w.heap.size ≤ gb229)); clear HB; have HB := n0_; have BK229 := n1_; have GW229 := n2_; have GE229 := n3_; clear n0_ n1_ n2_ n3_; clear hb hbox hg) | ((with_reducible refine gate_dst (N := 4) rfl ?_); (try (refine gate_guard (by rfl) ?_; dsimp only)); refine box_event ?hg (N := 4) ?hd (cs := #[.int .i64 a1_0, .int .i64 a1_1, .string a1_2, .bool a1_3]) (t := 25) ?hr ?_; (case hd => rfl); (case hg => rfl); (case hr => first | (go_simp; done) | (go_simp; rfl)); intro gb230 hg w280 hbox hb; have n0_ := Aside0.mk (blk_below (g := gb229) (o := .cells #[.string a0_0, .int .i64 a0_1, .int .i64 a0_2] 23 (0, 0)) (bk_ BK229) hb); have n1_ := Aside0.mk (below_step (bh_ HB) hb); have n2_ := Aside0.mk (hbox); have n3_ := Aside0.mk ((by rw [hg]; exact (below_size (bh_ HB)) : w.heap.size ≤ gb230)); have n4_ := Aside0.mk ((by rw [hg]; exact (below_size (bh_ HB)) : w.heap.size ≤ gb230)); have n5_ := Aside0.mk ((by rw [hg]; exact Nat.ne_of_lt (blk_lt (g := gb229) (o := .cells #[.string a0_0, .int .i64 a0_1, .int .i64 a0_2] 23 (0, 0)) (bk_ BK229)) : gb229 ≠ gb230)); have n6_ := Aside0.mk ((by rw [hg]; exact Nat.ne_of_gt (blk_lt (g := gb229) (o := .cells #[.string a0_0, .int .i64 a0_1, .int .i64 a0_2] 23 (0, 0)) (bk_ BK229)) : gb230 ≠ gb229)); clear BK229; clear HB; have BK229 := n0_; have HB := n1_; have BK230 := n2_; have GW230 := n3_; have GE230 := n4_; have NB229_230 := n5_; have NB230_229 := n6_; clear n0_ n1_ n2_ n3_ n4_ n5_ n6_; clear hb hbox hg) | ((with_reducible refine gate_dst (N := 5) rfl ?_); (try (refine gate_guard (by rfl) ?_; dsimp only)); refine box_event ?hg (N := 5) ?hd (cs := #[.int .i64 a2_0, .int .i64 a2_1]) (t := 26) ?hr ?_; (case hd => rfl); (case hg => rfl); (case hr => first | (go_simp; done) | (go_simp; rfl)); intro gb231 hg w281 hbox hb; have n0_ := Aside0.mk (blk_below (g := gb229) (o := .cells #[.string a0_0, .int .i64 a0_1, .int .i64 a0_2] 23 (0, 0)) (bk_ BK229) hb); have n1_ := Aside0.mk (blk_below (g := gb230) (o := .cells #[.int .i64 a1_0, .int .i64 a1_1, .string a1_2, .bool a1_3] 25 (0, 0)) (bk_ BK230) hb); have n2_ := Aside0.mk (below_step (bh_ HB) hb); have n3_ := Aside0.mk (hbox); have n4_ := Aside0.mk ((by rw [hg]; exact (below_size (bh_ HB)) : w.heap.size ≤ gb231)); have n5_ := Aside0.mk ((by rw [hg]; exact (below_size (bh_ HB)) : w.heap.size ≤ gb231)); have n6_ := Aside0.mk ((by rw [hg]; exact Nat.ne_of_lt (blk_lt (g := gb229) (o := .cells #[.string a0_0, .int .i64 a0_1, .int .i64 a0_2] 23 (0, 0)) (bk_ BK229)) : gb229 ≠ gb231)); have n7_ := Aside0.mk ((by rw [hg]; exact Nat.ne_of_gt (blk_lt (g := gb229) (o := .cells #[.string a0_0, .int .i64 a0_1, .int .i64 a0_2] 23 (0, 0)) (bk_ BK229)) : gb231 ≠ gb229)); have n8_ := Aside0.mk ((by rw [hg]; exact Nat.ne_of_lt (blk_lt (g := gb230) (o := .cells #[.int .i64 a1_0, .int .i64 a1_1, .string a1_2, .bool a1_3] 25 (0, 0)) (bk_ BK230)) : gb230 ≠ gb231)); have n9_ := Aside0.mk ((by rw [hg]; exact Nat.ne_of_gt (blk_lt (g := gb230) (o := .cells #[.int .i64 a1_0, .int .i64 a1_1, .string a1_2, .bool a1_3] 25 (0, 0)) (bk_ BK230)) : gb231 ≠ gb230)); clear BK229; clear BK230; clear HB; have BK229 := n0_; have BK230 := n1_; have HB := n2_; have BK231 := n3_; have GW231 := n4_; have GE231 := n5_; have NB229_231 := n6_; have NB231_229 := n7_; have NB230_231 := n8_; have NB231_230 := n9_; clear n0_ n1_ n2_ n3_ n4_ n5_ n6_ n7_ n8_ n9_; clear hb hbox hg; have hnb282 := NB230_229.out; have hnc282 := NB229_230.out; have hnb283 := NB230_231.out; have hnc283 := NB231_230.out; have hcz284_0 : w281.cell? ⟨gb230, 0, none⟩ = some (.int .i64 a1_0) := (blk_cell BK230.out 0).trans rfl; have hcz284_1 : w281.cell? ⟨gb230, 1, none⟩ = some (.int .i64 a1_1) := (blk_cell BK230.out 1).trans rfl; have hcz284_2 : w281.cell? ⟨gb230, 2, none⟩ = some (.string a1_2) := (blk_cell BK230.out 2).trans rfl; have hcz284_3 : w281.cell? ⟨gb230, 3, none⟩ = some (.bool a1_3) := (blk_cell BK230.out 3).trans rfl; have hfz284_0 := blk_frozen BK230.out 0; have hfz284_1 := blk_frozen BK230.out 1; have hfz284_2 := blk_frozen BK230.out 2; have hfz284_3 := blk_frozen BK230.out 3) | ((with_reducible refine gate_dst (N := 7) rfl ?_); (try (refine gate_guard (by rfl) ?_; dsimp only)); refine box_event ?hg (N := 7) ?hd (cs := #[.int .i64 0, .int .i64 0, .string (⟨#[]⟩ : ByteArray), .bool false]) (t := 25) ?hr ?_; (case hd => rfl); (case hg => rfl); (case hr => first | (go_simp; done) | (go_simp; rfl)); intro gb232 hg w285 hbox hb; have n0_ := Aside0.mk (blk_below (g := gb229) (o := .cells #[.string a0_0, .int .i64 a0_1, .int .i64 a0_2] 23 (0, 0)) (bk_ BK229) hb); have n1_ := Aside0.mk (blk_below (g := gb230) (o := .cells #[.int .i64 a1_0, .int .i64 a1_1, .string a1_2, .bool a1_3] 25 (0, 0)) (bk_ BK230) hb); have n2_ := Aside0.mk (blk_below (g := gb231) (o := .cells #[.int .i64 a2_0, .int .i64 a2_1] 26 (0, 0)) (bk_ BK231) hb); have n3_ := Aside0.mk (below_step (bh_ HB) hb); have n4_ := Aside0.mk (hbox); have n5_ := Aside0.mk ((by rw [hg]; exact (below_size (bh_ HB)) : w.heap.size ≤ gb232)); have n6_ := Aside0.mk ((by rw [hg]; exact (below_size (bh_ HB)) : w.heap.size ≤ gb232)); have n7_ := Aside0.mk ((by rw [hg]; exact Nat.ne_of_lt (blk_lt (g := gb229) (o := .cells #[.string a0_0, .int .i64 a0_1, .int .i64 a0_2] 23 (0, 0)) (bk_ BK229)) : gb229 ≠ gb232)); have n8_ := Aside0.mk ((by rw [hg]; exact Nat.ne_of_gt (blk_lt (g := gb229) (o := .cells #[.string a0_0, .int .i64 a0_1, .int .i64 a0_2] 23 (0, 0)) (bk_ BK229)) : gb232 ≠ gb229)); have n9_ := Aside0.mk ((by rw [hg]; exact Nat.ne_of_lt (blk_lt (g := gb230) (o := .cells #[.int .i64 a1_0, .int .i64 a1_1, .string a1_2, .bool a1_3] 25 (0, 0)) (bk_ BK230)) : gb230 ≠ gb232)); have n10_ := Aside0.mk ((by rw [hg]; exact Nat.ne_of_gt (blk_lt (g := gb230) (o := .cells #[.int .i64 a1_0, .int .i64 a1_1, .string a1_2, .bool a1_3] 25 (0, 0)) (bk_ BK230)) : gb232 ≠ gb230)); have n11_ := Aside0.mk ((by rw [hg]; exact Nat.ne_of_lt (blk_lt (g := gb231) (o := .cells #[.int .i64 a2_0, .int .i64 a2_1] 26 (0, 0)) (bk_ BK231)) : gb231 ≠ gb232)); have n12_ := Aside0.mk ((by rw [hg]; exact Nat.ne_of_gt (blk_lt (g := gb231) (o := .cells #[.int .i64 a2_0, .int .i64 a2_1] 26 (0, 0)) (bk_ BK231)) : gb232 ≠ gb231)); clear BK229; clear BK230; clear BK231; clear HB; have BK229 := n0_; have BK230 := n1_; have BK231 := n2_; have HB := n3_; have BK232 := n4_; have GW232 := n5_; have GE232 := n6_; have NB229_232 := n7_; have NB232_229 := n8_; have NB230_232 := n9_; have NB232_230 := n10_; have NB231_232 := n11_; have NB232_231 := n12_; clear n0_ n1_ n2_ n3_ n4_ n5_ n6_ n7_ n8_ n9_ n10_ n11_ n12_; clear hb hbox hg; have hnb286 := NB232_229.out; have hnc286 := NB229_232.out; have hnb287 := NB232_230.out; have hnc287 := NB230_232.out; have hnb288 := NB232_231.out; have hnc288 := NB231_232.out; have hcz289_0 : w285.cell? ⟨gb232, 0, none⟩ = some (.int .i64 0) := (blk_cell BK232.out 0).trans rfl; have hcz289_1 : w285.cell? ⟨gb232, 1, none⟩ = some (.int .i64 0) := (blk_cell BK232.out 1).trans rfl; have hcz289_2 : w285.cell? ⟨gb232, 2, none⟩ = some (.string (⟨#[]⟩ : ByteArray)) := (blk_cell BK232.out 2).trans rfl; have hcz289_3 : w285.cell? ⟨gb232, 3, none⟩ = some (.bool false) := (blk_cell BK232.out 3).trans rfl; have hfz289_0 := blk_frozen BK232.out 0; have hfz289_1 := blk_frozen BK232.out 1; have hfz289_2 := blk_frozen BK232.out 2; have hfz289_3 := blk_frozen BK232.out 3; have hnb290 := NB229_231.out; have hnc290 := NB231_229.out; have hcz291_0 : w285.cell? ⟨gb229, 0, none⟩ = some (.string a0_0) := (blk_cell BK229.out 0).trans rfl; have hcz291_1 : w285.cell? ⟨gb229, 1, none⟩ = some (.int .i64 a0_1) := (blk_cell BK229.out 1).trans rfl; have hcz291_2 : w285.cell? ⟨gb229, 2, none⟩ = some (.int .i64 a0_2) := (blk_cell BK229.out 2).trans rfl; have hfz291_0 := blk_frozen BK229.out 0; have hfz291_1 := blk_frozen BK229.out 1; have hfz291_2 := blk_frozen BK229.out 2; have hcz292_0 : w285.cell? ⟨gb230, 0, none⟩ = some (.int .i64 a1_0) := (blk_cell BK230.out 0).trans rfl; have hcz292_1 : w285.cell? ⟨gb230, 1, none⟩ = some (.int .i64 a1_1) := (blk_cell BK230.out 1).trans rfl; have hcz292_2 : w285.cell? ⟨gb230, 2, none⟩ = some (.string a1_2) := (blk_cell BK230.out 2).trans rfl; have hcz292_3 : w285.cell? ⟨gb230, 3, none⟩ = some (.bool a1_3) := (blk_cell BK230.out 3).trans rfl; have hfz292_0 := blk_frozen BK230.out 0; have hfz292_1 := blk_frozen BK230.out 1; have hfz292_2 := blk_frozen BK230.out 2; have hfz292_3 := blk_frozen BK230.out 3) | ((with_reducible refine gate_callee (f := 4) rfl ?_); refine goesL_ (some 17) rfl rfl Try.func4 (by kernel_rfl) rfl #[.agg #[.string a0_0, .int .i64 a0_1, .int .i64 a0_2], .agg #[.int .i64 a1_0, .int .i64 a1_1, .string a1_2, .bool a1_3]] rfl (by (try simp only [List.map_toArray, List.map_cons, List.map_nil]); first | done | rfl | (simp only [List.length_drop, List.length_take]; rfl)) ?_; (with_reducible refine (guard_Apply.calls k a0_0 a0_1 a0_2 a1_0 a1_1 a1_2 a1_3 t233 t234 t235 t236 (some q239) _ A4.out).mono ?_); rintro e w293 ⟨rfl, hb⟩; refine ⟨_, rfl, ?_⟩; have n0_ := Aside0.mk (blk_below (g := gb229) (o := .cells #[.string a0_0, .int .i64 a0_1, .int .i64 a0_2] 23 (0, 0)) (by (with_reducible repeat (first | refine blk_drewN ?_ _ | refine blk_drew ?_ | refine blk_alloc ?_ _)); refine blk_far ?_ NB229_232.out _; (with_reducible repeat (first | refine blk_drewN ?_ _ | refine blk_drew ?_ | refine blk_alloc ?_ _)); refine blk_far ?_ NB229_232.out _; (with_reducible repeat (first | refine blk_drewN ?_ _ | refine blk_drew ?_ | refine blk_alloc ?_ _)); refine blk_far ?_ NB229_232.out _; (with_reducible repeat (first | refine blk_drewN ?_ _ | refine blk_drew ?_ | refine blk_alloc ?_ _)); refine blk_far ?_ NB229_232.out _; (with_reducible repeat (first | refine blk_drewN ?_ _ | refine blk_drew ?_ | refine blk_alloc ?_ _)); exact BK229.out) hb); have n1_ := Aside0.mk (blk_below (g := gb230) (o := .cells #[.int .i64 a1_0, .int .i64 a1_1, .string a1_2, .bool a1_3] 25 (0, 0)) (by (with_reducible repeat (first | refine blk_drewN ?_ _ | refine blk_drew ?_ | refine blk_alloc ?_ _)); refine blk_far ?_ NB230_232.out _; (with_reducible repeat (first | refine blk_drewN ?_ _ | refine blk_drew ?_ | refine blk_alloc ?_ _)); refine blk_far ?_ NB230_232.out _; (with_reducible repeat (first | refine blk_drewN ?_ _ | refine blk_drew ?_ | refine blk_alloc ?_ _)); refine blk_far ?_ NB230_232.out _; (with_reducible repeat (first | refine blk_drewN ?_ _ | refine blk_drew ?_ | refine blk_alloc ?_ _)); refine blk_far ?_ NB230_232.out _; (with_reducible repeat (first | refine blk_drewN ?_ _ | refine blk_drew ?_ | refine blk_alloc ?_ _)); exact BK230.out) hb); have n2_ := Aside0.mk (blk_below (g := gb231) (o := .cells #[.int .i64 a2_0, .int .i64 a2_1] 26 (0, 0)) (by (with_reducible repeat (first | refine blk_drewN ?_ _ | refine blk_drew ?_ | refine blk_alloc ?_ _)); refine blk_far ?_ NB231_232.out _; (with_reducible repeat (first | refine blk_drewN ?_ _ | refine blk_drew ?_ | refine blk_alloc ?_ _)); refine blk_far ?_ NB231_232.out _; (with_reducible repeat (first | refine blk_drewN ?_ _ | refine blk_drew ?_ | refine blk_alloc ?_ _)); refine blk_far ?_ NB231_232.out _; (with_reducible repeat (first | refine blk_drewN ?_ _ | refine blk_drew ?_ | refine blk_alloc ?_ _)); refine blk_far ?_ NB231_232.out _; (with_reducible repeat (first | refine blk_drewN ?_ _ | refine blk_drew ?_ | refine blk_alloc ?_ _)); exact BK231.out) hb); have n3_ := Aside0.mk (blk_below (g := gb232) (o := .cells #[.int .i64 a1_0, .int .i64 a1_1, .string a1_2, .bool a1_3] 25 (0, 0)) (by (with_reducible repeat (first | refine blk_drewN ?_ _ | refine blk_drew ?_ | refine blk_alloc ?_ _)); refine blk_put (cs := #[.int .i64 a1_0, .int .i64 a1_1, .string a1_2, .bool false]) ?_ 3 _ (by first | rfl | (simp only [w64_256, wu64_256]; rfl) | (subst_vars; simp only [w64_256, wu64_256, shl, wu32_mod, Int.one_mul]; rfl)); (with_reducible repeat (first | refine blk_drewN ?_ _ | refine blk_drew ?_ | refine blk_alloc ?_ _)); refine blk_put (cs := #[.int .i64 a1_0, .int .i64 a1_1, .string (⟨#[]⟩ : ByteArray), .bool false]) ?_ 2 _ (by first | rfl | (simp only [w64_256, wu64_256]; rfl) | (subst_vars; simp only [w64_256, wu64_256, shl, wu32_mod, Int.one_mul]; rfl)); (with_reducible repeat (first | refine blk_drewN ?_ _ | refine blk_drew ?_ | refine blk_alloc ?_ _)); refine blk_put (cs := #[.int .i64 a1_0, .int .i64 0, .string (⟨#[]⟩ : ByteArray), .bool false]) ?_ 1 _ (by first | rfl | (simp only [w64_256, wu64_256]; rfl) | (subst_vars; simp only [w64_256, wu64_256, shl, wu32_mod, Int.one_mul]; rfl)); (with_reducible repeat (first | refine blk_drewN ?_ _ | refine blk_drew ?_ | refine blk_alloc ?_ _)); refine blk_put (cs := #[.int .i64 0, .int .i64 0, .string (⟨#[]⟩ : ByteArray), .bool false]) ?_ 0 _ (by first | rfl | (simp only [w64_256, wu64_256]; rfl) | (subst_vars; simp only [w64_256, wu64_256, shl, wu32_mod, Int.one_mul]; rfl)); (with_reducible repeat (first | refine blk_drewN ?_ _ | refine blk_drew ?_ | refine blk_alloc ?_ _)); exact BK232.out) hb); have n4_ := Aside0.mk (below_step (bh_ HB) hb); clear BK229; clear BK230; clear BK231; clear BK232; clear HB; have BK229 := n0_; have BK230 := n1_; have BK231 := n2_; have BK232 := n3_; have HB := n4_; clear n0_ n1_ n2_ n3_ n4_; (try clear hb); (try clear hb2); (try clear hk); (try clear hi); (try simp only [errW_none, errW_some])) | ((with_reducible refine gate_dst (N := 8) rfl ?_); (try (refine gate_guard (by rfl) ?_; dsimp only)); refine box_event ?hg (N := 8) ?hd (cs := #[.int .i64 0, .int .i64 0, .string (⟨#[]⟩ : ByteArray), .bool false]) (t := 25) ?hr ?_; (case hd => rfl); (case hg => rfl); (case hr => first | (go_simp; done) | (go_simp; rfl)); intro gb238 hg w294 hbox hb; have n0_ := Aside0.mk (blk_below (g := gb229) (o := .cells #[.string a0_0, .int .i64 a0_1, .int .i64 a0_2] 23 (0, 0)) (bk_ BK229) hb); have n1_ := Aside0.mk (blk_below (g := gb230) (o := .cells #[.int .i64 a1_0, .int .i64 a1_1, .string a1_2, .bool a1_3] 25 (0, 0)) (bk_ BK230) hb); have n2_ := Aside0.mk (blk_below (g := gb231) (o := .cells #[.int .i64 a2_0, .int .i64 a2_1] 26 (0, 0)) (bk_ BK231) hb); have n3_ := Aside0.mk (blk_below (g := gb232) (o := .cells #[.int .i64 a1_0, .int .i64 a1_1, .string a1_2, .bool a1_3] 25 (0, 0)) (bk_ BK232) hb); have n4_ := Aside0.mk (below_step (bh_ HB) hb); have n5_ := Aside0.mk (hbox); have n6_ := Aside0.mk ((by rw [hg]; exact (below_size (bh_ HB)) : w.heap.size ≤ gb238)); have n7_ := Aside0.mk ((by rw [hg]; exact (below_size (bh_ HB)) : w.heap.size ≤ gb238)); have n8_ := Aside0.mk ((by rw [hg]; exact Nat.ne_of_lt (blk_lt (g := gb229) (o := .cells #[.string a0_0, .int .i64 a0_1, .int .i64 a0_2] 23 (0, 0)) (bk_ BK229)) : gb229 ≠ gb238)); have n9_ := Aside0.mk ((by rw [hg]; exact Nat.ne_of_gt (blk_lt (g := gb229) (o := .cells #[.string a0_0, .int .i64 a0_1, .int .i64 a0_2] 23 (0, 0)) (bk_ BK229)) : gb238 ≠ gb229)); have n10_ := Aside0.mk ((by rw [hg]; exact Nat.ne_of_lt (blk_lt (g := gb230) (o := .cells #[.int .i64 a1_0, .int .i64 a1_1, .string a1_2, .bool a1_3] 25 (0, 0)) (bk_ BK230)) : gb230 ≠ gb238)); have n11_ := Aside0.mk ((by rw [hg]; exact Nat.ne_of_gt (blk_lt (g := gb230) (o := .cells #[.int .i64 a1_0, .int .i64 a1_1, .string a1_2, .bool a1_3] 25 (0, 0)) (bk_ BK230)) : gb238 ≠ gb230)); have n12_ := Aside0.mk ((by rw [hg]; exact Nat.ne_of_lt (blk_lt (g := gb231) (o := .cells #[.int .i64 a2_0, .int .i64 a2_1] 26 (0, 0)) (bk_ BK231)) : gb231 ≠ gb238)); have n13_ := Aside0.mk ((by rw [hg]; exact Nat.ne_of_gt (blk_lt (g := gb231) (o := .cells #[.int .i64 a2_0, .int .i64 a2_1] 26 (0, 0)) (bk_ BK231)) : gb238 ≠ gb231)); have n14_ := Aside0.mk ((by rw [hg]; exact Nat.ne_of_lt (blk_lt (g := gb232) (o := .cells #[.int .i64 a1_0, .int .i64 a1_1, .string a1_2, .bool a1_3] 25 (0, 0)) (bk_ BK232)) : gb232 ≠ gb238)); have n15_ := Aside0.mk ((by rw [hg]; exact Nat.ne_of_gt (blk_lt (g := gb232) (o := .cells #[.int .i64 a1_0, .int .i64 a1_1, .string a1_2, .bool a1_3] 25 (0, 0)) (bk_ BK232)) : gb238 ≠ gb232)); clear BK229; clear BK230; clear BK231; clear BK232; clear HB; have BK229 := n0_; have BK230 := n1_; have BK231 := n2_; have BK232 := n3_; have HB := n4_; have BK238 := n5_; have GW238 := n6_; have GE238 := n7_; have NB229_238 := n8_; have NB238_229 := n9_; have NB230_238 := n10_; have NB238_230 := n11_; have NB231_238 := n12_; have NB238_231 := n13_; have NB232_238 := n14_; have NB238_232 := n15_; clear n0_ n1_ n2_ n3_ n4_ n5_ n6_ n7_ n8_ n9_ n10_ n11_ n12_ n13_ n14_ n15_; clear hb hbox hg; have hnb295 := NB238_229.out; have hnc295 := NB229_238.out; have hnb296 := NB238_230.out; have hnc296 := NB230_238.out; have hnb297 := NB238_231.out; have hnc297 := NB231_238.out; have hnb298 := NB238_232.out; have hnc298 := NB232_238.out; have hcz299_0 : w294.cell? ⟨gb238, 0, none⟩ = some (.int .i64 0) := (blk_cell BK238.out 0).trans rfl; have hcz299_1 : w294.cell? ⟨gb238, 1, none⟩ = some (.int .i64 0) := (blk_cell BK238.out 1).trans rfl; have hcz299_2 : w294.cell? ⟨gb238, 2, none⟩ = some (.string (⟨#[]⟩ : ByteArray)) := (blk_cell BK238.out 2).trans rfl; have hcz299_3 : w294.cell? ⟨gb238, 3, none⟩ = some (.bool false) := (blk_cell BK238.out 3).trans rfl; have hfz299_0 := blk_frozen BK238.out 0; have hfz299_1 := blk_frozen BK238.out 1; have hfz299_2 := blk_frozen BK238.out 2; have hfz299_3 := blk_frozen BK238.out 3) | (go_at_call 5; (first | ((with_reducible refine (barbicanlaw24_sure.calls k  t286 _ A278.out).mono ?_))); rintro e wz ⟨rfl, hb⟩; have n0_ := Aside0.mk (blk_below (g := gb229) (o := .cells #[.string a0_0, .int .i64 a0_1, .int .i64 a0_2] 23 (0, 0)) (by (with_reducible repeat (first | refine blk_drewN ?_ _ | refine blk_drew ?_ | refine blk_alloc ?_ _)); refine blk_far ?_ NB229_238.out _; (with_reducible repeat (first | refine blk_drewN ?_ _ | refine blk_drew ?_ | refine blk_alloc ?_ _)); refine blk_far ?_ NB229_238.out _; (with_reducible repeat (first | refine blk_drewN ?_ _ | refine blk_drew ?_ | refine blk_alloc ?_ _)); refine blk_far ?_ NB229_238.out _; (with_reducible repeat (first | refine blk_drewN ?_ _ | refine blk_drew ?_ | refine blk_alloc ?_ _)); refine blk_far ?_ NB229_238.out _; (with_reducible repeat (first | refine blk_drewN ?_ _ | refine blk_drew ?_ | refine blk_alloc ?_ _)); exact BK229.out) hb); have n1_ := Aside0.mk (blk_below (g := gb230) (o := .cells #[.int .i64 a1_0, .int .i64 a1_1, .string a1_2, .bool a1_3] 25 (0, 0)) (by (with_reducible repeat (first | refine blk_drewN ?_ _ | refine blk_drew ?_ | refine blk_alloc ?_ _)); refine blk_far ?_ NB230_238.out _; (with_reducible repeat (first | refine blk_drewN ?_ _ | refine blk_drew ?_ | refine blk_alloc ?_ _)); refine blk_far ?_ NB230_238.out _; (with_reducible repeat (first | refine blk_drewN ?_ _ | refine blk_drew ?_ | refine blk_alloc ?_ _)); refine blk_far ?_ NB230_238.out _; (with_reducible repeat (first | refine blk_drewN ?_ _ | refine blk_drew ?_ | refine blk_alloc ?_ _)); refine blk_far ?_ NB230_238.out _; (with_reducible repeat (first | refine blk_drewN ?_ _ | refine blk_drew ?_ | refine blk_alloc ?_ _)); exact BK230.out) hb); have n2_ := Aside0.mk (blk_below (g := gb231) (o := .cells #[.int .i64 a2_0, .int .i64 a2_1] 26 (0, 0)) (by (with_reducible repeat (first | refine blk_drewN ?_ _ | refine blk_drew ?_ | refine blk_alloc ?_ _)); refine blk_far ?_ NB231_238.out _; (with_reducible repeat (first | refine blk_drewN ?_ _ | refine blk_drew ?_ | refine blk_alloc ?_ _)); refine blk_far ?_ NB231_238.out _; (with_reducible repeat (first | refine blk_drewN ?_ _ | refine blk_drew ?_ | refine blk_alloc ?_ _)); refine blk_far ?_ NB231_238.out _; (with_reducible repeat (first | refine blk_drewN ?_ _ | refine blk_drew ?_ | refine blk_alloc ?_ _)); refine blk_far ?_ NB231_238.out _; (with_reducible repeat (first | refine blk_drewN ?_ _ | refine blk_drew ?_ | refine blk_alloc ?_ _)); exact BK231.out) hb); have n3_ := Aside0.mk (blk_below (g := gb232) (o := .cells #[.int .i64 a1_0, .int .i64 a1_1, .string a1_2, .bool a1_3] 25 (0, 0)) (by (with_reducible repeat (first | refine blk_drewN ?_ _ | refine blk_drew ?_ | refine blk_alloc ?_ _)); refine blk_far ?_ NB232_238.out _; (with_reducible repeat (first | refine blk_drewN ?_ _ | refine blk_drew ?_ | refine blk_alloc ?_ _)); refine blk_far ?_ NB232_238.out _; (with_reducible repeat (first | refine blk_drewN ?_ _ | refine blk_drew ?_ | refine blk_alloc ?_ _)); refine blk_far ?_ NB232_238.out _; (with_reducible repeat (first | refine blk_drewN ?_ _ | refine blk_drew ?_ | refine blk_alloc ?_ _)); refine blk_far ?_ NB232_238.out _; (with_reducible repeat (first | refine blk_drewN ?_ _ | refine blk_drew ?_ | refine blk_alloc ?_ _)); exact BK232.out) hb); have n4_ := Aside0.mk (blk_below (g := gb238) (o := .cells #[.int .i64 t233, .int .i64 t234, .string t235, .bool t236] 25 (0, 0)) (by (with_reducible repeat (first | refine blk_drewN ?_ _ | refine blk_drew ?_ | refine blk_alloc ?_ _)); refine blk_put (cs := #[.int .i64 t233, .int .i64 t234, .string t235, .bool false]) ?_ 3 _ (by first | rfl | (simp only [w64_256, wu64_256]; rfl) | (subst_vars; simp only [w64_256, wu64_256, shl, wu32_mod, Int.one_mul]; rfl)); (with_reducible repeat (first | refine blk_drewN ?_ _ | refine blk_drew ?_ | refine blk_alloc ?_ _)); refine blk_put (cs := #[.int .i64 t233, .int .i64 t234, .string (⟨#[]⟩ : ByteArray), .bool false]) ?_ 2 _ (by first | rfl | (simp only [w64_256, wu64_256]; rfl) | (subst_vars; simp only [w64_256, wu64_256, shl, wu32_mod, Int.one_mul]; rfl)); (with_reducible repeat (first | refine blk_drewN ?_ _ | refine blk_drew ?_ | refine blk_alloc ?_ _)); refine blk_put (cs := #[.int .i64 t233, .int .i64 0, .string (⟨#[]⟩ : ByteArray), .bool false]) ?_ 1 _ (by first | rfl | (simp only [w64_256, wu64_256]; rfl) | (subst_vars; simp only [w64_256, wu64_256, shl, wu32_mod, Int.one_mul]; rfl)); (with_reducible repeat (first | refine blk_drewN ?_ _ | refine blk_drew ?_ | refine blk_alloc ?_ _)); refine blk_put (cs := #[.int .i64 0, .int .i64 0, .string (⟨#[]⟩ : ByteArray), .bool false]) ?_ 0 _ (by first | rfl | (simp only [w64_256, wu64_256]; rfl) | (subst_vars; simp only [w64_256, wu64_256, shl, wu32_mod, Int.one_mul]; rfl)); (with_reducible repeat (first | refine blk_drewN ?_ _ | refine blk_drew ?_ | refine blk_alloc ?_ _)); exact BK238.out) hb); have n5_ := Aside0.mk (below_step (bh_ HB) hb); clear BK229; clear BK230; clear BK231; clear BK232; clear BK238; clear HB; have BK229 := n0_; have BK230 := n1_; have BK231 := n2_; have BK232 := n3_; have BK238 := n4_; have HB := n5_; clear n0_ n1_ n2_ n3_ n4_ n5_; (try clear hb); (try clear hb2); (try clear hk); (try clear hi)))
   go_ret
   exact ⟨by first | rfl | (simp [errW_none, errW_some] <;> rfl) | (simp [*, errW_none, errW_some] <;> rfl), by repeat (first | (with_reducible first | exact HB.out | apply below_alloc | apply pw_below_drewN | apply below_drew1 | refine below_set ?_ GE229.out | refine below_set ?_ GE230.out | refine below_set ?_ GE231.out | refine below_set ?_ GE232.out | refine below_set ?_ GE238.out) | exact HB.out | exact below_undrew HB.out)⟩
  ·rw [if_neg c277] at H
   have c277b0 : (t233 == 0 && (t234 == 0 && (t235.toList == ([] : List UInt8) && (!t236)))) = false := by simpa using c277
   (try (have c277b1 : decide (t233 = 0 && (t234 == 0 && (t235.toList == ([] : List UInt8) && (!t236)))) = false := by simpa using c277))
   (try (have c277b2 : (t233 == 0 && (t234 == 0 && (t235.toList == ([] : List UInt8) && (!t236)))) = false := by simpa using c277))
   (try (have c277b6 : (t233 = 0 ∧ t234 = 0 ∧ t235.toList = ([] : List UInt8) ∧ t236 = false) = False := eq_false (by simpa using c277)))
   (try (have c277b3 : ¬ (t233 = 0 && (t234 == 0 && (t235.toList == ([] : List UInt8) && (!t236)))) := by simpa using c277))
   clear c277
   exact absurd (Option.some.inj H) (by rw [hT.out]; decide)

end Go.Proofs.Ytadnmajoimckgaa.XGb
