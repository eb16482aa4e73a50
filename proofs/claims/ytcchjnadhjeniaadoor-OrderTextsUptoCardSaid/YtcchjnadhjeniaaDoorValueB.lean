/- Values compared: what two values tell, and two lists. -/
import Derived.Test.YtcchjnadhjeniaaDoorXAllx0
namespace Go.Proofs.YtcchjnadhjeniaaDoor.Pure
open Go.RowKit Go.Proofs.YtcchjnadhjeniaaDoor.XAll Go.Proofs.YtcchjnadhjeniaaDoorW.PrintWords Go.Proofs.YtcchjnadhjeniaaDoorW.PrintLast Go.Proofs.YtcchjnadhjeniaaDoorW.PrintMore
set_option linter.unusedVariables false
set_option linter.unusedSimpArgs false
namespace ValueL
/-- What two tests tell: less, greater, the same. -/
def sgn (a b : Bool) : Int := if a = true then -1 else if b = true then 1 else 0
/-- Two values compared. -/
def vcmp (x y : S41) : Int :=
  if x.f0 = y.f0 then
    if x.f0 = 1 then sgn (decide (x.f1 < y.f1)) (decide (y.f1 < x.f1))
    else if x.f0 = 2 then sgn (Op.bytesLess x.f2.toList y.f2.toList) (Op.bytesLess y.f2.toList x.f2.toList)
    else if x.f0 = 3 then sgn (!x.f3 && y.f3) (x.f3 && !y.f3)
    else 0
  else sgn (decide (x.f0 < y.f0)) (decide (y.f0 < x.f0))
/-- Two lists compared. -/
def lcmp : List S41 → List S41 → Int
  | [], [] => 0
  | [], _ :: _ => -1
  | _ :: _, [] => 1
  | x :: l, y :: m => if vcmp x y = 0 then lcmp l m else vcmp x y
theorem rd_at (l : List S41) (i : Nat) (h : i < l.length) : rd_T41 l (i : Int) = l[i] := by
  unfold rd_T41
  rw [Int.toNat_natCast]
  simp [List.getD, h]
theorem lcmp_nil (l m : List S41) (h : l = [] ∨ m = []) : lcmp l m = if l.length < m.length then -1 else if m.length < l.length then 1 else 0 := by
  cases l <;> cases m <;> simp [lcmp] at h ⊢
end ValueL
end Go.Proofs.YtcchjnadhjeniaaDoor.Pure
