/- Words of this session beside the printed ones: a make with a capacity of its own. -/
import Derived.Test.YtkcbgnhgjlbmlaaDoorWWords
import Derived.Lib.SlBytesConst
namespace Go.Proofs.YtkcbgnhgjlbmlaaDoorW.PrintWords
open Go.RowKit
/-- Numbers that a byte bounds. -/
theorem w64_256 (x : Int) : wrap64 (x % 256) = x % 256 := by unfold wrap64; omega
theorem wu64_256 (x : Int) : IntKind.u64.wrap (x % 256) = x % 256 := by
  simp only [IntKind.wrap, IntKind.bits, IntKind.signed]
  simp
  omega
theorem wu32_mod (n : Int) : IntKind.u32.wrap n = n % 4294967296 := by simp [IntKind.wrap, IntKind.signed, IntKind.bits]
/-- A draw changes nothing that lies in memory. -/
theorem below_undrew {base : Nat} {w W : World} (h : Below base w W.drew) : Below base w W := ⟨h.os, h.tape, h.output, h.size, h.block⟩
/-- Strings in order, as the printed texts spell it. -/
theorem less_other : ∀ x y : List UInt8, (!(Op.bytesLess x y || x == y)) = Op.bytesLess y x
  | [], [] => by simp [Op.bytesLess]
  | [], _ :: _ => by simp [Op.bytesLess]
  | _ :: _, [] => by simp [Op.bytesLess]
  | a :: x, b :: y => by
    have ih := less_other x y
    rw [Bool.eq_iff_iff] at ih ⊢
    simp only [Op.bytesLess, Bool.not_eq_true', Bool.or_eq_false_iff, Bool.or_eq_true, Bool.and_eq_true, decide_eq_true_eq, decide_eq_false_iff_not, beq_iff_eq, Bool.and_eq_false_imp, beq_eq_false_iff_ne, ne_eq, List.cons.injEq, not_and] at ih ⊢
    have h1 : (a < b) ↔ a.toNat < b.toNat := Iff.rfl
    have h2 : (b < a) ↔ b.toNat < a.toNat := Iff.rfl
    have h3 : (a = b) ↔ a.toNat = b.toNat := UInt8.toNat_inj.symm
    have h4 : (b = a) ↔ a.toNat = b.toNat := by rw [eq_comm]; exact h3
    rw [h1, h2, h3, h4]
    constructor
    · rintro ⟨⟨g1, g2⟩, g3⟩
      by_cases h : a.toNat = b.toNat
      · exact .inr ⟨h, ih.1 ⟨g2 h, g3 h⟩⟩
      · exact .inl (by omega)
    · rintro (g | ⟨g, g2⟩)
      · exact ⟨⟨by omega, fun h => by omega⟩, fun h => by omega⟩
      · exact ⟨⟨by omega, fun _ => (ih.2 g2).1⟩, fun _ => (ih.2 g2).2⟩
theorem str_gtr (t : TypeId) (a b : ByteArray) : binOp .gtr t (.string a) (.string b) = pure (.bool (Op.bytesLess b.toList a.toList)) := by
  rw [← less_other]
  simp [binOp, Op.stringOp]
theorem str_leq (t : TypeId) (a b : ByteArray) : binOp .leq t (.string a) (.string b) = pure (.bool !(Op.bytesLess b.toList a.toList)) := by
  rw [← less_other]
  simp [binOp, Op.stringOp]
theorem str_geq (t : TypeId) (a b : ByteArray) : binOp .geq t (.string a) (.string b) = pure (.bool !(Op.bytesLess a.toList b.toList)) := by simp [binOp, Op.stringOp]
namespace Kd
section
variable {P : Program} {ops : Array Oper} {rest : List Oper} {o : Oper} {a : Act} {Q : Exit → Act → World → Prop}
variable {α : Type}
end
end Kd
end Go.Proofs.YtkcbgnhgjlbmlaaDoorW.PrintWords
