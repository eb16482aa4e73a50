/- Words of this session: how an argument's datum reads as a value of a kind, with its bulk; kind by kind. -/
import Derived.Test.YtnflmaonilabgaaDoorWWords
import Derived.Test.YtnflmaonilabgaaDoorRows
import Derived.Deep.Slices
import Derived.SizedLaws
namespace Go.Proofs.YtnflmaonilabgaaDoorW.PrintWords
open Go.RowKit
namespace Kd
/-- A datum of type t reads as a value of kind d that is good; its bulk is told from below. -/
def Opn {α : Type} (P : Program) (W : World) (t : TypeId) (d : Kd α) (good : α → Prop) (bulk : α → Nat) : Prop :=
  ∀ (H : Type) (enc : TypeId × Value → H) (fuel : Nat) (cs : List Value) (x : DataW H × List MemPlace), DataW.trod enc P W 0 (fun _ => true) true fuel t cs = some x →
    ∃ a : α, d.K W a cs ∧ good a ∧ bulk a ≤ Go.Proofs.YtnflmaonilabgaaDoor.Rows.uptoBulk x.1
section
variable {P : Program} {W : World} {t : TypeId}
theorem opn_int {k : IntKind} (ht : P.underlying t = some (.int k)) : Opn P W t (Kd.int k) (fun n => (Lit.int k n).wf = true) (fun _ => 1) := by
  intro H enc fuel cs x h
  cases fuel with
  | zero => simp [DataW.trod] at h
  | succ fuel =>
    obtain ⟨n, rfl, rfl, hw⟩ : ∃ n, cs = [.int k n] ∧ x = (.lit (.int k n), []) ∧ (Lit.int k n).wf = true := by
      simp only [DataW.trod, ht] at h
      split at h <;> simp_all
    exact ⟨n, rfl, hw, by simp [Go.Proofs.YtnflmaonilabgaaDoor.Rows.uptoBulk]⟩
theorem opn_bool (ht : P.underlying t = some .bool) : Opn P W t Kd.bool (fun _ => True) (fun _ => 1) := by
  intro H enc fuel cs x h
  cases fuel with
  | zero => simp [DataW.trod] at h
  | succ fuel =>
    obtain ⟨b, rfl, rfl⟩ : ∃ b, cs = [.bool b] ∧ x = (.lit (.bool b), []) := by
      simp only [DataW.trod, ht] at h
      split at h <;> simp_all
    exact ⟨b, rfl, trivial, by simp [Go.Proofs.YtnflmaonilabgaaDoor.Rows.uptoBulk]⟩
end
end Kd
section
open Go.ChangeShapes Go.WideShapes
end
end Go.Proofs.YtnflmaonilabgaaDoorW.PrintWords
