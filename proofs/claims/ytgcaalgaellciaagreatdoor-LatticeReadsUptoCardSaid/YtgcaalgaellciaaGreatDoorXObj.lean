/- Words of this session: an object at a pointer, told as the list that it stands for. -/
import Derived.Test.YtgcaalgaellciaaGreatDoorWMore
namespace Go.Proofs.YtgcaalgaellciaaGreatDoorW.PrintWords
open Go.RowKit
/-- What an object at a pointer stands for, in a world. -/
class ObjC (α : Type) where
  C : World → Option Addr → List α → Prop
  nil : ∀ W A xs, C W A xs → (A = none ↔ xs = [])
theorem eqGuard_ptr (op : BinOp) (t : TypeId) (x y : Operand) (v : Value) (p : Option Addr) : eqGuard op t x y v (.pointer p) = pure () := by cases op <;> cases v <;> rfl
namespace Kd
/-- An object at a pointer: what it leads to lies in ok. e, base and d say nothing. -/
def O {α : Type} [ObjC α] (d : Kd α) (e : Nat) (W : World) (base : Nat) (ok : Nat → Prop) (v : Value) (xs : List α) : Prop := (d = d ∧ e = e ∧ base = base) ∧ ∃ A, v = .pointer A ∧ Foot (fun W => ObjC.C W A xs) W ok
/-- An object, now. -/
def OC {α : Type} [ObjC α] (W : World) (A : Option Addr) (xs : List α) : Prop := ObjC.C W A xs
section
variable {α : Type} [ObjC α] {d : Kd α} {e base base' n m c g N' : Nat} {ok ok' S : Nat → Prop} {w W w1 : World} {A : Option Addr} {u v v1 : Value} {xs : List α}
theorem O_slice (h : O d e W base ok v xs) : ∃ A, ∃ _c : Nat, v = .pointer A := by
  obtain ⟨_, A, hv, _⟩ := h
  exact ⟨A, 0, hv⟩
theorem O_foot (h : O d e W base ok (.pointer A) xs) : Foot (fun W => ObjC.C W A xs) W ok := by
  obtain ⟨_, A', hv, hf⟩ := h
  injection hv with ha
  subst ha
  exact hf
theorem O_reads' (h : O d e W base ok (.pointer A) xs) : True ∧ True ∧ OC W A xs := ⟨trivial, trivial, Foot.now (O_foot h)⟩
theorem OC_isNone (h : ObjC.C W A xs) : A.isNone = xs.isEmpty := by
  have h := ObjC.nil W A xs h
  cases A with
  | none => rw [h.1 rfl]; rfl
  | some a =>
    cases xs with
    | nil => exact absurd (h.2 rfl) (by simp)
    | cons x xs => rfl
theorem O_isN (h : O d e W base ok (.pointer A) xs) : A.isNone = xs.isEmpty := OC_isNone (Foot.now (O_foot h))
theorem O_eql {P : Program} (h : O d e W base ok v xs) (t : TypeId) (ht : P.underlying t = some (.pointer (P.pointee t))) (w : World) : (binOp .eql t v (.pointer none)).run P w = .ok (.bool xs.isEmpty) w := by
  obtain ⟨_, A, rfl, hf⟩ := h
  rw [← OC_isNone (Foot.now hf)]
  exact run_eql_pointer_nil w t A ht
theorem O_neq {P : Program} (h : O d e W base ok v xs) (t : TypeId) (ht : P.underlying t = some (.pointer (P.pointee t))) (w : World) : (binOp .neq t v (.pointer none)).run P w = .ok (.bool !xs.isEmpty) w := by
  obtain ⟨_, A, rfl, hf⟩ := h
  rw [← OC_isNone (Foot.now hf)]
  exact run_neq_pointer_nil w t A ht
/-- A new object. -/
theorem O_new (h : O d e W base (fun k => base ≤ k) v xs) : O d e W base (fun k => True ∧ base ≤ k ∧ k < W.heap.size) v xs := by
  obtain ⟨_, A, hv, hf⟩ := h
  exact ⟨⟨rfl, rfl, rfl⟩, A, hv, hf.bound.mono fun k hk => ⟨trivial, hk.1, hk.2⟩⟩
theorem O_mk (hf : Foot (fun W => ObjC.C W A xs) W ok) : O d e W base ok (.pointer A) xs := ⟨⟨rfl, rfl, rfl⟩, A, rfl, hf⟩
theorem O_step (h : O d e W base ok v xs) (hm : ∀ k, ok k → k < W.heap.size → w1.heap[k]? = W.heap[k]?) : O d e w1 base ok v xs := by
  obtain ⟨_, A, hv, hf⟩ := h
  exact ⟨⟨rfl, rfl, rfl⟩, A, hv, hf.step hm⟩
theorem O_mono (h : O d e W base ok v xs) (hok : ∀ k, ok k → ok' k) : O d e W base ok' v xs := by
  obtain ⟨_, A, hv, hf⟩ := h
  exact ⟨⟨rfl, rfl, rfl⟩, A, hv, hf.mono hok⟩
theorem O_bound (h : O d e W base ok v xs) : O d e W base (fun k => ok k ∧ k < W.heap.size) v xs := by
  obtain ⟨_, A, hv, hf⟩ := h
  exact ⟨⟨rfl, rfl, rfl⟩, A, hv, hf.bound⟩
theorem O_lower (h : O d e W base ok v xs) (_ : base' ≤ base) : O d e W base' ok v xs := ⟨⟨rfl, rfl, rfl⟩, h.2⟩
theorem O_below (h : O d e W base ok v xs) (hb : Below W.heap.size W w1) : O d e w1 base ok v xs := O_step h (fun k _ hlt => hb.block k hlt)
theorem O_alloc (h : O d e W base ok v xs) (o : Obj) : O d e (W.alloc o) base ok v xs := O_below h (below_alloc (Below.refl _ _) o)
theorem O_drew (h : O d e W base ok v xs) : O d e W.drew base ok v xs := O_below h (below_drew (Below.refl _ _))
theorem O_drewN (h : O d e W base ok v xs) (m : Nat) : O d e (W.drewN m) base ok v xs := O_below h (pw_below_drewN (Below.refl _ _) m)
theorem O_at {w' : World} (hq : w.drewN m = w') (h : O d e w base ok v xs) : O d e w' base ok v xs := by subst hq; exact O_drewN h m
theorem O_grown (h : O d e W base ok v xs) {row : Option Nat} (hg : W.grownBy w1 row) (hok : ∀ k, ok k → some k ≠ row) : O d e w1 base ok v xs := O_step h (fun k hk hlt => hg.block k hlt (hok k hk))
theorem O_far (h : O d e W base ok v xs) {p : Addr} (hok : ∀ k, ok k → k ≠ p.block) (u : Value) : O d e (W.setCell p u) base ok v xs := O_step h (fun k hk _ => Below.heap_setCell W p u k (hok k hk))
theorem O_keep (h : O d e W base ok v xs) (hk : KeepBut W w1 g none) (hok : ∀ k, ok k → k ≠ g) : O d e w1 base ok v xs := O_step h (fun k ho hlt => hk.2 k hlt (hok k ho) (by simp))
theorem O_kept (h : O d e W base ok v xs) (hk : Kept W w1 S) (hok : ∀ k, ok k → ¬ S k) : O d e w1 base ok v xs := O_step h (fun k ho hlt => hk.2 k hlt (hok k ho))
theorem O_after (h : O d e W base (fun k => ok k ∧ some k ≠ u.ownBlock) v xs) (hg : W.grownBy w1 u.ownBlock) (hat : v1.ownBlock = u.ownBlock ∨ ∃ b, v1.ownBlock = some b ∧ W.heap.size ≤ b) : O d e w1 base (fun k => ok k ∧ some k ≠ v1.ownBlock) v xs := by
  refine O_mono (O_step (O_bound h) (fun k hk hlt => hg.block k hlt hk.1.2)) (fun k hk => ⟨hk.1.1, ?_⟩)
  rcases hat with hat | ⟨b, hb, hle⟩
  · rw [hat]; exact hk.1.2
  · rw [hb]
    intro he
    injection he with he
    have := hk.2
    omega
theorem O_afterv (h : O d e W base (fun k => ok k ∧ some k ≠ v.ownBlock) u xs) (hg : W.grownBy w1 v.ownBlock) (hat : v1.ownBlock = v.ownBlock ∨ ∃ b, v1.ownBlock = some b ∧ W.heap.size ≤ b) : O d e w1 base (fun k => ok k ∧ some k ≠ v1.ownBlock) u xs := O_after h hg hat
theorem O_apart_nil (h : O d e W base ok v xs) : O d e W base (fun k => ok k ∧ some k ≠ (Value.slice none 0 0).ownBlock) v xs := O_mono h (fun k hk => ⟨hk, by simp [Value.ownBlock]⟩)
theorem O_old (h : O d e W base ok v xs) (hb : Below W.heap.size W w1) : O d e w1 base (fun k => ok k ∧ k < W.heap.size) v xs := O_step (O_bound h) (fun k _ hlt => hb.block k hlt)
theorem O_elder' (h : O d e W base ok v xs) (hbase : ∀ k, u.ownBlock = some k → W.heap.size ≤ k) (hb : Below W.heap.size W w1) : O d e w1 base (fun k => ok k ∧ some k ≠ u.ownBlock) v xs :=
  O_mono (O_old h hb) (fun k hk => ⟨hk.1, fun he => by have := hbase k he.symm; have := hk.2; omega⟩)
theorem O_elderB (h : O d e W base ok v xs) (a : Nat) (ha : W.heap.size ≤ a) : O d e W base (fun k => ok k ∧ k ≠ a) v xs := O_mono (O_bound h) (fun k hk => ⟨hk.1, by have := hk.2; omega⟩)
theorem O_oldK (h : O d e W base (fun k => ok k ∧ k ≠ g) v xs) (hk : KeepBut W w1 g none) : O d e w1 base (fun k => ok k ∧ k < W.heap.size) v xs :=
  O_mono (O_keep (O_bound h) hk (fun _ hk => hk.1.2)) (fun _ hk => ⟨hk.1.1, hk.2⟩)
theorem O_told (h : O d e w1 base (fun k => ok k ∧ k < N') v xs) (hbase : ∀ k, u.ownBlock = some k → N' ≤ k) : O d e w1 base (fun k => (ok k ∧ some k ≠ u.ownBlock) ∧ k < N') v xs :=
  O_mono h (fun k hk => ⟨⟨hk.1, fun he => Nat.lt_irrefl _ (Nat.lt_of_lt_of_le hk.2 (hbase k he.symm))⟩, hk.2⟩)
theorem O_keptB (h : O d e W base ok v xs) (hk : Kept W w1 S) (hne : ∀ k, ok k → ¬ S k) : O d e w1 base (fun k => ok k ∧ (¬ S k ∧ k < W.heap.size)) v xs :=
  O_kept (O_mono (O_bound h) (fun k hk => ⟨hk.1, hne k hk.1, hk.2⟩)) hk (fun _ hk => hk.2.1)
end
end Kd
end Go.Proofs.YtgcaalgaellciaaGreatDoorW.PrintWords
