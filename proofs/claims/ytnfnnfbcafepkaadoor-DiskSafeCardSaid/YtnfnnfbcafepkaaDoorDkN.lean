/- The device: what it is in memory; New, has, Arm, Crashed. -/
import Derived.Test.YtnfnnfbcafepkaaDoorDkM
import Derived.Carry
import Derived.Below
import Derived.Deep.QuietTactic
import Derived.BigQuiet
namespace Go.Proofs.YtnfnnfbcafepkaaDoor.Dk
open Go Go.RowKit
set_option linter.unusedVariables false
set_option linter.unusedSimpArgs false
set_option maxRecDepth 100000
/-- Kept aside: no step of a walk sees it. -/
structure Asd (p : Prop) : Prop where
  out : p
/-- Nothing but what S names and what is new has turned. -/
structure Frm (S : Nat → Prop) (w w' : World) : Prop where
  os : w'.os = w.os
  tape : w'.tape = w.tape
  output : w'.output = w.output
  size : w.heap.size ≤ w'.heap.size
  block : ∀ k, k < w.heap.size → ¬ S k → w'.heap[k]? = w.heap[k]?
theorem Frm.refl (S : Nat → Prop) (w : World) : Frm S w w := ⟨rfl, rfl, rfl, Nat.le_refl _, fun _ _ _ => rfl⟩
theorem Frm.trans {S S2 : Nat → Prop} {a b c : World} (h : Frm S a b) (k : Frm S2 b c) (hs : ∀ i, S2 i → S i ∨ a.heap.size ≤ i) : Frm S a c :=
  ⟨k.os.trans h.os, k.tape.trans h.tape, k.output.trans h.output, Nat.le_trans h.size k.size, fun i hi hn =>
    (k.block i (Nat.lt_of_lt_of_le hi h.size) (fun h2 => (hs i h2).elim hn (fun h3 => by omega))).trans (h.block i hi hn)⟩
theorem Frm.then_ {S : Nat → Prop} {a b c : World} (h : Frm S a b) (k : Frm S b c) : Frm S a c := h.trans k (fun _ h => .inl h)
theorem Frm.of_below {S : Nat → Prop} {w w' : World} (h : Below w.heap.size w w') : Frm S w w' := ⟨h.os, h.tape, h.output, h.size, fun k hk _ => h.block k hk⟩
theorem Frm.grown {S : Nat → Prop} {a b c : World} {row : Option Nat} (h : Frm S a b) (hg : b.grownBy c row) (hr : ∀ k, row = some k → S k ∨ a.heap.size ≤ k) : Frm S a c :=
  h.trans (S2 := fun k => row = some k) ⟨hg.os, hg.tape, hg.output, hg.size, fun k hk hn => hg.block k hk (fun e => hn e.symm)⟩ hr
theorem Frm.alloc {S : Nat → Prop} {a b : World} (h : Frm S a b) (o : Obj) : Frm S a (b.alloc o) := h.trans (Frm.of_below (S := S) ((Below.refl _ b).alloc (Nat.le_refl _) o)) (fun _ h => .inl h)
theorem Frm.drewN {S : Nat → Prop} {a b : World} (h : Frm S a b) (m : Nat) : Frm S a (b.drewN m) := ⟨h.os, h.tape, h.output, h.size, h.block⟩
theorem Frm.drew {S : Nat → Prop} {a b : World} (h : Frm S a b) : Frm S a b.drew := ⟨h.os, h.tape, h.output, h.size, h.block⟩
theorem Frm.set {S : Nat → Prop} {a b : World} (h : Frm S a b) (p : Addr) (u : Value) (hp : S p.block ∨ a.heap.size ≤ p.block) : Frm S a (b.setCell p u) :=
  h.trans (S2 := fun k => k = p.block) ⟨rfl, rfl, rfl, by simp [World.setCell], fun k hk hn => Below.heap_setCell b p u k hn⟩ (fun k hk => by rw [hk]; exact hp)
theorem Frm.below {S : Nat → Prop} {w w' : World} (h : Frm S w w') (B : Nat) (hB : B ≤ w.heap.size) (hs : ∀ k, S k → B ≤ k) : Below B w w' := ⟨h.os, h.tape, h.output, h.size, fun k hk => h.block k (by omega) (fun h2 => by have := hs k h2; omega)⟩
theorem Frm.mono {S S' : Nat → Prop} {w w' : World} (h : Frm S w w') (hs : ∀ k, S k → S' k) : Frm S' w w' := ⟨h.os, h.tape, h.output, h.size, fun k hk hn => h.block k hk (fun h2 => hn (hs k h2))⟩
/-- What a device stands for. -/
structure DSt where
  reg : Int
  sec : Int
  safe : Pl → List UInt8
  pend : Pl → Option (List UInt8)
  crashed : Bool
  armed : Bool
  left : Int
def dkO (ms mp : Nat) (d : DSt) : Obj := .cells #[.int .i64 d.reg, .int .i64 d.sec, .map (some ms), .map (some mp), .bool d.crashed, .bool d.armed, .int .i64 d.left] 65 (0, 0)
structure DiskC (W : World) (g ms mp : Nat) (d : DSt) : Prop where
  blk : W.heap[g]? = some (dkO ms mp d)
  safe : SafeM W ms d.safe
  pend : PendM W mp d.pend
  ne : ms ≠ mp
  reg : 1 ≤ d.reg ∧ d.reg ≤ 16
  sec : 1 ≤ d.sec ∧ d.sec ≤ 16384
  left : -9223372036854775808 ≤ d.left ∧ d.left ≤ 9223372036854775807
  had : ∀ p, (d.pend p).isSome = true → 0 ≤ p.1 ∧ p.1 < d.reg ∧ 0 ≤ p.2 ∧ p.2 < d.sec
theorem blk_lt {W : World} {g : Nat} {o : Obj} (h : W.heap[g]? = some o) : g < W.heap.size := (Array.getElem?_eq_some_iff.1 h).1
theorem DiskC.neg {W : World} {g ms mp : Nat} {d : DSt} (h : DiskC W g ms mp d) : g ≠ ms ∧ g ≠ mp := by
  obtain ⟨D, ⟨es, clock, h1, _⟩, _⟩ := h.safe
  obtain ⟨D2, ⟨es2, clock2, h2, _⟩, _⟩ := h.pend
  have hb := h.blk
  refine ⟨fun e => ?_, fun e => ?_⟩
  · rw [e, h1] at hb; simp [dkO] at hb
  · rw [e, h2] at hb; simp [dkO] at hb
/-- The blocks of a device. -/
def own (g ms mp : Nat) (k : Nat) : Prop := k = g ∨ k = ms ∨ k = mp
theorem DiskC.step {W W1 : World} {g ms mp : Nat} {d : DSt} (h : DiskC W g ms mp d) (hg : W1.heap[g]? = W.heap[g]?) (hs : W1.heap[ms]? = W.heap[ms]?) (hp : W1.heap[mp]? = W.heap[mp]?) : DiskC W1 g ms mp d :=
  ⟨hg.trans h.blk, h.safe.step hs, h.pend.step hp, h.ne, h.reg, h.sec, h.left, h.had⟩
/-- It stays while other blocks turn. -/
theorem DiskC.frm {W W1 : World} {g ms mp : Nat} {d : DSt} {S : Nat → Prop} (h : DiskC W g ms mp d) (hf : Frm S W W1) (hS : ∀ k, own g ms mp k → ¬ S k) : DiskC W1 g ms mp d :=
  h.step (hf.block g (blk_lt h.blk) (hS g (.inl rfl))) (hf.block ms h.safe.lt (hS ms (.inr (.inl rfl)))) (hf.block mp h.pend.lt (hS mp (.inr (.inr rfl))))
/-- The device's cells. -/
theorem DiskC.cells {W : World} {g ms mp : Nat} {d : DSt} (h : DiskC W g ms mp d) : W.cell? ⟨g, 0, none⟩ = some (.int .i64 d.reg) ∧ W.cell? ⟨g, 1, none⟩ = some (.int .i64 d.sec) ∧ W.cell? ⟨g, 2, none⟩ = some (.map (some ms)) ∧ W.cell? ⟨g, 3, none⟩ = some (.map (some mp)) ∧
    W.cell? ⟨g, 4, none⟩ = some (.bool d.crashed) ∧ W.cell? ⟨g, 5, none⟩ = some (.bool d.armed) ∧ W.cell? ⟨g, 6, none⟩ = some (.int .i64 d.left) := by
  have hb := h.blk
  unfold dkO at hb
  simp [World.cell?, hb]
theorem DiskC.frozen {W : World} {g ms mp : Nat} {d : DSt} (h : DiskC W g ms mp d) (i : Nat) : W.frozen? ⟨g, i, none⟩ = false := by
  have hb := h.blk
  unfold dkO at hb
  simp [World.frozen?, hb]
/-- Is there such a sector? -/
def hasB (d : DSt) (r s : Int) : Bool := decide (0 ≤ r) && decide (r < d.reg) && decide (0 ≤ s) && decide (s < d.sec)
set_option maxHeartbeats 4000000 in
theorem has_c (g ms mp : Nat) (d : DSt) (r s : Int) (w : World) (h : DiskC w g ms mp d) : Calls Tryd.prog 24 #[.pointer (some ⟨g, 0, none⟩), .int .i64 r, .int .i64 s] w fun e w' => e = .returned (.bool (hasB d r s)) ∧ w' = w := by
  obtain ⟨h0, h1, _⟩ := h.cells
  have up := Tryd.underlying22
  unfold hasB
  clear h
  generalize d.reg = reg at *
  generalize d.sec = sec at *
  by_cases c1 : 0 ≤ r
  · by_cases c2 : r < reg
    · by_cases c3 : 0 ≤ s
      · have e1 : decide (0 ≤ r) = true := decide_eq_true c1
        have e2 : decide (r < reg) = true := decide_eq_true c2
        have e3 : decide (0 ≤ s) = true := decide_eq_true c3
        go_enter Tryd.func24, Tryd.ntmps24
        go_wp2
        go_ret
        exact ⟨by simp [e1, e2, e3], rfl⟩
      · have e1 : decide (0 ≤ r) = true := decide_eq_true c1
        have e2 : decide (r < reg) = true := decide_eq_true c2
        have e3 : decide (0 ≤ s) = false := decide_eq_false c3
        go_enter Tryd.func24, Tryd.ntmps24
        go_wp2
        go_ret
        exact ⟨by simp [e1, e2, e3], rfl⟩
    · have e1 : decide (0 ≤ r) = true := decide_eq_true c1
      have e2 : decide (r < reg) = false := decide_eq_false c2
      go_enter Tryd.func24, Tryd.ntmps24
      go_wp2
      go_ret
      exact ⟨by simp [e1, e2], rfl⟩
  · have e1 : decide (0 ≤ r) = false := decide_eq_false c1
    go_enter Tryd.func24, Tryd.ntmps24
    go_wp2
    go_ret
    exact ⟨by simp [e1], rfl⟩
end Go.Proofs.YtnfnnfbcafepkaaDoor.Dk
