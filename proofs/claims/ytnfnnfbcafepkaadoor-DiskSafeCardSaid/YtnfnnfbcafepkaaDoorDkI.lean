/- How the arguments of a law read: numbers, bytes, lists of numbers, lists of things done. -/
import Derived.Test.YtnfnnfbcafepkaaDoorDkV0
import Derived.Deep.Slices
import Derived.OpenShut
namespace Go.Proofs.YtnfnnfbcafepkaaDoor.Dk
open Go Go.RowKit
set_option linter.unusedVariables false
set_option linter.unusedSimpArgs false
set_option maxRecDepth 100000
/-- A datum of type t reads as K says. -/
def Rd {α : Type} (W : World) (t : TypeId) (K : α → List Value → Prop) : Prop :=
  ∀ (H : Type) (enc : TypeId × Value → H) (fuel : Nat) (cs : List Value) (x : DataW H × List MemPlace), DataW.trod enc Tryd.prog W 0 (fun _ => true) true fuel t cs = some x → ∃ a : α, K a cs
theorem rd_int {W : World} {t : TypeId} {k : IntKind} (ht : Tryd.prog.underlying t = some (.int k)) : Rd W t (fun (n : Int) cs => cs = [.int k n] ∧ (Lit.int k n).wf = true) := by
  intro H enc fuel cs x h
  cases fuel with
  | zero => simp [DataW.trod] at h
  | succ fuel =>
    obtain ⟨n, rfl, rfl, hw⟩ : ∃ n, cs = [.int k n] ∧ x = (.lit (.int k n), []) ∧ (Lit.int k n).wf = true := by
      simp only [DataW.trod, ht] at h
      split at h <;> simp_all
    exact ⟨n, rfl, hw⟩
/-- A slice's header and what is behind it. -/
def SlK {α : Type} (W : World) (sz : Nat) (K : α → List Value → Prop) (A : Option Addr) (c : Nat) (xs : List α) : Prop :=
  xs.length ≤ c ∧ c ≤ maxLen ∧ (A = none → c = 0) ∧ (0 < xs.length → ∃ ad, A = some ad ∧ ∀ (i : Nat) (h : i < xs.length), ∃ cs', W.cells? 0 (ad.add (i * sz)) sz = some cs' ∧ K xs[i] cs')
theorem list_of {α : Type} (p : Nat → α → Prop) : ∀ n : Nat, (∀ i, i < n → ∃ z, p i z) → ∃ xs : List α, xs.length = n ∧ ∀ (i : Nat) (h : i < xs.length), p i xs[i]
  | 0, _ => ⟨[], rfl, fun i hi => absurd hi (by simp)⟩
  | n + 1, h => by
    obtain ⟨xs, h1, h2⟩ := list_of p n (fun i hi => h i (by omega))
    obtain ⟨z, hz⟩ := h n (by omega)
    refine ⟨xs ++ [z], by simp [h1], fun i hi => ?_⟩
    by_cases hi2 : i < xs.length
    · rw [List.getElem_append_left hi2]; exact h2 i hi2
    · have : i = xs.length := by simp at hi; omega
      subst this
      rw [List.getElem_append_right (Nat.le_refl _)]
      simp only [Nat.sub_self, List.getElem_cons_zero]
      rw [h1]
      exact hz
theorem rd_slice {α : Type} {W : World} {t e : TypeId} {K : α → List Value → Prop} (ht : Tryd.prog.underlying t = some (.slice e)) (sz : Nat) (hsz : Tryd.prog.cellsOf e = sz) (h : Rd W e K) : Rd W t (fun (xs : List α) cs => ∃ A c, cs = [.slice A xs.length c] ∧ SlK W sz K A c xs) := by
  subst hsz
  intro H enc fuel cs x hx
  rcases Deep.open_slice ht hx with ⟨rfl, rfl⟩ | ⟨a, len, cap, m, n, D, Pl, rfl, hb, hl, hm, hmm, rfl, hel⟩
  · exact ⟨[], none, 0, rfl, Nat.le_refl _, by unfold maxLen; omega, fun _ => rfl, fun h => absurd h (Nat.lt_irrefl 0)⟩
  · have hml : len ≤ m := by rw [hmm]; split <;> omega
    obtain ⟨xs, hxl, hxs⟩ := list_of (fun i z => ∃ cs', W.cells? 0 (a.add (i * Tryd.prog.cellsOf e)) (Tryd.prog.cellsOf e) = some cs' ∧ K z cs') len (fun i hi => by
      obtain ⟨cs', h1, h2⟩ := hel i (by omega)
      obtain ⟨z, hz⟩ := h H enc n cs' _ h2
      exact ⟨z, cs', h1, hz⟩)
    exact ⟨xs, some a, cap, by rw [hxl], by omega, hm, (fun h => by cases h), fun _ => ⟨a, rfl, fun i hi => hxs i hi⟩⟩
/-- A row of numbers that came in. -/
def NumC (W : World) (A : Option Addr) (cs : List Int) : Prop := 0 < cs.length → ∃ ad, A = some ad ∧ ∀ (j : Nat) (v : Value), (cs.map (Value.int .i64))[j]? = some v → W.cell? (ad.add j) = some v
theorem NumC.below {W W' : World} {A : Option Addr} {cs : List Int} (hb : Below W.heap.size W W') (h : NumC W A cs) : NumC W' A cs := fun hp => by
  obtain ⟨ad, e, hc⟩ := h hp
  exact ⟨ad, e, fun j v hj => (hb.cell (World.block_lt_of_cell? W _ (hc j v hj))).trans (hc j v hj)⟩
theorem one_of_cells {W : World} {a : Addr} {cs : List Value} (h : W.cells? 0 a 1 = some cs) : ∃ v, cs = [v] ∧ W.cell? a = some v := by
  obtain ⟨_, hlen, _⟩ := World.cells?_some h
  match cs, hlen with
  | [v], _ => exact ⟨v, rfl, ChangeShapes.cell_of_cells?_one h⟩
theorem SlK.nums {W : World} {A : Option Addr} {c : Nat} {xs : List Int} (h : SlK W 1 (fun (n : Int) cs => cs = [.int .i64 n] ∧ (Lit.int .i64 n).wf = true) A c xs) : NumC W A xs ∧ ∀ x ∈ xs, (Lit.int .i64 x).wf = true := by
  refine ⟨fun hp => ?_, fun x hx => ?_⟩
  · obtain ⟨ad, e, hc⟩ := h.2.2.2 hp
    refine ⟨ad, e, fun j v hj => ?_⟩
    have hjl : j < xs.length := by have := (List.getElem?_eq_some_iff.1 hj).1; simpa using this
    obtain ⟨cs', h1, h2, _⟩ := hc j hjl
    rw [Nat.mul_one] at h1
    obtain ⟨u, rfl, hu⟩ := one_of_cells h1
    rw [hu]
    rw [List.getElem?_map, List.getElem?_eq_getElem hjl] at hj
    obtain rfl := Option.some.inj hj
    simp at h2
    rw [h2]
  · obtain ⟨i, hi, rfl⟩ := List.getElem_of_mem hx
    obtain ⟨ad, e, hc⟩ := h.2.2.2 (by omega)
    obtain ⟨cs', _, _, hw⟩ := hc i hi
    exact hw
theorem SlK.bytes {W : World} {A : Option Addr} {c : Nat} {xs : List Int} (h : SlK W 1 (fun (n : Int) cs => cs = [.int .u8 n] ∧ (Lit.int .u8 n).wf = true) A c xs) : ∃ b : List UInt8, b.length = xs.length ∧ BytesC W A b := by
  refine ⟨xs.map fun n => UInt8.ofNat n.toNat, by simp, fun hp => ?_⟩
  obtain ⟨ad, e, hc⟩ := h.2.2.2 (by simpa using hp)
  refine ⟨ad, e, fun j v hj => ?_⟩
  have hjl : j < xs.length := by have := (List.getElem?_eq_some_iff.1 hj).1; simpa using this
  obtain ⟨cs', h1, h2, hw⟩ := hc j hjl
  rw [Nat.mul_one] at h1
  obtain ⟨u, rfl, hu⟩ := one_of_cells h1
  rw [hu]
  rw [List.getElem?_map, List.getElem?_map, List.getElem?_eq_getElem hjl] at hj
  obtain rfl := Option.some.inj hj
  simp at h2
  rw [h2]
  have hb : 0 ≤ xs[j] ∧ xs[j] < 256 := by
    simp [Lit.wf, IntKind.min, IntKind.max, IntKind.signed, IntKind.bits] at hw
    omega
  have e2 : ((UInt8.ofNat xs[j].toNat).toNat : Int) = xs[j] := by
    rw [UInt8.toNat_ofNat']
    omega
  dsimp only
  rw [e2]
/-- Something done to a device. -/
structure ActV where
  kind : Int
  reg : Int
  at_ : Int
  data : List UInt8
  chs : List Int
/-- .. as it lies in memory. -/
structure ActAt (W : World) (p : Addr) (a : ActV) : Prop where
  kind : W.cell? p = some (.int .i64 a.kind)
  reg : W.cell? ⟨p.block, p.off + 1, none⟩ = some (.int .i64 a.reg)
  at_ : W.cell? ⟨p.block, p.off + 2, none⟩ = some (.int .i64 a.at_)
  data : ∃ A c, W.cell? ⟨p.block, p.off + 3, none⟩ = some (.slice A a.data.length c) ∧ BytesC W A a.data ∧ a.data.length ≤ c ∧ c ≤ maxLen ∧ (A = none → c = 0)
  chs : ∃ A c, W.cell? ⟨p.block, p.off + 4, none⟩ = some (.slice A a.chs.length c) ∧ NumC W A a.chs ∧ a.chs.length ≤ c ∧ c ≤ maxLen ∧ (A = none → c = 0)
  wf : (Lit.int .i64 a.kind).wf = true ∧ (Lit.int .i64 a.reg).wf = true ∧ (Lit.int .i64 a.at_).wf = true ∧ ∀ x ∈ a.chs, (Lit.int .i64 x).wf = true
theorem ActAt.below {W W' : World} {p : Addr} {a : ActV} (h : ActAt W p a) (hb : Below W.heap.size W W') : ActAt W' p a := by
  have tr : ∀ {q : Addr} {v : Value}, W.cell? q = some v → W'.cell? q = some v := fun hq => (hb.cell (World.block_lt_of_cell? W _ hq)).trans hq
  obtain ⟨A, c, h1, h2, h3⟩ := h.data
  obtain ⟨A2, c2, k1, k2, k3⟩ := h.chs
  exact ⟨tr h.kind, tr h.reg, tr h.at_, ⟨A, c, tr h1, h2.below hb, h3⟩, ⟨A2, c2, tr k1, k2.below hb, k3⟩, h.wf⟩
/-- A list of them. -/
def ActsC (W : World) (A : Option Addr) (l : List ActV) : Prop := 0 < l.length → ∃ ad : Addr, A = some ad ∧ ∀ (i : Nat) (h : i < l.length), ActAt W (ad.add (i * 5)) l[i]
theorem ActsC.below {W W' : World} {A : Option Addr} {l : List ActV} (h : ActsC W A l) (hb : Below W.heap.size W W') : ActsC W' A l := fun hp => by
  obtain ⟨ad, e, hc⟩ := h hp
  exact ⟨ad, e, fun i hi => (hc i hi).below hb⟩
/-- The cells of one. -/
def ActK (W : World) (a : ActV) (cs : List Value) : Prop := ∃ A c A2 c2, cs = [.int .i64 a.kind, .int .i64 a.reg, .int .i64 a.at_, .slice A a.data.length c, .slice A2 a.chs.length c2] ∧
  (BytesC W A a.data ∧ a.data.length ≤ c ∧ c ≤ maxLen ∧ (A = none → c = 0)) ∧ (NumC W A2 a.chs ∧ a.chs.length ≤ c2 ∧ c2 ≤ maxLen ∧ (A2 = none → c2 = 0)) ∧
  (Lit.int .i64 a.kind).wf = true ∧ (Lit.int .i64 a.reg).wf = true ∧ (Lit.int .i64 a.at_).wf = true ∧ ∀ x ∈ a.chs, (Lit.int .i64 x).wf = true
theorem rd_act {W : World} : Rd W 40 (ActK W) := by
  intro H enc fuel cs x h
  obtain ⟨xs, n, _, rfl, hl, hlen, hf⟩ := DataW.trod_struct Tryd.underlying40 h
  match xs, hlen with
  | [y0, y1, y2, y3, y4], _ =>
    have hl' : cs.length = 5 := hl.trans (by kernel_rfl)
    obtain ⟨c0, c1, c2, c3, c4, rfl⟩ : ∃ c0 c1 c2 c3 c4, cs = [c0, c1, c2, c3, c4] := by
      match cs, hl' with
      | [c0, c1, c2, c3, c4], _ => exact ⟨c0, c1, c2, c3, c4, rfl⟩
    have hf0 : DataW.trod enc Tryd.prog W 0 (fun _ => true) true n 3 (([c0, c1, c2, c3, c4].drop 0).take (Tryd.prog.cellsOf 3)) = some y0 := by simpa using hf 0 _ rfl
    have hf1 : DataW.trod enc Tryd.prog W 0 (fun _ => true) true n 3 (([c0, c1, c2, c3, c4].drop 1).take (Tryd.prog.cellsOf 3)) = some y1 := by simpa using hf 1 _ rfl
    have hf2 : DataW.trod enc Tryd.prog W 0 (fun _ => true) true n 3 (([c0, c1, c2, c3, c4].drop 2).take (Tryd.prog.cellsOf 3)) = some y2 := by simpa using hf 2 _ rfl
    have hf3 : DataW.trod enc Tryd.prog W 0 (fun _ => true) true n 30 (([c0, c1, c2, c3, c4].drop 3).take (Tryd.prog.cellsOf 30)) = some y3 := by simpa using hf 3 _ rfl
    have hf4 : DataW.trod enc Tryd.prog W 0 (fun _ => true) true n 38 (([c0, c1, c2, c3, c4].drop 4).take (Tryd.prog.cellsOf 38)) = some y4 := by simpa using hf 4 _ rfl
    rw [show Tryd.prog.cellsOf 3 = 1 by kernel_rfl] at hf0 hf1 hf2
    rw [show Tryd.prog.cellsOf 30 = 1 by kernel_rfl] at hf3
    rw [show Tryd.prog.cellsOf 38 = 1 by kernel_rfl] at hf4
    obtain ⟨a0, e0, g0⟩ := rd_int (W := W) Tryd.underlying3 H enc n _ _ hf0
    obtain ⟨a1, e1, g1⟩ := rd_int (W := W) Tryd.underlying3 H enc n _ _ hf1
    obtain ⟨a2, e2, g2⟩ := rd_int (W := W) Tryd.underlying3 H enc n _ _ hf2
    obtain ⟨a3, A3, p3, e3, H3⟩ := rd_slice (W := W) Tryd.underlying30 1 (by kernel_rfl) (rd_int Tryd.underlying5) H enc n _ _ hf3
    obtain ⟨a4, A4, p4, e4, H4⟩ := rd_slice (W := W) Tryd.underlying38 1 (by kernel_rfl) (rd_int Tryd.underlying3) H enc n _ _ hf4
    simp at e0 e1 e2 e3 e4
    subst e0 e1 e2 e3 e4
    obtain ⟨b, hb, hB⟩ := H3.bytes
    obtain ⟨hN, hw⟩ := H4.nums
    refine ⟨⟨a0, a1, a2, b, a4⟩, A3, p3, A4, p4, by rw [hb], ⟨hB, by rw [hb]; exact H3.1, H3.2.1, H3.2.2.1⟩, ⟨hN, H4.1, H4.2.1, H4.2.2.1⟩, g0, g1, g2, hw⟩
theorem cells_get {W : World} {a : Addr} {n : Nat} {cs : List Value} (h : W.cells? 0 a n = some cs) (j : Nat) (v : Value) (hj : cs[j]? = some v) : W.cell? (a.add j) = some v := by
  obtain ⟨_, hlen, hc⟩ := World.cells?_some h
  have hjl : j < cs.length := (List.getElem?_eq_some_iff.1 hj).1
  have := hc j (by omega)
  simpa [hj] using this
theorem act_at {W : World} {p : Addr} {a : ActV} {cs : List Value} (h : W.cells? 0 p 5 = some cs) (hK : ActK W a cs) : ActAt W p a := by
  obtain ⟨A, c, A2, c2, rfl, h3, h4, hw⟩ := hK
  have k0 := cells_get h 0 _ rfl
  have k1 := cells_get h 1 _ rfl
  have k2 := cells_get h 2 _ rfl
  have k3 := cells_get h 3 _ rfl
  have k4 := cells_get h 4 _ rfl
  exact ⟨k0, k1, k2, ⟨A, c, k3, h3⟩, ⟨A2, c2, k4, h4⟩, hw⟩
theorem SlK.acts {W : World} {A : Option Addr} {c : Nat} {l : List ActV} (h : SlK W 5 (ActK W) A c l) : ActsC W A l := fun hp => by
  obtain ⟨ad, e, hc⟩ := h.2.2.2 hp
  refine ⟨ad, e, fun i hi => ?_⟩
  obtain ⟨cs', h1, h2⟩ := hc i hi
  exact act_at h1 h2
theorem rd_acts (W : World) : Rd W 37 (fun (xs : List ActV) cs => ∃ A c, cs = [.slice A xs.length c] ∧ SlK W 5 (ActK W) A c xs) := rd_slice Tryd.underlying37 5 (by kernel_rfl) rd_act
theorem rd_nums (W : World) : Rd W 38 (fun (xs : List Int) cs => ∃ A c, cs = [.slice A xs.length c] ∧ SlK W 1 (fun (n : Int) cs => cs = [.int .i64 n] ∧ (Lit.int .i64 n).wf = true) A c xs) := rd_slice Tryd.underlying38 1 (by kernel_rfl) (rd_int Tryd.underlying3)
end Go.Proofs.YtnfnnfbcafepkaaDoor.Dk
