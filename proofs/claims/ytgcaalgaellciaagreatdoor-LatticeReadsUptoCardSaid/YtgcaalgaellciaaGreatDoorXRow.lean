/- Words of this session: how an argument's datum reads as a value of a kind, with its bulk; kind by kind. -/
import Derived.Test.YtgcaalgaellciaaGreatDoorWWords
import Derived.Test.YtgcaalgaellciaaGreatDoorRows
import Derived.Deep.Slices
import Derived.SizedLaws
namespace Go.Proofs.YtgcaalgaellciaaGreatDoorW.PrintWords
open Go.RowKit
namespace Kd
/-- A datum of type t reads as a value of kind d that is good; its bulk is told from below. -/
def Opn {α : Type} (P : Program) (W : World) (t : TypeId) (d : Kd α) (good : α → Prop) (bulk : α → Nat) : Prop :=
  ∀ (H : Type) (enc : TypeId × Value → H) (fuel : Nat) (cs : List Value) (x : DataW H × List MemPlace), DataW.trod enc P W 0 (fun _ => true) true fuel t cs = some x →
    ∃ a : α, d.K W a cs ∧ good a ∧ bulk a ≤ Go.Proofs.YtgcaalgaellciaaGreatDoor.Rows.uptoBulk x.1
section
variable {P : Program} {W : World} {t : TypeId}
theorem opn_int {k : IntKind} (ht : P.underlying t = some (.int k)) : Opn P W t (Kd.int k) (fun n => (Lit.int k n).wf = true) (fun _ => 1) := by
  intro H enc fuel cs x h
  cases fuel with
  | zero => simp [DataW.trod] at h
  | succ fuel =>
    obtain ⟨n, rfl, rfl, hw⟩ : ∃ n, cs = [.int k n] ∧ x = (.lit (.int k n), []) ∧ (Lit.int k n).wf = true := by
      simp only [DataW.trod, ht] at h
      split at h <;> simp_all
    exact ⟨n, rfl, hw, by simp [Go.Proofs.YtgcaalgaellciaaGreatDoor.Rows.uptoBulk]⟩
theorem opn_bool (ht : P.underlying t = some .bool) : Opn P W t Kd.bool (fun _ => True) (fun _ => 1) := by
  intro H enc fuel cs x h
  cases fuel with
  | zero => simp [DataW.trod] at h
  | succ fuel =>
    obtain ⟨b, rfl, rfl⟩ : ∃ b, cs = [.bool b] ∧ x = (.lit (.bool b), []) := by
      simp only [DataW.trod, ht] at h
      split at h <;> simp_all
    exact ⟨b, rfl, trivial, by simp [Go.Proofs.YtgcaalgaellciaaGreatDoor.Rows.uptoBulk]⟩
theorem opn_string (ht : P.underlying t = some .string) : Opn P W t Kd.string (fun s => s.size ≤ maxLen) (fun s => s.size + 1) := by
  intro H enc fuel cs x h
  cases fuel with
  | zero => simp [DataW.trod] at h
  | succ fuel =>
    obtain ⟨s, rfl, rfl, hs⟩ : ∃ s : ByteArray, cs = [.string s] ∧ x = (.lit (.string s.data.toList), []) ∧ s.size ≤ maxLen := by
      simp only [DataW.trod, ht] at h
      split at h <;> simp_all
    refine ⟨s, rfl, hs, ?_⟩
    simp only [Go.Proofs.YtgcaalgaellciaaGreatDoor.Rows.uptoBulk]
    rw [data_length]
    exact Nat.le_refl _
theorem bulkAll_get {H : Type} (D : Nat → DataW H) (f : Nat → Nat) : ∀ n, (∀ i, i < n → f i ≤ Go.Proofs.YtgcaalgaellciaaGreatDoor.Rows.uptoBulk (D i)) → ((List.range n).map f).sum ≤ Go.Proofs.YtgcaalgaellciaaGreatDoor.Rows.uptoBulkAll ((List.range n).map D) := by
  have app : ∀ l r : List (DataW H), Go.Proofs.YtgcaalgaellciaaGreatDoor.Rows.uptoBulkAll (l ++ r) = Go.Proofs.YtgcaalgaellciaaGreatDoor.Rows.uptoBulkAll l + Go.Proofs.YtgcaalgaellciaaGreatDoor.Rows.uptoBulkAll r := by
    intro l r
    induction l with
    | nil => simp [Go.Proofs.YtgcaalgaellciaaGreatDoor.Rows.uptoBulkAll]
    | cons x l ih => simp only [List.cons_append, Go.Proofs.YtgcaalgaellciaaGreatDoor.Rows.uptoBulkAll, ih]; omega
  intro n
  induction n with
  | zero => intro _; simp
  | succ n ih =>
    intro h
    have h1 := ih (fun i hi => h i (by omega))
    have h2 := h n (by omega)
    rw [List.range_succ, List.map_append, List.map_append, List.sum_append, app]
    simp only [List.map_cons, List.map_nil, List.sum_cons, List.sum_nil, Go.Proofs.YtgcaalgaellciaaGreatDoor.Rows.uptoBulkAll]
    omega
theorem opn_slice {α : Type} {d : Kd α} {good : α → Prop} {bulk : α → Nat} {e : TypeId} (ht : P.underlying t = some (.slice e)) (hc : P.cellsOf e = d.sz) (h : Opn P W e d good bulk) :
    Opn P W t (Kd.slice e d) (fun xs => xs.length ≤ maxLen ∧ ∀ x ∈ xs, good x) (fun xs => (xs.map bulk).sum + 1) := by
  intro H enc fuel cs x hx
  rcases Deep.open_slice ht hx with ⟨rfl, rfl⟩ | ⟨a, len, cap, m, n, D, Pl, rfl, hb, hl, hm, hmm, rfl, hel⟩
  · exact ⟨[], ⟨none, 0, rfl, Nat.le_refl _, rfl, by simp, fun h => absurd h (Nat.lt_irrefl 0)⟩, ⟨by simp, by simp⟩, by simp [Go.Proofs.YtgcaalgaellciaaGreatDoor.Rows.uptoBulk]⟩
  · have hml : len ≤ m := by rw [hmm]; split <;> omega
    have hex : ∀ i, ∃ y : Option α, i < len → ∃ z, y = some z ∧ good z ∧ bulk z ≤ Go.Proofs.YtgcaalgaellciaaGreatDoor.Rows.uptoBulk (D i) ∧ ∃ cs', W.cells? 0 (a.add (i * P.cellsOf e)) (P.cellsOf e) = some cs' ∧ d.K W z cs' := by
      intro i
      by_cases hi : i < len
      · obtain ⟨cs', h1, h2⟩ := hel i (by omega)
        obtain ⟨z, hz, hg, hbk⟩ := h H enc n cs' _ h2
        exact ⟨some z, fun _ => ⟨z, rfl, hg, hbk, cs', h1, hz⟩⟩
      · exact ⟨none, fun h => absurd h hi⟩
    obtain ⟨F, hF⟩ := Classical.axiomOfChoice hex
    have hlen0 : len = 0 ∨ ∃ z0 : α, True := by
      by_cases h0 : len = 0
      · exact .inl h0
      · obtain ⟨z, _⟩ := hF 0 (by omega)
        exact .inr ⟨z, trivial⟩
    rcases hlen0 with h0 | ⟨z0, _⟩
    · subst h0
      exact ⟨[], ⟨some a, cap, rfl, Nat.zero_le _, rfl, by simp, fun h => absurd h (Nat.lt_irrefl 0)⟩, ⟨by simp, by simp⟩, by simp [Go.Proofs.YtgcaalgaellciaaGreatDoor.Rows.uptoBulk]⟩
    · have hG : ∀ i, i < len → F i = some ((F i).getD z0) := fun i hi => by obtain ⟨z, hz, _⟩ := hF i hi; rw [hz]; rfl
      have hmx : maxLen = 9223372036854775807 := rfl
      refine ⟨(List.range len).map fun i => (F i).getD z0, ⟨some a, cap, by simp, by simpa using hl, ?_⟩, ⟨by simp; omega, ?_⟩, ?_⟩
      · refine ⟨by simp, by simp; omega, fun _ => ⟨a, rfl, fun j p hj => ?_⟩⟩
        obtain ⟨hjl, hp⟩ := List.getElem?_eq_some_iff.1 hj
        have hjl' : j < len := by simpa using hjl
        have hp' : (F j).getD z0 = p := by simpa using hp
        obtain ⟨z, hz, _, _, cs', h1, h2⟩ := hF j hjl'
        rw [hz] at hp'
        obtain rfl : z = p := hp'
        obtain ⟨_, hlen, hcell⟩ := World.cells?_some h1
        refine ⟨cs', d.K_len h2, h2, fun i u hu => ?_⟩
        have hi : i < P.cellsOf e := by rw [← hlen]; exact (List.getElem?_eq_some_iff.1 hu).1
        have := hcell i hi
        rw [hu, hc, Deep.add_add] at this
        exact this
      · intro y hy
        obtain ⟨i, hi, rfl⟩ := List.mem_map.1 hy
        obtain ⟨z, hz, hg, _⟩ := hF i (by simpa using hi)
        rw [hz]
        exact hg
      · have := bulkAll_get D (fun i => bulk ((F i).getD z0)) len (fun i hi => by obtain ⟨z, hz, _, hbk, _⟩ := hF i hi; rw [hz]; exact hbk)
        simp only [Go.Proofs.YtgcaalgaellciaaGreatDoor.Rows.uptoBulk, List.map_map]
        have h2 : (List.map (bulk ∘ fun i => (F i).getD z0) (List.range len)).sum = (List.map (fun i => bulk ((F i).getD z0)) (List.range len)).sum := rfl
        omega
end
end Kd
section
open Go.ChangeShapes Go.WideShapes
/-- A row's slice is no longer than its weight allows. -/
theorem sized_any {H : Type} {enc : TypeId × Value → H} {P : Program} {W : World} {base : Nat} {spare : Nat → Bool} {held : Bool} {t e : TypeId} {a : Option Addr} {len cap : Nat} {d : DataW H} {ps : List MemPlace} {ts : List TypeId} {ds : List (DataW H)} {j : Nat}
    (hsz : (DataW.weightsEach P ts ds).all (· ≤ reachBytes) = true) (ht : ts[j]? = some t) (hd : ds[j]? = some d) (hu : P.underlying t = some (.slice e)) {B : Nat} (hB : P.bytesOf e = B)
    (h : DataW.Trod enc P W base spare held t (.slice a len cap) d ps) : len * B ≤ 140737488351232 := by
  obtain ⟨fuel, hf⟩ := h
  rcases Deep.open_slice hu hf with ⟨hcs, hx⟩ | ⟨x, l, c, m, n, D, Pl, hcs, _, hl, hm, hmm, hx, _⟩
  · simp [Value.cells] at hcs
    obtain ⟨rfl, rfl, rfl⟩ := hcs
    simp
  · simp [Value.cells] at hcs
    obtain ⟨rfl, rfl, rfl⟩ := hcs
    obtain ⟨hx, _⟩ := Prod.mk.inj hx
    subst hx
    have z := sized_slice hsz ht hd hu
    rw [hB] at z
    refine Nat.le_trans (Nat.mul_le_mul_right _ ?_) z
    simp
end
end Go.Proofs.YtgcaalgaellciaaGreatDoorW.PrintWords
