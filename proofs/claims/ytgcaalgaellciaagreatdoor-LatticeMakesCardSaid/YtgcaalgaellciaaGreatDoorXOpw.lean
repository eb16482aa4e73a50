/- Words of this session: how an argument's datum reads as a value of a kind, with what its weights bound; kind by kind. -/
import Derived.Test.YtgcaalgaellciaaGreatDoorXRow
namespace Go.Proofs.YtgcaalgaellciaaGreatDoorW.PrintWords
open Go.RowKit
namespace Kd
/-- A datum of type t whose weights are within the reach reads as a value of kind d that is good. -/
def Opw {α : Type} (P : Program) (W : World) (t : TypeId) (d : Kd α) (good : α → Prop) : Prop :=
  ∀ (H : Type) (enc : TypeId × Value → H) (fuel : Nat) (cs : List Value) (x : DataW H × List MemPlace), DataW.trod enc P W 0 (fun _ => true) true fuel t cs = some x → (∀ n ∈ x.1.weights P t, n ≤ reachBytes) →
    ∃ a : α, d.K W a cs ∧ good a
section
variable {P : Program} {W : World} {t : TypeId}
theorem opw_of {α : Type} {d : Kd α} {good : α → Prop} {bulk : α → Nat} (h : Opn P W t d good bulk) : Opw P W t d good := by
  intro H enc fuel cs x hx _
  obtain ⟨a, h1, h2, _⟩ := h H enc fuel cs x hx
  exact ⟨a, h1, h2⟩
theorem opw_string (ht : P.underlying t = some .string) : Opw P W t Kd.string (fun s => s.size ≤ 140737488351232) := by
  intro H enc fuel cs x h hw
  cases fuel with
  | zero => simp [DataW.trod] at h
  | succ fuel =>
    obtain ⟨s, rfl, rfl, hs⟩ : ∃ s : ByteArray, cs = [.string s] ∧ x = (.lit (.string s.data.toList), []) ∧ s.size ≤ maxLen := by
      simp only [DataW.trod, ht] at h
      split at h <;> simp_all
    refine ⟨s, rfl, ?_⟩
    have h1 := hw s.data.toList.length (by simp [DataW.weights])
    have h2 : reachBytes = 140737488351232 := rfl
    rw [data_length] at h1
    omega
theorem weights_mem_all {H : Type} {e : TypeId} : ∀ {ds : List (DataW H)} {d : DataW H}, d ∈ ds → ∀ n ∈ d.weights P e, n ∈ DataW.weightsAll P e ds := by
  intro ds
  induction ds with
  | nil => intro d h; cases h
  | cons x ds ih =>
    intro d h n hn
    unfold DataW.weightsAll
    rw [List.mem_append]
    rcases List.mem_cons.1 h with rfl | h
    · exact .inl hn
    · exact .inr (ih h n hn)
theorem opw_slice {α : Type} {d : Kd α} {good : α → Prop} {e : TypeId} {B : Nat} (ht : P.underlying t = some (.slice e)) (hc : P.cellsOf e = d.sz) (hB : P.bytesOf e = B) (h : Opw P W e d good) :
    Opw P W t (Kd.slice e d) (fun xs => xs.length * B ≤ 140737488351232 ∧ xs.length ≤ maxLen ∧ ∀ x ∈ xs, good x) := by
  intro H enc fuel cs x hx hw
  rcases Deep.open_slice ht hx with ⟨rfl, rfl⟩ | ⟨a, len, cap, m, n, D, Pl, rfl, hb, hl, hm, hmm, rfl, hel⟩
  · exact ⟨[], ⟨none, 0, rfl, Nat.le_refl _, rfl, by simp, fun h => absurd h (Nat.lt_irrefl 0)⟩, by simp⟩
  · have hml : len ≤ m := by rw [hmm]; split <;> omega
    have hre : reachBytes = 140737488351232 := rfl
    have hwl : len * B ≤ 140737488351232 := by
      have h1 := hw ((((List.range len).map D).length + ((List.range (m - len)).map fun j => D (len + j)).length) * P.bytesOf e) (by simp [DataW.weights, ht])
      rw [hB, hre, List.length_map, List.length_range] at h1
      exact Nat.le_trans (Nat.mul_le_mul_right _ (Nat.le_add_right _ _)) h1
    have hwe : ∀ i, i < len → ∀ q ∈ (D i).weights P e, q ≤ reachBytes := by
      intro i hi q hq
      refine hw q ?_
      simp only [DataW.weights, ht]
      refine List.mem_cons_of_mem _ (List.mem_append.2 (.inl ?_))
      exact weights_mem_all (List.mem_map.2 ⟨i, by simpa using hi, rfl⟩) q hq
    have hex : ∀ i, ∃ y : Option α, i < len → ∃ z, y = some z ∧ good z ∧ ∃ cs', W.cells? 0 (a.add (i * P.cellsOf e)) (P.cellsOf e) = some cs' ∧ d.K W z cs' := by
      intro i
      by_cases hi : i < len
      · obtain ⟨cs', h1, h2⟩ := hel i (by omega)
        obtain ⟨z, hz, hg⟩ := h H enc n cs' _ h2 (hwe i hi)
        exact ⟨some z, fun _ => ⟨z, rfl, hg, cs', h1, hz⟩⟩
      · exact ⟨none, fun h => absurd h hi⟩
    obtain ⟨F, hF⟩ := Classical.axiomOfChoice hex
    have hlen0 : len = 0 ∨ ∃ z0 : α, True := by
      by_cases h0 : len = 0
      · exact .inl h0
      · obtain ⟨z, _⟩ := hF 0 (by omega)
        exact .inr ⟨z, trivial⟩
    rcases hlen0 with h0 | ⟨z0, _⟩
    · subst h0
      exact ⟨[], ⟨some a, cap, rfl, Nat.zero_le _, rfl, by simp, fun h => absurd h (Nat.lt_irrefl 0)⟩, by simp⟩
    · have hmx : maxLen = 9223372036854775807 := rfl
      refine ⟨(List.range len).map fun i => (F i).getD z0, ⟨some a, cap, by simp, by simpa using hl, ?_⟩, by simpa using hwl, by simp; omega, ?_⟩
      · refine ⟨by simp, by simp; omega, fun _ => ⟨a, rfl, fun j p hj => ?_⟩⟩
        obtain ⟨hjl, hp⟩ := List.getElem?_eq_some_iff.1 hj
        have hjl' : j < len := by simpa using hjl
        have hp' : (F j).getD z0 = p := by simpa using hp
        obtain ⟨z, hz, _, cs', h1, h2⟩ := hF j hjl'
        rw [hz] at hp'
        obtain rfl : z = p := hp'
        obtain ⟨_, hlen, hcell⟩ := World.cells?_some h1
        refine ⟨cs', d.K_len h2, h2, fun i u hu => ?_⟩
        have hi : i < P.cellsOf e := by rw [← hlen]; exact (List.getElem?_eq_some_iff.1 hu).1
        have := hcell i hi
        rw [hu, hc, Deep.add_add] at this
        exact this
      · intro y hy
        obtain ⟨i, hi, rfl⟩ := List.mem_map.1 hy
        obtain ⟨z, hz, hg, _⟩ := hF i (by simpa using hi)
        rw [hz]
        exact hg
end
end Kd
theorem weights_of {H : Type} {P : Program} {ts : List TypeId} {ds : List (DataW H)} {j : Nat} {t : TypeId} {d : DataW H} (hsz : (DataW.weightsEach P ts ds).all (· ≤ reachBytes) = true) (ht : ts[j]? = some t) (hd : ds[j]? = some d) :
    ∀ n ∈ d.weights P t, n ≤ reachBytes := fun n hn => by
  have := List.all_eq_true.1 hsz n (DataW.weights_mem_each ht hd n hn)
  simpa using this
end Go.Proofs.YtgcaalgaellciaaGreatDoorW.PrintWords
