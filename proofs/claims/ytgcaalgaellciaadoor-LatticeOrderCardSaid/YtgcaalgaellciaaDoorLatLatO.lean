/- A lattice, plain: its places in order; what is asked of the labels that make one. -/
import Derived.Test.YtgcaalgaellciaaDoorLatLatA
namespace Go.Proofs.YtgcaalgaellciaaDoor.Pure
open Go.RowKit Go.Proofs.YtgcaalgaellciaaDoor.XLat Go.Proofs.YtgcaalgaellciaaDoorW.PrintWords Go.Proofs.YtgcaalgaellciaaDoorW.PrintLast Go.Proofs.YtgcaalgaellciaaDoorW.PrintMore
set_option linter.unusedVariables false
set_option linter.unusedSimpArgs false
namespace LatA
theorem pigeon : ∀ (n : Nat) (l : List Nat), (∀ i, i < n → i ∈ l) → n ≤ l.length
  | 0, _, _ => Nat.zero_le _
  | n + 1, l, h => by
    have h1 := h n (by omega)
    have h2 := pigeon n (l.erase n) (fun i hi => (List.mem_erase_of_ne (by omega)).2 (h i (by omega)))
    rw [List.length_erase_of_mem h1] at h2
    have := List.length_pos_of_mem h1
    omega
theorem few_ : ∀ (n : Nat) (l : List Nat), l.Nodup → (∀ i ∈ l, i < n) → l.length ≤ n
  | 0, l, _, h => by
    cases l with
    | nil => simp
    | cons x l => exact absurd (h x (by simp)) (by omega)
  | n + 1, l, hn, h => by
    by_cases hm : n ∈ l
    · have h2 := few_ n (l.erase n) (hn.erase n) (fun i hi => by
        have h3 := h i (List.mem_of_mem_erase hi)
        have h4 : i ≠ n := fun e => by
          subst e
          exact absurd hi (by rw [hn.mem_erase_iff]; simp)
        omega)
      rw [List.length_erase_of_mem hm] at h2
      omega
    · have h2 := few_ n l hn (fun i hi => by
        have h3 := h i hi
        have h4 : i ≠ n := fun e => hm (e ▸ hi)
        omega)
      omega
theorem progress {ls : List L} (ok : Ok ls) (h0 : ∀ x ∈ ls, 0 ≤ x.f0) {l : List Nat} (g : Good ls l) (hl : l.length < ls.length) : 0 < (nxt ls l).length := by
  have hex : ∃ i, i < ls.length ∧ i ∉ l := Classical.byContradiction fun hn => by
    have := pigeon ls.length l (fun i hi => Classical.byContradiction fun hm => hn ⟨i, hi, hm⟩)
    omega
  obtain ⟨i0, hi0⟩ := hex
  obtain ⟨i, ⟨hi, hm⟩, hmin⟩ := low ls (fun i => i < ls.length ∧ i ∉ l) _ i0 hi0 (Nat.le_refl _) (fun i h => by
    have h1 := h0 _ (at_mem ls i h.1)
    have h2 := (ok.u _ (at_mem ls i h.1)).1
    unfold LatA.hi
    omega)
  have hin : i ∈ nxt ls l := by
    unfold nxt
    rw [List.mem_filter, List.mem_range]
    refine ⟨hi, ?_⟩
    unfold free
    rw [Bool.and_eq_true]
    refine ⟨by simpa using hm, List.all_eq_true.2 fun j hj => ?_⟩
    rw [List.mem_range] at hj
    cases hd : D ls i j with
    | false => rfl
    | true =>
      by_cases hji : j = i
      · simp [hji]
      · have h1 := D_hi ok hi hj hd (fun e => hji e.symm)
        have h2 : j ∈ l := Classical.byContradiction fun hn => by
          have := hmin j ⟨hj, hn⟩
          omega
        simp [h2]
  exact List.length_pos_of_mem hin
theorem ints_length (l : List Nat) : (ints l).length = l.length := by unfold ints; rw [List.length_map]
theorem ints_append (a b : List Nat) : ints a ++ ints b = ints (a ++ b) := by unfold ints; rw [List.map_append]
theorem order_run {ls : List L} (ok : Ok ls) (h0 : ∀ x ∈ ls, 0 ≤ x.f0) : ∀ (k : Nat) (l : List Nat), Good ls l → ls.length ≤ l.length + k → ∃ o, latOrder ls (k + 1) (ints l) = some (ints o) ∧ Good ls o ∧ o.length = ls.length
  | k, l, g, hk => by
    by_cases hl : l.length < ls.length
    · have hp := progress ok h0 g hl
      have hup : latUp (latFree ls (ints l)) ls.length = some (ints (nxt ls l)) := up_f _ _ _ fun j hj => free_f ok.u l j hj
      cases k with
      | zero => omega
      | succ k =>
        obtain ⟨o, h1, h2, h3⟩ := order_run ok h0 k (l ++ nxt ls l) g.step (by rw [List.length_append]; omega)
        refine ⟨o, ?_, h2, h3⟩
        show (if (ints l).length < ls.length then _ else _) = _
        rw [ints_length, if_pos hl, hup, Option.bind_some, ints_append]
        exact h1
    · refine ⟨l, ?_, g, ?_⟩
      · show (if (ints l).length < ls.length then _ else _) = _
        rw [ints_length, if_neg hl]
      · have := few_ ls.length l g.nodup g.lt
        omega
theorem good_nil (ls : List L) : Good ls [] := ⟨fun i hi => by simp at hi, List.nodup_nil, fun A i B e => by simp at e⟩
theorem order_f {ls : List L} (ok : Ok ls) (h0 : ∀ x ∈ ls, 0 ≤ x.f0) : ∃ o, lattice_Lattice_Order.f ls = some (ints o) ∧ Good ls o ∧ o.length = ls.length :=
  order_run ok h0 16 [] (good_nil ls) (by have := ok.few; simp; omega)
theorem dup_at : ∀ (l pre : List L), latDup pre l = false → (∀ i, i < l.length → ∀ y ∈ pre, y ≠ at_ l i) ∧ ∀ i j, i < j → j < l.length → at_ l i ≠ at_ l j
  | [], pre, _ => ⟨fun i hi => by simp at hi, fun i j _ hj => by simp at hj⟩
  | x :: l, pre, h => by
    have h1 : (pre.any (fun y => latSame y x) || latDup (pre ++ [x]) l) = false := h
    rw [Bool.or_eq_false_iff] at h1
    obtain ⟨h2, h3⟩ := dup_at l (pre ++ [x]) h1.2
    have hx : ∀ y ∈ pre, y ≠ x := fun y hy e => by
      have := List.any_eq_false.1 h1.1 y hy
      exact this ((latSame_iff y x).2 e)
    constructor
    · intro i hi y hy
      cases i with
      | zero => exact hx y hy
      | succ i => exact h2 i (by simpa using hi) y (List.mem_append_left _ hy)
    · intro i j hij hj
      cases j with
      | zero => omega
      | succ j =>
        cases i with
        | zero => exact h2 j (by simpa using hj) x (by simp)
        | succ i => exact h3 i j (by omega) (by simpa using hj)
/-- What a new lattice's labels are. -/
theorem new_ok {ls : List L} (hu : ∀ x ∈ ls, U x) (h : latNew ls = none) : ls ≠ [] ∧ Ok ls ∧ (∀ x ∈ ls, 0 ≤ x.f0 ∧ x.f0 ≤ 15 ∧ label_Valid.f x.f0 x.f1 = some none) := by
  unfold latNew at h
  by_cases h1 : ls = []
  · rw [if_pos h1] at h; cases h
  rw [if_neg h1] at h
  by_cases h2 : ls.length > 16
  · rw [if_pos h2] at h; cases h
  rw [if_neg h2] at h
  by_cases h3 : latBad ls = true
  · rw [if_pos h3] at h; cases h
  rw [if_neg h3] at h
  by_cases h4 : latDup [] ls = true
  · rw [if_pos h4] at h; cases h
  have h5 := (dup_at ls [] (by simpa using h4)).2
  have hv : ∀ x ∈ ls, label_Valid.f x.f0 x.f1 = some none := fun x hx => Classical.byContradiction fun hn => h3 (List.any_eq_true.2 ⟨x, hx, by simpa using hn⟩)
  refine ⟨h1, ⟨hu, by omega, fun i j hi hj e => ?_⟩, fun x hx => ?_⟩
  · rcases Nat.lt_trichotomy i j with hlt | heq | hlt
    · exact absurd e (h5 i j hlt hj)
    · exact heq
    · exact absurd e.symm (h5 j i hlt hi)
  · have h6 := hv x hx
    refine ⟨?_, ?_, h6⟩
    all_goals
      unfold label_Valid.f at h6
      split at h6
      · simp at h6
      · split at h6
        · simp at h6
        · omega
theorem u32_f {ls : List L} (hu : ∀ x ∈ ls, U x) : latU32 ls = true := List.all_eq_true.2 fun x hx => decide_eq_true (hu x hx)
theorem new_f {ls : List L} (hu : ∀ x ∈ ls, U x) : lattice_New.f ls = some (latMade ls, latNew ls) := by
  unfold lattice_New.f
  rw [if_pos (u32_f hu)]
theorem twin_f (ls : List L) (h : ls.length < 8796093022208) : barbicanlaw02_twin.f ls = some ls := by
  unfold barbicanlaw02_twin.f
  rw [if_pos (by simpa using h), List.nil_append]
end LatA
end Go.Proofs.YtgcaalgaellciaaDoor.Pure
