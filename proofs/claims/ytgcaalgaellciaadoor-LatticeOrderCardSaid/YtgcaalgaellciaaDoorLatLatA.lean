/- A lattice, plain: what dominates; what lies below and above a place; the places in order. -/
import Derived.Test.YtgcaalgaellciaaDoorXLatx10
import Derived.Test.YtgcaalgaellciaaDoorXLatx10
namespace Go.Proofs.YtgcaalgaellciaaDoor.Pure
open Go.RowKit Go.Proofs.YtgcaalgaellciaaDoor.XLat Go.Proofs.YtgcaalgaellciaaDoorW.PrintWords Go.Proofs.YtgcaalgaellciaaDoorW.PrintLast Go.Proofs.YtgcaalgaellciaaDoorW.PrintMore
set_option linter.unusedVariables false
set_option linter.unusedSimpArgs false
namespace LatA
abbrev L := S35
/-- From some fuel on, true. -/
def Ev (F : Nat → Option Bool) : Prop := ∃ k0, ∀ k, k0 ≤ k → F k = some true
theorem Ev.of {F G : Nat → Option Bool} (h : ∀ k, F k = G k) (hG : Ev G) : Ev F := by
  obtain ⟨k0, hk⟩ := hG
  exact ⟨k0, fun k h1 => (h k).trans (hk k h1)⟩
theorem Ev.succ {F G : Nat → Option Bool} (h : ∀ k, F (k + 1) = G k) (hG : Ev G) : Ev F := by
  obtain ⟨k0, hk⟩ := hG
  refine ⟨k0 + 1, fun k h1 => ?_⟩
  obtain ⟨q, rfl⟩ : ∃ q, k = q + 1 := ⟨k - 1, by omega⟩
  exact (h q).trans (hk q (by omega))
theorem Ev.true_ : Ev fun _ => some true := ⟨0, fun _ _ => rfl⟩
theorem Ev.ex {F : Nat → Option Bool} (h : Ev F) : ∃ k, F k = some true := by
  obtain ⟨k0, hk⟩ := h
  exact ⟨k0, hk k0 (Nat.le_refl _)⟩
theorem sure10 : barbicanlaw02_sure.f 10 = some true := by kernel_rfl
theorem sure_ev : Ev barbicanlaw02_sure.f := by
  refine ⟨10, fun k hk => ?_⟩
  induction k with
  | zero => omega
  | succ k ih =>
    by_cases h : k + 1 = 10
    · rw [h]; exact sure10
    · exact barbicanlaw02_sure.mono k _ (ih (by omega))
theorem u32_wf {n : Int} (h : (Lit.int .u32 n).wf = true) : 0 ≤ n ∧ n < 4294967296 := by
  simp [Lit.wf, IntKind.min, IntKind.max, IntKind.bits, IntKind.signed] at h
  omega
theorem wrap64_small (x : Int) (h0 : -9223372036854775808 ≤ x) (h1 : x < 9223372036854775808) : wrap64 x = x := by
  unfold wrap64
  omega
/-- b's bits are all among a's. -/
def sub (b a : Nat) : Bool := (b &&& (4294967295 - a)) == 0
theorem sub_iff (a b : Nat) (ha : a < 4294967296) (hb : b < 4294967296) : sub b a = true ↔ ∀ i, b.testBit i = true → a.testBit i = true := by
  unfold sub
  rw [beq_iff_eq]
  constructor
  · intro h i hi
    have h1 := LabB.andNot_bit b a hb ha i
    rw [h, Nat.zero_testBit, hi] at h1
    simpa using h1.symm
  · intro h
    apply Nat.eq_of_testBit_eq
    intro i
    rw [LabB.andNot_bit b a hb ha i, Nat.zero_testBit]
    cases hb2 : b.testBit i with
    | false => rfl
    | true => rw [h i hb2]; rfl
theorem sub_le (a b : Nat) (ha : a < 4294967296) (hb : b < 4294967296) (h : sub b a = true) : b ≤ a := by
  have h1 := (sub_iff a b ha hb).1 h
  have h2 : b &&& a = b := by
    apply Nat.eq_of_testBit_eq
    intro i
    rw [Nat.testBit_and]
    cases hb2 : b.testBit i with
    | false => rfl
    | true => rw [h1 i hb2]; rfl
  rw [← h2]
  exact Nat.and_le_right
/-- A label's categories as a number. -/
def ct (x : L) : Nat := x.f1.toNat
/-- The first of two dominates the second. -/
def dm (x y : L) : Bool := decide (x.f0 ≥ y.f0) && sub (ct y) (ct x)
def U (x : L) : Prop := 0 ≤ x.f1 ∧ x.f1 < 4294967296
theorem U.ct {x : L} (h : U x) : x.f1 = ((ct x : Nat) : Int) ∧ LatA.ct x < 4294967296 := by
  have h1 := h.1
  have h2 := h.2
  unfold LatA.ct
  omega
theorem dom_f (x y : L) (hx : U x) (hy : U y) : label_Dominates.f x.f0 x.f1 y.f0 y.f1 = some (dm x y) := by
  obtain ⟨h1, h2⟩ := hx.ct
  obtain ⟨h3, h4⟩ := hy.ct
  unfold label_Dominates.f dm
  by_cases h : x.f0 ≥ y.f0
  · rw [if_pos h, h1, h3, u32_andNot_nat _ _ h4 h2, decide_eq_true h, Bool.true_and]
    unfold sub
    congr 1
    rw [Bool.eq_iff_iff, beq_iff_eq, beq_iff_eq]
    omega
  · rw [if_neg h, decide_eq_false h, Bool.false_and]
/-- How high a label is. -/
def hi (x : L) : Int := x.f0 + x.f1
theorem dm_hi (x y : L) (hx : U x) (hy : U y) (h : dm x y = true) (hne : x ≠ y) : hi y < hi x := by
  obtain ⟨h1, h2⟩ := hx.ct
  obtain ⟨h3, h4⟩ := hy.ct
  unfold dm at h
  rw [Bool.and_eq_true, decide_eq_true_iff] at h
  have h5 := sub_le _ _ h2 h4 h.2
  unfold hi
  have h6 : ¬ (x.f0 = y.f0 ∧ x.f1 = y.f1) := by
    rintro ⟨e1, e2⟩
    apply hne
    cases x
    cases y
    simp at e1 e2
    rw [e1, e2]
  omega
theorem dm_refl (x : L) (hx : U x) : dm x x = true := by
  obtain ⟨h1, h2⟩ := hx.ct
  unfold dm
  rw [(sub_iff _ _ h2 h2).2 (fun _ h => h), decide_eq_true (Int.le_refl x.f0)]
  rfl
/-- The label at a place. -/
def at_ (ls : List L) (i : Nat) : L := ls.getD i z35
theorem at_mem (ls : List L) (i : Nat) (h : i < ls.length) : at_ ls i ∈ ls := by
  unfold at_
  rw [List.getD_eq_getElem?_getD, List.getElem?_eq_getElem h]
  exact List.getElem_mem h
theorem rd_at (ls : List L) (i : Nat) : rd_T35 ls (i : Int) = at_ ls i := by
  unfold rd_T35 at_
  rw [Int.toNat_natCast]
/-- Labels that a lattice is made of: few, each once. -/
structure Ok (ls : List L) : Prop where
  u : ∀ x ∈ ls, U x
  few : ls.length ≤ 16
  once : ∀ i j, i < ls.length → j < ls.length → at_ ls i = at_ ls j → i = j
def D (ls : List L) (i j : Nat) : Bool := dm (at_ ls i) (at_ ls j)
theorem D_hi {ls : List L} (ok : Ok ls) {i j : Nat} (hi_ : i < ls.length) (hj : j < ls.length) (h : D ls i j = true) (hne : i ≠ j) : hi (at_ ls j) < hi (at_ ls i) :=
  dm_hi _ _ (ok.u _ (at_mem ls i hi_)) (ok.u _ (at_mem ls j hj)) h (fun e => hne (ok.once i j hi_ hj e))
theorem dominates_f {ls : List L} (hu : ∀ x ∈ ls, U x) (i j : Nat) (hi_ : i < ls.length) (hj : j < ls.length) : lattice_Lattice_Dominates.f ls i j = some (D ls i j) := by
  unfold lattice_Lattice_Dominates.f
  rw [if_pos ⟨by omega, by omega, by omega, by omega⟩, rd_at, rd_at]
  exact dom_f _ _ (hu _ (at_mem ls i hi_)) (hu _ (at_mem ls j hj))
/-- Places as whole numbers. -/
def ints (l : List Nat) : List Int := l.map fun i : Nat => (i : Int)
theorem ints_mem (l : List Nat) (i : Nat) : (ints l).contains (i : Int) = l.contains i := by
  rw [Bool.eq_iff_iff, List.contains_iff_mem, List.contains_iff_mem]
  unfold ints
  rw [List.mem_map]
  exact ⟨fun ⟨j, hj, e⟩ => by have : j = i := by omega
                              rwa [← this], fun h => ⟨i, h, rfl⟩⟩
theorem up_f (p : Nat → Option Bool) (q : Nat → Bool) : ∀ n, (∀ j, j < n → p j = some (q j)) → latUp p n = some (ints ((List.range n).filter q))
  | 0, _ => rfl
  | n + 1, h => by
    show (latUp p n).bind _ = _
    rw [up_f p q n (fun j hj => h j (by omega)), Option.bind_some, h n (by omega), Option.map_some, List.range_succ, List.filter_append]
    congr 1
    unfold ints
    cases hq : q n <;> simp [hq]
theorem below_f {ls : List L} (hu : ∀ x ∈ ls, U x) (i : Nat) (hi_ : i < ls.length) : lattice_Lattice_Below.f ls i = some (ints ((List.range ls.length).filter fun j => D ls i j)) :=
  up_f _ _ _ fun j hj => dominates_f hu i j hi_ hj
theorem above_f {ls : List L} (hu : ∀ x ∈ ls, U x) (i : Nat) (hi_ : i < ls.length) : lattice_Lattice_Above.f ls i = some (ints ((List.range ls.length).filter fun j => D ls j i)) :=
  up_f _ _ _ fun j hj => dominates_f hu j i hj hi_
/-- May a place be laid next? -/
def free (ls : List L) (l : List Nat) (i : Nat) : Bool := !l.contains i && (List.range ls.length).all fun j => !D ls i j || j == i || l.contains j
theorem free_f {ls : List L} (hu : ∀ x ∈ ls, U x) (l : List Nat) (i : Nat) (hi_ : i < ls.length) : latFree ls (ints l) i = some (free ls l i) := by
  unfold latFree free
  rw [ints_mem]
  cases hc : l.contains i with
  | true => rfl
  | false =>
    rw [if_neg (by simp), below_f hu i hi_, Option.map_some]
    congr 1
    rw [Bool.eq_iff_iff]
    simp only [Bool.not_eq_true', Bool.not_false, Bool.true_and, List.all_eq_true, List.any_eq_false]
    unfold ints
    simp only [List.mem_map, List.mem_filter, List.mem_range]
    constructor
    · intro h j hj
      cases hd : D ls i j with
      | false => rfl
      | true =>
        have h1 := h (j : Int) ⟨j, ⟨hj, hd⟩, rfl⟩
        unfold latWant at h1
        have h2 := ints_mem l j
        unfold ints at h2
        rw [h2] at h1
        by_cases hji : j = i
        · simp [hji]
        · have : decide (((j : Int)) ≠ (i : Int)) = true := by simp; omega
          rw [this] at h1
          simpa [hji] using h1
    · rintro h x ⟨j, ⟨hj, hd⟩, rfl⟩
      have h1 := h j hj
      unfold latWant
      have h2 := ints_mem l j
      unfold ints at h2
      rw [h2]
      rw [hd] at h1
      by_cases hji : j = i
      · simp [hji]
      · have h3 : l.contains j = true := by simpa [hji] using h1
        rw [h3]
        simp
/-- What is laid: each once, each behind what it dominates. -/
structure Good (ls : List L) (l : List Nat) : Prop where
  lt : ∀ i ∈ l, i < ls.length
  nodup : l.Nodup
  behind : ∀ A i B, l = A ++ i :: B → ∀ j, j < ls.length → D ls i j = true → j ≠ i → j ∈ A
def nxt (ls : List L) (l : List Nat) : List Nat := (List.range ls.length).filter (free ls l)
theorem nxt_mem {ls : List L} {l : List Nat} {i : Nat} (h : i ∈ nxt ls l) : i < ls.length ∧ i ∉ l ∧ ∀ j, j < ls.length → D ls i j = true → j ≠ i → j ∈ l := by
  unfold nxt at h
  rw [List.mem_filter, List.mem_range] at h
  obtain ⟨h1, h2⟩ := h
  unfold free at h2
  rw [Bool.and_eq_true] at h2
  refine ⟨h1, fun hm => ?_, fun j hj hd hne => ?_⟩
  · have := h2.1
    rw [List.contains_iff_mem.2 hm] at this
    cases this
  · have h3 := List.all_eq_true.1 h2.2 j (List.mem_range.2 hj)
    rw [hd] at h3
    have h4 : l.contains j = true := by simpa [hne] using h3
    exact List.contains_iff_mem.1 h4
theorem Good.step {ls : List L} {l : List Nat} (g : Good ls l) : Good ls (l ++ nxt ls l) := by
  refine ⟨fun i hi => ?_, ?_, fun A i B e j hj hd hne => ?_⟩
  · rcases List.mem_append.1 hi with h | h
    · exact g.lt i h
    · exact (nxt_mem h).1
  · rw [List.nodup_append]
    refine ⟨g.nodup, List.Pairwise.filter _ List.nodup_range, fun a ha b hb e => ?_⟩
    subst e
    exact (nxt_mem hb).2.1 ha
  · rcases List.append_eq_append_iff.1 e with ⟨C, rfl, h2⟩ | ⟨C, h1, h2⟩
    · have hi : i ∈ nxt ls l := by rw [h2]; simp
      exact List.mem_append_left _ ((nxt_mem hi).2.2 j hj hd hne)
    · cases C with
      | nil =>
        simp at h1 h2
        have hi : i ∈ nxt ls l := by rw [← h2]; simp
        have := (nxt_mem hi).2.2 j hj hd hne
        rw [h1] at this
        exact this
      | cons c C =>
        rw [List.cons_append] at h2
        injection h2 with h3 h4
        subst h3
        exact g.behind A i C h1 j hj hd hne
theorem low (ls : List L) (P : Nat → Prop) : ∀ m : Nat, ∀ i, P i → (hi (at_ ls i)).toNat ≤ m → (∀ i, P i → 0 ≤ hi (at_ ls i)) → ∃ i, P i ∧ ∀ j, P j → hi (at_ ls i) ≤ hi (at_ ls j)
  | 0, i, h, hm, h0 => ⟨i, h, fun j hj => by have := h0 j hj; have := h0 i h; omega⟩
  | m + 1, i, h, hm, h0 => by
    by_cases hx : ∃ j, P j ∧ hi (at_ ls j) < hi (at_ ls i)
    · obtain ⟨j, hj, hlt⟩ := hx
      exact low ls P m j hj (by have := h0 j hj; omega) h0
    · exact ⟨i, h, fun j hj => Int.not_lt.1 (fun hh => hx ⟨j, hj, hh⟩)⟩
end LatA
end Go.Proofs.YtgcaalgaellciaaDoor.Pure
