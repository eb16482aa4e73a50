/- LatticeLies, plain: what lies below and above every place, and all places in order, are the document's. -/
import Derived.Test.YtgcaalgaellciaaDoorXLatx18
import Derived.Test.YtgcaalgaellciaaDoorXSt35
import Derived.Test.YtgcaalgaellciaaDoorXLatx17
import Derived.Test.YtgcaalgaellciaaDoorXLatx15
import Derived.Test.YtgcaalgaellciaaDoorXLatx10
/- A lattice, plain: what dominates; what lies below and above a place; the places in order. -/
namespace Go.Proofs.YtgcaalgaellciaaDoor.Pure
open Go.RowKit Go.Proofs.YtgcaalgaellciaaDoor.XLat Go.Proofs.YtgcaalgaellciaaDoorW.PrintWords Go.Proofs.YtgcaalgaellciaaDoorW.PrintLast Go.Proofs.YtgcaalgaellciaaDoorW.PrintMore
set_option linter.unusedVariables false
set_option linter.unusedSimpArgs false
namespace LatA
abbrev L := S35
/-- From some fuel on, true. -/
def Ev (F : Nat → Option Bool) : Prop := ∃ k0, ∀ k, k0 ≤ k → F k = some true
theorem Ev.of {F G : Nat → Option Bool} (h : ∀ k, F k = G k) (hG : Ev G) : Ev F := by
  obtain ⟨k0, hk⟩ := hG
  exact ⟨k0, fun k h1 => (h k).trans (hk k h1)⟩
theorem Ev.succ {F G : Nat → Option Bool} (h : ∀ k, F (k + 1) = G k) (hG : Ev G) : Ev F := by
  obtain ⟨k0, hk⟩ := hG
  refine ⟨k0 + 1, fun k h1 => ?_⟩
  obtain ⟨q, rfl⟩ : ∃ q, k = q + 1 := ⟨k - 1, by omega⟩
  exact (h q).trans (hk q (by omega))
theorem Ev.true_ : Ev fun _ => some true := ⟨0, fun _ _ => rfl⟩
theorem Ev.ex {F : Nat → Option Bool} (h : Ev F) : ∃ k, F k = some true := by
  obtain ⟨k0, hk⟩ := h
  exact ⟨k0, hk k0 (Nat.le_refl _)⟩
theorem sure10 : barbicanlaw02_sure.f 10 = some true := by kernel_rfl
theorem sure_ev : Ev barbicanlaw02_sure.f := by
  refine ⟨10, fun k hk => ?_⟩
  induction k with
  | zero => omega
  | succ k ih =>
    by_cases h : k + 1 = 10
    · rw [h]; exact sure10
    · exact barbicanlaw02_sure.mono k _ (ih (by omega))
theorem u32_wf {n : Int} (h : (Lit.int .u32 n).wf = true) : 0 ≤ n ∧ n < 4294967296 := by
  simp [Lit.wf, IntKind.min, IntKind.max, IntKind.bits, IntKind.signed] at h
  omega
theorem wrap64_small (x : Int) (h0 : -9223372036854775808 ≤ x) (h1 : x < 9223372036854775808) : wrap64 x = x := by
  unfold wrap64
  omega
/-- b's bits are all among a's. -/
def sub (b a : Nat) : Bool := (b &&& (4294967295 - a)) == 0
theorem sub_iff (a b : Nat) (ha : a < 4294967296) (hb : b < 4294967296) : sub b a = true ↔ ∀ i, b.testBit i = true → a.testBit i = true := by
  unfold sub
  rw [beq_iff_eq]
  constructor
  · intro h i hi
    have h1 := LabB.andNot_bit b a hb ha i
    rw [h, Nat.zero_testBit, hi] at h1
    simpa using h1.symm
  · intro h
    apply Nat.eq_of_testBit_eq
    intro i
    rw [LabB.andNot_bit b a hb ha i, Nat.zero_testBit]
    cases hb2 : b.testBit i with
    | false => rfl
    | true => rw [h i hb2]; rfl
theorem sub_le (a b : Nat) (ha : a < 4294967296) (hb : b < 4294967296) (h : sub b a = true) : b ≤ a := by
  have h1 := (sub_iff a b ha hb).1 h
  have h2 : b &&& a = b := by
    apply Nat.eq_of_testBit_eq
    intro i
    rw [Nat.testBit_and]
    cases hb2 : b.testBit i with
    | false => rfl
    | true => rw [h1 i hb2]; rfl
  rw [← h2]
  exact Nat.and_le_right
/-- A label's categories as a number. -/
def ct (x : L) : Nat := x.f1.toNat
/-- The first of two dominates the second. -/
def dm (x y : L) : Bool := decide (x.f0 ≥ y.f0) && sub (ct y) (ct x)
def U (x : L) : Prop := 0 ≤ x.f1 ∧ x.f1 < 4294967296
theorem U.ct {x : L} (h : U x) : x.f1 = ((ct x : Nat) : Int) ∧ LatA.ct x < 4294967296 := by
  have h1 := h.1
  have h2 := h.2
  unfold LatA.ct
  omega
theorem dom_f (x y : L) (hx : U x) (hy : U y) : label_Dominates.f x.f0 x.f1 y.f0 y.f1 = some (dm x y) := by
  obtain ⟨h1, h2⟩ := hx.ct
  obtain ⟨h3, h4⟩ := hy.ct
  unfold label_Dominates.f dm
  by_cases h : x.f0 ≥ y.f0
  · rw [if_pos h, h1, h3, u32_andNot_nat _ _ h4 h2, decide_eq_true h, Bool.true_and]
    unfold sub
    congr 1
    rw [Bool.eq_iff_iff, beq_iff_eq, beq_iff_eq]
    omega
  · rw [if_neg h, decide_eq_false h, Bool.false_and]
/-- How high a label is. -/
def hi (x : L) : Int := x.f0 + x.f1
theorem dm_hi (x y : L) (hx : U x) (hy : U y) (h : dm x y = true) (hne : x ≠ y) : hi y < hi x := by
  obtain ⟨h1, h2⟩ := hx.ct
  obtain ⟨h3, h4⟩ := hy.ct
  unfold dm at h
  rw [Bool.and_eq_true, decide_eq_true_iff] at h
  have h5 := sub_le _ _ h2 h4 h.2
  unfold hi
  have h6 : ¬ (x.f0 = y.f0 ∧ x.f1 = y.f1) := by
    rintro ⟨e1, e2⟩
    apply hne
    cases x
    cases y
    simp at e1 e2
    rw [e1, e2]
  omega
theorem dm_refl (x : L) (hx : U x) : dm x x = true := by
  obtain ⟨h1, h2⟩ := hx.ct
  unfold dm
  rw [(sub_iff _ _ h2 h2).2 (fun _ h => h), decide_eq_true (Int.le_refl x.f0)]
  rfl
/-- The label at a place. -/
def at_ (ls : List L) (i : Nat) : L := ls.getD i z35
theorem at_mem (ls : List L) (i : Nat) (h : i < ls.length) : at_ ls i ∈ ls := by
  unfold at_
  rw [List.getD_eq_getElem?_getD, List.getElem?_eq_getElem h]
  exact List.getElem_mem h
theorem rd_at (ls : List L) (i : Nat) : rd_T35 ls (i : Int) = at_ ls i := by
  unfold rd_T35 at_
  rw [Int.toNat_natCast]
/-- Labels that a lattice is made of: few, each once. -/
structure Ok (ls : List L) : Prop where
  u : ∀ x ∈ ls, U x
  few : ls.length ≤ 16
  once : ∀ i j, i < ls.length → j < ls.length → at_ ls i = at_ ls j → i = j
def D (ls : List L) (i j : Nat) : Bool := dm (at_ ls i) (at_ ls j)
theorem D_hi {ls : List L} (ok : Ok ls) {i j : Nat} (hi_ : i < ls.length) (hj : j < ls.length) (h : D ls i j = true) (hne : i ≠ j) : hi (at_ ls j) < hi (at_ ls i) :=
  dm_hi _ _ (ok.u _ (at_mem ls i hi_)) (ok.u _ (at_mem ls j hj)) h (fun e => hne (ok.once i j hi_ hj e))
theorem dominates_f {ls : List L} (hu : ∀ x ∈ ls, U x) (i j : Nat) (hi_ : i < ls.length) (hj : j < ls.length) : lattice_Lattice_Dominates.f ls i j = some (D ls i j) := by
  unfold lattice_Lattice_Dominates.f
  rw [if_pos ⟨by omega, by omega, by omega, by omega⟩, rd_at, rd_at]
  exact dom_f _ _ (hu _ (at_mem ls i hi_)) (hu _ (at_mem ls j hj))
/-- Places as whole numbers. -/
def ints (l : List Nat) : List Int := l.map fun i : Nat => (i : Int)
theorem ints_mem (l : List Nat) (i : Nat) : (ints l).contains (i : Int) = l.contains i := by
  rw [Bool.eq_iff_iff, List.contains_iff_mem, List.contains_iff_mem]
  unfold ints
  rw [List.mem_map]
  exact ⟨fun ⟨j, hj, e⟩ => by have : j = i := by omega
                              rwa [← this], fun h => ⟨i, h, rfl⟩⟩
theorem up_f (p : Nat → Option Bool) (q : Nat → Bool) : ∀ n, (∀ j, j < n → p j = some (q j)) → latUp p n = some (ints ((List.range n).filter q))
  | 0, _ => rfl
  | n + 1, h => by
    show (latUp p n).bind _ = _
    rw [up_f p q n (fun j hj => h j (by omega)), Option.bind_some, h n (by omega), Option.map_some, List.range_succ, List.filter_append]
    congr 1
    unfold ints
    cases hq : q n <;> simp [hq]
theorem below_f {ls : List L} (hu : ∀ x ∈ ls, U x) (i : Nat) (hi_ : i < ls.length) : lattice_Lattice_Below.f ls i = some (ints ((List.range ls.length).filter fun j => D ls i j)) :=
  up_f _ _ _ fun j hj => dominates_f hu i j hi_ hj
theorem above_f {ls : List L} (hu : ∀ x ∈ ls, U x) (i : Nat) (hi_ : i < ls.length) : lattice_Lattice_Above.f ls i = some (ints ((List.range ls.length).filter fun j => D ls j i)) :=
  up_f _ _ _ fun j hj => dominates_f hu j i hj hi_
/-- May a place be laid next? -/
def free (ls : List L) (l : List Nat) (i : Nat) : Bool := !l.contains i && (List.range ls.length).all fun j => !D ls i j || j == i || l.contains j
theorem free_f {ls : List L} (hu : ∀ x ∈ ls, U x) (l : List Nat) (i : Nat) (hi_ : i < ls.length) : latFree ls (ints l) i = some (free ls l i) := by
  unfold latFree free
  rw [ints_mem]
  cases hc : l.contains i with
  | true => rfl
  | false =>
    rw [if_neg (by simp), below_f hu i hi_, Option.map_some]
    congr 1
    rw [Bool.eq_iff_iff]
    simp only [Bool.not_eq_true', Bool.not_false, Bool.true_and, List.all_eq_true, List.any_eq_false]
    unfold ints
    simp only [List.mem_map, List.mem_filter, List.mem_range]
    constructor
    · intro h j hj
      cases hd : D ls i j with
      | false => rfl
      | true =>
        have h1 := h (j : Int) ⟨j, ⟨hj, hd⟩, rfl⟩
        unfold latWant at h1
        have h2 := ints_mem l j
        unfold ints at h2
        rw [h2] at h1
        by_cases hji : j = i
        · simp [hji]
        · have : decide (((j : Int)) ≠ (i : Int)) = true := by simp; omega
          rw [this] at h1
          simpa [hji] using h1
    · rintro h x ⟨j, ⟨hj, hd⟩, rfl⟩
      have h1 := h j hj
      unfold latWant
      have h2 := ints_mem l j
      unfold ints at h2
      rw [h2]
      rw [hd] at h1
      by_cases hji : j = i
      · simp [hji]
      · have h3 : l.contains j = true := by simpa [hji] using h1
        rw [h3]
        simp
/-- What is laid: each once, each behind what it dominates. -/
structure Good (ls : List L) (l : List Nat) : Prop where
  lt : ∀ i ∈ l, i < ls.length
  nodup : l.Nodup
  behind : ∀ A i B, l = A ++ i :: B → ∀ j, j < ls.length → D ls i j = true → j ≠ i → j ∈ A
def nxt (ls : List L) (l : List Nat) : List Nat := (List.range ls.length).filter (free ls l)
theorem nxt_mem {ls : List L} {l : List Nat} {i : Nat} (h : i ∈ nxt ls l) : i < ls.length ∧ i ∉ l ∧ ∀ j, j < ls.length → D ls i j = true → j ≠ i → j ∈ l := by
  unfold nxt at h
  rw [List.mem_filter, List.mem_range] at h
  obtain ⟨h1, h2⟩ := h
  unfold free at h2
  rw [Bool.and_eq_true] at h2
  refine ⟨h1, fun hm => ?_, fun j hj hd hne => ?_⟩
  · have := h2.1
    rw [List.contains_iff_mem.2 hm] at this
    cases this
  · have h3 := List.all_eq_true.1 h2.2 j (List.mem_range.2 hj)
    rw [hd] at h3
    have h4 : l.contains j = true := by simpa [hne] using h3
    exact List.contains_iff_mem.1 h4
theorem Good.step {ls : List L} {l : List Nat} (g : Good ls l) : Good ls (l ++ nxt ls l) := by
  refine ⟨fun i hi => ?_, ?_, fun A i B e j hj hd hne => ?_⟩
  · rcases List.mem_append.1 hi with h | h
    · exact g.lt i h
    · exact (nxt_mem h).1
  · rw [List.nodup_append]
    refine ⟨g.nodup, List.Pairwise.filter _ List.nodup_range, fun a ha b hb e => ?_⟩
    subst e
    exact (nxt_mem hb).2.1 ha
  · rcases List.append_eq_append_iff.1 e with ⟨C, rfl, h2⟩ | ⟨C, h1, h2⟩
    · have hi : i ∈ nxt ls l := by rw [h2]; simp
      exact List.mem_append_left _ ((nxt_mem hi).2.2 j hj hd hne)
    · cases C with
      | nil =>
        simp at h1 h2
        have hi : i ∈ nxt ls l := by rw [← h2]; simp
        have := (nxt_mem hi).2.2 j hj hd hne
        rw [h1] at this
        exact this
      | cons c C =>
        rw [List.cons_append] at h2
        injection h2 with h3 h4
        subst h3
        exact g.behind A i C h1 j hj hd hne
theorem low (ls : List L) (P : Nat → Prop) : ∀ m : Nat, ∀ i, P i → (hi (at_ ls i)).toNat ≤ m → (∀ i, P i → 0 ≤ hi (at_ ls i)) → ∃ i, P i ∧ ∀ j, P j → hi (at_ ls i) ≤ hi (at_ ls j)
  | 0, i, h, hm, h0 => ⟨i, h, fun j hj => by have := h0 j hj; have := h0 i h; omega⟩
  | m + 1, i, h, hm, h0 => by
    by_cases hx : ∃ j, P j ∧ hi (at_ ls j) < hi (at_ ls i)
    · obtain ⟨j, hj, hlt⟩ := hx
      exact low ls P m j hj (by have := h0 j hj; omega) h0
    · exact ⟨i, h, fun j hj => Int.not_lt.1 (fun hh => hx ⟨j, hj, hh⟩)⟩
end LatA
end Go.Proofs.YtgcaalgaellciaaDoor.Pure
/- A lattice, plain: its places in order; what is asked of the labels that make one. -/
namespace Go.Proofs.YtgcaalgaellciaaDoor.Pure
open Go.RowKit Go.Proofs.YtgcaalgaellciaaDoor.XLat Go.Proofs.YtgcaalgaellciaaDoorW.PrintWords Go.Proofs.YtgcaalgaellciaaDoorW.PrintLast Go.Proofs.YtgcaalgaellciaaDoorW.PrintMore
set_option linter.unusedVariables false
set_option linter.unusedSimpArgs false
namespace LatA
theorem pigeon : ∀ (n : Nat) (l : List Nat), (∀ i, i < n → i ∈ l) → n ≤ l.length
  | 0, _, _ => Nat.zero_le _
  | n + 1, l, h => by
    have h1 := h n (by omega)
    have h2 := pigeon n (l.erase n) (fun i hi => (List.mem_erase_of_ne (by omega)).2 (h i (by omega)))
    rw [List.length_erase_of_mem h1] at h2
    have := List.length_pos_of_mem h1
    omega
theorem few_ : ∀ (n : Nat) (l : List Nat), l.Nodup → (∀ i ∈ l, i < n) → l.length ≤ n
  | 0, l, _, h => by
    cases l with
    | nil => simp
    | cons x l => exact absurd (h x (by simp)) (by omega)
  | n + 1, l, hn, h => by
    by_cases hm : n ∈ l
    · have h2 := few_ n (l.erase n) (hn.erase n) (fun i hi => by
        have h3 := h i (List.mem_of_mem_erase hi)
        have h4 : i ≠ n := fun e => by
          subst e
          exact absurd hi (by rw [hn.mem_erase_iff]; simp)
        omega)
      rw [List.length_erase_of_mem hm] at h2
      omega
    · have h2 := few_ n l hn (fun i hi => by
        have h3 := h i hi
        have h4 : i ≠ n := fun e => hm (e ▸ hi)
        omega)
      omega
theorem progress {ls : List L} (ok : Ok ls) (h0 : ∀ x ∈ ls, 0 ≤ x.f0) {l : List Nat} (g : Good ls l) (hl : l.length < ls.length) : 0 < (nxt ls l).length := by
  have hex : ∃ i, i < ls.length ∧ i ∉ l := Classical.byContradiction fun hn => by
    have := pigeon ls.length l (fun i hi => Classical.byContradiction fun hm => hn ⟨i, hi, hm⟩)
    omega
  obtain ⟨i0, hi0⟩ := hex
  obtain ⟨i, ⟨hi, hm⟩, hmin⟩ := low ls (fun i => i < ls.length ∧ i ∉ l) _ i0 hi0 (Nat.le_refl _) (fun i h => by
    have h1 := h0 _ (at_mem ls i h.1)
    have h2 := (ok.u _ (at_mem ls i h.1)).1
    unfold LatA.hi
    omega)
  have hin : i ∈ nxt ls l := by
    unfold nxt
    rw [List.mem_filter, List.mem_range]
    refine ⟨hi, ?_⟩
    unfold free
    rw [Bool.and_eq_true]
    refine ⟨by simpa using hm, List.all_eq_true.2 fun j hj => ?_⟩
    rw [List.mem_range] at hj
    cases hd : D ls i j with
    | false => rfl
    | true =>
      by_cases hji : j = i
      · simp [hji]
      · have h1 := D_hi ok hi hj hd (fun e => hji e.symm)
        have h2 : j ∈ l := Classical.byContradiction fun hn => by
          have := hmin j ⟨hj, hn⟩
          omega
        simp [h2]
  exact List.length_pos_of_mem hin
theorem ints_length (l : List Nat) : (ints l).length = l.length := by unfold ints; rw [List.length_map]
theorem ints_append (a b : List Nat) : ints a ++ ints b = ints (a ++ b) := by unfold ints; rw [List.map_append]
theorem order_run {ls : List L} (ok : Ok ls) (h0 : ∀ x ∈ ls, 0 ≤ x.f0) : ∀ (k : Nat) (l : List Nat), Good ls l → ls.length ≤ l.length + k → ∃ o, latOrder ls (k + 1) (ints l) = some (ints o) ∧ Good ls o ∧ o.length = ls.length
  | k, l, g, hk => by
    by_cases hl : l.length < ls.length
    · have hp := progress ok h0 g hl
      have hup : latUp (latFree ls (ints l)) ls.length = some (ints (nxt ls l)) := up_f _ _ _ fun j hj => free_f ok.u l j hj
      cases k with
      | zero => omega
      | succ k =>
        obtain ⟨o, h1, h2, h3⟩ := order_run ok h0 k (l ++ nxt ls l) g.step (by rw [List.length_append]; omega)
        refine ⟨o, ?_, h2, h3⟩
        show (if (ints l).length < ls.length then _ else _) = _
        rw [ints_length, if_pos hl, hup, Option.bind_some, ints_append]
        exact h1
    · refine ⟨l, ?_, g, ?_⟩
      · show (if (ints l).length < ls.length then _ else _) = _
        rw [ints_length, if_neg hl]
      · have := few_ ls.length l g.nodup g.lt
        omega
theorem good_nil (ls : List L) : Good ls [] := ⟨fun i hi => by simp at hi, List.nodup_nil, fun A i B e => by simp at e⟩
theorem order_f {ls : List L} (ok : Ok ls) (h0 : ∀ x ∈ ls, 0 ≤ x.f0) : ∃ o, lattice_Lattice_Order.f ls = some (ints o) ∧ Good ls o ∧ o.length = ls.length :=
  order_run ok h0 16 [] (good_nil ls) (by have := ok.few; simp; omega)
theorem dup_at : ∀ (l pre : List L), latDup pre l = false → (∀ i, i < l.length → ∀ y ∈ pre, y ≠ at_ l i) ∧ ∀ i j, i < j → j < l.length → at_ l i ≠ at_ l j
  | [], pre, _ => ⟨fun i hi => by simp at hi, fun i j _ hj => by simp at hj⟩
  | x :: l, pre, h => by
    have h1 : (pre.any (fun y => latSame y x) || latDup (pre ++ [x]) l) = false := h
    rw [Bool.or_eq_false_iff] at h1
    obtain ⟨h2, h3⟩ := dup_at l (pre ++ [x]) h1.2
    have hx : ∀ y ∈ pre, y ≠ x := fun y hy e => by
      have := List.any_eq_false.1 h1.1 y hy
      exact this ((latSame_iff y x).2 e)
    constructor
    · intro i hi y hy
      cases i with
      | zero => exact hx y hy
      | succ i => exact h2 i (by simpa using hi) y (List.mem_append_left _ hy)
    · intro i j hij hj
      cases j with
      | zero => omega
      | succ j =>
        cases i with
        | zero => exact h2 j (by simpa using hj) x (by simp)
        | succ i => exact h3 i j (by omega) (by simpa using hj)
/-- What a new lattice's labels are. -/
theorem new_ok {ls : List L} (hu : ∀ x ∈ ls, U x) (h : latNew ls = none) : ls ≠ [] ∧ Ok ls ∧ (∀ x ∈ ls, 0 ≤ x.f0 ∧ x.f0 ≤ 15 ∧ label_Valid.f x.f0 x.f1 = some none) := by
  unfold latNew at h
  by_cases h1 : ls = []
  · rw [if_pos h1] at h; cases h
  rw [if_neg h1] at h
  by_cases h2 : ls.length > 16
  · rw [if_pos h2] at h; cases h
  rw [if_neg h2] at h
  by_cases h3 : latBad ls = true
  · rw [if_pos h3] at h; cases h
  rw [if_neg h3] at h
  by_cases h4 : latDup [] ls = true
  · rw [if_pos h4] at h; cases h
  have h5 := (dup_at ls [] (by simpa using h4)).2
  have hv : ∀ x ∈ ls, label_Valid.f x.f0 x.f1 = some none := fun x hx => Classical.byContradiction fun hn => h3 (List.any_eq_true.2 ⟨x, hx, by simpa using hn⟩)
  refine ⟨h1, ⟨hu, by omega, fun i j hi hj e => ?_⟩, fun x hx => ?_⟩
  · rcases Nat.lt_trichotomy i j with hlt | heq | hlt
    · exact absurd e (h5 i j hlt hj)
    · exact heq
    · exact absurd e.symm (h5 j i hlt hi)
  · have h6 := hv x hx
    refine ⟨?_, ?_, h6⟩
    all_goals
      unfold label_Valid.f at h6
      split at h6
      · simp at h6
      · split at h6
        · simp at h6
        · omega
theorem u32_f {ls : List L} (hu : ∀ x ∈ ls, U x) : latU32 ls = true := List.all_eq_true.2 fun x hx => decide_eq_true (hu x hx)
theorem new_f {ls : List L} (hu : ∀ x ∈ ls, U x) : lattice_New.f ls = some (latMade ls, latNew ls) := by
  unfold lattice_New.f
  rw [if_pos (u32_f hu)]
theorem twin_f (ls : List L) (h : ls.length < 8796093022208) : barbicanlaw02_twin.f ls = some ls := by
  unfold barbicanlaw02_twin.f
  rw [if_pos (by simpa using h), List.nil_append]
end LatA
end Go.Proofs.YtgcaalgaellciaaDoor.Pure
/- A lattice, plain: the document's answer of what lies below and above, and of the places in order. -/
namespace Go.Proofs.YtgcaalgaellciaaDoor.Pure
open Go.RowKit Go.Proofs.YtgcaalgaellciaaDoor.XLat Go.Proofs.YtgcaalgaellciaaDoorW.PrintWords Go.Proofs.YtgcaalgaellciaaDoorW.PrintLast Go.Proofs.YtgcaalgaellciaaDoorW.PrintMore
set_option linter.unusedVariables false
set_option linter.unusedSimpArgs false
namespace LatA
theorem has_f (r : Int) (c : Nat) (hc : c < 4294967296) (i : Nat) (hi : i < 32) : barbicanref01_Has.f r (c : Int) (i : Int) = some (c.testBit i) := by
  unfold barbicanref01_Has.f
  have e1 : IntKind.u64.wrap (i : Int) = (i : Int) := by rw [IntKind.wrap_u64]; omega
  have e2 : shr .u32 (c : Int) (i : Int) = ((c / 2 ^ i : Nat) : Int) := by
    unfold shr
    rw [Int.toNat_natCast, show IntKind.u32.bits = 32 from rfl, Nat.min_eq_left (by omega)]
    rw [Int.natCast_ediv, Int.natCast_pow]
    rfl
  have hlt : c / 2 ^ i ≤ c := Nat.div_le_self _ _
  rw [e1, if_pos (by omega), e2, show ((1 : Int)) = ((1 : Nat) : Int) from rfl, u32_and_nat _ 1 (by omega) (by omega), Nat.and_one_is_mod]
  congr 1
  rw [Nat.testBit_eq_decide_div_mod_eq, Bool.eq_iff_iff, beq_iff_eq, decide_eq_true_iff]
  omega
theorem rdom_yes (x y : Int) (a b : Nat) (ha : a < 4294967296) (hb : b < 4294967296) (h : ∀ j, b.testBit j = true → a.testBit j = true) (d : Nat) : ∀ k i : Nat, i + d = 32 → d < k →
    barbicanref01_Dominates.l0 k (i : Int) x (a : Int) y (b : Int) = some (decide (x ≥ y)) := by
  induction d with
  | zero =>
    intro k i hi hk
    obtain ⟨k, rfl⟩ : ∃ q, k = q + 1 := ⟨k - 1, by omega⟩
    simp only [barbicanref01_Dominates.l0]
    rw [if_neg (by omega)]
  | succ d ih =>
    intro k i hi hk
    obtain ⟨k, rfl⟩ : ∃ q, k = q + 1 := ⟨k - 1, by omega⟩
    have hr := ih k (i + 1) (by omega) (by omega)
    have e1 : wrap64 ((i : Int) + 1) = ((i + 1 : Nat) : Int) := by rw [wrap64_small _ (by omega) (by omega)]; omega
    simp only [barbicanref01_Dominates.l0]
    rw [if_pos (by omega), has_f y b hb i (by omega), Option.bind_some, e1]
    by_cases hbi : b.testBit i = true
    · rw [if_pos hbi, has_f x a ha i (by omega), Option.bind_some, if_pos (h i hbi), hr]
    · rw [if_neg hbi, hr]
theorem rdom_no (x y : Int) (a b : Nat) (ha : a < 4294967296) (hb : b < 4294967296) (j : Nat) (hj : j < 32) (h1 : b.testBit j = true) (h2 : ¬ a.testBit j = true) (d : Nat) : ∀ k i : Nat, i + d = j → d < k →
    barbicanref01_Dominates.l0 k (i : Int) x (a : Int) y (b : Int) = some false := by
  induction d with
  | zero =>
    intro k i hi hk
    obtain ⟨k, rfl⟩ : ∃ q, k = q + 1 := ⟨k - 1, by omega⟩
    obtain rfl : i = j := by omega
    simp only [barbicanref01_Dominates.l0]
    rw [if_pos (by omega), has_f y b hb i hj, Option.bind_some, if_pos h1, has_f x a ha i hj, Option.bind_some, if_neg h2]
  | succ d ih =>
    intro k i hi hk
    obtain ⟨k, rfl⟩ : ∃ q, k = q + 1 := ⟨k - 1, by omega⟩
    have hr := ih k (i + 1) (by omega) (by omega)
    have e1 : wrap64 ((i : Int) + 1) = ((i + 1 : Nat) : Int) := by rw [wrap64_small _ (by omega) (by omega)]; omega
    simp only [barbicanref01_Dominates.l0]
    rw [if_pos (by omega), has_f y b hb i (by omega), Option.bind_some, e1, has_f x a ha i (by omega)]
    by_cases hbi : b.testBit i = true
    · rw [if_pos hbi, Option.bind_some]
      by_cases hai : a.testBit i = true
      · rw [if_pos hai, hr]
      · rw [if_neg hai]
    · rw [if_neg hbi, hr]
theorem rdom_f (k : Nat) (x y : Int) (a b : Nat) (ha : a < 4294967296) (hb : b < 4294967296) (hk : 33 ≤ k) : barbicanref01_Dominates.f k x (a : Int) y (b : Int) = some (decide (x ≥ y) && sub b a) := by
  unfold barbicanref01_Dominates.f
  cases hs : sub b a with
  | true => rw [Bool.and_true]; exact rdom_yes x y a b ha hb ((sub_iff a b ha hb).1 hs) 32 k 0 (by omega) (by omega)
  | false =>
    rw [Bool.and_false]
    have h1 : ¬ ∀ i, b.testBit i = true → a.testBit i = true := fun h => by rw [(sub_iff a b ha hb).2 h] at hs; cases hs
    obtain ⟨j, hj⟩ := Classical.not_forall.1 h1
    have hj1 : b.testBit j = true := Classical.byContradiction fun h => hj fun hh => absurd hh h
    have hj2 : ¬ a.testBit j = true := fun h => hj fun _ => h
    have hlt : j < 32 := by
      rcases Nat.lt_or_ge j 32 with h | h
      · exact h
      · exfalso
        rw [Nat.testBit_lt_two_pow (Nat.lt_of_lt_of_le (show b < 2 ^ 32 by have e : (2 : Nat) ^ 32 = 4294967296 := by decide +kernel
                                                                           omega) (Nat.pow_le_pow_right (by decide) h))] at hj1
        cases hj1
    exact rdom_no x y a b ha hb j hlt hj1 hj2 j k 0 (by omega) (by omega)
/-- From some fuel on, this. -/
def EvV {α : Type} (F : Nat → Option α) (a : α) : Prop := ∃ k0, ∀ k, k0 ≤ k → F k = some a
theorem EvV.of {α : Type} {F G : Nat → Option α} {a : α} (h : ∀ k, F k = G k) (hG : EvV G a) : EvV F a := by
  obtain ⟨k0, hk⟩ := hG
  exact ⟨k0, fun k h1 => (h k).trans (hk k h1)⟩
theorem EvV.succ {α : Type} {F G : Nat → Option α} {a : α} (h : ∀ k, F (k + 1) = G k) (hG : EvV G a) : EvV F a := by
  obtain ⟨k0, hk⟩ := hG
  refine ⟨k0 + 1, fun k h1 => ?_⟩
  obtain ⟨q, rfl⟩ : ∃ q, k = q + 1 := ⟨k - 1, by omega⟩
  exact (h q).trans (hk q (by omega))
theorem EvV.bind {α β : Type} {F : Nat → Option α} {H : Nat → α → Option β} {a : α} {b : β} (hF : EvV F a) (hH : EvV (fun k => H k a) b) : EvV (fun k => (F k).bind (H k)) b := by
  obtain ⟨k0, h0⟩ := hF
  obtain ⟨k1, h1⟩ := hH
  refine ⟨max k0 k1, fun k hk => ?_⟩
  show (F k).bind (H k) = _
  rw [h0 k (by omega), Option.bind_some]
  exact h1 k (by omega)
theorem EvV.const {α : Type} (a : α) : EvV (fun _ => some a) a := ⟨0, fun _ _ => rfl⟩
theorem Ev.v {F : Nat → Option Bool} (h : Ev F) : EvV F true := h
theorem EvV.ev {F : Nat → Option Bool} (h : EvV F true) : Ev F := h
/-- Does a place dominate another one: whatever numbers they are. -/
def dmI (ls : List L) (i j : Int) : Bool := decide (0 ≤ i ∧ i < ls.length ∧ 0 ≤ j ∧ j < ls.length) && dm (rd_T35 ls i) (rd_T35 ls j)
theorem rdT_mem (ls : List L) (i : Int) (h0 : 0 ≤ i) (h1 : i < ls.length) : rd_T35 ls i ∈ ls := by
  obtain ⟨q, rfl⟩ := Int.eq_ofNat_of_zero_le h0
  rw [rd_at]
  exact at_mem ls q (by omega)
theorem dominatesI_f {ls : List L} (hu : ∀ x ∈ ls, U x) (i j : Int) : lattice_Lattice_Dominates.f ls i j = some (dmI ls i j) := by
  unfold lattice_Lattice_Dominates.f dmI
  by_cases h : 0 ≤ i ∧ i < ls.length ∧ 0 ≤ j ∧ j < ls.length
  · rw [if_pos h, decide_eq_true h, Bool.true_and]
    exact dom_f _ _ (hu _ (rdT_mem ls i h.1 h.2.1)) (hu _ (rdT_mem ls j h.2.2.1 h.2.2.2))
  · rw [if_neg h, decide_eq_false h, Bool.false_and]
theorem rdm_f (x y : L) (hx : U x) (hy : U y) (k : Nat) (hk : 33 ≤ k) : barbicanref01_Dominates.f k x.f0 x.f1 y.f0 y.f1 = some (dm x y) := by
  obtain ⟨h1, h2⟩ := hx.ct
  obtain ⟨h3, h4⟩ := hy.ct
  unfold dm
  rw [h1, h3]
  exact rdom_f k x.f0 y.f0 _ _ h2 h4 hk
theorem rdominates_f {ls : List L} (hu : ∀ x ∈ ls, U x) (i j : Int) : EvV (fun k => barbicanref02_Dominates.f k ls i j) (dmI ls i j) := by
  refine ⟨33, fun k hk => ?_⟩
  show barbicanref02_Dominates.f k ls i j = _
  unfold barbicanref02_Dominates.f dmI
  by_cases h1 : i ≥ 0
  · rw [if_pos h1]
    by_cases h2 : i < (ls.length : Int)
    · rw [if_pos h2]
      by_cases h3 : j ≥ 0
      · rw [if_pos h3]
        by_cases h4 : j < (ls.length : Int)
        · rw [if_pos h4, if_pos h1, if_pos h3, rdm_f _ _ (hu _ (rdT_mem ls i h1 h2)) (hu _ (rdT_mem ls j h3 h4)) k hk, Option.bind_some, decide_eq_true ⟨h1, h2, h3, h4⟩, Bool.true_and]
        · rw [if_neg h4, decide_eq_false (by omega), Bool.false_and]
      · rw [if_neg h3, decide_eq_false (by omega), Bool.false_and]
    · rw [if_neg h2, decide_eq_false (by omega), Bool.false_and]
  · rw [if_neg h1, decide_eq_false (by omega), Bool.false_and]
def bl (ls : List L) (q : Nat → Bool) : List Nat := (List.range ls.length).filter q
theorem ints_snoc (q : Nat → Bool) (j : Nat) : ints ((List.range (j + 1)).filter q) = if q j = true then ints ((List.range j).filter q) ++ [(j : Int)] else ints ((List.range j).filter q) := by
  rw [List.range_succ, List.filter_append]
  unfold ints
  cases hq : q j <;> simp [hq]
theorem filter_len (q : Nat → Bool) (j : Nat) : (ints ((List.range j).filter q)).length ≤ j := by
  unfold ints
  rw [List.length_map]
  exact Nat.le_trans (List.length_filter_le _ _) (by simp)
theorem wr1' (i : Nat) (h : i < 9223372036854775807) : wrap64 ((i : Int) + 1) = ((i + 1 : Nat) : Int) := by
  rw [wrap64_small _ (by omega) (by omega)]
  omega
theorem rbelow_l {ls : List L} (hu : ∀ x ∈ ls, U x) (hf : ls.length ≤ 16) (a : Int) : ∀ (d j : Nat), j + d = ls.length → EvV (fun k => barbicanref02_Below.l0 k ls a (ints ((List.range j).filter fun q => dmI ls a (q : Int))) (j : Int)) (ints (bl ls fun q => dmI ls a (q : Int)))
  | 0, j, hj => by
    refine EvV.succ (G := fun _ => some (ints (bl ls fun q => dmI ls a (q : Int)))) (fun k => ?_) (EvV.const _)
    simp only [barbicanref02_Below.l0]
    rw [if_neg (by omega), show j = ls.length by omega]
    rfl
  | d + 1, j, hj => by
    have ih := rbelow_l hu hf a d (j + 1) (by omega)
    rw [ints_snoc] at ih
    have hl := filter_len (fun q => dmI ls a (q : Int)) j
    refine EvV.succ (fun k => by simp only [barbicanref02_Below.l0]; rw [if_pos (by omega)]) (EvV.bind (rdominates_f hu a (j : Int)) ?_)
    rw [wr1' j (by omega)]
    cases hq : dmI ls a (j : Int) with
    | true =>
      rw [hq, if_pos rfl] at ih
      refine EvV.of (fun k => ?_) ih
      show (if true = true then _ else _) = _
      rw [if_pos rfl, if_pos (by omega)]
    | false =>
      rw [hq, if_neg (by simp)] at ih
      refine EvV.of (fun k => ?_) ih
      rw [if_neg (by simp)]
theorem rabove_l {ls : List L} (hu : ∀ x ∈ ls, U x) (hf : ls.length ≤ 16) (a : Int) : ∀ (d j : Nat), j + d = ls.length → EvV (fun k => barbicanref02_Above.l0 k ls a (ints ((List.range j).filter fun q => dmI ls (q : Int) a)) (j : Int)) (ints (bl ls fun q => dmI ls (q : Int) a))
  | 0, j, hj => by
    refine EvV.succ (G := fun _ => some (ints (bl ls fun q => dmI ls (q : Int) a))) (fun k => ?_) (EvV.const _)
    simp only [barbicanref02_Above.l0]
    rw [if_neg (by omega), show j = ls.length by omega]
    rfl
  | d + 1, j, hj => by
    have ih := rabove_l hu hf a d (j + 1) (by omega)
    rw [ints_snoc] at ih
    have hl := filter_len (fun q => dmI ls (q : Int) a) j
    refine EvV.succ (fun k => by simp only [barbicanref02_Above.l0]; rw [if_pos (by omega)]) (EvV.bind (rdominates_f hu (j : Int) a) ?_)
    rw [wr1' j (by omega)]
    cases hq : dmI ls (j : Int) a with
    | true =>
      rw [hq, if_pos rfl] at ih
      refine EvV.of (fun k => ?_) ih
      show (if true = true then _ else _) = _
      rw [if_pos rfl, if_pos (by omega)]
    | false =>
      rw [hq, if_neg (by simp)] at ih
      refine EvV.of (fun k => ?_) ih
      rw [if_neg (by simp)]
theorem belowI_f {ls : List L} (hu : ∀ x ∈ ls, U x) (a : Int) : lattice_Lattice_Below.f ls a = some (ints (bl ls fun q => dmI ls a (q : Int))) :=
  up_f _ _ _ fun j hj => dominatesI_f hu a j
theorem aboveI_f {ls : List L} (hu : ∀ x ∈ ls, U x) (a : Int) : lattice_Lattice_Above.f ls a = some (ints (bl ls fun q => dmI ls (q : Int) a)) :=
  up_f _ _ _ fun j hj => dominatesI_f hu j a
theorem ints_l (l : List Int) (hl : l.length ≤ 1000) : ∀ (d j : Nat), j + d = l.length → EvV (fun k => barbicanlaw02_ints.l0 k l l (j : Int)) true
  | 0, j, hj => by
    refine EvV.succ (G := fun _ => some true) (fun k => ?_) (EvV.const _)
    simp only [barbicanlaw02_ints.l0]
    rw [if_neg (by omega)]
  | d + 1, j, hj => by
    refine EvV.succ (fun k => ?_) (ints_l l hl d (j + 1) (by omega))
    simp only [barbicanlaw02_ints.l0, if_true]
    rw [if_pos (by omega), if_pos (by omega), if_pos (by omega), wr1' j (by omega)]
theorem ints_same (l : List Int) (hl : l.length ≤ 1000) : EvV (fun k => barbicanlaw02_ints.f k l l) true := by
  refine EvV.of (fun k => ?_) (ints_l l hl l.length 0 (Nat.zero_add _))
  unfold barbicanlaw02_ints.f
  rw [if_pos rfl]
  rfl
/-- What is laid behind so many rounds. -/
def Lr (ls : List L) : Nat → List Nat
  | 0 => []
  | r + 1 => Lr ls r ++ nxt ls (Lr ls r)
theorem Lr_good (ls : List L) : ∀ r, Good ls (Lr ls r)
  | 0 => good_nil ls
  | r + 1 => (Lr_good ls r).step
theorem Lr_len {ls : List L} (ok : Ok ls) (h0 : ∀ x ∈ ls, 0 ≤ x.f0) : ∀ r, r ≤ ls.length → r ≤ (Lr ls r).length
  | 0, _ => Nat.zero_le _
  | r + 1, h => by
    have ih := Lr_len ok h0 r (by omega)
    show r + 1 ≤ (Lr ls r ++ nxt ls (Lr ls r)).length
    rw [List.length_append]
    by_cases hl : (Lr ls r).length < ls.length
    · have := progress ok h0 (Lr_good ls r) hl
      omega
    · omega
theorem nxt_full {ls : List L} {l : List Nat} (g : Good ls l) (h : ls.length ≤ l.length) : nxt ls l = [] := by
  unfold nxt
  rw [List.filter_eq_nil_iff]
  intro i hi hf
  have h1 := nxt_mem (show i ∈ nxt ls l from List.mem_filter.2 ⟨hi, hf⟩)
  have hg := g.step.nodup
  have h2 := few_ ls.length (l ++ [i]) (by
    rw [List.nodup_append]
    exact ⟨g.nodup, by simp, fun a ha b hb e => by
      rw [List.mem_singleton] at hb
      subst e
      subst hb
      exact h1.2.1 ha⟩) (fun j hj => by
    rcases List.mem_append.1 hj with h | h
    · exact g.lt j h
    · rw [List.mem_singleton.1 h]; exact h1.1)
  rw [List.length_append] at h2
  simp at h2
  omega
theorem Lr_stay {ls : List L} (r : Nat) (h : ls.length ≤ (Lr ls r).length) : ∀ d, Lr ls (r + d) = Lr ls r
  | 0 => rfl
  | d + 1 => by
    show Lr ls (r + d) ++ nxt ls (Lr ls (r + d)) = _
    rw [Lr_stay r h d, nxt_full (Lr_good ls r) h, List.append_nil]
theorem order_Lr {ls : List L} (ok : Ok ls) (h0 : ∀ x ∈ ls, 0 ≤ x.f0) : ∀ (d r k : Nat), r + d = ls.length → d < k → latOrder ls k (ints (Lr ls r)) = some (ints (Lr ls ls.length))
  | d, r, 0, _, hk => absurd hk (by omega)
  | d, r, k + 1, hr, hk => by
    show (if (ints (Lr ls r)).length < ls.length then _ else _) = _
    rw [ints_length]
    by_cases hl : (Lr ls r).length < ls.length
    · rw [if_pos hl, up_f _ _ _ fun j hj => free_f ok.u (Lr ls r) j hj, Option.bind_some, ints_append]
      cases d with
      | zero =>
        have := Lr_len ok h0 ls.length (Nat.le_refl _)
        have e : r = ls.length := by omega
        rw [e] at hl
        omega
      | succ d => exact order_Lr ok h0 d (r + 1) k (by omega) (by omega)
    · rw [if_neg hl]
      have := Lr_stay (ls := ls) r (by omega) d
      rw [hr] at this
      rw [this]
theorem orderI_f {ls : List L} (ok : Ok ls) (h0 : ∀ x ∈ ls, 0 ≤ x.f0) : lattice_Lattice_Order.f ls = some (ints (Lr ls ls.length)) :=
  order_Lr ok h0 ls.length 0 17 (Nat.zero_add _) (by have := ok.few; omega)
end LatA
end Go.Proofs.YtgcaalgaellciaaDoor.Pure
/- A lattice, plain: how high a place lies is in which round it is laid; so the document's order is the program's. -/
namespace Go.Proofs.YtgcaalgaellciaaDoor.Pure
open Go.RowKit Go.Proofs.YtgcaalgaellciaaDoor.XLat Go.Proofs.YtgcaalgaellciaaDoorW.PrintWords Go.Proofs.YtgcaalgaellciaaDoorW.PrintLast Go.Proofs.YtgcaalgaellciaaDoorW.PrintMore
set_option linter.unusedVariables false
set_option linter.unusedSimpArgs false
namespace LatA
theorem full_mem {ls : List L} {l : List Nat} (g : Good ls l) (h : ls.length ≤ l.length) (i : Nat) (hi : i < ls.length) : i ∈ l := Classical.byContradiction fun hn => by
  have h2 := few_ ls.length (l ++ [i]) (by
    rw [List.nodup_append]
    exact ⟨g.nodup, by simp, fun a ha b hb e => by
      rw [List.mem_singleton] at hb
      subst e
      subst hb
      exact hn ha⟩) (fun j hj => by
    rcases List.mem_append.1 hj with h | h
    · exact g.lt j h
    · rw [List.mem_singleton.1 h]; exact hi)
  rw [List.length_append] at h2
  simp at h2
  omega
theorem mem_Lr (ls : List L) (i : Nat) : ∀ r, i ∈ Lr ls r → ∃ q, q < r ∧ i ∈ nxt ls (Lr ls q)
  | 0, h => by simp [Lr] at h
  | r + 1, h => by
    rcases List.mem_append.1 (show i ∈ Lr ls r ++ nxt ls (Lr ls r) from h) with h | h
    · obtain ⟨q, hq, hm⟩ := mem_Lr ls i r h
      exact ⟨q, by omega, hm⟩
    · exact ⟨r, by omega, h⟩
theorem Lr_sub (ls : List L) (i q : Nat) : ∀ d, i ∈ nxt ls (Lr ls q) → i ∈ Lr ls (q + 1 + d)
  | 0, h => List.mem_append_right _ h
  | d + 1, h => List.mem_append_left _ (Lr_sub ls i q d h)
theorem rank_one (ls : List L) (i q r : Nat) (hq : i ∈ nxt ls (Lr ls q)) (hr : i ∈ nxt ls (Lr ls r)) : q = r := by
  rcases Nat.lt_trichotomy q r with h | h | h
  · have := Lr_sub ls i q (r - (q + 1)) hq
    rw [show q + 1 + (r - (q + 1)) = r by omega] at this
    exact absurd this (nxt_mem hr).2.1
  · exact h
  · have := Lr_sub ls i r (q - (r + 1)) hr
    rw [show r + 1 + (q - (r + 1)) = q by omega] at this
    exact absurd this (nxt_mem hq).2.1
theorem rank_lt {ls : List L} (ok : Ok ls) (h0 : ∀ x ∈ ls, 0 ≤ x.f0) (i r : Nat) (h : i ∈ nxt ls (Lr ls r)) : r < ls.length := by
  rcases Nat.lt_or_ge r ls.length with hl | hl
  · exact hl
  · exfalso
    have h1 := Lr_len ok h0 ls.length (Nat.le_refl _)
    have h2 := Lr_stay (ls := ls) ls.length h1 (r - ls.length)
    rw [show ls.length + (r - ls.length) = r by omega] at h2
    rw [h2, nxt_full (Lr_good ls _) h1] at h
    simp at h
theorem mx_ge (a b : Int) : a ≤ mx a b ∧ b ≤ mx a b := by unfold mx; split <;> omega
theorem mx_le (a b c : Int) (h1 : a ≤ c) (h2 : b ≤ c) : mx a b ≤ c := by unfold mx; split <;> omega
/-- The greatest so far. -/
def mxs (ls : List L) (i : Nat) (hh : Nat → Int) : Nat → Int
  | 0 => 0
  | j + 1 => if j = i then mxs ls i hh j else if D ls i j = true then mx (mxs ls i hh j) (1 + hh j) else mxs ls i hh j
theorem mxs_le (ls : List L) (i r : Nat) (hh : Nat → Int) (h : ∀ j, j < ls.length → j ≠ i → D ls i j = true → 1 + hh j ≤ r) : ∀ j, j ≤ ls.length → mxs ls i hh j ≤ r
  | 0, _ => by show (0 : Int) ≤ r; omega
  | j + 1, hj => by
    have ih := mxs_le ls i r hh h j (by omega)
    unfold mxs
    split
    · exact ih
    · split
      · rename_i h1 h2
        exact mx_le _ _ _ ih (h j (by omega) h1 h2)
      · exact ih
theorem mxs_mono (ls : List L) (i : Nat) (hh : Nat → Int) (j : Nat) : ∀ d, mxs ls i hh j ≤ mxs ls i hh (j + d)
  | 0 => Int.le_refl _
  | d + 1 => by
    refine Int.le_trans (mxs_mono ls i hh j d) ?_
    show _ ≤ (if j + d = i then mxs ls i hh (j + d) else if D ls i (j + d) = true then mx (mxs ls i hh (j + d)) (1 + hh (j + d)) else mxs ls i hh (j + d))
    split
    · exact Int.le_refl _
    · split
      · exact (mx_ge _ _).1
      · exact Int.le_refl _
theorem mxs_ge (ls : List L) (i j : Nat) (hh : Nat → Int) (hj : j < ls.length) (hne : j ≠ i) (hd : D ls i j = true) : 1 + hh j ≤ mxs ls i hh ls.length := by
  refine Int.le_trans ?_ (by have := mxs_mono ls i hh (j + 1) (ls.length - (j + 1)); rwa [show j + 1 + (ls.length - (j + 1)) = ls.length by omega] at this)
  show _ ≤ (if j = i then mxs ls i hh j else if D ls i j = true then mx (mxs ls i hh j) (1 + hh j) else mxs ls i hh j)
  rw [if_neg hne, if_pos hd]
  exact (mx_ge _ _).2
theorem dmI_D (ls : List L) (i j : Nat) (hi : i < ls.length) (hj : j < ls.length) : dmI ls (i : Int) (j : Int) = D ls i j := by
  unfold dmI D
  rw [decide_eq_true ⟨by omega, by omega, by omega, by omega⟩, Bool.true_and, rd_at, rd_at]
theorem height_l {ls : List L} (ok : Ok ls) (i : Nat) (hi : i < ls.length) (hh : Nat → Int) (hb : ∀ j, j < ls.length → j ≠ i → D ls i j = true → EvV (fun k => barbicanref02_height.f k ls (j : Int)) (hh j) ∧ 0 ≤ hh j ∧ hh j ≤ 16) :
    ∀ (d j : Nat), j + d = ls.length → EvV (fun k => barbicanref02_height.l0 k ls (i : Int) (mxs ls i hh j) (j : Int)) (mxs ls i hh ls.length)
  | 0, j, hj => by
    refine EvV.succ (G := fun _ => some (mxs ls i hh ls.length)) (fun k => ?_) (EvV.const _)
    simp only [barbicanref02_height.l0]
    rw [if_neg (by omega), show j = ls.length by omega]
  | d + 1, j, hj => by
    have hf := ok.few
    have ih := height_l ok i hi hh hb d (j + 1) (by omega)
    have e1 := wr1' j (by omega)
    by_cases hji : j = i
    · have e2 : mxs ls i hh (j + 1) = mxs ls i hh j := by
        show (if j = i then _ else _) = _
        rw [if_pos hji]
      rw [e2] at ih
      refine EvV.succ (fun k => ?_) ih
      simp only [barbicanref02_height.l0]
      rw [if_pos (by omega), if_pos (by omega), e1]
    · refine EvV.succ (fun k => by simp only [barbicanref02_height.l0]; rw [if_pos (by omega), if_neg (by omega)]) (EvV.bind (rdominates_f ok.u (i : Int) (j : Int)) ?_)
      rw [dmI_D ls i j hi (by omega), e1]
      cases hd : D ls i j with
      | true =>
        obtain ⟨h1, h2, h3⟩ := hb j (by omega) hji hd
        have e2 : mxs ls i hh (j + 1) = mx (mxs ls i hh j) (1 + hh j) := by
          show (if j = i then _ else if D ls i j = true then _ else _) = _
          rw [if_neg hji, if_pos hd]
        rw [e2] at ih
        refine EvV.of (fun k => if_pos rfl) (EvV.bind h1 ?_)
        rw [wrap64_small (1 + hh j) (by omega) (by omega)]
        exact ih
      | false =>
        have e2 : mxs ls i hh (j + 1) = mxs ls i hh j := by
          show (if j = i then _ else if D ls i j = true then _ else _) = _
          rw [if_neg hji, if_neg (by rw [hd]; simp)]
        rw [e2] at ih
        exact EvV.of (fun k => if_neg (by simp)) ih
theorem height_f {ls : List L} (ok : Ok ls) (h0 : ∀ x ∈ ls, 0 ≤ x.f0) : ∀ (m r : Nat), r < m → ∀ i, i ∈ nxt ls (Lr ls r) → EvV (fun k => barbicanref02_height.f k ls (i : Int)) (r : Int)
  | 0, r, hr, _, _ => absurd hr (by omega)
  | m + 1, r, hr, i, hi => by
    have hrn := rank_lt ok h0 i r hi
    obtain ⟨hil, hnot, hbel⟩ := nxt_mem hi
    have hf := ok.few
    have hex : ∀ j, j < ls.length → j ≠ i → D ls i j = true → ∃ q, q < r ∧ j ∈ nxt ls (Lr ls q) := fun j hj hne hd => mem_Lr ls j r (hbel j hj hd hne)
    obtain ⟨hh, hhh⟩ : ∃ hh : Nat → Int, ∀ j, j < ls.length → j ≠ i → D ls i j = true → ∃ q : Nat, hh j = q ∧ q < r ∧ j ∈ nxt ls (Lr ls q) := by
      refine ⟨fun j => if h : ∃ q, q < r ∧ j ∈ nxt ls (Lr ls q) then ((Classical.choose h : Nat) : Int) else 0, fun j hj hne hd => ?_⟩
      have h := hex j hj hne hd
      refine ⟨Classical.choose h, ?_, Classical.choose_spec h⟩
      show (if h : ∃ q, q < r ∧ j ∈ nxt ls (Lr ls q) then ((Classical.choose h : Nat) : Int) else 0) = _
      rw [dif_pos h]
    have hl := height_l ok i hil hh (fun j hj hne hd => by
      obtain ⟨q, e, hq, hm⟩ := hhh j hj hne hd
      rw [e]
      exact ⟨height_f ok h0 m q (by omega) j hm, by omega, by omega⟩) ls.length 0 (Nat.zero_add _)
    have hm : mxs ls i hh ls.length = (r : Int) := by
      have h1 := mxs_le ls i r hh (fun j hj hne hd => by
        obtain ⟨q, e, hq, _⟩ := hhh j hj hne hd
        rw [e]; omega) ls.length (Nat.le_refl _)
      have h2 := mxs_mono ls i hh 0 ls.length
      rw [Nat.zero_add] at h2
      have h3 : mxs ls i hh 0 = 0 := rfl
      cases r with
      | zero => omega
      | succ s =>
        have hns : i ∉ Lr ls s ∧ i ∉ nxt ls (Lr ls s) := by
          have h : i ∉ Lr ls s ++ nxt ls (Lr ls s) := hnot
          rw [List.mem_append] at h
          exact ⟨fun hh => h (.inl hh), fun hh => h (.inr hh)⟩
        have hj : ∃ j, j < ls.length ∧ D ls i j = true ∧ j ≠ i ∧ j ∉ Lr ls s := Classical.byContradiction fun hn => hns.2 (by
          unfold nxt
          rw [List.mem_filter, List.mem_range]
          refine ⟨hil, ?_⟩
          unfold free
          rw [Bool.and_eq_true]
          refine ⟨by simpa using hns.1, List.all_eq_true.2 fun j hj => ?_⟩
          rw [List.mem_range] at hj
          cases hd : D ls i j with
          | false => rfl
          | true =>
            by_cases hji : j = i
            · simp [hji]
            · have : j ∈ Lr ls s := Classical.byContradiction fun hm => hn ⟨j, hj, hd, hji, hm⟩
              simp [this])
        obtain ⟨j, hjl, hd, hji, hjs⟩ := hj
        have hjm : j ∈ nxt ls (Lr ls s) := by
          have h : j ∈ Lr ls s ++ nxt ls (Lr ls s) := hbel j hjl hd hji
          rcases List.mem_append.1 h with h | h
          · exact absurd h hjs
          · exact h
        obtain ⟨q, e, _, hqm⟩ := hhh j hjl hji hd
        have hqs := rank_one ls j q s hqm hjm
        have h4 := mxs_ge ls i j hh hjl hji hd
        rw [e, hqs] at h4
        omega
    rw [hm] at hl
    refine EvV.succ (fun k => ?_) hl
    simp only [barbicanref02_height.f]
    rfl
theorem rank_ex {ls : List L} (ok : Ok ls) (h0 : ∀ x ∈ ls, 0 ≤ x.f0) (i : Nat) (hi : i < ls.length) : ∃ q, i ∈ nxt ls (Lr ls q) := by
  obtain ⟨q, _, h⟩ := mem_Lr ls i ls.length (full_mem (Lr_good ls _) (Lr_len ok h0 _ (Nat.le_refl _)) i hi)
  exact ⟨q, h⟩
theorem order_l1 {ls : List L} (ok : Ok ls) (h0 : ∀ x ∈ ls, 0 ≤ x.f0) (r : Nat) (hr : r < ls.length) (v : List Int) (hn : EvV (fun k => barbicanref02_Order.l0 k ls (ints (Lr ls (r + 1))) ((r + 1 : Nat) : Int)) v) :
    ∀ (d j : Nat), j + d = ls.length → EvV (fun k => barbicanref02_Order.l1 k ls (ints (Lr ls r) ++ ints ((List.range j).filter (free ls (Lr ls r)))) (r : Int) (j : Int)) v
  | 0, j, hj => by
    have hf := ok.few
    refine EvV.succ (fun k => ?_) hn
    simp only [barbicanref02_Order.l1]
    rw [if_neg (by omega), wr1' r (by omega), show j = ls.length by omega, ints_append]
    rfl
  | d + 1, j, hj => by
    have hf := ok.few
    have ih := order_l1 ok h0 r hr v hn d (j + 1) (by omega)
    rw [ints_snoc] at ih
    obtain ⟨q, hq⟩ := rank_ex ok h0 j (by omega)
    have hl := filter_len (free ls (Lr ls r)) j
    have hll := few_ ls.length (Lr ls r) (Lr_good ls r).nodup (Lr_good ls r).lt
    refine EvV.succ (fun k => by simp only [barbicanref02_Order.l1]; rw [if_pos (by omega)]) (EvV.bind (height_f ok h0 (q + 1) q (by omega) j hq) ?_)
    rw [wr1' j (by omega)]
    cases hfr : free ls (Lr ls r) j with
    | true =>
      have hm : j ∈ nxt ls (Lr ls r) := List.mem_filter.2 ⟨List.mem_range.2 (by omega), hfr⟩
      have e := rank_one ls j q r hq hm
      rw [hfr, if_pos rfl, ← List.append_assoc] at ih
      refine EvV.of (fun k => ?_) ih
      rw [if_pos (by omega), if_pos (by rw [List.length_append, ints_length]; omega)]
    | false =>
      have e : q ≠ r := fun e => by
        subst e
        have := (List.mem_filter.1 hq).2
        rw [hfr] at this
        cases this
      rw [hfr, if_neg (by simp)] at ih
      exact EvV.of (fun k => if_neg (by omega)) ih
theorem order_l0 {ls : List L} (ok : Ok ls) (h0 : ∀ x ∈ ls, 0 ≤ x.f0) : ∀ (d r : Nat), r + d = ls.length → EvV (fun k => barbicanref02_Order.l0 k ls (ints (Lr ls r)) (r : Int)) (ints (Lr ls ls.length))
  | 0, r, hr => by
    refine EvV.succ (G := fun _ => some (ints (Lr ls ls.length))) (fun k => ?_) (EvV.const _)
    simp only [barbicanref02_Order.l0]
    rw [if_neg (by omega), show r = ls.length by omega]
  | d + 1, r, hr => by
    have h := order_l1 ok h0 r (by omega) _ (order_l0 ok h0 d (r + 1) (by omega)) ls.length 0 (Nat.zero_add _)
    refine EvV.succ (fun k => ?_) h
    simp only [barbicanref02_Order.l0]
    rw [if_pos (by omega), show ints ((List.range 0).filter (free ls (Lr ls r))) = [] from rfl, List.append_nil]
    rfl
theorem rorder_f {ls : List L} (ok : Ok ls) (h0 : ∀ x ∈ ls, 0 ≤ x.f0) : EvV (fun k => barbicanref02_Order.f k ls) (ints (Lr ls ls.length)) := order_l0 ok h0 ls.length 0 (Nat.zero_add _)
end LatA
end Go.Proofs.YtgcaalgaellciaaDoor.Pure
namespace Go.Proofs.YtgcaalgaellciaaDoor.Pure
open Go.RowKit Go.Proofs.YtgcaalgaellciaaDoor.XLat Go.Proofs.YtgcaalgaellciaaDoorW.PrintWords Go.Proofs.YtgcaalgaellciaaDoorW.PrintLast Go.Proofs.YtgcaalgaellciaaDoorW.PrintMore
open LatA
set_option linter.unusedVariables false
set_option linter.unusedSimpArgs false
namespace LatA
theorem bind_id {α : Type} (o : Option α) : (o.bind fun t => some t) = o := by cases o <;> rfl
theorem bl_len {ls : List L} (hf : ls.length ≤ 16) (q : Nat → Bool) : (ints (bl ls q)).length ≤ 1000 := Nat.le_trans (filter_len q ls.length) (by omega)
theorem lies_ev {ls : List L} (ok : Ok ls) (h0 : ∀ x ∈ ls, 0 ≤ x.f0) (i j : Int) : EvV (fun k => barbicanlaw02_LatticeLies.j0 k ls i j ls false) true := by
  have hu := ok.u
  have hf := ok.few
  have hB : EvV (fun k => barbicanref02_Below.f k ls i) _ := EvV.of (fun k => rfl) (rbelow_l hu hf i ls.length 0 (Nat.zero_add _))
  have hA : EvV (fun k => barbicanref02_Above.f k ls i) _ := EvV.of (fun k => rfl) (rabove_l hu hf i ls.length 0 (Nat.zero_add _))
  refine EvV.succ (fun k => by simp only [barbicanlaw02_LatticeLies.j0, Bool.false_eq_true, if_false]; rw [belowI_f hu i, Option.bind_some]) (EvV.bind hB ?_)
  refine EvV.bind (ints_same _ (bl_len hf _)) (EvV.of (fun k => if_pos rfl) ?_)
  refine EvV.of (fun k => by rw [aboveI_f hu i, Option.bind_some]) (EvV.bind hA ?_)
  refine EvV.bind (ints_same _ (bl_len hf _)) (EvV.of (fun k => if_pos rfl) ?_)
  refine EvV.of (fun k => by rw [dominatesI_f hu i j, Option.bind_some]) (EvV.bind (rdominates_f hu i j) (EvV.of (fun k => if_pos (beq_self_eq_true _)) ?_))
  refine EvV.of (fun k => by rw [orderI_f ok h0, Option.bind_some]) (EvV.bind (rorder_f ok h0) ?_)
  have hll := few_ ls.length (Lr ls ls.length) (Lr_good ls _).nodup (Lr_good ls _).lt
  refine EvV.bind (ints_same _ (by rw [ints_length]; omega)) (EvV.of (fun k => if_pos rfl) ?_)
  exact EvV.of (fun k => bind_id _) sure_ev
theorem below_nil (i : Int) : lattice_Lattice_Below.f [] i = some [] := rfl
theorem lies_none (ls : List L) (i j : Int) : EvV (fun k => barbicanlaw02_LatticeLies.j0 k ls i j [] true) true := by
  refine EvV.succ (fun k => ?_) sure_ev
  simp only [barbicanlaw02_LatticeLies.j0, if_true, List.isEmpty_nil]
  rw [show lattice_Lattice_Len.f [] = some 0 from rfl, Option.bind_some, if_pos rfl, below_nil, Option.bind_some, if_pos (by rfl), show lattice_Lattice_Order.f [] = some [] from rfl, Option.bind_some, if_pos (by rfl), show lattice_Lattice_Text.f [] = some ⟨#[]⟩ from rfl, Option.bind_some, if_pos (by rw [ByteArray.toList, ByteArray.toList.loop]; rfl), bind_id]
end LatA
open LatA
theorem LatticeLies (l0 : List (S35)) (a1 : Int) (a2 : Int) (g0 : (fun xs : List (S35) => xs.length * 16 ≤ 140737488351232 ∧ xs.length ≤ maxLen ∧ ∀ x ∈ xs, goodw35 x) l0) (g1 : (fun n : Int => (Lit.int .i64 n).wf = true) a1) (g2 : (fun n : Int => (Lit.int .i64 n).wf = true) a2) : ∃ k, barbicanlaw02_LatticeLies.f k l0 a1 a2 = some true := by
  obtain ⟨h1, _, h2⟩ := g0
  have hu : ∀ x ∈ l0, U x := fun x hx => u32_wf (h2 x hx).2
  refine Ev.ex ?_
  unfold barbicanlaw02_LatticeLies.f
  rw [twin_f l0 (by omega)]
  simp only [Option.bind_some, new_f hu]
  cases hn : latNew l0 with
  | some e =>
    simp only [Option.isNone_some, Bool.false_eq_true, if_false, latMade_some hn]
    exact lies_none l0 a1 a2
  | none =>
    obtain ⟨hne, ok, hv⟩ := new_ok hu hn
    have hem : l0.isEmpty = false := by simpa using hne
    simp only [Option.isNone_none, if_true, latMade_none hn, hem]
    exact lies_ev ok (fun x hx => (hv x hx).1) a1 a2
end Go.Proofs.YtgcaalgaellciaaDoor.Pure
