/- GuardRare, plain: each line that is let down is there as often as the least number says, or more; with a greater least number fewer are let down. -/
import Derived.Test.YtoiakgibckgfdaaXGvx9
import Derived.Test.YtoiakgibckgfdaaGvGvP
import Derived.Test.YtoiakgibckgfdaaXSt81
import Derived.Test.YtoiakgibckgfdaaXSt56
import Derived.Test.YtoiakgibckgfdaaXSt44
namespace Go.Proofs.Ytoiakgibckgfdaa.Pure
open Go.RowKit Go.Proofs.Ytoiakgibckgfdaa.XGv Go.Proofs.YtoiakgibckgfdaaW.PrintWords Go.Proofs.YtoiakgibckgfdaaW.PrintLast Go.Proofs.YtoiakgibckgfdaaW.PrintMore
set_option linter.unusedVariables false
set_option linter.unusedSimpArgs false
namespace GvP
open GbV
theorem wf64 {n : Int} (h : (Lit.int .i64 n).wf = true) : -9223372036854775808 ≤ n ∧ n ≤ 9223372036854775807 := by
  simp [Lit.wf, IntKind.min, IntKind.max, IntKind.bits, IntKind.signed] at h
  omega
/-- The law's call, with what stays. -/
def rl0 (k : Nat) (rows : List R) (L : List (List S)) (i : Int) (a0 : ByteArray) (tc : List T) (b0 b1 : ByteArray) (b2 b3 : Int) (vc : List VC) (least b6 : Int) : Option Bool := barbicanlaw24_GuardRare.l0 k rows L i a0 tc b0 b1 b2 b3 vc least b6
theorem count_l (rows : List R) (L : List (List S)) (a0 : ByteArray) (tc : List T) (b0 b1 : ByteArray) (b2 b3 : Int) (vc : List VC) (least b6 : Int) (M : Nat) (hM : ∀ x ∈ L, x.length + 1 ≤ M) (hM2 : M ≤ 4611686018427387904) (hL : L.length < 1000000000000) (i : Nat) (hi : i < L.length) :
    ∀ (d j k c : Nat), j + d = L.length → d + 1 + M ≤ k → c ≤ j → least ≤ ((c + (L.drop j).countP (fun y => decide (L[i] = y)) : Nat) : Int) → ∃ k', k = k' + d + 1 ∧ barbicanlaw24_GuardRare.l1 k rows L (i : Int) (c : Int) (j : Int) a0 tc b0 b1 b2 b3 vc least b6 = barbicanlaw24_GuardRare.l0 k' rows L ((i + 1 : Nat) : Int) a0 tc b0 b1 b2 b3 vc least b6
  | 0, j, k, c, hj, hk, hc, hn => by
    obtain ⟨k, rfl⟩ : ∃ q, k = q + 1 := ⟨k - 1, by omega⟩
    refine ⟨k, by omega, ?_⟩
    rw [List.drop_eq_nil_of_le (by omega), List.countP_nil] at hn
    simp only [barbicanlaw24_GuardRare.l1]
    rw [if_neg (by omega), if_neg (by omega), wn i (by omega)]
  | d + 1, j, k, c, hj, hk, hc, hn => by
    obtain ⟨k, rfl⟩ : ∃ q, k = q + 1 := ⟨k - 1, by omega⟩
    have hjl : j < L.length := by omega
    have hm := hM _ (List.getElem_mem hi)
    rw [List.drop_eq_getElem_cons hjl, List.countP_cons] at hn
    simp only [barbicanlaw24_GuardRare.l1]
    rw [if_pos (by omega), if_pos (by omega), if_pos (by omega), if_pos (by omega), rdL L i hi, rdL L j hjl, values_f k _ _ (by omega) (by omega), Option.bind_some, wn c (by omega), wn j (by omega)]
    by_cases h : L[i] = L[j]
    · rw [if_pos (decide_eq_true h)]
      rw [if_pos (decide_eq_true h)] at hn
      obtain ⟨k', hk', e⟩ := count_l rows L a0 tc b0 b1 b2 b3 vc least b6 M hM hM2 hL i hi d (j + 1) k (c + 1) (by omega) (by omega) (by omega) (by omega)
      exact ⟨k', by omega, e⟩
    · rw [if_neg (by simpa using h)]
      rw [if_neg (by simpa using h)] at hn
      obtain ⟨k', hk', e⟩ := count_l rows L a0 tc b0 b1 b2 b3 vc least b6 M hM hM2 hL i hi d (j + 1) k c (by omega) (by omega) (by omega) (by omega)
      exact ⟨k', by omega, e⟩
theorem rare_l (rows : List R) (L xs : List (List S)) (a0 : ByteArray) (tc : List T) (b0 b1 : ByteArray) (b2 b3 : Int) (vc : List VC) (least b6 : Int) (htc : tc.length ≤ 9223372036854775807) (hv : ∀ r ∈ rows, ∀ x ∈ r.f1, -9223372036854775808 ≤ x.f1 ∧ x.f1 ≤ 9223372036854775807) (hr1 : ∀ r ∈ rows, r.f1.length < 3518437208883) (hc : vc.length < 3518437208883) (hr : rows.length ≤ 200) (hleast : -9223372036854775808 ≤ least ∧ least ≤ 9223372036854775807)
    (hxs : linesP tc (vc.map toC) rows = .ok xs) (hL : L = outP least xs.length (xs.mergeSort GvC.le)) :
    ∀ (d i k : Nat), i + d = L.length → (d + 1) * (L.length + 2) + 2 * vc.length + 3 * rows.length + 60 ≤ k → barbicanlaw24_GuardRare.l0 k rows L (i : Int) a0 tc b0 b1 b2 b3 vc least b6 = some true := by
  obtain ⟨hx1, hx2⟩ := lines_ok tc (vc.map toC) rows xs hxs
  have hml : (xs.mergeSort GvC.le).length = xs.length := List.length_mergeSort xs
  have hmem : ∀ z ∈ xs.mergeSort GvC.le, z ∈ xs := fun z hz => (List.mergeSort_perm xs GvC.le).mem_iff.1 hz
  have hLl : L.length ≤ rows.length := by rw [hL]; have := out_le least xs.length (xs.mergeSort GvC.le); omega
  have hM : ∀ x ∈ L, x.length + 1 ≤ vc.length + 1 := fun x hx => by
    rw [hL] at hx
    have := (hx2 x (hmem x (out_mem least _ _ x hx))).1
    rw [List.length_map] at this
    omega
  intro d
  induction d with
  | zero =>
    intro i k hi hk
    obtain ⟨k, rfl⟩ : ∃ q, k = q + 1 := ⟨k - 1, by omega⟩
    simp only [barbicanlaw24_GuardRare.l0]
    rw [if_neg (by omega), view_f k _ _ _ _ vc _ _ (by omega) (by omega), Option.bind_some]
    dsimp only
    rw [own_f k rows (by omega) hr1 (by omega)]
    have hrel : ∀ least', guard_Release.f k a0 tc b0 b1 b2 b3 (vc.map toC) least' b6 rows = some (outP least' xs.length (xs.mergeSort GvC.le), none) := by
      intro least'
      rw [release_f k a0 tc b0 b1 b2 b3 (vc.map toC) least' b6 rows htc hv (by rw [List.length_map]; omega) (by omega) (by rw [List.length_map]; omega), hxs]
      rfl
    have hfin : ∀ least', least ≤ least' → ((some rows).bind fun t368 => ((guard_Release.f k a0 tc b0 b1 b2 b3 (vc.map toC) least' b6 t368).bind fun bt371 => (if bt371.2.isNone = true then (if (bt371.1.length : Int) ≤ (L.length : Int) then (if (L.length : Int) ≤ (rows.length : Int) then ((barbicanlaw24_sure.f k).bind fun t376 => (some t376)) else (some false)) else (some false)) else (some false)))) = some true := by
      intro least' hle
      have h3 := out_mono least least' hle xs.length (xs.mergeSort GvC.le)
      rw [← hL] at h3
      rw [Option.bind_some, hrel, Option.bind_some]
      dsimp only
      rw [if_pos (show (none : Option Int).isNone = true from rfl), if_pos (by omega), if_pos (by omega), sure_f k (by omega)]
      rfl
    by_cases h : least < 1048576
    · rw [if_pos h, w64 (least + 1) (by omega) (by omega)]
      exact hfin (least + 1) (by omega)
    · rw [if_neg h]
      exact hfin least (Int.le_refl _)
  | succ d ih =>
    intro i k hi hk
    have hq : (d + 1 + 1) * (L.length + 2) = (d + 1) * (L.length + 2) + (L.length + 2) := by rw [Nat.add_mul (d + 1) 1, Nat.one_mul]
    rw [hq] at hk
    obtain ⟨k, rfl⟩ : ∃ q, k = q + 1 := ⟨k - 1, by omega⟩
    have hil : i < L.length := by omega
    simp only [barbicanlaw24_GuardRare.l0]
    rw [if_pos (by omega)]
    have hrare := out_rare least xs.length (xs.mergeSort GvC.le) (fun z hz => (hx2 z (hmem z hz)).2) L[i] (by rw [← hL]; exact List.getElem_mem hil)
    rw [← hL] at hrare
    obtain ⟨k', hk', e⟩ := count_l rows L a0 tc b0 b1 b2 b3 vc least b6 (vc.length + 1) hM (by omega) (by omega) i hil L.length 0 k 0 (by omega) (by omega) (Nat.le_refl _) (by rw [List.drop_zero, Nat.zero_add]; exact hrare)
    rw [show ((0 : Nat) : Int) = 0 from rfl] at e
    rw [e]
    exact ih (i + 1) k' (by omega) (by omega)
end GvP
open GbV GvP in
theorem GuardRare (a0_0 : ByteArray) (l0_1 : List (S81)) (a1_0 : ByteArray) (a1_1 : ByteArray) (a1_2 : Int) (a1_3 : Int) (l1_4 : List (S56)) (a1_5 : Int) (a1_6 : Int) (l2 : List (S44)) (g0_0 : (fun s : ByteArray => s.size ≤ maxLen) a0_0) (b0_0 : (fun s : ByteArray => s.size + 1) a0_0 ≤ 1048576) (g0_1 : (fun xs : List (S81) => xs.length ≤ maxLen ∧ ∀ x ∈ xs, good81 x) l0_1) (b0_1 : (fun xs : List (S81) => (xs.map bulk81).sum + 1) l0_1 ≤ 1048576) (g1_0 : (fun s : ByteArray => s.size ≤ maxLen) a1_0) (b1_0 : (fun s : ByteArray => s.size + 1) a1_0 ≤ 1048576) (g1_1 : (fun s : ByteArray => s.size ≤ maxLen) a1_1) (b1_1 : (fun s : ByteArray => s.size + 1) a1_1 ≤ 1048576) (g1_2 : (fun n : Int => (Lit.int .i64 n).wf = true) a1_2) (b1_2 : (fun _ : Int => 1) a1_2 ≤ 1048576) (g1_3 : (fun n : Int => (Lit.int .i64 n).wf = true) a1_3) (b1_3 : (fun _ : Int => 1) a1_3 ≤ 1048576) (g1_4 : (fun xs : List (S56) => xs.length ≤ maxLen ∧ ∀ x ∈ xs, good56 x) l1_4) (b1_4 : (fun xs : List (S56) => (xs.map bulk56).sum + 1) l1_4 ≤ 1048576) (g1_5 : (fun n : Int => (Lit.int .i64 n).wf = true) a1_5) (b1_5 : (fun _ : Int => 1) a1_5 ≤ 1048576) (g1_6 : (fun n : Int => (Lit.int .i64 n).wf = true) a1_6) (b1_6 : (fun _ : Int => 1) a1_6 ≤ 1048576) (g2 : (fun xs : List (S44) => xs.length ≤ maxLen ∧ ∀ x ∈ xs, good44 x) l2) (b2 : (fun xs : List (S44) => (xs.map bulk44).sum + 1) l2 ≤ 1048576) : ∃ k, barbicanlaw24_GuardRare.f k a0_0 l0_1 a1_0 a1_1 a1_2 a1_3 l1_4 a1_5 a1_6 l2 = some true := by
  have hsum : ∀ {α : Type} (f : α → Nat) (l : List α) (x : α), x ∈ l → f x ≤ (l.map f).sum := by
    intro α f l
    induction l with
    | nil => intro x hx; cases hx
    | cons y r ih =>
      intro x hx
      rw [List.map_cons, List.sum_cons]
      rcases List.mem_cons.1 hx with rfl | hx
      · omega
      · have := ih x hx; omega
  have hlen : ∀ {α : Type} (f : α → Nat) (hf : ∀ x, 1 ≤ f x) (l : List α), l.length ≤ (l.map f).sum := by
    intro α f hf l
    induction l with
    | nil => exact Nat.le_refl _
    | cons y r ih =>
      rw [List.map_cons, List.sum_cons, List.length_cons]
      have := hf y
      omega
  dsimp only at b0_1 b1_4 b2
  have h81 := hlen bulk81 (fun x => by unfold bulk81; omega) l0_1
  have h56 := hlen bulk56 (fun x => by unfold bulk56; omega) l1_4
  have hv : ∀ r ∈ l2, ∀ x ∈ r.f1, -9223372036854775808 ≤ x.f1 ∧ x.f1 ≤ 9223372036854775807 := fun r hr x hx => wf64 ((g2.2 r hr).2.2 x hx).2.1
  have hr1 : ∀ r ∈ l2, r.f1.length < 3518437208883 := fun r hr => by
    have h1 := hsum bulk44 l2 r hr
    have h2 : r.f1.length + 1 ≤ bulk44 r := by
      have := hlen bulk47 (fun x => by unfold bulk47; omega) r.f1
      unfold bulk44
      dsimp only
      omega
    omega
  by_cases h200 : l2.length ≤ 200
  case neg =>
    refine ⟨20, ?_⟩
    unfold barbicanlaw24_GuardRare.f
    rw [if_pos (by omega), sure_f 20 (Nat.le_refl _)]
    rfl
  refine ⟨1000 * 1000 + 3 * l1_4.length + 1000, ?_⟩
  generalize hkk : 1000 * 1000 + 3 * l1_4.length + 1000 = k
  unfold barbicanlaw24_GuardRare.f
  rw [if_neg (by omega), view_f k _ _ _ _ l1_4 _ _ (by omega) (by omega), Option.bind_some, own_f k l2 (by omega) hr1 (by omega), Option.bind_some]
  dsimp only
  rw [release_f k a0_0 l0_1 a1_0 a1_1 a1_2 a1_3 (l1_4.map toC) a1_5 a1_6 l2 (by omega) hv (by rw [List.length_map]; omega) (by omega) (by rw [List.length_map]; omega), Option.bind_some]
  cases hxs : linesP l0_1 (l1_4.map toC) l2 with
  | error e =>
    refine (if_neg (show ¬ (relP a1_5 (Except.error e)).2.isNone = true from Bool.false_ne_true)).trans ?_
    refine (if_pos (show ((relP a1_5 (Except.error e)).1.length : Int) = 0 from rfl)).trans ?_
    rw [sure_f k (by omega)]
    rfl
  | ok xs =>
    refine (if_pos (show (relP a1_5 (Except.ok xs)).2.isNone = true from rfl)).trans ?_
    have hx1 := (lines_ok l0_1 (l1_4.map toC) l2 xs hxs).1
    have hml : (xs.mergeSort GvC.le).length = xs.length := List.length_mergeSort xs
    have hLl := out_le a1_5 xs.length (xs.mergeSort GvC.le)
    have hmul : ((outP a1_5 xs.length (xs.mergeSort GvC.le)).length + 1) * ((outP a1_5 xs.length (xs.mergeSort GvC.le)).length + 2) ≤ 201 * 202 := Nat.mul_le_mul (by omega) (by omega)
    exact rare_l l2 _ xs a0_0 l0_1 a1_0 a1_1 a1_2 a1_3 l1_4 a1_5 a1_6 (by omega) hv hr1 (by omega) h200 (wf64 g1_5) hxs rfl _ 0 k (Nat.zero_add _) (by omega)
end Go.Proofs.Ytoiakgibckgfdaa.Pure
