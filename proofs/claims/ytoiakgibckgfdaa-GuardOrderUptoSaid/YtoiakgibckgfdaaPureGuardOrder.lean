/- GuardOrder, plain: in whatever order the rows stand, the same is let down. -/
import Derived.Test.YtoiakgibckgfdaaXGvx11
import Derived.Test.YtoiakgibckgfdaaGvGvP
import Derived.Test.YtoiakgibckgfdaaXSt81
import Derived.Test.YtoiakgibckgfdaaXSt56
import Derived.Test.YtoiakgibckgfdaaXSt44
namespace Go.Proofs.Ytoiakgibckgfdaa.Pure
open Go.RowKit Go.Proofs.Ytoiakgibckgfdaa.XGv Go.Proofs.YtoiakgibckgfdaaW.PrintWords Go.Proofs.YtoiakgibckgfdaaW.PrintLast Go.Proofs.YtoiakgibckgfdaaW.PrintMore
set_option linter.unusedVariables false
set_option linter.unusedSimpArgs false
namespace GvP
open GbV
theorem wf64 {n : Int} (h : (Lit.int .i64 n).wf = true) : -9223372036854775808 ≤ n ∧ n ≤ 9223372036854775807 := by
  simp [Lit.wf, IntKind.min, IntKind.max, IntKind.bits, IntKind.signed] at h
  omega
/-- Lists of lines, one behind the other. -/
def join2 (a b : Except Int (List (List S))) : Except Int (List (List S)) := match a with
  | .error e => .error e
  | .ok xs => match b with
    | .error e => .error e
    | .ok ys => .ok (xs ++ ys)
theorem lines_cons (tc : List T) (cols : List C) (r : R) (rs : List R) : linesP tc cols (r :: rs) = match lineP tc r.f1 cols with
    | .error e => .error e
    | .ok x => match linesP tc cols rs with
      | .error e => .error e
      | .ok xs => .ok (x :: xs) := rfl
theorem lines_append (tc : List T) (cols : List C) : ∀ a b : List R, linesP tc cols (a ++ b) = join2 (linesP tc cols a) (linesP tc cols b)
  | [], b => by
    show linesP tc cols b = _
    cases h : linesP tc cols b with
    | error e => rfl
    | ok ys => rfl
  | r :: rs, b => by
    show linesP tc cols (r :: (rs ++ b)) = _
    rw [lines_cons, lines_cons, lines_append tc cols rs b]
    cases lineP tc r.f1 cols with
    | error e => rfl
    | ok x =>
      cases linesP tc cols rs with
      | error e => rfl
      | ok xs =>
        cases linesP tc cols b with
        | error e => rfl
        | ok ys => rfl
theorem lines_back (tc : List T) (cols : List C) : ∀ (rs : List R) (xs : List (List S)), linesP tc cols rs = .ok xs → linesP tc cols rs.reverse = .ok xs.reverse
  | [], xs, h => by
    injection h with h
    subst h
    rfl
  | r :: rs, xs, h => by
    rw [List.reverse_cons, lines_append]
    have h1 : linesP tc cols (r :: rs) = join2 (linesP tc cols [r]) (linesP tc cols rs) := lines_append tc cols [r] rs
    rw [h1] at h
    cases hr : linesP tc cols [r] with
    | error e => rw [hr] at h; cases h
    | ok x =>
      rw [hr] at h
      cases hs : linesP tc cols rs with
      | error e => rw [hs] at h; cases h
      | ok ys =>
        rw [hs] at h
        injection h with h
        subst h
        rw [lines_back tc cols rs ys hs]
        have hx : x.length = 1 := (lines_ok tc cols [r] x hr).1
        obtain ⟨z, rfl⟩ := List.length_eq_one_iff.1 hx
        show Except.ok (ys.reverse ++ [z]) = _
        rw [show [z] ++ ys = z :: ys from rfl, List.reverse_cons]
theorem same_sorted (xs : List (List S)) (hs : ∀ z ∈ xs, ∀ y ∈ z, GvC.shp y = true) : xs.reverse.mergeSort GvC.le = xs.mergeSort GvC.le :=
  sorted_list xs _ hs ((List.mergeSort_perm _ _).trans (List.reverse_perm xs)) (List.pairwise_mergeSort GvC.le_trans GvC.le_total _)
theorem order_l (rows : List R) (a0 : ByteArray) (tc : List T) (b0 b1 : ByteArray) (b2 b3 : Int) (vc : List VC) (least b6 : Int) (htc : tc.length ≤ 9223372036854775807) (hv : ∀ r ∈ rows, ∀ x ∈ r.f1, -9223372036854775808 ≤ x.f1 ∧ x.f1 ≤ 9223372036854775807) (hr1 : ∀ r ∈ rows, r.f1.length < 3518437208883) (hc : vc.length < 3518437208883) (hr : rows.length ≤ 200) :
    ∀ (j k : Nat), j ≤ rows.length → j + 3 * vc.length + 2000 ≤ k → barbicanlaw24_GuardOrder.l0 k rows (rows.drop j).reverse ((j : Int) - 1) a0 tc b0 b1 b2 b3 vc least b6 = some true
  | 0, k, hj, hk => by
    obtain ⟨k, rfl⟩ : ∃ q, k = q + 1 := ⟨k - 1, by omega⟩
    simp only [barbicanlaw24_GuardOrder.l0]
    rw [if_neg (by omega), List.drop_zero, view_f k _ _ _ _ vc _ _ (by omega) (by omega)]
    simp only [Option.bind_some]
    have hb1 : ∀ r ∈ rows.reverse, r.f1.length < 3518437208883 := fun r h => hr1 r (List.mem_reverse.1 h)
    have hbv : ∀ r ∈ rows.reverse, ∀ x ∈ r.f1, -9223372036854775808 ≤ x.f1 ∧ x.f1 ≤ 9223372036854775807 := fun r h => hv r (List.mem_reverse.1 h)
    rw [own_f k rows (by omega) hr1 (by omega), own_f k rows.reverse (by rw [List.length_reverse]; omega) hb1 (by rw [List.length_reverse]; omega)]
    simp only [Option.bind_some]
    rw [release_f k a0 tc b0 b1 b2 b3 (vc.map toC) least b6 rows htc hv (by rw [List.length_map]; omega) (by omega) (by rw [List.length_map]; omega),
      release_f k a0 tc b0 b1 b2 b3 (vc.map toC) least b6 rows.reverse htc hbv (by rw [List.length_map]; omega) (by rw [List.length_reverse]; omega) (by rw [List.length_map, List.length_reverse]; omega)]
    simp only [Option.bind_some]
    obtain ⟨k, rfl⟩ : ∃ q, k = q + 1 := ⟨k - 1, by omega⟩
    cases hxs : linesP tc (vc.map toC) rows with
    | error e =>
      obtain ⟨e2, he2⟩ : ∃ e2, linesP tc (vc.map toC) rows.reverse = .error e2 := by
        cases h2 : linesP tc (vc.map toC) rows.reverse with
        | error e2 => exact ⟨e2, rfl⟩
        | ok ys =>
          have h3 := lines_back tc (vc.map toC) rows.reverse ys h2
          rw [List.reverse_reverse, hxs] at h3
          cases h3
      rw [he2]
      refine (if_neg (show ¬ (relP least (Except.error e)).2.isNone = true from Bool.false_ne_true)).trans ?_
      show barbicanlaw24_GuardOrder.j1 (k + 1) [] (some e) [] (some e2) true = some true
      simp only [barbicanlaw24_GuardOrder.j1]
      rw [if_pos trivial, if_neg (by simp), if_neg (by simp), sure_f k (by omega)]
      rfl
    | ok xs =>
      obtain ⟨hx1, hx2⟩ := lines_ok tc (vc.map toC) rows xs hxs
      rw [lines_back tc (vc.map toC) rows xs hxs]
      have hsame := same_sorted xs (fun z hz => (hx2 z hz).2)
      refine (if_pos (show (relP least (Except.ok xs)).2.isNone = true from rfl)).trans ?_
      refine (if_pos (show (relP least (Except.ok xs.reverse)).2.isNone = true from rfl)).trans ?_
      show barbicanlaw24_GuardOrder.j1 (k + 1) (outP least xs.length (xs.mergeSort GvC.le)) none (outP least xs.reverse.length (xs.reverse.mergeSort GvC.le)) none false = some true
      rw [hsame, List.length_reverse]
      have hml : (xs.mergeSort GvC.le).length = xs.length := List.length_mergeSort xs
      have hol := out_le least xs.length (xs.mergeSort GvC.le)
      have hM : ∀ x ∈ outP least xs.length (xs.mergeSort GvC.le), x.length + 1 ≤ vc.length + 1 := fun x hx => by
        have := (hx2 x ((List.mergeSort_perm xs GvC.le).mem_iff.1 (out_mem least _ _ x hx))).1
        rw [List.length_map] at this
        omega
      simp only [barbicanlaw24_GuardOrder.j1]
      rw [if_neg (by decide), lists_f k _ _ (by omega) (vc.length + 1) hM (by omega) (by omega), Option.bind_some, if_pos (decide_eq_true rfl), sure_f k (by omega)]
      rfl
  | j + 1, k, hj, hk => by
    obtain ⟨k, rfl⟩ : ∃ q, k = q + 1 := ⟨k - 1, by omega⟩
    have hjl : j < rows.length := by omega
    have hrd : rd_T44 rows (j : Int) = rows[j] := by
      unfold rd_T44
      rw [Int.toNat_natCast, List.getD_eq_getElem?_getD, List.getElem?_eq_getElem hjl]
      rfl
    rw [show ((j + 1 : Nat) : Int) - 1 = (j : Int) by omega]
    simp only [barbicanlaw24_GuardOrder.l0]
    rw [if_pos (by omega), if_pos (by omega), if_pos (by omega), if_pos (by rw [List.length_reverse, List.length_drop]; omega), hrd, w64 ((j : Int) - 1) (by omega) (by omega)]
    have e : (rows.drop (j + 1)).reverse ++ [(⟨rows[j].f0, rows[j].f1⟩ : R)] = (rows.drop j).reverse := by
      rw [List.drop_eq_getElem_cons hjl, List.reverse_cons]
    rw [e]
    exact order_l rows a0 tc b0 b1 b2 b3 vc least b6 htc hv hr1 hc hr j k (by omega) (by omega)
end GvP
open GbV GvP in
theorem GuardOrder (a0_0 : ByteArray) (l0_1 : List (S81)) (a1_0 : ByteArray) (a1_1 : ByteArray) (a1_2 : Int) (a1_3 : Int) (l1_4 : List (S56)) (a1_5 : Int) (a1_6 : Int) (l2 : List (S44)) (g0_0 : (fun s : ByteArray => s.size ≤ maxLen) a0_0) (b0_0 : (fun s : ByteArray => s.size + 1) a0_0 ≤ 1048576) (g0_1 : (fun xs : List (S81) => xs.length ≤ maxLen ∧ ∀ x ∈ xs, good81 x) l0_1) (b0_1 : (fun xs : List (S81) => (xs.map bulk81).sum + 1) l0_1 ≤ 1048576) (g1_0 : (fun s : ByteArray => s.size ≤ maxLen) a1_0) (b1_0 : (fun s : ByteArray => s.size + 1) a1_0 ≤ 1048576) (g1_1 : (fun s : ByteArray => s.size ≤ maxLen) a1_1) (b1_1 : (fun s : ByteArray => s.size + 1) a1_1 ≤ 1048576) (g1_2 : (fun n : Int => (Lit.int .i64 n).wf = true) a1_2) (b1_2 : (fun _ : Int => 1) a1_2 ≤ 1048576) (g1_3 : (fun n : Int => (Lit.int .i64 n).wf = true) a1_3) (b1_3 : (fun _ : Int => 1) a1_3 ≤ 1048576) (g1_4 : (fun xs : List (S56) => xs.length ≤ maxLen ∧ ∀ x ∈ xs, good56 x) l1_4) (b1_4 : (fun xs : List (S56) => (xs.map bulk56).sum + 1) l1_4 ≤ 1048576) (g1_5 : (fun n : Int => (Lit.int .i64 n).wf = true) a1_5) (b1_5 : (fun _ : Int => 1) a1_5 ≤ 1048576) (g1_6 : (fun n : Int => (Lit.int .i64 n).wf = true) a1_6) (b1_6 : (fun _ : Int => 1) a1_6 ≤ 1048576) (g2 : (fun xs : List (S44) => xs.length ≤ maxLen ∧ ∀ x ∈ xs, good44 x) l2) (b2 : (fun xs : List (S44) => (xs.map bulk44).sum + 1) l2 ≤ 1048576) : ∃ k, barbicanlaw24_GuardOrder.f k a0_0 l0_1 a1_0 a1_1 a1_2 a1_3 l1_4 a1_5 a1_6 l2 = some true := by
  have hsum : ∀ {α : Type} (f : α → Nat) (l : List α) (x : α), x ∈ l → f x ≤ (l.map f).sum := by
    intro α f l
    induction l with
    | nil => intro x hx; cases hx
    | cons y r ih =>
      intro x hx
      rw [List.map_cons, List.sum_cons]
      rcases List.mem_cons.1 hx with rfl | hx
      · omega
      · have := ih x hx; omega
  have hlen : ∀ {α : Type} (f : α → Nat) (hf : ∀ x, 1 ≤ f x) (l : List α), l.length ≤ (l.map f).sum := by
    intro α f hf l
    induction l with
    | nil => exact Nat.le_refl _
    | cons y r ih =>
      rw [List.map_cons, List.sum_cons, List.length_cons]
      have := hf y
      omega
  dsimp only at b0_1 b1_4 b2
  have h81 := hlen bulk81 (fun x => by unfold bulk81; omega) l0_1
  have h56 := hlen bulk56 (fun x => by unfold bulk56; omega) l1_4
  have hv : ∀ r ∈ l2, ∀ x ∈ r.f1, -9223372036854775808 ≤ x.f1 ∧ x.f1 ≤ 9223372036854775807 := fun r hr x hx => wf64 ((g2.2 r hr).2.2 x hx).2.1
  have hr1 : ∀ r ∈ l2, r.f1.length < 3518437208883 := fun r hr => by
    have h1 := hsum bulk44 l2 r hr
    have h2 : r.f1.length + 1 ≤ bulk44 r := by
      have := hlen bulk47 (fun x => by unfold bulk47; omega) r.f1
      unfold bulk44
      dsimp only
      omega
    omega
  by_cases h200 : l2.length ≤ 200
  case neg =>
    refine ⟨20, ?_⟩
    unfold barbicanlaw24_GuardOrder.f
    rw [if_pos (by omega), sure_f 20 (Nat.le_refl _)]
    rfl
  refine ⟨3 * l1_4.length + 3000, ?_⟩
  unfold barbicanlaw24_GuardOrder.f
  rw [if_neg (by omega), w64 _ (by omega) (by omega)]
  have h := order_l l2 a0_0 l0_1 a1_0 a1_1 a1_2 a1_3 l1_4 a1_5 a1_6 (by omega) hv hr1 (by omega) h200 l2.length (3 * l1_4.length + 3000) (Nat.le_refl _) (by omega)
  rw [List.drop_length, List.reverse_nil] at h
  exact h
end Go.Proofs.Ytoiakgibckgfdaa.Pure
