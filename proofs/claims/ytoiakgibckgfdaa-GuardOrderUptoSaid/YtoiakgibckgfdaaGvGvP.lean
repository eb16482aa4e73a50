/- What is let down of rows, plain: lines, in order, groups of the same ones that are great enough. -/
import Derived.Test.YtoiakgibckgfdaaXGvx7
import Derived.Test.YtoiakgibckgfdaaXGvx10
import Derived.Test.YtoiakgibckgfdaaXGvx8
import Derived.Test.YtoiakgibckgfdaaXGvx8
import Derived.Test.YtoiakgibckgfdaaXGvx4
import Derived.Test.YtoiakgibckgfdaaGvGvA
namespace Go.Proofs.Ytoiakgibckgfdaa.Pure
open Go.RowKit Go.Proofs.Ytoiakgibckgfdaa.XGv Go.Proofs.YtoiakgibckgfdaaW.PrintWords Go.Proofs.YtoiakgibckgfdaaW.PrintLast Go.Proofs.YtoiakgibckgfdaaW.PrintMore
set_option linter.unusedVariables false
set_option linter.unusedSimpArgs false
namespace GbV
theorem sure_20 : barbicanlaw24_sure.f 20 = some true := by decide +kernel
theorem sure_f (k : Nat) (hk : 20 ≤ k) : barbicanlaw24_sure.f k = some true := at_rounds (g := fun k => barbicanlaw24_sure.f k) (fun k => barbicanlaw24_sure.mono k) hk sure_20
end GbV
namespace GvP
open GbV
open Classical in
noncomputable instance : DecidableEq S := fun a b => Classical.propDecidable _
abbrev C := S51
abbrev VC := S56
abbrev T := S81
abbrev R := S44
theorem wn (i : Nat) (h : i < 4611686018427387904) : wrap64 ((i : Int) + 1) = ((i + 1 : Nat) : Int) := by rw [w64 _ (by omega) (by omega)]; omega
/-! #### the view, the rows of one's own -/
def toC (c : VC) : C := ⟨c.f0, c.f1, c.f2⟩
theorem view_l (a0 a1 : ByteArray) (a2 a3 : Int) (l : List VC) (a5 a6 : Int) (hl : l.length < 4398046511104) : ∀ (d i k : Nat) (b0 b1 : ByteArray) (b2 b3 : Int) (acc : List C) (b5 b6 : Int), i + d = l.length → acc.length = i → d + 1 ≤ k →
    barbicanlaw24_view.l0 k (i : Int) a0 a1 a2 a3 l a5 a6 b0 b1 b2 b3 acc b5 b6 = some (b0, b1, b2, b3, acc ++ (l.drop i).map toC, b5, b6)
  | 0, i, k, b0, b1, b2, b3, acc, b5, b6, hi, ha, hk => by
    obtain ⟨k, rfl⟩ : ∃ q, k = q + 1 := ⟨k - 1, by omega⟩
    simp only [barbicanlaw24_view.l0]
    rw [if_neg (by omega), List.drop_eq_nil_of_le (by omega), List.map_nil, List.append_nil]
  | d + 1, i, k, b0, b1, b2, b3, acc, b5, b6, hi, ha, hk => by
    obtain ⟨k, rfl⟩ : ∃ q, k = q + 1 := ⟨k - 1, by omega⟩
    have hil : i < l.length := by omega
    have hrd : rd_T56 l (i : Int) = l[i] := by
      unfold rd_T56
      rw [Int.toNat_natCast, List.getD_eq_getElem?_getD, List.getElem?_eq_getElem hil]
      rfl
    simp only [barbicanlaw24_view.l0]
    rw [if_pos (by omega), if_pos (by omega), if_pos (by omega), wn i (by omega), hrd, view_l a0 a1 a2 a3 l a5 a6 hl d (i + 1) k b0 b1 b2 b3 _ b5 b6 (by omega) (by simp [ha]) (by omega), List.drop_eq_getElem_cons hil, List.map_cons, List.append_assoc]
    rfl
theorem view_f (k : Nat) (a0 a1 : ByteArray) (a2 a3 : Int) (l : List VC) (a5 a6 : Int) (hl : l.length < 4398046511104) (hk : l.length + 1 ≤ k) :
    barbicanlaw24_view.f k a0 a1 a2 a3 l a5 a6 = some (a0, a1, a2, a3, l.map toC, a5, a6) := by
  unfold barbicanlaw24_view.f
  have h := view_l a0 a1 a2 a3 l a5 a6 hl l.length 0 k a0 a1 a2 a3 [] a5 a6 (by omega) rfl hk
  rw [List.drop_zero, List.nil_append] at h
  exact h
theorem own_l (l : List R) (hl : l.length < 4398046511104) (hx : ∀ x ∈ l, x.f1.length < 3518437208883) : ∀ (d i k : Nat) (acc : List R), i + d = l.length → acc.length = i → d + 1 ≤ k → barbicanlaw24_own.l0 k l acc (i : Int) = some (acc ++ l.drop i)
  | 0, i, k, acc, hi, ha, hk => by
    obtain ⟨k, rfl⟩ : ∃ q, k = q + 1 := ⟨k - 1, by omega⟩
    simp only [barbicanlaw24_own.l0]
    rw [if_neg (by omega), List.drop_eq_nil_of_le (by omega), List.append_nil]
  | d + 1, i, k, acc, hi, ha, hk => by
    obtain ⟨k, rfl⟩ : ∃ q, k = q + 1 := ⟨k - 1, by omega⟩
    have hil : i < l.length := by omega
    have hrd : rd_T44 l (i : Int) = l[i] := by
      unfold rd_T44
      rw [Int.toNat_natCast, List.getD_eq_getElem?_getD, List.getElem?_eq_getElem hil]
      rfl
    have hm := hx _ (List.getElem_mem hil)
    simp only [barbicanlaw24_own.l0, barbicanlaw24_twin.f]
    rw [if_pos (by omega), if_pos (by omega), hrd, if_pos (by simpa using hm), Option.bind_some, if_pos (by omega), wn i (by omega), own_l l hl hx d (i + 1) k _ (by omega) (by simp [ha]) (by omega), List.drop_eq_getElem_cons hil, List.append_assoc, List.nil_append]
    rfl
theorem own_f (k : Nat) (l : List R) (hl : l.length < 4398046511104) (hx : ∀ x ∈ l, x.f1.length < 3518437208883) (hk : l.length + 1 ≤ k) : barbicanlaw24_own.f k l = some l := by
  unfold barbicanlaw24_own.f
  have h := own_l l hl hx l.length 0 k [] (by omega) rfl hk
  rw [List.drop_zero, List.nil_append] at h
  exact h
/-! #### values and lists, one like the other -/
theorem same_iff (x y : S) : (!(x.f0 == y.f0) || (!(x.f1 == y.f1) || (!(x.f2.toList == y.f2.toList) || (!(x.f3 == y.f3))))) = true ↔ x ≠ y := by
  obtain ⟨a, b, s, t⟩ := x
  obtain ⟨a', b', s', t'⟩ := y
  have hs : s.toList = s'.toList ↔ s = s' := by
    rw [Lib.toList_data, Lib.toList_data]
    exact ⟨fun h => ByteArray.ext (Array.toList_inj.1 h), fun h => by rw [h]⟩
  simp only [Bool.or_eq_true, Bool.not_eq_true', beq_eq_false_iff_ne, ne_eq, hs]
  constructor
  · rintro h e
    injection e with e1 e2 e3 e4
    rcases h with h | h | h | h
    · exact h e1
    · exact h e2
    · exact h e3
    · exact h e4
  · intro h
    by_cases h1 : a = a'
    · by_cases h2 : b = b'
      · by_cases h3 : s = s'
        · by_cases h4 : t = t'
          · exact absurd (by rw [h1, h2, h3, h4]) h
          · exact .inr (.inr (.inr h4))
        · exact .inr (.inr (.inl h3))
      · exact .inr (.inl h2)
    · exact .inl h1
theorem rdS (l : List S) (i : Nat) (h : i < l.length) : rd_T47 l (i : Int) = l[i] := by
  unfold rd_T47
  rw [Int.toNat_natCast, List.getD_eq_getElem?_getD, List.getElem?_eq_getElem h]
  rfl
theorem rdL (l : List (List S)) (i : Nat) (h : i < l.length) : rd_L8 l (i : Int) = l[i] := by
  unfold rd_L8
  rw [Int.toNat_natCast, List.getD_eq_getElem?_getD, List.getElem?_eq_getElem h]
  rfl
theorem values_l (a b : List S) (hl : a.length = b.length) (ha : a.length < 4611686018427387904) : ∀ (d i k : Nat), i + d = a.length → d + 1 ≤ k → barbicanlaw24_values.l0 k a b (i : Int) = some (decide (a.drop i = b.drop i))
  | 0, i, k, hi, hk => by
    obtain ⟨k, rfl⟩ : ∃ q, k = q + 1 := ⟨k - 1, by omega⟩
    simp only [barbicanlaw24_values.l0]
    rw [if_neg (by omega), List.drop_eq_nil_of_le (by omega), List.drop_eq_nil_of_le (by omega), decide_eq_true rfl]
  | d + 1, i, k, hi, hk => by
    obtain ⟨k, rfl⟩ : ∃ q, k = q + 1 := ⟨k - 1, by omega⟩
    have hia : i < a.length := by omega
    have hib : i < b.length := by omega
    simp only [barbicanlaw24_values.l0]
    rw [if_pos (by omega), if_pos (by omega), if_pos (by omega), rdS a i hia, rdS b i hib, List.drop_eq_getElem_cons hia, List.drop_eq_getElem_cons hib]
    by_cases h : a[i] = b[i]
    · rw [if_neg (fun z => (same_iff _ _).1 z h), wn i (by omega), values_l a b hl ha d (i + 1) k (by omega) (by omega)]
      congr 1
      rw [h]
      simp only [List.cons.injEq, true_and]
    · rw [if_pos ((same_iff _ _).2 h)]
      congr 1
      symm
      apply decide_eq_false
      intro z
      injection z with z1 z2
      exact h z1
theorem values_f (k : Nat) (a b : List S) (ha : a.length < 4611686018427387904) (hk : a.length + 1 ≤ k) : barbicanlaw24_values.f k a b = some (decide (a = b)) := by
  unfold barbicanlaw24_values.f
  by_cases hl : a.length = b.length
  · rw [if_pos (by omega)]
    have h := values_l a b hl ha a.length 0 k (by omega) hk
    rw [List.drop_zero, List.drop_zero] at h
    exact h
  · rw [if_neg (by omega)]
    congr 1
    symm
    apply decide_eq_false
    intro z
    rw [z] at hl
    exact hl rfl
theorem lists_l (a b : List (List S)) (hl : a.length = b.length) (ha : a.length < 4611686018427387904) (M : Nat) (hM : ∀ x ∈ a, x.length + 1 ≤ M) (hM2 : M ≤ 4611686018427387904) : ∀ (d i k : Nat), i + d = a.length → d + 1 + M ≤ k → barbicanlaw24_lists.l0 k a b (i : Int) = some (decide (a.drop i = b.drop i))
  | 0, i, k, hi, hk => by
    obtain ⟨k, rfl⟩ : ∃ q, k = q + 1 := ⟨k - 1, by omega⟩
    simp only [barbicanlaw24_lists.l0]
    rw [if_neg (by omega), List.drop_eq_nil_of_le (by omega), List.drop_eq_nil_of_le (by omega), decide_eq_true rfl]
  | d + 1, i, k, hi, hk => by
    obtain ⟨k, rfl⟩ : ∃ q, k = q + 1 := ⟨k - 1, by omega⟩
    have hia : i < a.length := by omega
    have hib : i < b.length := by omega
    have hm := hM _ (List.getElem_mem hia)
    simp only [barbicanlaw24_lists.l0]
    rw [if_pos (by omega), if_pos (by omega), if_pos (by omega), rdL a i hia, rdL b i hib, values_f k _ _ (by omega) (by omega), Option.bind_some, List.drop_eq_getElem_cons hia, List.drop_eq_getElem_cons hib]
    by_cases h : a[i] = b[i]
    · rw [if_pos (decide_eq_true h), wn i (by omega), lists_l a b hl ha M hM hM2 d (i + 1) k (by omega) (by omega)]
      congr 1
      rw [h]
      simp only [List.cons.injEq, true_and]
    · rw [if_neg (by simpa using h)]
      congr 1
      symm
      apply decide_eq_false
      intro z
      injection z with z1 z2
      exact h z1
theorem lists_f (k : Nat) (a b : List (List S)) (ha : a.length < 4611686018427387904) (M : Nat) (hM : ∀ x ∈ a, x.length + 1 ≤ M) (hM2 : M ≤ 4611686018427387904) (hk : a.length + 1 + M ≤ k) : barbicanlaw24_lists.f k a b = some (decide (a = b)) := by
  unfold barbicanlaw24_lists.f
  by_cases hl : a.length = b.length
  · rw [if_pos (by omega)]
    have h := lists_l a b hl ha M hM hM2 a.length 0 k (by omega) hk
    rw [List.drop_zero, List.drop_zero] at h
    exact h
  · rw [if_neg (by omega)]
    congr 1
    symm
    apply decide_eq_false
    intro z
    rw [z] at hl
    exact hl rfl
/-! #### a line -/
/-- One column of a row, as it is let down; or the error. -/
def stepE (tc : List T) (vals : List S) (c : C) : Except Int S :=
  if placeOf c.f0 tc ≥ 0 then
    if placeOf c.f0 tc ≥ (vals.length : Int) then .error 1
    else if valid (rd_T47 vals (placeOf c.f0 tc)) = none then
      if chkA c.f1 c.f2 = none then (if low c.f1 c.f2 (rd_T47 vals (placeOf c.f0 tc)) then .error 5 else .ok (apS c.f1 c.f2 (rd_T47 vals (placeOf c.f0 tc)))) else .error ((chkA c.f1 c.f2).getD 0)
    else .error ((valid (rd_T47 vals (placeOf c.f0 tc))).getD 0)
  else .error 30
def lineP (tc : List T) (vals : List S) : List C → Except Int (List S)
  | [] => .ok []
  | c :: cs => match stepE tc vals c with
    | .error e => .error e
    | .ok x => match lineP tc vals cs with
      | .error e => .error e
      | .ok xs => .ok (x :: xs)
def outL (acc : List S) : Except Int (List S) → List S × Option Int
  | .ok xs => (acc ++ xs, none)
  | .error e => ([], some e)
theorem line_l (nm : ByteArray) (tc : List T) (at_ : Int) (vals : List S) (cols : List C) (htc : tc.length ≤ 9223372036854775807) (hv : ∀ x ∈ vals, -9223372036854775808 ≤ x.f1 ∧ x.f1 ≤ 9223372036854775807) (hc : cols.length < 3518437208883) :
    ∀ (d i k : Nat) (acc : List S), i + d = cols.length → acc.length = i → d + 21 ≤ k → guard_line.l0 k acc cols (cols.length : Int) (i : Int) nm tc at_ vals = some (outL acc (lineP tc vals (cols.drop i)))
  | 0, i, k, acc, hi, ha, hk => by
    obtain ⟨k, rfl⟩ : ∃ q, k = q + 1 := ⟨k - 1, by omega⟩
    simp only [guard_line.l0]
    rw [if_neg (by omega), List.drop_eq_nil_of_le (by omega)]
    simp [lineP, outL]
  | d + 1, i, k, acc, hi, ha, hk => by
    obtain ⟨k, rfl⟩ : ∃ q, k = q + 1 := ⟨k - 1, by omega⟩
    have hil : i < cols.length := by omega
    have hrd : rd_T51 cols (i : Int) = cols[i] := by
      unfold rd_T51
      rw [Int.toNat_natCast, List.getD_eq_getElem?_getD, List.getElem?_eq_getElem hil]
      rfl
    simp only [guard_line.l0]
    rw [if_pos (by omega), if_pos (by omega), if_pos (by omega), hrd, List.drop_eq_getElem_cons hil]
    generalize hcc : cols[i] = c
    unfold table_Column.f
    rw [if_pos htc]
    unfold lineP stepE
    by_cases hp : placeOf c.f0 tc ≥ 0
    · rw [if_pos hp, if_pos hp, Option.bind_some]
      dsimp only
      rw [if_pos (show (none : Option Int).isNone = true from rfl)]
      by_cases hq : placeOf c.f0 tc ≥ (vals.length : Int)
      · rw [if_pos hq, if_pos hq]; rfl
      · rw [if_neg hq, if_neg hq, if_pos (by omega), if_pos (by omega)]
        have hx : -9223372036854775808 ≤ (rd_T47 vals (placeOf c.f0 tc)).f1 ∧ (rd_T47 vals (placeOf c.f0 tc)).f1 ≤ 9223372036854775807 := by
          obtain ⟨p, hp2⟩ : ∃ p : Nat, placeOf c.f0 tc = (p : Int) := ⟨(placeOf c.f0 tc).toNat, by omega⟩
          rw [hp2, rdS vals p (by omega)]
          exact hv _ (List.getElem_mem _)
        generalize rd_T47 vals (placeOf c.f0 tc) = x at hx
        rw [apply_f k (by omega) c.f0 c.f1 c.f2 x hx, Option.bind_some]
        have bad : ∀ e : Int, (if (tup null (some e)).2.2.2.2.isNone = true then (if acc.length < 3518437208883 then (guard_line.l0 k (acc ++ [(⟨(tup null (some e)).1, (tup null (some e)).2.1, (tup null (some e)).2.2.1, (tup null (some e)).2.2.2.1⟩ : S)]) cols (cols.length : Int) (wrap64 ((i : Int) + 1)) nm tc at_ vals) else (none)) else (some (([] : List S), some ((tup null (some e)).2.2.2.2.getD 0)))) = some ([], some e) := fun e => rfl
        by_cases h1 : valid x = none
        · rw [if_pos h1, if_pos h1]
          by_cases h2 : chkA c.f1 c.f2 = none
          · rw [if_pos h2, if_pos h2]
            by_cases h3 : low c.f1 c.f2 x
            · rw [if_pos h3, if_pos h3, bad]; rfl
            · rw [if_neg h3, if_neg h3]
              have hg : ∀ y : S, (if (tup y none).2.2.2.2.isNone = true then (if acc.length < 3518437208883 then (guard_line.l0 k (acc ++ [(⟨(tup y none).1, (tup y none).2.1, (tup y none).2.2.1, (tup y none).2.2.2.1⟩ : S)]) cols (cols.length : Int) (wrap64 ((i : Int) + 1)) nm tc at_ vals) else (none)) else (some (([] : List S), some ((tup y none).2.2.2.2.getD 0)))) = (if acc.length < 3518437208883 then (guard_line.l0 k (acc ++ [y]) cols (cols.length : Int) (wrap64 ((i : Int) + 1)) nm tc at_ vals) else (none)) := fun y => rfl
              rw [hg, if_pos (by omega), wn i (by omega), line_l nm tc at_ vals cols htc hv hc d (i + 1) k _ (by omega) (by simp [ha]) (by omega)]
              dsimp only
              cases lineP tc vals (cols.drop (i + 1)) with
              | error e => rfl
              | ok xs => simp [outL]
          · rw [if_neg h2, if_neg h2, bad]; rfl
        · rw [if_neg h1, if_neg h1, bad]; rfl
    · rw [if_neg hp, if_neg hp]; rfl
theorem line_f (k : Nat) (nm : ByteArray) (tc : List T) (at_ : Int) (vals : List S) (cols : List C) (htc : tc.length ≤ 9223372036854775807) (hv : ∀ x ∈ vals, -9223372036854775808 ≤ x.f1 ∧ x.f1 ≤ 9223372036854775807) (hc : cols.length < 3518437208883) (hk : cols.length + 21 ≤ k) :
    guard_line.f k nm tc cols at_ vals = some (outL [] (lineP tc vals cols)) := by
  unfold guard_line.f
  have h := line_l nm tc at_ vals cols htc hv hc cols.length 0 k [] (by omega) rfl hk
  rw [List.drop_zero] at h
  exact h
theorem ap_shp (act arg : Int) (x : S) (h : valid x = none) : GvC.shp (apS act arg x) = true := by
  have hx : GvC.shp x = true := ((valid_ok x).1 h).1
  have hn : GvC.shp null = true := by decide +kernel
  unfold apS
  split
  · split
    · simp [GvC.shp]
    · exact hn
  · split
    · split
      · simp [GvC.shp, Lib.toList_data]
      · split
        · simp [GvC.shp]
        · exact hn
    · exact hx
theorem line_ok (tc : List T) (vals : List S) : ∀ (cols : List C) (xs : List S), lineP tc vals cols = .ok xs → xs.length = cols.length ∧ ∀ x ∈ xs, GvC.shp x = true
  | [], xs, h => by
    injection h with h
    subst h
    exact ⟨rfl, fun x hx => by cases hx⟩
  | c :: cs, xs, h => by
    unfold lineP at h
    cases hs : stepE tc vals c with
    | error e => rw [hs] at h; cases h
    | ok x =>
      rw [hs] at h
      dsimp only at h
      cases hl : lineP tc vals cs with
      | error e => rw [hl] at h; cases h
      | ok ys =>
        rw [hl] at h
        injection h with h
        subst h
        obtain ⟨h1, h2⟩ := line_ok tc vals cs ys hl
        refine ⟨by simp [h1], fun z hz => ?_⟩
        rcases List.mem_cons.1 hz with rfl | hz
        · unfold stepE at hs
          repeat' split at hs
          all_goals first
            | (cases hs; done)
            | (injection hs with hs; rw [← hs]; exact ap_shp _ _ _ (by assumption))
        · exact h2 z hz
/-! #### the lines of all rows -/
def linesP (tc : List T) (cols : List C) : List R → Except Int (List (List S))
  | [] => .ok []
  | r :: rs => match lineP tc r.f1 cols with
    | .error e => .error e
    | .ok x => match linesP tc cols rs with
      | .error e => .error e
      | .ok xs => .ok (x :: xs)
theorem lines_ok (tc : List T) (cols : List C) : ∀ (rs : List R) (xs : List (List S)), linesP tc cols rs = .ok xs → xs.length = rs.length ∧ ∀ x ∈ xs, x.length = cols.length ∧ ∀ y ∈ x, GvC.shp y = true
  | [], xs, h => by
    injection h with h
    subst h
    exact ⟨rfl, fun x hx => by cases hx⟩
  | r :: rs, xs, h => by
    unfold linesP at h
    cases hs : lineP tc r.f1 cols with
    | error e => rw [hs] at h; cases h
    | ok x =>
      rw [hs] at h
      dsimp only at h
      cases hl : linesP tc cols rs with
      | error e => rw [hl] at h; cases h
      | ok ys =>
        rw [hl] at h
        injection h with h
        subst h
        obtain ⟨h1, h2⟩ := lines_ok tc cols rs ys hl
        refine ⟨by simp [h1], fun z hz => ?_⟩
        rcases List.mem_cons.1 hz with rfl | hz
        · exact line_ok tc r.f1 cols _ hs
        · exact h2 z hz
/-! #### groups -/
/-- How many lines at the begin are the same. -/
def run (x : List S) (l : List (List S)) : Nat := (l.takeWhile fun y => decide (GvC.lcmp x y = 0)).length
theorem run_le (x : List S) (l : List (List S)) : run x l ≤ l.length := by unfold run; exact (List.takeWhile_sublist _).length_le
def outP (least : Int) : Nat → List (List S) → List (List S)
  | 0, _ => []
  | _ + 1, [] => []
  | f + 1, x :: l => (if ((run x l + 1 : Nat) : Int) ≥ least then x :: l.take (run x l) else []) ++ outP least f (l.drop (run x l))
theorem out_cons (least : Int) (f : Nat) (x : List S) (l : List (List S)) : outP least (f + 1) (x :: l) = (if ((run x l + 1 : Nat) : Int) ≥ least then x :: l.take (run x l) else []) ++ outP least f (l.drop (run x l)) := rfl
theorem out_le (least : Int) : ∀ f l, (outP least f l).length ≤ l.length
  | 0, l => by simp [outP]
  | f + 1, [] => by simp [outP]
  | f + 1, x :: l => by
    have h := out_le least f (l.drop (run x l))
    have h2 := run_le x l
    unfold outP
    rw [List.length_append, List.length_cons]
    rw [List.length_drop] at h
    split
    · rw [List.length_cons, List.length_take]; omega
    · rw [List.length_nil]; omega
theorem out_mono (a b : Int) (hab : a ≤ b) : ∀ f l, (outP b f l).length ≤ (outP a f l).length
  | 0, l => by simp [outP]
  | f + 1, [] => by simp [outP]
  | f + 1, x :: l => by
    have h := out_mono a b hab f (l.drop (run x l))
    unfold outP
    rw [List.length_append, List.length_append]
    by_cases h1 : ((run x l + 1 : Nat) : Int) ≥ b
    · rw [if_pos h1, if_pos (by omega)]; omega
    · rw [if_neg h1, List.length_nil]; omega
theorem out_mem (least : Int) : ∀ f l z, z ∈ outP least f l → z ∈ l
  | 0, l, z, h => by simp [outP] at h
  | f + 1, [], z, h => by simp [outP] at h
  | f + 1, x :: l, z, h => by
    unfold outP at h
    rcases List.mem_append.1 h with h | h
    · split at h
      · rcases List.mem_cons.1 h with rfl | h
        · exact List.mem_cons_self
        · exact List.mem_cons_of_mem _ (List.mem_of_mem_take h)
      · cases h
    · exact List.mem_cons_of_mem _ (List.mem_of_mem_drop (out_mem least f _ z h))
theorem take_run (x : List S) (l : List (List S)) : l.take (run x l) = l.takeWhile fun y => decide (GvC.lcmp x y = 0) := by
  unfold run
  exact (List.prefix_iff_eq_take.1 (List.takeWhile_prefix _)).symm
theorem out_rare (least : Int) : ∀ f l, (∀ z ∈ l, ∀ y ∈ z, GvC.shp y = true) → ∀ z ∈ outP least f l, (((outP least f l).countP fun y => decide (z = y) : Nat) : Int) ≥ least
  | 0, l, _, z, h => by simp [outP] at h
  | f + 1, [], _, z, h => by simp [outP] at h
  | f + 1, x :: l, hs, z, h => by
    unfold outP at h ⊢
    rw [List.countP_append]
    rcases List.mem_append.1 h with h | h
    · split at h
      · rename_i hn
        rw [if_pos hn]
        have hall : ∀ y ∈ x :: l.take (run x l), y = x := by
          intro y hy
          rcases List.mem_cons.1 hy with rfl | hy
          · rfl
          · rw [take_run] at hy
            have h1 := List.all_eq_true.1 List.all_takeWhile y hy
            have h2 : y ∈ l := (List.takeWhile_sublist _).subset hy
            exact (GvC.l_same x y (hs x List.mem_cons_self) (hs y (List.mem_cons_of_mem _ h2)) (of_decide_eq_true h1)).symm
        have hz := hall z h
        have hc : (x :: l.take (run x l)).countP (fun y => decide (z = y)) = (x :: l.take (run x l)).length := List.countP_eq_length.2 (fun y hy => by rw [hz, hall y hy]; simp)
        rw [hc, List.length_cons, List.length_take]
        have := run_le x l
        omega
      · cases h
    · have := out_rare least f (l.drop (run x l)) (fun w hw => hs w (List.mem_cons_of_mem _ (List.mem_of_mem_drop hw))) z h
      omega
/-! #### the walk's loops -/
theorem run_cons_pos {x y : List S} {l : List (List S)} (h : GvC.lcmp x y = 0) : run x (y :: l) = run x l + 1 := by
  unfold run
  rw [List.takeWhile_cons_of_pos (by simpa using h)]
  rfl
theorem run_cons_neg {x y : List S} {l : List (List S)} (h : GvC.lcmp x y ≠ 0) : run x (y :: l) = 0 := by
  unfold run
  rw [List.takeWhile_cons_of_neg (by simpa using h)]
  rfl
theorem group_l (L out : List (List S)) (b0 b1 : ByteArray) (b2 b3 : Int) (b4 : List C) (least b6 : Int) (M : Nat) (hM : ∀ x ∈ L, x.length + 1 ≤ M) (hM2 : M ≤ 4611686018427387904) (h0 : 0 < L.length) (hlim : out.length + L.length < 5864062014805) :
    ∀ (d n k : Nat), n + d = L.length → 1 ≤ n → d + 1 + M ≤ k → ∃ k', k ≤ k' + run (L[0]'h0) (L.drop n) + 1 ∧ guard_Release.l2 k L out (n : Int) b0 b1 b2 b3 b4 least b6 = guard_Release.l1 k' (L.drop (n + run (L[0]'h0) (L.drop n))) (if ((n + run (L[0]'h0) (L.drop n) : Nat) : Int) ≥ least then out ++ L.take (n + run (L[0]'h0) (L.drop n)) else out) b0 b1 b2 b3 b4 least b6
  | 0, n, k, hn, h1, hk => by
    obtain ⟨k, rfl⟩ : ∃ q, k = q + 1 := ⟨k - 1, by omega⟩
    have hr : run (L[0]'h0) (L.drop n) = 0 := by rw [List.drop_eq_nil_of_le (by omega)]; rfl
    refine ⟨k, by omega, ?_⟩
    rw [hr]
    simp only [guard_Release.l2, Nat.add_zero]
    rw [if_neg (by omega)]
    by_cases hl : (n : Int) ≥ least
    · rw [if_pos hl, if_pos hl, if_pos (by omega), if_pos (by omega), Option.bind_some, Int.toNat_natCast, if_pos (by rw [List.length_take]; omega)]
    · rw [if_neg hl, if_neg hl, if_pos (by omega), if_pos (by omega), Int.toNat_natCast]
  | d + 1, n, k, hn, h1, hk => by
    obtain ⟨k, rfl⟩ : ∃ q, k = q + 1 := ⟨k - 1, by omega⟩
    have hnl : n < L.length := by omega
    have hm := hM _ (List.getElem_mem h0)
    have hstep : guard_Release.l2 (k + 1) L out (n : Int) b0 b1 b2 b3 b4 least b6 = if GvC.lcmp L[0] L[n] = 0 then guard_Release.l2 k L out ((n + 1 : Nat) : Int) b0 b1 b2 b3 b4 least b6 else guard_Release.l1 k (L.drop n) (if (n : Int) ≥ least then out ++ L.take n else out) b0 b1 b2 b3 b4 least b6 := by
      have e0 : rd_L8 L 0 = L[0] := rdL L 0 h0
      simp only [guard_Release.l2]
      rw [if_pos (by omega), if_pos (by omega), if_pos (by omega), e0, rdL L n hnl, cmp_order_f L[0] L[n] (by omega) k (by omega), Option.bind_some, wn n (by omega)]
      by_cases hz : GvC.lcmp L[0] L[n] = 0
      · rw [if_pos (by omega), if_pos hz]
      · rw [if_neg (by omega), if_neg hz]
        by_cases hl : (n : Int) ≥ least
        · rw [if_pos hl, if_pos hl, if_pos (by omega), Option.bind_some, Int.toNat_natCast, if_pos (by rw [List.length_take]; omega)]
        · rw [if_neg hl, if_neg hl, if_pos (by omega), Int.toNat_natCast]
    have hdn := List.drop_eq_getElem_cons hnl
    rw [hstep]
    by_cases hz : GvC.lcmp L[0] L[n] = 0
    · have hr : run (L[0]'h0) (L.drop n) = run (L[0]'h0) (L.drop (n + 1)) + 1 := by rw [hdn]; exact run_cons_pos hz
      rw [if_pos hz, hr]
      obtain ⟨k', hk', e⟩ := group_l L out b0 b1 b2 b3 b4 least b6 M hM hM2 h0 hlim d (n + 1) k (by omega) (by omega) (by omega)
      refine ⟨k', by omega, ?_⟩
      rw [e, show n + 1 + run (L[0]'h0) (L.drop (n + 1)) = n + (run (L[0]'h0) (L.drop (n + 1)) + 1) by omega]
    · have hr : run (L[0]'h0) (L.drop n) = 0 := by rw [hdn]; exact run_cons_neg hz
      rw [if_neg hz, hr]
      exact ⟨k, by omega, rfl⟩
theorem groups_l (b0 b1 : ByteArray) (b2 b3 : Int) (b4 : List C) (least b6 : Int) (M : Nat) (hM2 : M ≤ 4611686018427387904) :
    ∀ (f : Nat) (L out : List (List S)) (k : Nat), L.length ≤ f → (∀ x ∈ L, x.length + 1 ≤ M) → out.length + L.length < 5864062014805 → 2 * L.length + M + 2 ≤ k → guard_Release.l1 k L out b0 b1 b2 b3 b4 least b6 = some (out ++ outP least f L, none)
  | 0, L, out, k, hf, hM, hlim, hk => by
    obtain ⟨k, rfl⟩ : ∃ q, k = q + 1 := ⟨k - 1, by omega⟩
    simp only [guard_Release.l1]
    rw [if_neg (by omega)]
    simp [outP]
  | f + 1, [], out, k, hf, hM, hlim, hk => by
    obtain ⟨k, rfl⟩ : ∃ q, k = q + 1 := ⟨k - 1, by omega⟩
    simp only [guard_Release.l1]
    rw [if_neg (by simp)]
    simp [outP]
  | f + 1, x :: l, out, k, hf, hM, hlim, hk => by
    obtain ⟨k, rfl⟩ : ∃ q, k = q + 1 := ⟨k - 1, by omega⟩
    rw [List.length_cons] at hf hk hlim
    simp only [guard_Release.l1]
    rw [if_pos (by rw [List.length_cons]; omega)]
    obtain ⟨k', hk', e⟩ := group_l (x :: l) out b0 b1 b2 b3 b4 least b6 M hM hM2 (by simp) (by rw [List.length_cons]; omega) l.length 1 k (by rw [List.length_cons]; omega) (Nat.le_refl _) (by omega)
    rw [show ((1 : Nat) : Int) = 1 from rfl] at e
    rw [e]
    have hx : (x :: l)[0]'(by simp) = x := rfl
    have hd : (x :: l).drop 1 = l := rfl
    rw [hx, hd] at hk'
    rw [hx, hd, show 1 + run x l = run x l + 1 by omega, List.drop_succ_cons, List.take_succ_cons]
    have hrl := run_le x l
    rw [groups_l b0 b1 b2 b3 b4 least b6 M hM2 f (l.drop (run x l)) _ k' (by rw [List.length_drop]; omega) (fun y hy => hM y (List.mem_cons_of_mem _ (List.mem_of_mem_drop hy))) (by rw [List.length_drop]; split; (rw [List.length_append, List.length_cons, List.length_take]; omega); omega) (by rw [List.length_drop]; omega)]
    rw [out_cons]
    congr 2
    split
    · rw [List.append_assoc]
    · rw [List.nil_append]
/-- What is let down of rows, or the error. -/
def relP (least : Int) : Except Int (List (List S)) → List (List S) × Option Int
  | .error e => ([], some e)
  | .ok xs => (outP least xs.length (xs.mergeSort GvC.le), none)
theorem rows_l (a0 : ByteArray) (tc : List T) (b0 b1 : ByteArray) (b2 b3 : Int) (cols : List C) (least b6 : Int) (rows : List R) (htc : tc.length ≤ 9223372036854775807) (hv : ∀ r ∈ rows, ∀ x ∈ r.f1, -9223372036854775808 ≤ x.f1 ∧ x.f1 ≤ 9223372036854775807) (hc : cols.length < 3518437208883) (hr : rows.length < 1000000000000) :
    ∀ (d i k : Nat) (acc : List (List S)), i + d = rows.length → acc.length = i → (∀ x ∈ acc, x.length = cols.length ∧ ∀ y ∈ x, GvC.shp y = true) → 2 * rows.length + cols.length + d + 30 ≤ k →
    guard_Release.l0 k acc rows (rows.length : Int) (i : Int) a0 tc b0 b1 b2 b3 cols least b6 = some (match linesP tc cols (rows.drop i) with | .error e => ([], some e) | .ok xs => (outP least (acc ++ xs).length ((acc ++ xs).mergeSort GvC.le), none))
  | 0, i, k, acc, hi, ha, hs, hk => by
    obtain ⟨k, rfl⟩ : ∃ q, k = q + 1 := ⟨k - 1, by omega⟩
    simp only [guard_Release.l0]
    rw [if_neg (by omega), List.drop_eq_nil_of_le (by omega)]
    unfold api_Value_13.f
    rw [if_pos ⟨by omega, fun l hl => ⟨by rw [(hs l hl).1]; omega, (hs l hl).2⟩⟩, Option.bind_some]
    have hlen : (acc.mergeSort GvC.le).length = acc.length := List.length_mergeSort acc
    have hmem : ∀ x ∈ acc.mergeSort GvC.le, x.length + 1 ≤ cols.length + 1 := fun x hx => by
      rw [(hs x ((List.mergeSort_perm acc GvC.le).mem_iff.1 hx)).1]
      exact Nat.le_refl _
    rw [groups_l b0 b1 b2 b3 cols least b6 (cols.length + 1) (by omega) acc.length _ [] k (by omega) hmem (by rw [hlen, List.length_nil]; omega) (by rw [hlen]; omega), List.nil_append]
    simp [linesP]
  | d + 1, i, k, acc, hi, ha, hs, hk => by
    obtain ⟨k, rfl⟩ : ∃ q, k = q + 1 := ⟨k - 1, by omega⟩
    have hil : i < rows.length := by omega
    have hrd : rd_T44 rows (i : Int) = rows[i] := by
      unfold rd_T44
      rw [Int.toNat_natCast, List.getD_eq_getElem?_getD, List.getElem?_eq_getElem hil]
      rfl
    simp only [guard_Release.l0]
    rw [if_pos (by omega), if_pos (by omega), if_pos (by omega), hrd, line_f k a0 tc _ _ cols htc (hv _ (List.getElem_mem hil)) hc (by omega), Option.bind_some, List.drop_eq_getElem_cons hil]
    unfold linesP
    cases hl : lineP tc rows[i].f1 cols with
    | error e => rfl
    | ok x =>
      have hx := line_ok tc rows[i].f1 cols x hl
      refine (if_pos (show (outL [] (Except.ok x)).2.isNone = true from rfl)).trans ?_
      rw [show (outL [] (Except.ok x)).1 = x from rfl, if_pos (by omega), wn i (by omega), rows_l a0 tc b0 b1 b2 b3 cols least b6 rows htc hv hc hr d (i + 1) k (acc ++ [x]) (by omega) (by simp [ha]) (fun z hz => by
        rcases List.mem_append.1 hz with hz | hz
        · exact hs z hz
        · rw [List.mem_singleton.1 hz]; exact hx) (by omega)]
      cases linesP tc cols (rows.drop (i + 1)) with
      | error e => rfl
      | ok xs => simp
theorem release_f (k : Nat) (a0 : ByteArray) (tc : List T) (b0 b1 : ByteArray) (b2 b3 : Int) (cols : List C) (least b6 : Int) (rows : List R) (htc : tc.length ≤ 9223372036854775807) (hv : ∀ r ∈ rows, ∀ x ∈ r.f1, -9223372036854775808 ≤ x.f1 ∧ x.f1 ≤ 9223372036854775807) (hc : cols.length < 3518437208883) (hr : rows.length < 1000000000000) (hk : 3 * rows.length + cols.length + 30 ≤ k) :
    guard_Release.f k a0 tc b0 b1 b2 b3 cols least b6 rows = some (relP least (linesP tc cols rows)) := by
  unfold guard_Release.f
  have h := rows_l a0 tc b0 b1 b2 b3 cols least b6 rows htc hv hc hr rows.length 0 k [] (by omega) rfl (fun x hx => by cases hx) (by omega)
  rw [List.drop_zero] at h
  rw [show (0 : Int) = ((0 : Nat) : Int) from rfl, h]
  cases linesP tc cols rows with
  | error e => rfl
  | ok xs => rfl
end GvP
end Go.Proofs.Ytoiakgibckgfdaa.Pure
