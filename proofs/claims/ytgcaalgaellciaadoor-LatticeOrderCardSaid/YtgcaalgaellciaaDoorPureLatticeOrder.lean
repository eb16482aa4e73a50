/- LatticeOrder, plain: below and above are one relation; in order each place stands once, behind all others that it dominates. -/
import Derived.Test.YtgcaalgaellciaaDoorXLatx11
import Derived.Test.YtgcaalgaellciaaDoorLatLatO
import Derived.Test.YtgcaalgaellciaaDoorXSt35
namespace Go.Proofs.YtgcaalgaellciaaDoor.Pure
open Go.RowKit Go.Proofs.YtgcaalgaellciaaDoor.XLat Go.Proofs.YtgcaalgaellciaaDoorW.PrintWords Go.Proofs.YtgcaalgaellciaaDoorW.PrintLast Go.Proofs.YtgcaalgaellciaaDoorW.PrintMore
open LatA
set_option linter.unusedVariables false
set_option linter.unusedSimpArgs false
namespace LatA
theorem rd_ints (l : List Nat) (i : Nat) (h : i < l.length) : rd (ints l) (i : Int) = ((l[i] : Nat) : Int) := by
  unfold rd ints
  rw [Int.toNat_natCast, List.getD_eq_getElem?_getD, List.getElem?_map, List.getElem?_eq_getElem h]
  rfl
theorem wr1 (i n : Nat) (h : i < 9223372036854775807) : wrap64 ((i : Int) + 1) = ((i + 1 : Nat) : Int) := by
  rw [wrap64_small _ (by omega) (by omega)]
  omega
/-- An earlier place dominates no later one. -/
theorem Good.apart {ls : List L} {o : List Nat} (g : Good ls o) (j i : Nat) (hj : j < i) (hi : i < o.length) : o[j] ≠ o[i] ∧ D ls o[j] o[i] = false := by
  have hne : o[j] ≠ o[i] := List.pairwise_iff_getElem.1 g.nodup j i (by omega) hi hj
  refine ⟨hne, ?_⟩
  cases hd : D ls o[j] o[i] with
  | false => rfl
  | true =>
    exfalso
    have hs : o = o.take j ++ o[j] :: o.drop (j + 1) := by rw [← List.drop_eq_getElem_cons, List.take_append_drop]
    have hm := g.behind _ _ _ hs o[i] (g.lt _ (List.getElem_mem hi)) hd (fun e => hne e.symm)
    obtain ⟨q, hq, he⟩ := List.getElem_of_mem hm
    rw [List.length_take] at hq
    rw [List.getElem_take] at he
    exact List.pairwise_iff_getElem.1 g.nodup q i (by omega) hi (by omega) he
theorem ev3 {ls : List L} {o : List Nat} (ok : Ok ls) (i t b : Nat) (B : List Nat) (hi : i < ls.length) (ht : t < B.length) (hb : B[t] = b) (hbl : b < ls.length) (hD : D ls i b = true) (hB : B.length ≤ 16)
    (hn : Ev fun k => barbicanlaw02_LatticeOrder.l2 k ls ls (ints o) (i : Int) (ints B) ((t + 1 : Nat) : Int)) :
    ∀ (d m : Nat) (U : List Nat) (h : Bool), m + d = U.length → U.length ≤ 16 → (h = true ∨ i ∈ U.drop m) → Ev fun k => barbicanlaw02_LatticeOrder.l3 k ls ls (ints o) (i : Int) (ints B) (t : Int) h (ints U) (m : Int)
  | 0, m, U, h, hm, hU, hh => by
    have ht2 : h = true := by
      rcases hh with h | h
      · exact h
      · rw [List.drop_eq_nil_of_le (by omega)] at h
        simp at h
    subst ht2
    refine Ev.succ (fun k => ?_) hn
    show (if (m : Int) < ((ints U).length : Int) then _ else _) = _
    have e1 := rd_ints B t ht
    rw [hb] at e1
    have hf := ok.few
    rw [ints_length, if_neg (by omega), if_pos rfl, if_pos (by omega), ints_length, if_pos (by omega), e1, if_neg (by omega), if_neg (by omega), if_pos (by omega), if_pos (by omega), if_pos (by omega), if_pos (by omega), rd_at, rd_at, dom_f _ _ (ok.u _ (at_mem ls i hi)) (ok.u _ (at_mem ls b hbl)), Option.bind_some, if_pos (show dm (at_ ls i) (at_ ls b) = true from hD), wr1 t 0 (by omega)]
  | d + 1, m, U, h, hm, hU, hh => by
    have hmU : m < U.length := by omega
    cases h with
    | true =>
      refine Ev.succ (fun k => ?_) (ev3 ok i t b B hi ht hb hbl hD hB hn d (m + 1) U true (by omega) hU (.inl rfl))
      show (if (m : Int) < ((ints U).length : Int) then _ else _) = _
      rw [ints_length, if_pos (by omega), if_pos rfl, wr1 m 0 (by omega)]
    | false =>
      refine Ev.succ (fun k => ?_) (ev3 ok i t b B hi ht hb hbl hD hB hn d (m + 1) U (((U[m] : Nat) : Int) == (i : Int)) (by omega) hU ?_)
      · show (if (m : Int) < ((ints U).length : Int) then _ else _) = _
        rw [ints_length, if_pos (by omega), if_neg (by simp), if_pos (by omega), rd_ints U m hmU, wr1 m 0 (by omega)]
      · rcases hh with h | h
        · cases h
        · rw [List.drop_eq_getElem_cons hmU] at h
          rcases List.mem_cons.1 h with h | h
          · exact .inl (by rw [← h]; simp)
          · exact .inr h
theorem ev2 {ls : List L} {o : List Nat} (ok : Ok ls) (i : Nat) (B : List Nat) (hi : i < ls.length) (hBB : ∀ b ∈ B, b < ls.length ∧ D ls i b = true) (hB : B.length ≤ 16)
    (hn : Ev fun k => barbicanlaw02_LatticeOrder.l0 k ls ls (ints o) ((i + 1 : Nat) : Int)) :
    ∀ (d t : Nat), t + d = B.length → Ev fun k => barbicanlaw02_LatticeOrder.l2 k ls ls (ints o) (i : Int) (ints B) (t : Int)
  | 0, t, ht => by
    have hf := ok.few
    refine Ev.succ (fun k => ?_) hn
    show (if (t : Int) < ((ints B).length : Int) then _ else _) = _
    rw [ints_length, if_neg (by omega), wr1 i 0 (by omega)]
  | d + 1, t, ht => by
    have htB : t < B.length := by omega
    obtain ⟨h1, h2⟩ := hBB _ (List.getElem_mem htB)
    have hlen : ((List.range ls.length).filter fun j => D ls j B[t]).length ≤ 16 := Nat.le_trans (List.length_filter_le _ _) (by have := ok.few; simpa using this)
    have hmem : i ∈ (List.range ls.length).filter fun j => D ls j B[t] := List.mem_filter.2 ⟨List.mem_range.2 hi, h2⟩
    refine Ev.succ (fun k => ?_) (ev3 ok i t B[t] B hi htB rfl h1 h2 hB (ev2 ok i B hi hBB hB hn d (t + 1) (by omega)) _ 0 _ false (Nat.zero_add _) hlen (.inr hmem))
    show (if (t : Int) < ((ints B).length : Int) then _ else _) = _
    rw [ints_length, if_pos (by omega), if_pos (by omega), rd_ints B t htB, above_f ok.u _ h1, Option.bind_some]
    rfl
theorem ev1 {ls : List L} {o : List Nat} (ok : Ok ls) (g : Good ls o) (hl : o.length = ls.length) (i : Nat) (hi : i < ls.length) (hn : Ev fun k => barbicanlaw02_LatticeOrder.l0 k ls ls (ints o) ((i + 1 : Nat) : Int)) :
    ∀ (d j : Nat), j + d = i → Ev fun k => barbicanlaw02_LatticeOrder.l1 k ls ls (ints o) (i : Int) (j : Int)
  | 0, j, hj => by
    have hlen : ((List.range ls.length).filter fun b => D ls i b).length ≤ 16 := Nat.le_trans (List.length_filter_le _ _) (by have := ok.few; simpa using this)
    refine Ev.succ (fun k => ?_) (ev2 ok i ((List.range ls.length).filter fun b => D ls i b) hi (fun b hb => by rw [List.mem_filter, List.mem_range] at hb; exact hb) hlen hn _ 0 (Nat.zero_add _))
    show (if (j : Int) < (i : Int) then _ else _) = _
    rw [if_neg (by omega), below_f ok.u i hi, Option.bind_some]
    rfl
  | d + 1, j, hj => by
    have hf := ok.few
    have hji : j < i := by omega
    have hio : i < o.length := by omega
    have hjo : j < o.length := by omega
    obtain ⟨h1, h2⟩ := g.apart j i hji hio
    have h3 := g.lt _ (List.getElem_mem hio)
    have h4 := g.lt _ (List.getElem_mem hjo)
    refine Ev.succ (fun k => ?_) (ev1 ok g hl i hi hn d (j + 1) (by omega))
    show (if (j : Int) < (i : Int) then _ else _) = _
    rw [if_pos (by omega), if_pos (by omega), ints_length, if_pos (by omega), if_pos (by omega), if_pos (by omega), rd_ints o j hjo, rd_ints o i hio, if_neg (by omega), if_pos (by omega), if_pos (by omega), if_pos (by omega), if_pos (by omega), rd_at, rd_at, dom_f _ _ (ok.u _ (at_mem ls _ h4)) (ok.u _ (at_mem ls _ h3)), Option.bind_some, if_neg (by rw [show dm (at_ ls o[j]) (at_ ls o[i]) = false from h2]; simp), wr1 j 0 (by omega)]
theorem ev0 {ls : List L} {o : List Nat} (ok : Ok ls) (g : Good ls o) (hl : o.length = ls.length) : ∀ (d i : Nat), i + d = ls.length → Ev fun k => barbicanlaw02_LatticeOrder.l0 k ls ls (ints o) (i : Int)
  | 0, i, hi => by
    refine Ev.succ (fun k => ?_) sure_ev
    show (if (i : Int) < ((ints o).length : Int) then _ else _) = _
    rw [ints_length, if_neg (by omega)]
    cases barbicanlaw02_sure.f k <;> rfl
  | d + 1, i, hi => by
    have hio : i < o.length := by omega
    have h3 := g.lt _ (List.getElem_mem hio)
    have h5 := ev1 ok g hl i (by omega) (ev0 ok g hl d (i + 1) (by omega)) i 0 (Nat.zero_add _)
    have h6 : Ev fun k => barbicanlaw02_LatticeOrder.j2 k ls ls (ints o) (i : Int) false := Ev.succ (fun k => by
      simp only [barbicanlaw02_LatticeOrder.j2, Bool.false_eq_true, if_false]
      rfl) h5
    refine Ev.succ (fun k => ?_) h6
    show (if (i : Int) < ((ints o).length : Int) then _ else _) = _
    rw [ints_length, if_pos (by omega), if_pos (by omega), rd_ints o i hio, if_neg (by omega), decide_eq_false (by omega)]
end LatA
open LatA
theorem LatticeOrder (l0 : List (S35)) (g0 : (fun xs : List (S35) => xs.length * 16 ≤ 140737488351232 ∧ xs.length ≤ maxLen ∧ ∀ x ∈ xs, goodw35 x) l0) : ∃ k, barbicanlaw02_LatticeOrder.f k l0 = some true := by
  obtain ⟨h1, _, h2⟩ := g0
  have hu : ∀ x ∈ l0, U x := fun x hx => u32_wf (h2 x hx).2
  refine Ev.ex ?_
  unfold barbicanlaw02_LatticeOrder.f
  rw [twin_f l0 (by omega)]
  simp only [Option.bind_some, new_f hu]
  cases hn : latNew l0 with
  | some e =>
    simp only [Option.isNone_some, Bool.false_eq_true, if_false, latMade_some hn]
    refine Ev.succ (fun k => ?_) sure_ev
    simp only [barbicanlaw02_LatticeOrder.j0, if_true, Option.isNone_some, Bool.false_eq_true, if_false, List.isEmpty_nil, beq_self_eq_true]
    cases barbicanlaw02_sure.f k <;> rfl
  | none =>
    obtain ⟨hne, ok, hv⟩ := new_ok hu hn
    obtain ⟨o, ho, g, hl⟩ := order_f ok (fun x hx => (hv x hx).1)
    have hem : l0.isEmpty = false := by simpa using hne
    simp only [Option.isNone_none, if_true, latMade_none hn, hem]
    refine Ev.succ (fun k => ?_) (ev0 ok g hl _ 0 (Nat.zero_add _))
    simp only [barbicanlaw02_LatticeOrder.j0, Bool.false_eq_true, if_false]
    rw [ho, Option.bind_some, ints_length, if_pos (by omega)]
    rfl
end Go.Proofs.YtgcaalgaellciaaDoor.Pure
