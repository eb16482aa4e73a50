import Derived.Test.YtindggjkcnelcaaXAllx9
import Derived.Test.YtindggjkcnelcaaRecordL
import Derived.Test.YtindggjkcnelcaaRecordO
namespace Go.Proofs.Ytindggjkcnelcaa.Pure
open Go.RowKit Go.Proofs.Ytindggjkcnelcaa.XAll Go.Proofs.YtindggjkcnelcaaW.PrintWords Go.Proofs.YtindggjkcnelcaaW.PrintLast Go.Proofs.YtindggjkcnelcaaW.PrintMore
open CrcL RecL
open Go.Proofs.Ytindggjkcnelcaa.PackL (uv uv_len uv_byte append_f uv_mono u64_small u64_wf i64_wf)
set_option linter.unusedVariables false
set_option linter.unusedSimpArgs false
namespace RowsL
theorem bad_none {n : Int} (h : bad n = none) : 1 ≤ n ∧ n ≤ 1048576 := by
  unfold bad at h
  split at h
  · cases h
  · split at h
    · cases h
    · omega
theorem sure10 (k : Nat) (hk : 10 ≤ k) : barbicanlaw10_sure.f k = some true := by
  unfold barbicanlaw10_sure.f
  have hb : Bytes [97] := by unfold Bytes; decide
  rw [frame_f k 1 [97] (by omega) hb hk, Option.bind_some]
  decide +kernel
theorem twin10 (l : List Int) (h : l.length < 140737488355328) : barbicanlaw10_twin.f l = some l := by
  unfold barbicanlaw10_twin.f
  rw [if_pos (by simpa using h)]
  rfl
/-- The records of payloads, one behind the other. -/
def rec (e : Int) (ps : List (List Int)) : List Int := (ps.map (framed e)).flatten
def Ok (p : List Int) : Prop := Bytes p ∧ 1 ≤ p.length ∧ p.length ≤ 1048576
theorem rec_cons (e : Int) (p : List Int) (ps : List (List Int)) : rec e (p :: ps) = framed e p ++ rec e ps := rfl
theorem rec_append (e : Int) (ps qs : List (List Int)) : rec e (ps ++ qs) = rec e ps ++ rec e qs := by unfold rec; simp
theorem rec_one (e : Int) (p : List Int) : rec e [p] = framed e p := by unfold rec; simp
theorem framed_small (e : Int) (p : List Int) (h : Ok p) : 7 ≤ (framed e p).length ∧ (framed e p).length ≤ 1048600 := by
  have h1 := framed_len e p
  have h2 := head_len e (p.length : Int)
  have h3 := h.2
  omega
theorem framed_bytes (e : Int) (p : List Int) (he : 0 ≤ e ∧ e < 18446744073709551616) (h : Ok p) : Bytes (framed e p) :=
  seal_bytes _ (bytes_append (head_bytes e (p.length : Int) he (by omega) (by have := h.2; omega)) h.1)
theorem rec_small (e : Int) (ps : List (List Int)) (h : ∀ p ∈ ps, Ok p) : (rec e ps).length ≤ ps.length * 1048600 := by
  induction ps with
  | nil => exact Nat.le_refl _
  | cons p ps ih =>
    have h1 := framed_small e p (h p (by simp))
    have h2 := ih (fun q hq => h q (by simp [hq]))
    rw [rec_cons, List.length_append, List.length_cons, Nat.succ_mul]
    omega
theorem rec_bytes (e : Int) (ps : List (List Int)) (he : 0 ≤ e ∧ e < 18446744073709551616) (h : ∀ p ∈ ps, Ok p) : Bytes (rec e ps) := by
  induction ps with
  | nil => intro x hx; cases hx
  | cons p ps ih =>
    rw [rec_cons]
    exact bytes_append (framed_bytes e p he (h p (by simp))) (ih (fun q hq => h q (by simp [hq])))
theorem scan_l (e : Int) (he : 0 ≤ e ∧ e < 18446744073709551616) (t : List Int) (ht : (one e t).2.2 ≠ none) (hbt : Bytes t) : ∀ (ps : List (List Int)) (k : Nat) (pre : List Int) (acc : List (List Int)),
    (∀ p ∈ ps, Ok p) → Bytes pre → (pre ++ (rec e ps ++ t)).length < 140737488355328 → acc.length + ps.length < 1000000 → ps.length + 30 ≤ k →
    record_Scan.l0 k e (pre ++ (rec e ps ++ t)) acc (pre.length : Int) = some (acc ++ ps, ((pre.length + (rec e ps).length : Nat) : Int)) := by
  intro ps
  induction ps with
  | nil =>
    intro k pre acc hps hbp hl ha hk
    obtain ⟨k, rfl⟩ : ∃ q, k = q + 1 := ⟨k - 1, by omega⟩
    simp only [record_Scan.l0]
    rw [if_pos (by omega), if_pos (by rw [List.length_append]; omega), Int.toNat_natCast, List.drop_left, show rec e [] ++ t = t from rfl,
      one_f k e t hbt (by rw [List.length_append, List.length_append] at hl; omega) (by simp at hk; omega), Option.bind_some]
    cases ho : (one e t).2.2 with
    | none => exact absurd ho ht
    | some c =>
      rw [if_neg (by simp), List.append_nil]
      rfl
  | cons p ps ih =>
    intro k pre acc hps hbp hl ha hk
    obtain ⟨k, rfl⟩ : ∃ q, k = q + 1 := ⟨k - 1, by omega⟩
    have hp := hps p (by simp)
    have hps' : ∀ q ∈ ps, Ok q := fun q hq => hps q (by simp [hq])
    have hfs := framed_small e p hp
    rw [List.length_cons] at ha hk
    have hlen : (rec e (p :: ps) ++ t).length < 140737488355328 := by rw [List.length_append] at hl; omega
    have hby : Bytes (rec e (p :: ps) ++ t) := bytes_append (rec_bytes e _ he hps) hbt
    have h1 : record_One.f k e (rec e (p :: ps) ++ t) = some (p, ((framed e p).length : Int), none) := by
      rw [one_f k e _ hby hlen (by omega), rec_cons, List.append_assoc, one_framed e e p _ he hp.2.1 hp.2.2, if_pos rfl]
    simp only [record_Scan.l0]
    rw [if_pos (by omega), if_pos (by rw [List.length_append]; omega), Int.toNat_natCast, List.drop_left, h1, Option.bind_some]
    rw [if_pos (by rfl), if_pos (by omega)]
    have hl2 : (pre ++ (rec e (p :: ps) ++ t)).length = pre.length + ((framed e p).length + (rec e ps).length + t.length) := by
      rw [List.length_append, List.length_append, rec_cons, List.length_append]
    have e1 : wrap64 ((pre.length : Int) + ((framed e p).length : Int)) = (((pre ++ framed e p).length : Nat) : Int) := by
      rw [wrap64_small _ (by omega) (by omega), List.length_append]
      omega
    have e2 : pre ++ (rec e (p :: ps) ++ t) = (pre ++ framed e p) ++ (rec e ps ++ t) := by rw [rec_cons]; simp
    have h2 := ih k (pre ++ framed e p) (acc ++ [p]) hps' (bytes_append hbp (framed_bytes e p he hp)) (by rw [← e2]; exact hl) (by rw [List.length_append]; simp; omega) (by omega)
    show record_Scan.l0 k e (pre ++ (rec e (p :: ps) ++ t)) (acc ++ [p]) (wrap64 ((pre.length : Int) + ((framed e p).length : Int))) = _
    rw [e1, e2, h2, rec_cons, List.length_append, List.length_append]
    simp only [List.append_assoc, List.singleton_append, Option.some.injEq, Prod.mk.injEq, true_and]
    omega
theorem scan_f (e : Int) (he : 0 ≤ e ∧ e < 18446744073709551616) (t : List Int) (ht : (one e t).2.2 ≠ none) (hbt : Bytes t) (ps : List (List Int)) (k : Nat) (hps : ∀ p ∈ ps, Ok p)
    (hl : (rec e ps ++ t).length < 140737488355328) (ha : ps.length < 1000000) (hk : ps.length + 30 ≤ k) :
    record_Scan.f k e (rec e ps ++ t) = some (ps, ((rec e ps).length : Int)) := by
  have h := scan_l e he t ht hbt ps k [] [] hps (fun x hx => by cases hx) (by simpa using hl) (by simpa using ha) hk
  simpa [record_Scan.f] using h
theorem lists_l (l : List (List Int)) (hl : l.length < 1000000) (d : Nat) : ∀ (k i : Nat), i + d = l.length → d < k → barbicanlaw10_lists.l0 k l l (i : Int) = some true := by
  induction d with
  | zero =>
    intro k i h hk
    obtain ⟨k, rfl⟩ : ∃ q, k = q + 1 := ⟨k - 1, by omega⟩
    simp only [barbicanlaw10_lists.l0]
    rw [if_neg (by omega)]
  | succ d ih =>
    intro k i h hk
    obtain ⟨k, rfl⟩ : ∃ q, k = q + 1 := ⟨k - 1, by omega⟩
    simp only [barbicanlaw10_lists.l0]
    rw [if_pos (by omega), if_pos (by omega), if_pos (by omega), if_pos trivial, wrap64_small _ (by omega) (by omega)]
    exact ih k (i + 1) (by omega) (by omega)
theorem lists_f (l : List (List Int)) (hl : l.length < 1000000) (k : Nat) (hk : l.length < k) : barbicanlaw10_lists.f k l l = some true := by
  unfold barbicanlaw10_lists.f
  rw [if_pos rfl]
  exact lists_l l hl l.length k 0 (by omega) hk
/-- Where each record ends. -/
def endsOf (e : Int) (ps : List (List Int)) : List Int := (List.range ps.length).map fun i => ((rec e (ps.take (i + 1))).length : Int)
theorem ends_len (e : Int) (ps : List (List Int)) : (endsOf e ps).length = ps.length := by unfold endsOf; simp
theorem ends_snoc (e : Int) (ps : List (List Int)) (p : List Int) : endsOf e (ps ++ [p]) = endsOf e ps ++ [((rec e (ps ++ [p])).length : Int)] := by
  unfold endsOf
  rw [List.length_append, List.length_singleton, List.range_succ, List.map_append]
  congr 1
  · apply List.map_congr_left
    intro i hi
    rw [List.take_append_of_le_length (by have := List.mem_range.1 hi; omega)]
  · rw [List.map_singleton, List.take_of_length_le (by simp)]
theorem ends_get (e : Int) (ps : List (List Int)) (i : Nat) (h : i < ps.length) : rd (endsOf e ps) (i : Int) = ((rec e (ps.take (i + 1))).length : Int) := by
  unfold rd endsOf
  simp [h]
theorem first_beyond (f : Nat → Nat) (x : Nat) (n : Nat) : ∃ j, j ≤ n ∧ (∀ i, i < j → f i ≤ x) ∧ (j < n → x < f j) := by
  induction n with
  | zero => exact ⟨0, Nat.le_refl _, fun i h => absurd h (Nat.not_lt_zero i), fun h => absurd h (Nat.lt_irrefl 0)⟩
  | succ n ih =>
    obtain ⟨j, h1, h2, h3⟩ := ih
    by_cases h : j < n
    · exact ⟨j, by omega, h2, fun _ => h3 h⟩
    · obtain rfl : j = n := by omega
      by_cases h4 : f j ≤ x
      · refine ⟨j + 1, Nat.le_refl _, fun i hi => ?_, fun hh => absurd hh (Nat.lt_irrefl _)⟩
        rcases Nat.lt_or_ge i j with h5 | h5
        · exact h2 i h5
        · obtain rfl : i = j := by omega
          exact h4
      · exact ⟨j, by omega, h2, fun _ => by omega⟩
/-- Records, cut anywhere: the records ahead of the cut, and what begins no record. -/
theorem cut_rec (e : Int) (he : 0 ≤ e ∧ e < 18446744073709551616) (ps : List (List Int)) (hps : ∀ p ∈ ps, Ok p) (at_ : Nat) (hat : at_ ≤ (rec e ps).length) :
    ∃ j t, j ≤ ps.length ∧ (rec e ps).take at_ = rec e (ps.take j) ++ t ∧ (one e t).2.2 ≠ none ∧ Bytes t ∧ (∀ i, i < j → (rec e (ps.take (i + 1))).length ≤ at_) ∧ (j < ps.length → at_ < (rec e (ps.take (j + 1))).length) := by
  obtain ⟨j, h1, h2, h3⟩ := first_beyond (fun i => (rec e (ps.take (i + 1))).length) at_ ps.length
  have hsplit : rec e ps = rec e (ps.take j) ++ rec e (ps.drop j) := by rw [← rec_append, List.take_append_drop]
  have hle : (rec e (ps.take j)).length ≤ at_ := by
    cases j with
    | zero => simp [rec]
    | succ j => exact h2 j (Nat.lt_succ_self j)
  obtain ⟨r, hr⟩ : ∃ r, at_ = (rec e (ps.take j)).length + r := ⟨_, (Nat.add_sub_cancel' hle).symm⟩
  refine ⟨j, (rec e (ps.drop j)).take r, h1, ?_, ?_, ?_, h2, h3⟩
  · rw [hsplit, hr, List.take_append, List.take_of_length_le (by omega), Nat.add_sub_cancel_left]
  · by_cases hj : j < ps.length
    · have hd : ps.drop j = ps[j] :: ps.drop (j + 1) := List.drop_eq_getElem_cons hj
      have hp := hps ps[j] (List.getElem_mem hj)
      have h4 := h3 hj
      rw [List.take_succ_eq_append_getElem hj, rec_append, rec_one, List.length_append, hr] at h4
      rw [hd, rec_cons, List.take_append_of_le_length (by omega)]
      exact one_cut e e ps[j] r he hp.2.1 hp.2.2 (by omega)
    · rw [List.drop_eq_nil_of_le (by omega)]
      simp [rec, one]
  · exact bytes_take _ (rec_bytes e _ he fun p hp => hps p (List.mem_of_mem_drop hp))
theorem j3_f (e : Int) (ps : List (List Int)) (hps : ∀ p ∈ ps, Ok p) (hl : ps.length ≤ 20) (j : Nat) (hj : j ≤ ps.length) (k : Nat) (hk : 100 ≤ k) :
    barbicanlaw10_RecordRows.j3 k (rec e ps) (endsOf e ps) ps ps ((rec e ps).length : Int) (ps.take j) ((rec e (ps.take j)).length : Int) (j : Int) = some true := by
  obtain ⟨k, rfl⟩ : ∃ q, k = q + 1 := ⟨k - 1, by omega⟩
  have hS := sure10 k (by omega)
  have hl1 := lists_f ps (by omega) k (by omega)
  have htl : (ps.take j).length ≤ 20 := by rw [List.length_take]; omega
  have hl2 := lists_f (ps.take j) (by omega) k (by omega)
  have hel := ends_len e ps
  simp only [barbicanlaw10_RecordRows.j3]
  by_cases h0 : j = 0
  · subst h0
    rw [if_neg (by omega), if_pos trivial, hl1, Option.bind_some, if_pos rfl, if_pos (by simp [rec]), if_pos (by omega), if_pos (by omega), Int.toNat_natCast, hl2, Option.bind_some, if_pos rfl, hS, Option.bind_some]
  · have e1 : wrap64 ((j : Int) - 1) = ((j - 1 : Nat) : Int) := by rw [wrap64_small _ (by omega) (by omega)]; omega
    rw [if_pos (by omega), e1, if_pos (by omega), if_pos (by omega), if_pos trivial, hl1, Option.bind_some, if_pos rfl, ends_get e ps (j - 1) (by omega), show j - 1 + 1 = j by omega, if_pos rfl, if_pos (by omega), if_pos (by omega),
      Int.toNat_natCast, hl2, Option.bind_some, if_pos rfl, hS, Option.bind_some]
theorem l1_f (e : Int) (ps : List (List Int)) (hps : ∀ p ∈ ps, Ok p) (hl : ps.length ≤ 20) (j at_ : Nat) (hj : j ≤ ps.length) (h2 : ∀ i, i < j → (rec e (ps.take (i + 1))).length ≤ at_) (h3 : j < ps.length → at_ < (rec e (ps.take (j + 1))).length)
    (d : Nat) : ∀ (k i : Nat), i + d = j → d + 110 ≤ k →
    barbicanlaw10_RecordRows.l1 k (rec e ps) (endsOf e ps) ps (at_ : Int) ps ((rec e ps).length : Int) (ps.take j) ((rec e (ps.take j)).length : Int) (i : Int) = some true := by
  have hel := ends_len e ps
  induction d with
  | zero =>
    intro k i h hk
    obtain ⟨k, rfl⟩ : ∃ q, k = q + 1 := ⟨k - 1, by omega⟩
    obtain rfl : i = j := by omega
    have hf := j3_f e ps hps hl i hj k (by omega)
    simp only [barbicanlaw10_RecordRows.l1]
    by_cases hlt : i < ps.length
    · have h4 := h3 hlt
      rw [if_pos (by omega), if_pos (by omega), ends_get e ps i hlt, if_neg (by omega), hf]
    · rw [if_neg (by omega), hf]
  | succ d ih =>
    intro k i h hk
    obtain ⟨k, rfl⟩ : ∃ q, k = q + 1 := ⟨k - 1, by omega⟩
    have h4 := h2 i (by omega)
    simp only [barbicanlaw10_RecordRows.l1]
    rw [if_pos (by omega), if_pos (by omega), ends_get e ps i (by omega), if_pos (by omega), wrap64_small _ (by omega) (by omega)]
    exact ih k (i + 1) (by omega) (by omega)
theorem finish (e : Int) (he : 0 ≤ e ∧ e < 18446744073709551616) (l1 : List (List Int)) (a2 : Int) (ps : List (List Int)) (hps : ∀ p ∈ ps, Ok p) (hl : ps.length ≤ 20) (x10 : Int) (k : Nat) (hk : 200 ≤ k) :
    barbicanlaw10_RecordRows.j1 k e l1 a2 (rec e ps) (endsOf e ps) ps x10 false = some true := by
  obtain ⟨k, rfl⟩ : ∃ q, k = q + 1 := ⟨k - 1, by omega⟩
  have hs := rec_small e ps hps
  have hb := rec_bytes e ps he hps
  have hlen : (rec e ps).length ≤ 20972000 := Nat.le_trans hs (by omega)
  have e1 : IntKind.u64.wrap (wrap64 (((rec e ps).length : Int) + 1)) = (((rec e ps).length + 1 : Nat) : Int) := by
    rw [wrap64_small _ (by omega) (by omega), u64_small _ (by omega) (by omega)]
    omega
  obtain ⟨at_, hat, hae⟩ : ∃ at_ : Nat, at_ ≤ (rec e ps).length ∧ wrap64 (Int.tmod (IntKind.u64.wrap a2) (((rec e ps).length + 1 : Nat) : Int)) = (at_ : Int) := by
    have h0 : 0 ≤ IntKind.u64.wrap a2 := by
      rw [IntKind.wrap_u64]
      omega
    obtain ⟨u, hu⟩ := Int.eq_ofNat_of_zero_le h0
    rw [hu]
    have hm : u % ((rec e ps).length + 1) < (rec e ps).length + 1 := Nat.mod_lt _ (by omega)
    refine ⟨u % ((rec e ps).length + 1), by omega, ?_⟩
    rw [Int.tmod_eq_emod_of_nonneg (by omega), ← Int.natCast_emod, wrap64_small _ (by omega) (by omega)]
  obtain ⟨j, t, hj, htk, hto, htb, h2, h3⟩ := cut_rec e he ps hps at_ hat
  have hsc1 : record_Scan.f k e (rec e ps ++ [0, 1, 2]) = some (ps, ((rec e ps).length : Int)) :=
    scan_f e he [0, 1, 2] (by unfold one; rw [if_pos (.inr rfl)]; simp) (by unfold Bytes; decide) ps k hps (by rw [List.length_append]; simp; omega) (by omega) (by omega)
  have hsc2 : record_Scan.f k e ((rec e ps).take at_) = some (ps.take j, ((rec e (ps.take j)).length : Int)) := by
    have hl3 : ((rec e ps).take at_).length ≤ 20972000 := by rw [List.length_take]; omega
    rw [htk] at hl3 ⊢
    exact scan_f e he t hto htb (ps.take j) k (fun p hp => hps p (List.mem_of_mem_take hp)) (by omega) (by rw [List.length_take]; omega) (by rw [List.length_take]; omega)
  simp only [barbicanlaw10_RecordRows.j1]
  rw [if_neg (by decide), e1, if_neg (by omega), twin10 _ (by omega), Option.bind_some, Option.bind_some, if_pos (by simp; omega), hsc1, Option.bind_some, hae, if_pos (by omega), if_pos (by omega), Int.toNat_natCast, hsc2, Option.bind_some]
  exact l1_f e ps hps hl j at_ hj h2 h3 j k 0 (by omega) (by omega)
theorem loop (e : Int) (he : 0 ≤ e ∧ e < 18446744073709551616) (l1 : List (List Int)) (hl1 : l1.length < 5864062014805) (hb : ∀ p ∈ l1, Bytes p ∧ p.length ≤ 140737488351232) (a2 : Int) (d : Nat) : ∀ (k i : Nat) (ps : List (List Int)),
    i + d = min 20 l1.length → (∀ p ∈ ps, Ok p) → ps.length ≤ i → 2 * d + 300 ≤ k →
    barbicanlaw10_RecordRows.l0 k e l1 a2 (rec e ps) (endsOf e ps) ps (i : Int) = some true := by
  induction d with
  | zero =>
    intro k i ps h hps hi hk
    obtain ⟨k, rfl⟩ : ∃ q, k = q + 1 := ⟨k - 1, by omega⟩
    have hf := fun x10 => finish e he l1 a2 ps hps (by omega) x10 k (by omega)
    simp only [barbicanlaw10_RecordRows.l0]
    by_cases hlt : i < l1.length
    · rw [if_pos (by omega), show decide ((i : Int) < 20) = false by rw [decide_eq_false_iff_not]; omega, hf]
    · rw [if_neg (by omega), hf]
  | succ d ih =>
    intro k i ps h hps hi hk
    obtain ⟨k, rfl⟩ : ∃ q, k = q + 2 := ⟨k - 2, by omega⟩
    have hk2 : 2 * d + 300 ≤ k := by omega
    have hi2 : i + 1 + d = min 20 l1.length := by omega
    have hi3 : ps.length ≤ i + 1 := by omega
    have hi4 : ∀ x : List Int, (ps ++ [x]).length ≤ i + 1 := fun x => by rw [List.length_append]; simp; omega
    have hlt : i < l1.length := by omega
    have hrd : rd_L1 l1 (i : Int) = l1[i] := by unfold rd_L1; simp [hlt]
    have hm := hb l1[i] (List.getElem_mem hlt)
    have hs := rec_small e ps hps
    have hsl : ps.length * 1048600 ≤ 20972000 := by omega
    have hel := ends_len e ps
    simp only [barbicanlaw10_RecordRows.l0]
    rw [if_pos (by omega), show decide ((i : Int) < 20) = true by rw [decide_eq_true_iff]; omega]
    simp only [barbicanlaw10_RecordRows.j1]
    rw [if_pos trivial, if_pos (by omega), if_pos (by omega), hrd, twin10 _ (by omega), Option.bind_some, frame_f k e _ he hm.1 (by omega), Option.bind_some]
    have e1 : wrap64 ((i : Int) + 1) = ((i + 1 : Nat) : Int) := by rw [wrap64_small _ (by omega) (by omega)]; omega
    rw [e1]
    cases hbd : bad (l1[i].length : Int) with
    | none =>
      have hn := bad_none hbd
      have hok : Ok l1[i] := ⟨hm.1, by omega, by omega⟩
      have hfs := framed_small e l1[i] hok
      have ef : frOf e l1[i] = framed e l1[i] := by unfold frOf; rw [hbd]
      rw [if_pos (by rfl), ef]
      dsimp only
      rw [if_pos (by omega), Option.bind_some, if_pos (by omega), if_pos (by omega), show rec e ps ++ framed e l1[i] = rec e (ps ++ [l1[i]]) by rw [rec_append, rec_one], ← ends_snoc]
      refine ih k (i + 1) (ps ++ [l1[i]]) hi2 ?_ (hi4 _) hk2
      intro p hp
      rcases List.mem_append.1 hp with hp | hp
      · exact hps p hp
      · rw [List.mem_singleton] at hp
        subst hp
        exact hok
    | some c =>
      have ef : frOf e l1[i] = [] := by unfold frOf; rw [hbd]
      rw [if_neg (by show ¬ (some c).isNone = true; simp), ef]
      dsimp only
      rw [if_neg (by simp)]
      have hrec := ih k (i + 1) ps hi2 hps hi3 hk2
      by_cases hz : (l1[i].length : Int) > 0
      · rw [if_pos hz]
        by_cases hy : (l1[i].length : Int) ≤ 1048576
        · unfold bad at hbd
          rw [if_neg (by omega), if_neg (by omega)] at hbd
          cases hbd
        · rw [if_neg hy, hrec]
      · rw [if_neg hz, hrec]
end RowsL
open RowsL in
theorem RecordRows (a0 : Int) (l1 : List (List Int)) (a2 : Int) (g0 : (fun n : Int => (Lit.int .u64 n).wf = true) a0) (g1 : (fun xs : List (List Int) => xs.length * 24 ≤ 140737488351232 ∧ xs.length ≤ maxLen ∧ ∀ x ∈ xs, (fun xs : List Int => xs.length * 1 ≤ 140737488351232 ∧ xs.length ≤ maxLen ∧ ∀ x ∈ xs, (fun n : Int => (Lit.int .u8 n).wf = true) x) x) l1) (g2 : (fun n : Int => (Lit.int .i64 n).wf = true) a2) : ∃ k, barbicanlaw10_RecordRows.f k a0 l1 a2 = some true := by
  obtain ⟨k, hk⟩ : ∃ k : Nat, 1000 ≤ k := ⟨_, Nat.le_refl _⟩
  have h := loop a0 (u64_wf g0) l1 (by have := g1.1; omega) (fun p hp => ⟨bytes_wf (g1.2.2 p hp).2.2, by have := (g1.2.2 p hp).1; omega⟩) a2 (min 20 l1.length) k 0 [] (by omega) (fun p hp => by cases hp) (Nat.le_refl _) (by omega)
  exact ⟨k, h⟩
end Go.Proofs.Ytindggjkcnelcaa.Pure
