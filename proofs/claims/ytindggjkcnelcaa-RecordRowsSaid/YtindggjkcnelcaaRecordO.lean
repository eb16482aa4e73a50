/- Records, read: what One tells of bytes. -/
import Derived.Test.YtindggjkcnelcaaXAllx6
import Derived.Test.YtindggjkcnelcaaRecordL
import Derived.Test.YtindggjkcnelcaaPackR
namespace Go.Proofs.Ytindggjkcnelcaa.Pure
open Go.RowKit Go.Proofs.Ytindggjkcnelcaa.XAll Go.Proofs.YtindggjkcnelcaaW.PrintWords Go.Proofs.YtindggjkcnelcaaW.PrintLast Go.Proofs.YtindggjkcnelcaaW.PrintMore
open CrcL
open Go.Proofs.Ytindggjkcnelcaa.PackL (uv uv_len uv_byte append_f uv_mono u64_small u64_wf i64_wf rv rv_uv rv_rev told uint_f)
set_option linter.unusedVariables false
set_option linter.unusedSimpArgs false
namespace RecL
def torn (c : Int) : Int := if c = 12 then 12 else 11
theorem torn_f (c : Int) : record_torn.f (some c) = some (some (torn c)) := by
  unfold record_torn.f errors_Is.f torn
  by_cases h : c = 12
  · subst h; rfl
  · rw [if_neg (by simp), Option.bind_some, if_neg (by simpa using h), if_neg h]
/-- What One tells of bytes. -/
def one (e : Int) (l : List Int) : List Int × Int × Option Int :=
  if l.length = 0 ∨ rd l 0 = 0 then ([], 0, some 8) else
  match rv 10 l with
  | .inl c => ([], 0, some (torn c))
  | .inr (n, u) =>
    if 1048576 < n then ([], 0, some 11) else
    match rv 10 (l.drop u) with
    | .inl c => ([], 0, some (torn c))
    | .inr (a, m) =>
      if l.length < u + m + n.toNat + 4 then ([], 0, some 12) else
      if (opened (l.take (u + m + n.toNat + 4))).2 = none ∧ a = e then ((l.take (u + m + n.toNat)).drop (u + m), ((u + m + n.toNat + 4 : Nat) : Int), none) else ([], 0, some 11)
theorem rv_small (l : List Int) (v : Int) (n : Nat) (hb : Bytes l) (h : rv 10 l = .inr (v, n)) : 0 ≤ v ∧ v < 18446744073709551616 ∧ 1 ≤ n ∧ n ≤ l.length := by
  obtain ⟨a1, a2, a3, a4, a5, a6⟩ := rv_rev 9 l v n (by omega) hb h
  have e : (2 : Int) * 128 ^ 9 = 18446744073709551616 := by decide +kernel
  rw [e] at a2
  exact ⟨a1, a2, a4, a5⟩
set_option maxHeartbeats 1000000 in
theorem one_f (k : Nat) (e : Int) (l : List Int) (hl : Bytes l) (hm : l.length < 140737488355328) (hk : 23 ≤ k) : record_One.f k e l = some (one e l) := by
  obtain ⟨k, rfl⟩ : ∃ q, k = q + 1 := ⟨k - 1, by omega⟩
  unfold record_One.f one
  by_cases h0 : l.length = 0
  · rw [if_pos (by omega), if_pos (.inl h0)]
    rfl
  · rw [if_neg (by omega), if_pos (by omega)]
    simp only [record_One.j0]
    by_cases h1 : rd l 0 = 0
    · rw [if_pos (by simpa using h1), if_pos (.inr h1)]
    · rw [if_neg (by simpa using h1), if_neg (by intro h; rcases h with h | h; exact h0 h; exact h1 h), uint_f k l hl (by omega) (by omega), Option.bind_some]
      cases hr : rv 10 l with
      | inl c =>
        rw [if_neg (by show ¬ (some c).isNone = true; simp)]
        show (record_torn.f (some c)).bind _ = _
        rw [torn_f, Option.bind_some]
      | inr p =>
        obtain ⟨n, u⟩ := p
        obtain ⟨n0, n1, u0, u1⟩ := rv_small l n u hl hr
        have ht : told 0 0 (.inr (n, u)) = (n, (u : Int), none) := by simp [told]
        rw [ht, if_pos (by rfl)]
        dsimp only
        by_cases h2 : 1048576 < n
        · rw [if_pos h2, if_pos h2]
        · rw [if_neg h2, if_neg h2, if_pos (by omega), if_pos (by omega), Int.toNat_natCast, uint_f k _ (bytes_drop _ hl) (by rw [List.length_drop]; omega) (by omega), Option.bind_some]
          cases hr2 : rv 10 (l.drop u) with
          | inl c =>
            rw [if_neg (by show ¬ (some c).isNone = true; simp)]
            show (record_torn.f (some c)).bind _ = _
            rw [torn_f, Option.bind_some]
          | inr p =>
            obtain ⟨a, m⟩ := p
            obtain ⟨a0, a1, m0, m1⟩ := rv_small _ a m (bytes_drop _ hl) hr2
            rw [List.length_drop] at m1
            obtain ⟨n, rfl⟩ := Int.eq_ofNat_of_zero_le n0
            have ht2 : told 0 0 (.inr (a, m)) = (a, (m : Int), none) := by simp [told]
            have e1 : wrap64 ((u : Int) + (m : Int)) = ((u + m : Nat) : Int) := by rw [wrap64_small _ (by omega) (by omega)]; omega
            have e2 : wrap64 (((u + m : Nat) : Int) + wrap64 (n : Int)) = ((u + m + n : Nat) : Int) := by rw [wrap64_small (n : Int) (by omega) (by omega), wrap64_small _ (by omega) (by omega)]; omega
            have e3 : wrap64 (((u + m + n : Nat) : Int) + 4) = ((u + m + n + 4 : Nat) : Int) := by rw [wrap64_small _ (by omega) (by omega)]; omega
            have e4 : wrap64 (((u + m + n + 4 : Nat) : Int) - 4) = ((u + m + n : Nat) : Int) := by rw [wrap64_small _ (by omega) (by omega)]; omega
            rw [ht2, if_pos (by rfl)]
            dsimp only
            rw [Int.toNat_natCast, e1, e2, e3]
            by_cases h3 : l.length < u + m + n + 4
            · rw [if_pos (by omega), if_pos h3]
            · rw [if_neg (by omega), if_neg h3, if_pos (by omega), if_pos (by omega), Int.toNat_natCast, open_f _ (bytes_take _ hl) (by rw [List.length_take]; omega), Option.bind_some]
              by_cases h4 : (opened (l.take (u + m + n + 4))).2 = none
              · rw [if_pos (by rw [h4]; rfl)]
                by_cases h5 : a = e
                · rw [if_pos h5, if_pos (And.intro h4 h5), if_pos (by omega), e4, if_pos (by omega), if_pos (by omega), Int.toNat_natCast, Int.toNat_natCast]
                  unfold bytes_Clone.f
                  rw [if_pos (by rw [List.length_drop, List.length_take]; omega), Option.bind_some]
                · rw [if_neg h5, if_neg (show ¬ ((opened (l.take (u + m + n + 4))).2 = none ∧ a = e) from fun h => h5 h.2)]
              · rw [if_neg (by intro h; exact h4 (by simpa using h)), if_neg (show ¬ ((opened (l.take (u + m + n + 4))).2 = none ∧ a = e) from fun h => h4 h.1)]
theorem rv_more (d : Nat) : ∀ (l r : List Int) (p : Int × Nat), rv d l = .inr p → rv d (l ++ r) = .inr p := by
  induction d with
  | zero => intro l r p h; simp [rv] at h
  | succ d ih =>
    intro l r p h
    cases l with
    | nil => simp [rv] at h
    | cons c rest =>
      rw [List.cons_append]
      unfold rv at h ⊢
      by_cases h1 : d = 0 ∧ 1 < c
      · rw [if_pos h1] at h; cases h
      · rw [if_neg h1] at h ⊢
        by_cases h2 : c < 128
        · rw [if_pos h2] at h ⊢; exact h
        · rw [if_neg h2] at h ⊢
          cases hr : rv d rest with
          | inl e => rw [hr] at h; cases h
          | inr q => rw [hr] at h; rw [ih rest r q hr]; exact h
theorem uv_head (n : Int) (h : 1 ≤ n) (r : List Int) : rd (uv 9 n ++ r) 0 ≠ 0 := by
  unfold uv
  by_cases h1 : 128 ≤ n
  · rw [if_pos h1]
    simp [rd]
    omega
  · rw [if_neg h1]
    simp [rd]
    omega
theorem framed_eq (e : Int) (p : List Int) : framed e p = uv 9 (p.length : Int) ++ (uv 9 e ++ (p ++ be (upd 0 (head e (p.length : Int) ++ p)))) := by
  unfold framed sealed head
  simp
theorem one_framed (e e' : Int) (p rest : List Int) (he : 0 ≤ e ∧ e < 18446744073709551616) (h0 : 1 ≤ p.length) (h1 : p.length ≤ 1048576) :
    one e' (framed e p ++ rest) = if e = e' then (p, ((framed e p).length : Int), none) else ([], 0, some 11) := by
  have hu := uv_len 9 (p.length : Int)
  have hv := uv_len 9 e
  have hL := framed_len e p
  have hh : (head e (p.length : Int)).length = (uv 9 (p.length : Int)).length + (uv 9 e).length := by unfold head; rw [List.length_append]
  unfold one
  rw [if_neg (by rw [List.length_append]; intro h; rcases h with h | h; omega; rw [framed_eq, List.append_assoc] at h; exact uv_head _ (by omega) _ h)]
  have r1 : rv 10 (framed e p ++ rest) = .inr ((p.length : Int), (uv 9 (p.length : Int)).length) := by
    rw [framed_eq, List.append_assoc]
    exact rv_uv 9 _ _ (by omega) (by have e : (2 : Int) * 128 ^ 9 = 18446744073709551616 := by decide +kernel
                                     rw [e]; omega) (.inl rfl)
  have r2 : rv 10 ((framed e p ++ rest).drop (uv 9 (p.length : Int)).length) = .inr (e, (uv 9 e).length) := by
    rw [framed_eq, List.append_assoc, List.drop_left, List.append_assoc]
    exact rv_uv 9 _ _ he.1 (by have e : (2 : Int) * 128 ^ 9 = 18446744073709551616 := by decide +kernel
                               rw [e]; omega) (.inl rfl)
  rw [r1]
  simp only []
  rw [if_neg (by omega), r2]
  simp only [Int.toNat_natCast]
  have hsum : (uv 9 (p.length : Int)).length + (uv 9 e).length + p.length + 4 = (framed e p).length := by omega
  rw [hsum, if_neg (by rw [List.length_append]; omega), List.take_left, show (opened (framed e p)).2 = none by unfold framed; rw [opened_seal]]
  by_cases h : e = e'
  · rw [if_pos (And.intro rfl h), if_pos h]
    have ht : (framed e p ++ rest).take ((uv 9 (p.length : Int)).length + (uv 9 e).length + p.length) = head e (p.length : Int) ++ p := by
      rw [show framed e p ++ rest = (head e (p.length : Int) ++ p) ++ (be (upd 0 (head e (p.length : Int) ++ p)) ++ rest) by unfold framed sealed; simp, List.take_left' (by rw [List.length_append]; omega)]
    rw [ht, List.drop_left' (by omega)]
  · rw [if_neg (show ¬ ((none : Option Int) = none ∧ e = e') from fun hx => h hx.2), if_neg h]
/-- What a record's begin tells: an error. -/
theorem one_cut (e e' : Int) (p : List Int) (n : Nat) (he : 0 ≤ e ∧ e < 18446744073709551616) (h0 : 1 ≤ p.length) (h1 : p.length ≤ 1048576) (hn : n < (framed e p).length) :
    (one e' ((framed e p).take n)).2.2 ≠ none := by
  have hu := uv_len 9 (p.length : Int)
  have hv := uv_len 9 e
  have hL := framed_len e p
  have hh : (head e (p.length : Int)).length = (uv 9 (p.length : Int)).length + (uv 9 e).length := by unfold head; rw [List.length_append]
  obtain ⟨l, hl⟩ : ∃ l, l = (framed e p).take n := ⟨_, rfl⟩
  obtain ⟨r, hr⟩ : ∃ r, r = (framed e p).drop n := ⟨_, rfl⟩
  have hlr : l ++ r = framed e p := by rw [hl, hr, List.take_append_drop]
  have hll : l.length = n := by rw [hl, List.length_take]; omega
  rw [← hl]
  have p1 : rv 10 (l ++ r) = .inr ((p.length : Int), (uv 9 (p.length : Int)).length) := by
    rw [hlr, framed_eq]
    exact rv_uv 9 _ _ (by omega) (by have e : (2 : Int) * 128 ^ 9 = 18446744073709551616 := by decide +kernel
                                     rw [e]; omega) (.inl rfl)
  have p2 : rv 10 ((l ++ r).drop (uv 9 (p.length : Int)).length) = .inr (e, (uv 9 e).length) := by
    rw [hlr, framed_eq, List.drop_left]
    exact rv_uv 9 _ _ he.1 (by have e : (2 : Int) * 128 ^ 9 = 18446744073709551616 := by decide +kernel
                               rw [e]; omega) (.inl rfl)
  unfold one
  by_cases hz : l.length = 0 ∨ rd l 0 = 0
  · rw [if_pos hz]; simp
  · rw [if_neg hz]
    cases h : rv 10 l with
    | inl c => simp
    | inr q =>
      have h' := rv_more 10 l r q h
      rw [p1] at h'
      cases h'
      simp only []
      rw [if_neg (by omega)]
      cases h2 : rv 10 (l.drop (uv 9 (p.length : Int)).length) with
      | inl c => simp
      | inr q =>
        by_cases hs : (uv 9 (p.length : Int)).length ≤ l.length
        · have h' := rv_more 10 _ r q h2
          rw [← List.drop_append_of_le_length hs, p2] at h'
          cases h'
          simp only [Int.toNat_natCast]
          rw [if_pos (by omega)]
          simp
        · rw [List.drop_eq_nil_of_le (by omega)] at h2
          simp [rv] at h2
end RecL
end Go.Proofs.Ytindggjkcnelcaa.Pure
