/- PackSizes: a number's bytes are as many as its bits ask for, seven to a byte; a greater number never has fewer. -/
import Derived.Test.YtindggjkcnelcaaXAllx3
import Derived.Test.YtindggjkcnelcaaPackL
namespace Go.Proofs.Ytindggjkcnelcaa.Pure
open Go.RowKit Go.Proofs.Ytindggjkcnelcaa.XAll Go.Proofs.YtindggjkcnelcaaW.PrintWords Go.Proofs.YtindggjkcnelcaaW.PrintLast Go.Proofs.YtindggjkcnelcaaW.PrintMore Go.Proofs.Ytindggjkcnelcaa.PackL
set_option linter.unusedVariables false
set_option linter.unusedSimpArgs false
namespace PackSizesL
def nb : Nat → Int → Int
  | 0, _ => 0
  | f + 1, n => if 0 < n then nb f (n / 2) + 1 else 0
theorem nb_bound (f : Nat) : ∀ n, 0 ≤ nb f n ∧ nb f n ≤ f := by
  induction f with
  | zero => intro n; simp [nb]
  | succ f ih => intro n; have := ih (n / 2); simp only [nb]; split <;> omega
theorem nb_succ (f : Nat) (n : Int) : nb (f + 1) n = if 0 < n then nb f (n / 2) + 1 else 0 := rfl
theorem nb_zero (n : Int) : nb 0 n = 0 := rfl
theorem nb_pos (f : Nat) (n : Int) (h : 0 < n) : 0 < nb (f + 1) n := by
  have := nb_bound f (n / 2)
  rw [nb_succ, if_pos h]
  omega
theorem nb_seven (f : Nat) (n : Int) (h : 128 ≤ n) : nb (f + 7) n = nb f (n / 128) + 7 := by
  simp only [nb]
  rw [if_pos (by omega), if_pos (by omega), if_pos (by omega), if_pos (by omega), if_pos (by omega), if_pos (by omega), if_pos (by omega)]
  rw [show n / 2 / 2 / 2 / 2 / 2 / 2 / 2 = n / 128 by omega]
  omega
theorem nb_few (f : Nat) (n : Int) (h : n < 128) : nb (f + 8) n ≤ 7 := by
  simp only [nb]
  repeat' split
  all_goals omega
theorem len_bits (j : Nat) : ∀ n : Int, 0 ≤ n → n < 128 * 128 ^ j → ((uv j n).length : Int) = max ((nb (7 * j + 8) n + 6) / 7) 1 := by
  induction j with
  | zero =>
    intro n h0 h1
    have h : nb (7 * 0 + 8) n ≤ 7 := nb_few 0 n (by omega)
    have h2 := nb_bound (7 * 0 + 8) n
    simp only [uv, List.length_singleton]
    omega
  | succ j ih =>
    intro n h0 h1
    rw [Int.pow_succ] at h1
    simp only [uv]
    by_cases hn : 128 ≤ n
    · rw [if_pos hn, List.length_cons, show 7 * (j + 1) + 8 = (7 * j + 8) + 7 by omega, nb_seven _ _ hn]
      have h := ih (n / 128) (by omega) (by omega)
      have h2 := nb_bound (7 * j + 8) (n / 128)
      have h3 : 0 < nb (7 * j + 8) (n / 128) := nb_pos (7 * j + 7) _ (by omega)
      omega
    · rw [if_neg hn]
      have h := nb_few (7 * j + 7) n (by omega)
      have h2 := nb_bound (7 * (j + 1) + 8) n
      rw [show 7 * j + 7 + 8 = 7 * (j + 1) + 8 by omega] at h
      simp only [List.length_singleton]
      omega
theorem sure_any (k : Nat) (hk : 20 ≤ k) : barbicanlaw03_sure.f k = some true :=
  at_rounds (fun k => barbicanlaw03_sure.mono k) hk (by decide +kernel)
theorem loop (n m : Int) (hn0 : 0 ≤ n) (hn1 : n < 18446744073709551616) (hm0 : 0 ≤ m) (hm1 : m < 18446744073709551616) (d : Nat) :
    ∀ (k : Nat) (c x : Int), 0 ≤ x → x < 2 ^ d → 0 ≤ c → c + nb d x = nb 71 n → c + d ≤ 71 → d + 30 < k → barbicanlaw03_PackSizes.l0 k n m c x = some true := by
  have hl := len_bits 9 n hn0 (by omega)
  have hl1 := uv_len 9 n
  have hb := nb_bound 71 n
  rw [show 7 * 9 + 8 = 71 by rfl] at hl
  generalize nb 71 n = B at hl hb ⊢
  induction d with
  | zero =>
    intro k c x h0 h1 hc hcn _ hk
    obtain ⟨k, rfl⟩ : ∃ j, k = j + 1 := ⟨k - 1, by omega⟩
    rw [nb_zero] at hcn
    simp only [barbicanlaw03_PackSizes.l0, pack_Len.f]
    rw [if_neg (by omega), append_f k [] n hn0 hn1 (by simp) (by omega), append_f k [] m hm0 hm1 (by simp) (by omega), sure_any k (by omega)]
    simp only [Option.bind_some, List.nil_append]
    have hmx : mx (wrap64 (Int.tdiv (wrap64 (c + 6)) 7)) 1 = ((uv 9 n).length : Int) := by
      rw [wrap64_small (c + 6) (by omega) (by omega), Int.tdiv_eq_ediv_of_nonneg (by omega), wrap64_small _ (by omega) (by omega), hl]
      obtain rfl : c = B := by omega
      unfold mx
      omega
    rw [hmx]
    simp only [if_true]
    have hmono := uv_mono 9 m n hm0
    split
    · rfl
    · rw [if_pos (by have := hmono (by omega); omega)]
  | succ d ih =>
    intro k c x h0 h1 hc hcn hcd hk
    obtain ⟨k, rfl⟩ : ∃ j, k = j + 1 := ⟨k - 1, by omega⟩
    rw [Int.pow_succ] at h1
    by_cases hx : 0 < x
    · simp only [barbicanlaw03_PackSizes.l0]
      rw [nb_succ, if_pos hx] at hcn
      rw [if_pos hx, wrap64_small (c + 1) (by omega) (by omega)]
      exact ih k (c + 1) (x / 2) (by omega) (by omega) (by omega) (by omega) (by omega) (by omega)
    · have h2 : nb (d + 1) x = 0 := by rw [nb_succ, if_neg hx]
      have h3 : nb d x = 0 := by cases d with
        | zero => rfl
        | succ d => rw [nb_succ, if_neg hx]
      have hp : (0 : Int) < 2 ^ d := Int.pow_pos (by omega)
      have hk1 := ih k c x h0 (by omega) hc (by omega) (by omega) (by omega)
      exact at_rounds (fun k => (barbicanlaw03_PackSizes.mono_l k) n m c x) (Nat.le_succ k) hk1
end PackSizesL
theorem PackSizes : barbicanlaw03_PackSizes.Pure := by
  intro n m hn hm
  obtain ⟨hn0, hn1⟩ := u64_wf hn
  obtain ⟨hm0, hm1⟩ := u64_wf hm
  exact ⟨200, PackSizesL.loop n m hn0 hn1 hm0 hm1 71 200 0 n hn0 (by omega) (by omega) (by omega) (by omega) (by omega)⟩
end Go.Proofs.Ytindggjkcnelcaa.Pure
