/- The plain law of numbers as bytes: what AppendUint lays, byte by byte. No condition but the kinds' own bounds. -/
import Derived.Test.YtindggjkcnelcaaXAllx2
import Derived.Test.YtindggjkcnelcaaXAllx11
namespace Go.Proofs.Ytindggjkcnelcaa.PackL
open Go.RowKit Go.Proofs.Ytindggjkcnelcaa.XAll Go.Proofs.YtindggjkcnelcaaW.PrintWords Go.Proofs.YtindggjkcnelcaaW.PrintLast Go.Proofs.YtindggjkcnelcaaW.PrintMore
set_option linter.unusedVariables false
set_option linter.unusedSimpArgs false

/-- A number in groups of seven bits, the lowest first. -/
def uv : Nat → Int → List Int
  | 0, n => [n]
  | j + 1, n => if 128 ≤ n then (n % 128 + 128) :: uv j (n / 128) else [n]

theorem u64_wf {n : Int} (h : (Lit.int .u64 n).wf = true) : 0 ≤ n ∧ n < 18446744073709551616 := by
  simp [Lit.wf, IntKind.min, IntKind.max, IntKind.signed, IntKind.bits] at h
  omega
theorem i64_wf {n : Int} (h : (Lit.int .i64 n).wf = true) : -9223372036854775808 ≤ n ∧ n ≤ 9223372036854775807 := by
  simp [Lit.wf, IntKind.min, IntKind.max, IntKind.signed, IntKind.bits] at h
  omega
theorem u8_wf {n : Int} (h : (Lit.int .u8 n).wf = true) : 0 ≤ n ∧ n < 256 := by
  simp [Lit.wf, IntKind.min, IntKind.max, IntKind.signed, IntKind.bits] at h
  omega
theorem or128 (x : Int) (h0 : 0 ≤ x) (h1 : x < 256) : Go.bits .or .u8 x 128 = x % 128 + 128 := by
  have h : ∀ i : Fin 256, Go.bits .or .u8 (i.val : Int) 128 = (i.val : Int) % 128 + 128 := by decide +kernel
  have := h ⟨x.toNat, by omega⟩
  simpa [Int.toNat_of_nonneg h0] using this
theorem wrap64_small (n : Int) (h0 : -9223372036854775808 ≤ n) (h1 : n ≤ 9223372036854775807) : wrap64 n = n := by
  unfold wrap64
  omega
theorem u64_small (n : Int) (h0 : 0 ≤ n) (h1 : n < 18446744073709551616) : IntKind.u64.wrap n = n := by
  simp [IntKind.wrap, IntKind.signed, IntKind.bits]
  omega
theorem u64_mod (n : Int) : IntKind.u64.wrap n = n % 18446744073709551616 := by
  simp [IntKind.wrap, IntKind.signed, IntKind.bits]

theorem uv_len (j : Nat) : ∀ n : Int, 1 ≤ (uv j n).length ∧ (uv j n).length ≤ j + 1 := by
  induction j with
  | zero => intro n; simp [uv]
  | succ j ih =>
    intro n
    have h := ih (n / 128)
    simp only [uv]
    split
    · simp only [List.length_cons]; omega
    · simp
theorem uv_byte (j : Nat) : ∀ n : Int, 0 ≤ n → n < 128 * 128 ^ j → ∀ c ∈ uv j n, 0 ≤ c ∧ c < 256 := by
  induction j with
  | zero => intro n h0 h1 c hc; simp [uv] at hc; subst hc; omega
  | succ j ih =>
    intro n h0 h1 c hc
    rw [Int.pow_succ] at h1
    simp only [uv] at hc
    split at hc
    · rcases List.mem_cons.1 hc with rfl | hc
      · omega
      · exact ih (n / 128) (by omega) (by omega) c hc
    · simp at hc; subst hc; omega
theorem append_l0 (j : Nat) : ∀ (k : Nat) (n : Int) (l : List Int), 0 ≤ n → n < 128 * 128 ^ j → j < k → l.length + j < 140737488355328 → pack_AppendUint.l0 k n l = some (l ++ uv j n) := by
  induction j with
  | zero =>
    intro k n l h0 h1 hk hl
    obtain ⟨k, rfl⟩ : ∃ m, k = m + 1 := ⟨k - 1, by omega⟩
    simp only [pack_AppendUint.l0]
    rw [if_neg (by omega), if_pos (by omega), show n % 256 = n by omega]
    rfl
  | succ j ih =>
    intro k n l h0 h1 hk hl
    rw [Int.pow_succ] at h1
    obtain ⟨k, rfl⟩ : ∃ m, k = m + 1 := ⟨k - 1, by omega⟩
    simp only [pack_AppendUint.l0, uv]
    by_cases hn : 128 ≤ n
    · rw [if_pos (by omega), if_pos (by omega), if_pos hn, or128 _ (by omega) (by omega), show n % 256 % 128 = n % 128 by omega]
      rw [ih k (n / 128) _ (by omega) (by omega) (by omega) (by simp; omega)]
      simp
    · rw [if_neg (by omega), if_pos (by omega), if_neg hn, show n % 256 = n by omega]
theorem append_f (k : Nat) (l : List Int) (n : Int) (h0 : 0 ≤ n) (h1 : n < 18446744073709551616) (hl : l.length ≤ 140737488355300) (hk : 10 ≤ k) : pack_AppendUint.f k l n = some (l ++ uv 9 n) := by
  unfold pack_AppendUint.f
  rw [wrap64_small _ (by omega) (by omega), if_pos (by omega), if_pos (by omega)]
  simp only [Option.bind_some, List.nil_append, List.length_nil]
  rw [if_pos (by omega)]
  exact append_l0 9 k n l h0 (by omega) (by omega) (by omega)
theorem uv_mono (j : Nat) : ∀ n m : Int, 0 ≤ n → n ≤ m → (uv j n).length ≤ (uv j m).length := by
  induction j with
  | zero => intro n m _ _; simp [uv]
  | succ j ih =>
    intro n m h0 h
    have h1 := ih (n / 128) (m / 128) (by omega) (by omega)
    have h2 := uv_len j (m / 128)
    simp only [uv]
    by_cases hn : 128 ≤ n
    · rw [if_pos hn, if_pos (by omega)]; simp; omega
    · rw [if_neg hn]
      split <;> simp

theorem strOfNums_append (a b : List Int) : strOfNums (a ++ b) = strOfNums a ++ strOfNums b := by
  apply ByteArray.ext
  simp [strOfNums, ByteArray.data_append]
theorem strOfNums_bytesOf (s : ByteArray) : strOfNums (bytesOf s) = s := by
  apply ByteArray.ext
  simp [strOfNums, bytesOf, Function.comp_def]
theorem uints_f (j : Nat) : ∀ (k : Nat) (n : Int), 0 ≤ n → n < 18446744073709551616 → n < 128 * 128 ^ j → j < k → j < 1000 → barbicanref03_Uints.f k n = some (uv j n) := by
  induction j with
  | zero =>
    intro k n h0 h64 h1 hk _
    obtain ⟨k, rfl⟩ : ∃ m, k = m + 1 := ⟨k - 1, by omega⟩
    simp only [barbicanref03_Uints.f]
    rw [if_pos (by omega), show n % 256 = n by omega]
    rfl
  | succ j ih =>
    intro k n h0 h64 h1 hk hj
    rw [Int.pow_succ] at h1
    obtain ⟨k, rfl⟩ : ∃ m, k = m + 1 := ⟨k - 1, by omega⟩
    simp only [barbicanref03_Uints.f, uv]
    by_cases hn : 128 ≤ n
    · rw [if_neg (by omega), if_pos hn]
      simp only [Option.bind_some]
      rw [Int.tdiv_eq_ediv_of_nonneg h0, Int.tmod_eq_emod_of_nonneg h0]
      have hlt := uv_len j (n / 128)
      rw [u64_small _ (by omega) (by omega), ih k (n / 128) (by omega) (by omega) (by omega) (by omega) (by omega)]
      simp only [Option.bind_some]
      rw [if_pos (by simp; omega), show (n % 128 % 256 + 128) % 256 = n % 128 + 128 by omega]
      rfl
    · rw [if_pos (by omega), if_neg hn, show n % 256 = n by omega]
end Go.Proofs.Ytindggjkcnelcaa.PackL
