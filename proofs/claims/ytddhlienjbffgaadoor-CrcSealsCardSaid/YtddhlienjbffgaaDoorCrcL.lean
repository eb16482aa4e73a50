import Derived.Test.YtddhlienjbffgaaDoorXAllx1
import Derived.Test.YtddhlienjbffgaaDoorXAllx3
import Derived.Laws.BitsAllLaws
namespace Go.Proofs.YtddhlienjbffgaaDoor.Pure
open Go.RowKit Go.Proofs.YtddhlienjbffgaaDoor.XAll Go.Proofs.YtddhlienjbffgaaDoorW.PrintWords Go.Proofs.YtddhlienjbffgaaDoorW.PrintLast
/- The sum of bytes, over naturals: a state is divided bit by bit; this is linear. -/
namespace CrcL
theorem wrap64_small (x : Int) (h0 : -9223372036854775808 ≤ x) (h1 : x < 9223372036854775808) : wrap64 x = x := by
  unfold wrap64
  omega
def D (n : Nat) : Nat := if n % 2 = 1 then n / 2 ^^^ 3988292384 else n / 2
def DD : Nat → Nat → Nat
  | 0, n => n
  | j + 1, n => DD j (D n)
theorem xor_div2 (a b : Nat) : (a ^^^ b) / 2 = a / 2 ^^^ b / 2 := Nat.xor_div_two
theorem xor_mod2 (a b : Nat) : (a ^^^ b) % 2 = (a + b) % 2 := by
  rw [show (a ^^^ b) % 2 = (a % 2 ^^^ b % 2) % 2 by rw [show 2 = 2 ^ 1 by rfl, Nat.xor_mod_two_pow, Nat.xor_mod_two_pow]; simp]
  rcases Nat.mod_two_eq_zero_or_one a with h | h <;> rcases Nat.mod_two_eq_zero_or_one b with h2 | h2 <;> rw [h, h2] <;> simp <;> omega
theorem D_xor (a b : Nat) : D (a ^^^ b) = D a ^^^ D b := by
  unfold D
  rw [xor_div2, xor_mod2]
  by_cases ha : a % 2 = 1 <;> by_cases hb : b % 2 = 1
  · rw [if_neg (by omega), if_pos ha, if_pos hb]
    rw [Nat.xor_assoc, ← Nat.xor_assoc 3988292384, Nat.xor_comm 3988292384, Nat.xor_assoc (b / 2), Nat.xor_self, Nat.xor_zero]
  · rw [if_pos (by omega), if_pos ha, if_neg hb, Nat.xor_assoc, Nat.xor_comm (b / 2), ← Nat.xor_assoc]
  · rw [if_pos (by omega), if_neg ha, if_pos hb, Nat.xor_assoc]
  · rw [if_neg (by omega), if_neg ha, if_neg hb]
theorem DD_xor (j a b : Nat) : DD j (a ^^^ b) = DD j a ^^^ DD j b := by
  induction j generalizing a b with
  | zero => rfl
  | succ j ih => rw [DD, DD, DD, D_xor, ih]
theorem D_lt (n : Nat) (h : n < 4294967296) : D n < 4294967296 := by
  unfold D
  split
  · exact Nat.xor_lt_two_pow (n := 32) (by omega) (by omega)
  · omega
theorem DD_lt (j n : Nat) (h : n < 4294967296) : DD j n < 4294967296 := by
  induction j generalizing n with
  | zero => exact h
  | succ j ih => exact ih _ (D_lt n h)
theorem DD_high (j h : Nat) : DD j (2 ^ j * h) = h := by
  induction j with
  | zero => simp [DD]
  | succ j ih =>
    rw [DD]
    have : D (2 ^ (j + 1) * h) = 2 ^ j * h := by
      unfold D
      rw [Nat.pow_succ, Nat.mul_right_comm]
      rw [if_neg (by omega)]
      omega
    rw [this, ih]
theorem split8 (x : Nat) : x = 256 * (x / 256) ^^^ x % 256 := by
  apply Nat.eq_of_testBit_eq
  intro i
  rw [Nat.testBit_xor, show 256 = 2 ^ 8 by rfl, Nat.testBit_mod_two_pow, Nat.mul_comm, Nat.testBit_mul_two_pow, Nat.testBit_div_two_pow]
  by_cases h : i < 8
  · simp [h, show ¬ 8 ≤ i by omega]
  · simp [h, show 8 ≤ i by omega, show i - 8 + 8 = i by omega]
def st (x c : Nat) : Nat := DD 8 (x ^^^ c)
theorem st_lt (x c : Nat) (h : x < 4294967296) (hc : c < 256) : st x c < 4294967296 := DD_lt _ _ (Nat.xor_lt_two_pow (n := 32) (by omega) (by omega))
theorem st_split (x c : Nat) : x / 256 ^^^ DD 8 (x % 256 ^^^ c) = st x c := by
  have h := DD_xor 8 (256 * (x / 256)) (x % 256 ^^^ c)
  rw [show DD 8 (256 * (x / 256)) = x / 256 from DD_high 8 _, ← Nat.xor_assoc, ← split8] at h
  exact h.symm
def run (x : Nat) (l : List Int) : Nat := l.foldl (fun x c => st x c.toNat) x
theorem run_nil (x : Nat) : run x [] = x := rfl
theorem run_cons (x : Nat) (c : Int) (l : List Int) : run x (c :: l) = run (st x c.toNat) l := rfl
theorem run_append (x : Nat) (l m : List Int) : run x (l ++ m) = run (run x l) m := by simp [run]
def Bytes (l : List Int) : Prop := ∀ x ∈ l, 0 ≤ x ∧ x < 256
theorem run_lt (l : List Int) : ∀ (x : Nat), x < 4294967296 → Bytes l → run x l < 4294967296 := by
  induction l with
  | nil => exact fun x h _ => h
  | cons c l ih =>
    intro x h hl
    rw [run_cons]
    have := hl c (by simp)
    exact ih _ (st_lt _ _ h (by omega)) (fun z hz => hl z (by simp [hz]))
theorem ones_xor (x : Nat) (h : x < 4294967296) : 4294967295 ^^^ x = 4294967295 - x := by
  apply Nat.eq_of_testBit_eq
  intro i
  rw [Nat.testBit_xor, show 4294967295 = 2 ^ 32 - 1 by rfl, Nat.testBit_two_pow_sub_one, show 2 ^ 32 - 1 - x = 2 ^ 32 - (x + 1) by omega, Nat.testBit_two_pow_sub_succ (by omega)]
  by_cases hi : i < 32
  · simp [hi]
  · simp [hi, Nat.testBit_lt_two_pow (Nat.lt_of_lt_of_le h (Nat.pow_le_pow_right (n := 2) (by omega) (show 32 ≤ i by omega)))]
def upd (a : Nat) (l : List Int) : Nat := 4294967295 - run (4294967295 - a) l
theorem upd_append (a : Nat) (l m : List Int) (ha : a < 4294967296) (hl : Bytes l) : upd a (l ++ m) = upd (upd a l) m := by
  unfold upd
  have := run_lt l (4294967295 - a) (by omega) hl
  rw [run_append, show 4294967295 - (4294967295 - run (4294967295 - a) l) = run (4294967295 - a) l by omega]
theorem crcR_eq (c : Nat) (h : c < 256) : crcR (c : Int) = ((DD 8 c : Nat) : Int) := by
  have h2 : ∀ i : Fin 256, crcR (i.val : Int) = ((DD 8 i.val : Nat) : Int) := by decide +kernel
  exact h2 ⟨c, h⟩
theorem crcStep_eq (x : Nat) (c : Int) (hx : x < 4294967296) (h0 : 0 ≤ c) (h1 : c < 256) : crcStep (x : Int) c = ((st x c.toNat : Nat) : Int) := by
  obtain ⟨n, rfl⟩ := Int.eq_ofNat_of_zero_le h0
  unfold crcStep
  have hl : x % 256 ^^^ n < 256 := Nat.xor_lt_two_pow (n := 8) (by omega) (by omega)
  rw [show ((x : Int) % 256) = ((x % 256 : Nat) : Int) by omega, Go.u8_xor_nat _ _ (by omega) (by omega), crcR_eq _ hl, show ((x : Int) / 256) = ((x / 256 : Nat) : Int) by omega,
    Go.u32_xor_nat _ _ (by omega) (DD_lt _ _ (by omega)), st_split]
  rfl
theorem crcNot_eq (x : Nat) (hx : x < 4294967296) : crcNot (x : Int) = ((4294967295 - x : Nat) : Int) := by
  unfold crcNot
  rw [show IntKind.u32.max = ((4294967295 : Nat) : Int) by rfl, Go.u32_xor_nat _ _ (by omega) hx, ones_xor _ hx]
theorem fold_eq (l : List Int) : ∀ (x : Nat), x < 4294967296 → Bytes l → l.foldl crcStep (x : Int) = ((run x l : Nat) : Int) := by
  induction l with
  | nil => exact fun x h _ => rfl
  | cons c l ih =>
    intro x h hl
    have hc := hl c (by simp)
    rw [List.foldl_cons, crcStep_eq x c h hc.1 hc.2, run_cons]
    exact ih _ (st_lt _ _ h (by omega)) (fun z hz => hl z (by simp [hz]))
theorem update_f (a : Nat) (l : List Int) (ha : a < 4294967296) (hl : Bytes l) : crc_Update.f (a : Int) l = some ((upd a l : Nat) : Int) := by
  unfold crc_Update.f upd
  split
  · have : l = [] := List.eq_nil_of_length_eq_zero (by omega)
    subst this
    rw [run_nil, show 4294967295 - (4294967295 - a) = a by omega]
  · rw [crcNot_eq _ ha, fold_eq _ _ (by omega) hl, crcNot_eq _ (run_lt _ _ (by omega) hl)]
theorem divide_f (n : Nat) (h : n < 4294967296) : barbicanref04_divide.f (n : Int) = some ((D n : Nat) : Int) := by
  unfold barbicanref04_divide.f D
  rw [Int.tmod_eq_emod_of_nonneg (by omega), Int.tdiv_eq_ediv_of_nonneg (by omega)]
  by_cases h2 : n % 2 = 1
  · rw [if_pos (by omega), if_pos h2, show ((n : Int) / 2 % 4294967296) = ((n / 2 : Nat) : Int) by omega]
    rw [show (3988292384 : Int) = ((3988292384 : Nat) : Int) by rfl, Go.u32_xor_nat _ _ (by omega) (by omega)]
  · rw [if_neg (by omega), if_neg h2, show ((n : Int) / 2 % 4294967296) = ((n / 2 : Nat) : Int) by omega]
theorem rem_loop (j : Nat) : ∀ (k n : Nat), n < 4294967296 → j ≤ 8 → j < k → barbicanref04_Remainder.l0 k (n : Int) ((8 - j : Nat) : Int) = some ((DD j n : Nat) : Int) := by
  induction j with
  | zero =>
    intro k n h _ hk
    obtain ⟨k, rfl⟩ : ∃ q, k = q + 1 := ⟨k - 1, by omega⟩
    simp only [barbicanref04_Remainder.l0]
    rw [if_neg (by omega)]; rfl
  | succ j ih =>
    intro k n h hj hk
    obtain ⟨k, rfl⟩ : ∃ q, k = q + 1 := ⟨k - 1, by omega⟩
    simp only [barbicanref04_Remainder.l0]
    rw [if_pos (by omega), divide_f n h, Option.bind_some, wrap64_small _ (by omega) (by omega), show (((8 - (j + 1) : Nat) : Int) + 1) = ((8 - j : Nat) : Int) by omega]
    exact ih k _ (D_lt n h) (by omega) (by omega)
theorem rem_f (k n : Nat) (h : n < 4294967296) (hk : 8 < k) : barbicanref04_Remainder.f k (n : Int) = some ((DD 8 n : Nat) : Int) := rem_loop 8 k n h (Nat.le_refl _) hk
theorem ref_loop (l : List Int) (hl : Bytes l) (hm : l.length ≤ 140737488355328) (j : Nat) : ∀ (k x : Nat), j ≤ l.length → x < 4294967296 → j + 10 < k →
    barbicanref04_Update.l0 k l (x : Int) ((l.length - j : Nat) : Int) = some ((4294967295 - run x (l.drop (l.length - j)) : Nat) : Int) := by
  induction j with
  | zero =>
    intro k x _ hx hk
    obtain ⟨k, rfl⟩ : ∃ q, k = q + 1 := ⟨k - 1, by omega⟩
    simp only [barbicanref04_Update.l0]
    rw [if_neg (by omega), Nat.sub_zero, List.drop_length, run_nil]
    congr 1
    omega
  | succ j ih =>
    intro k x hj hx hk
    obtain ⟨k, rfl⟩ : ∃ q, k = q + 1 := ⟨k - 1, by omega⟩
    have hlt : l.length - (j + 1) < l.length := by omega
    have hb := hl l[l.length - (j + 1)] (List.getElem_mem _)
    have hrd : rd l ((l.length - (j + 1) : Nat) : Int) = l[l.length - (j + 1)] := by
      unfold rd; rw [Int.toNat_natCast]; simp [hlt]
    simp only [barbicanref04_Update.l0]
    rw [if_pos (by omega), if_pos (by omega), hrd, List.drop_eq_getElem_cons hlt, run_cons]
    generalize l[l.length - (j + 1)] = c at hb
    obtain ⟨c, rfl⟩ := Int.eq_ofNat_of_zero_le hb.1
    rw [show (c : Int) % 4294967296 = ((c : Nat) : Int) by omega, Go.u32_xor_nat _ _ hx (by omega), rem_f k _ (Nat.xor_lt_two_pow (n := 32) (by omega) (by omega)) (by omega), Option.bind_some, wrap64_small _ (by omega) (by omega),
      show (((l.length - (j + 1) : Nat) : Int) + 1) = ((l.length - j : Nat) : Int) by omega, show l.length - (j + 1) + 1 = l.length - j by omega]
    exact ih k _ (by omega) (st_lt _ _ hx (by omega)) (by omega)
theorem ref_f (k a : Nat) (l : List Int) (ha : a < 4294967296) (hl : Bytes l) (hm : l.length ≤ 140737488355328) (hk : l.length + 10 < k) : barbicanref04_Update.f k (a : Int) l = some ((upd a l : Nat) : Int) := by
  unfold barbicanref04_Update.f
  rw [show ((4294967295 - (a : Int)) % 4294967296) = ((4294967295 - a : Nat) : Int) by omega]
  have h := ref_loop l hl hm l.length k (4294967295 - a) (Nat.le_refl _) (by omega) hk
  rw [Nat.sub_self, List.drop_zero] at h
  exact h
theorem bytes_wf {l : List Int} (h : ∀ x ∈ l, (Lit.int .u8 x).wf = true) : Bytes l := by
  intro x hx
  have := h x hx
  simp [Lit.wf, IntKind.min, IntKind.max, IntKind.signed, IntKind.bits] at this
  omega
theorem u32_wf {n : Int} (h : (Lit.int .u32 n).wf = true) : 0 ≤ n ∧ n < 4294967296 := by
  simp [Lit.wf, IntKind.min, IntKind.max, IntKind.signed, IntKind.bits] at h
  omega
theorem sum_f (l : List Int) (hl : Bytes l) : crc_Update.f 0 l = some ((upd 0 l : Nat) : Int) := update_f 0 l (by omega) hl
end CrcL
end Go.Proofs.YtddhlienjbffgaaDoor.Pure
