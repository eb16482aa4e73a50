import Derived.Test.YtindggjkcnelcaaDoorXAllx11
import Derived.Test.YtindggjkcnelcaaDoorXAllx10
import Derived.Test.YtindggjkcnelcaaDoorPure4
namespace Go.Proofs.YtindggjkcnelcaaDoor.Pure
open Go.RowKit Go.Proofs.YtindggjkcnelcaaDoor.XAll Go.Proofs.YtindggjkcnelcaaDoorW.PrintWords Go.Proofs.YtindggjkcnelcaaDoorW.PrintLast Go.Proofs.YtindggjkcnelcaaDoorW.PrintMore
open CrcL
set_option linter.unusedVariables false
set_option linter.unusedSimpArgs false
namespace BurstL
/-- Bytes as one number, the first the lowest. -/
def val : List Int → Nat
  | [] => 0
  | c :: l => c.toNat ^^^ 256 * val l
theorem mul256_xor (a b : Nat) : 256 * (a ^^^ b) = 256 * a ^^^ 256 * b := by
  have h := Nat.shiftLeft_xor_distrib (a := a) (b := b) (i := 8)
  simp only [Nat.shiftLeft_eq] at h
  rw [Nat.mul_comm 256, Nat.mul_comm 256, Nat.mul_comm 256]
  exact h
theorem DD_add (i j n : Nat) : DD (i + j) n = DD j (DD i n) := by
  induction i generalizing n with
  | zero => rw [Nat.zero_add]; rfl
  | succ i ih => rw [Nat.succ_add, DD, DD, ih]
theorem run_val (l : List Int) : ∀ x, run x l = DD (8 * l.length) (x ^^^ val l) := by
  induction l with
  | nil => intro x; simp [run_nil, val, DD]
  | cons c l ih =>
    intro x
    rw [run_cons, ih, List.length_cons, show 8 * (l.length + 1) = 8 + 8 * l.length by omega, DD_add, val, ← Nat.xor_assoc, DD_xor 8 (x ^^^ c.toNat), show DD 8 (256 * val l) = val l from DD_high 8 _]
    rfl
theorem D_ne (n : Nat) (h : n < 4294967296) (h0 : n ≠ 0) : D n ≠ 0 := by
  unfold D
  by_cases h1 : n % 2 = 1
  · rw [if_pos h1]
    intro h2
    have h3 : n / 2 = 3988292384 := by
      have := congrArg (fun z => z ^^^ 3988292384) h2
      simp only [Nat.xor_assoc, Nat.xor_self, Nat.xor_zero, Nat.zero_xor] at this
      exact this
    omega
  · rw [if_neg h1]
    omega
theorem DD_ne (j n : Nat) (h : n < 4294967296) (h0 : n ≠ 0) : DD j n ≠ 0 := by
  induction j generalizing n with
  | zero => exact h0
  | succ j ih => exact ih _ (D_lt n h) (D_ne n h h0)
theorem DD_shift (f j w : Nat) : DD (f + j) (2 ^ f * w) = DD j w := by rw [DD_add, DD_high]
theorem rd_succ (c : Int) (l : List Int) (j : Nat) : rd (c :: l) ((j + 1 : Nat) : Int) = rd l (j : Int) := by
  unfold rd
  rw [Int.toNat_natCast, Int.toNat_natCast]
  simp
theorem val_set (l : List Int) : ∀ (k : Nat), k / 8 < l.length → Bytes l → ∃ v : Int, v = Go.bits .xor .u8 (rd l ((k / 8 : Nat) : Int)) ((2 ^ (k % 8) : Nat) : Int) ∧ 0 ≤ v ∧ v < 256 ∧ val (l.set (k / 8) v) = val l ^^^ 2 ^ k := by
  induction l with
  | nil => intro k h; simp at h
  | cons c l ih =>
    intro k h hb
    have hc := hb c (by simp)
    have hp : 2 ^ (k % 8) < 256 := by
      have : 2 ^ (k % 8) ≤ 2 ^ 7 := Nat.pow_le_pow_right (by omega) (by omega)
      omega
    by_cases hk : k / 8 = 0
    · refine ⟨_, rfl, ?_⟩
      rw [hk]
      have hrd : rd (c :: l) ((0 : Nat) : Int) = c := by simp [rd]
      rw [hrd]
      obtain ⟨c, rfl⟩ := Int.eq_ofNat_of_zero_le hc.1
      have hx : c ^^^ 2 ^ (k % 8) < 256 := Nat.xor_lt_two_pow (n := 8) (by omega) (by omega)
      rw [Go.u8_xor_nat _ _ (by omega) hp]
      refine ⟨by omega, by omega, ?_⟩
      rw [List.set_cons_zero, val, val, Int.toNat_natCast, Int.toNat_natCast, show k % 8 = k by omega, Nat.xor_assoc, Nat.xor_comm (2 ^ k), ← Nat.xor_assoc]
    · obtain ⟨v, hv, h0, h1, h2⟩ := ih (k - 8) (by simp only [List.length_cons] at h; omega) (fun z hz => hb z (by simp [hz]))
      refine ⟨v, ?_, h0, h1, ?_⟩
      · rw [hv, show (k - 8) % 8 = k % 8 by omega]
        congr 1
        have e : k / 8 = (k - 8) / 8 + 1 := by omega
        rw [e, rd_succ]
      · have e : k / 8 = (k - 8) / 8 + 1 := by omega
        rw [e, List.set_cons_succ, val, val, h2, mul256_xor, ← Nat.xor_assoc]
        congr 1
        rw [show 256 = 2 ^ 8 by rfl, ← Nat.pow_add, show 8 + (k - 8) = k by omega]
theorem shl1 (j : Nat) (h : j < 8) : shl .u8 1 (j : Int) = ((2 ^ j : Nat) : Int) := by
  have h2 : ∀ i : Fin 8, shl .u8 1 ((i.val : Nat) : Int) = ((2 ^ i.val : Nat) : Int) := by decide +kernel
  exact h2 ⟨j, h⟩
theorem val_inj (a : List Int) : ∀ b : List Int, a.length = b.length → Bytes a → Bytes b → val a = val b → a = b := by
  induction a with
  | nil => intro b h _ _ _; exact (List.eq_nil_of_length_eq_zero h.symm).symm
  | cons p a ih =>
    intro b h ha hb hv
    cases b with
    | nil => simp at h
    | cons q b =>
      have hp := ha p (by simp)
      have hq := hb q (by simp)
      have key : ∀ (c : Int) (n : Nat), 0 ≤ c ∧ c < 256 → (c.toNat ^^^ 256 * n) % 256 = c.toNat ∧ (c.toNat ^^^ 256 * n) / 256 = n := by
        intro c n hc
        have e := split8 (c.toNat + 256 * n)
        rw [show (c.toNat + 256 * n) / 256 = n by omega, show (c.toNat + 256 * n) % 256 = c.toNat by omega, Nat.xor_comm] at e
        rw [← e]
        omega
      simp only [val] at hv
      have k1 := key p (val a) hp
      have k2 := key q (val b) hq
      rw [hv] at k1
      have e1 : p = q := by omega
      have e2 : val a = val b := by omega
      rw [e1, ih b (by simpa using h) (fun z hz => ha z (by simp [hz])) (fun z hz => hb z (by simp [hz])) e2]
theorem rd_left (l m : List Int) (i : Nat) (h : i < l.length) : rd (l ++ m) (i : Int) = rd l (i : Int) := by
  unfold rd
  rw [Int.toNat_natCast]
  simp [List.getElem?_append_left h]
/-- So much of a text is turned: so many bits from a place on. -/
def Turned (b y : List Int) (f w : Nat) : Prop := val y = val b ^^^ 2 ^ f * w
def Small (n w : Nat) : Prop := w < 2 ^ n
theorem small_up {n w : Nat} (h : Small n w) : Small (n + 1) w := by
  unfold Small at *
  rw [Nat.pow_succ]
  omega
theorem small_turn {n w : Nat} (h : Small n w) : Small (n + 1) (w ^^^ 2 ^ n) := Nat.xor_lt_two_pow (small_up h) (Nat.pow_lt_pow_right (by omega) (by omega))
theorem turn (b y : List Int) (f w i : Nat) (hq : (f + i) / 8 < y.length) (hb : Bytes y) (ht : Turned b y f w) :
    ∃ v : Int, v = Go.bits .xor .u8 (rd y (((f + i) / 8 : Nat) : Int)) ((2 ^ ((f + i) % 8) : Nat) : Int) ∧ 0 ≤ v ∧ v < 256 ∧ Turned b (y.set ((f + i) / 8) v) f (w ^^^ 2 ^ i) := by
  obtain ⟨v, h1, h2, h3, h4⟩ := val_set y (f + i) hq hb
  refine ⟨v, h1, h2, h3, ?_⟩
  unfold Turned at *
  rw [h4, ht, Nat.xor_assoc]
  congr 1
  have h := Nat.shiftLeft_xor_distrib (a := w) (b := 2 ^ i) (i := f)
  simp only [Nat.shiftLeft_eq] at h
  rw [Nat.mul_comm (2 ^ f), Nat.mul_comm (2 ^ f), h, ← Nat.pow_add, Nat.add_comm f]
/-- What was turned is told. -/
theorem told (b y : List Int) (hb : Bytes b) (hy : Bytes y) (hn : y.length = b.length) (f w : Nat) (hf : f < 8 * b.length) (hw : w < 4294967296) (hv : val y = val b ^^^ 2 ^ f * w) (hne : y ≠ b) :
    opened (y ++ be (upd 0 b)) = ([], some 11) := by
  have hw0 : w ≠ 0 := by
    rintro rfl
    rw [Nat.mul_zero, Nat.xor_zero] at hv
    exact hne (val_inj y b hn hy hb hv)
  unfold opened
  have hl : (y ++ be (upd 0 b)).length = b.length + 4 := by rw [List.length_append, be_len, hn]
  rw [if_neg (by omega), hl, show b.length + 4 - 4 = b.length by omega]
  have ht : (y ++ be (upd 0 b)).take b.length = y := by rw [← hn]; simp
  have hb4 := upd_lt 0 b
  have hs : tailSum (y ++ be (upd 0 b)) = upd 0 b := by
    unfold tailSum
    rw [hl, show b.length + 4 - 4 = y.length by omega]
    rw [show ((y.length : Nat) : Int) = ((y.length + 0 : Nat) : Int) by rfl, rd_right, rd_right, rd_right, rd_right]
    unfold dec be rd
    simp
    omega
  rw [ht, hs, if_neg]
  intro h
  have hrun : run 4294967295 y = run 4294967295 b := by
    have h1 := run_lt y 4294967295 (by omega) hy
    have h2 := run_lt b 4294967295 (by omega) hb
    clear hv
    unfold upd at h
    simp only [Nat.sub_zero] at h
    omega
  rw [run_val, run_val, hn, hv, ← Nat.xor_assoc, DD_xor _ (4294967295 ^^^ val b)] at hrun
  have h3 : DD (8 * b.length) (2 ^ f * w) = 0 := by
    have := congrArg (fun z => DD (8 * b.length) (4294967295 ^^^ val b) ^^^ z) hrun
    simp only [← Nat.xor_assoc, Nat.xor_self, Nat.zero_xor] at this
    exact this
  rw [show 8 * b.length = f + (8 * b.length - f) by omega, DD_shift] at h3
  exact DD_ne _ w hw hw0 h3
theorem loop (b : List Int) (a2 : Int) (hb : Bytes b) (h1 : 0 < b.length) (hm : b.length ≤ 140737488351232) (f : Nat) (hf : f < 8 * b.length) (d : Nat) : ∀ (k i : Nat) (y : List Int) (w : Nat), i + d = 32 → d < k → y.length = b.length → Bytes y → Small i w → Turned b y f w →
    barbicanlaw04_CrcBursts.l0 k b a2 (y ++ be (upd 0 b)) (f : Int) (i : Int) = some true := by
  induction d with
  | zero =>
    intro k i y w hi hk hy hyb hw hv
    obtain ⟨k, rfl⟩ : ∃ q, k = q + 1 := ⟨k - 1, by omega⟩
    have hl : (y ++ be (upd 0 b)).length = b.length + 4 := by rw [List.length_append, be_len, hy]
    have ht : (y ++ be (upd 0 b)).take b.length = y := by rw [← hy]; simp
    have hw32 : w < 4294967296 := by
      obtain rfl : i = 32 := by omega
      exact hw
    simp only [barbicanlaw04_CrcBursts.l0]
    rw [if_neg (by omega), if_pos (by omega), if_pos (by omega), Int.toNat_natCast, ht]
    by_cases hs : (strOfNums y).toList = (strOfNums b).toList
    · rw [if_pos hs, sure4, Option.bind_some]
    · have hne : y ≠ b := by rintro rfl; exact hs rfl
      rw [if_neg hs, open_f _ (bytes_append hyb (be_bytes _)) (by omega), told b y hb hyb hy f w hf hw32 hv hne, Option.bind_some]
      simp only [barbicanlaw04_num.f]
      rw [Option.bind_some, if_pos (by rfl), if_pos (by rfl), sure4, Option.bind_some]
  | succ d ih =>
    intro k i y w hi hk hy hyb hw hv
    obtain ⟨k, rfl⟩ : ∃ q, k = q + 1 := ⟨k - 1, by omega⟩
    have hl : (y ++ be (upd 0 b)).length = b.length + 4 := by rw [List.length_append, be_len, hy]
    have hnext : wrap64 ((i : Int) + 1) = ((i + 1 : Nat) : Int) := by rw [wrap64_small _ (by omega) (by omega)]; omega
    have hu : ∀ x : Int, 0 ≤ IntKind.u64.wrap x := by intro x; simp [IntKind.wrap, IntKind.signed, IntKind.bits]; omega
    have skip := ih k (i + 1) y w (by omega) (by omega) hy hyb (small_up hw) hv
    have hsum : wrap64 ((f : Int) + (i : Int)) = ((f + i : Nat) : Int) := by rw [wrap64_small _ (by omega) (by omega)]; omega
    have c32 : (i : Int) < 32 := by omega
    have h8 : wrap64 (8 * (b.length : Int)) = 8 * (b.length : Int) := wrap64_small _ (by omega) (by omega)
    simp only [barbicanlaw04_CrcBursts.l0]
    rw [if_pos c32, if_pos (hu _), hnext, hsum, h8]
    generalize Go.bits .and .u32 (shr .u32 a2 (IntKind.u64.wrap (i : Int))) 1 = z
    split
    · by_cases hin : ((f + i : Nat) : Int) < 8 * (b.length : Int)
      · rw [if_pos hin]
        have hq : (f + i) / 8 < y.length := by omega
        have c1 : 0 ≤ (((f + i) / 8 : Nat) : Int) := by clear hnext hsum h8; omega
        have c2 : (((f + i) / 8 : Nat) : Int) < (((y ++ be (upd 0 b)).length : Nat) : Int) := by clear hnext hsum h8; omega
        have c3 : 0 ≤ (((f + i) % 8 : Nat) : Int) := by clear hnext hsum h8; omega
        have c4 : (f + i) % 8 < 8 := by clear hnext hsum h8; omega
        obtain ⟨v, hv1, hv2, hv3, hv4⟩ := turn b y f w i hq hyb hv
        have e1 : wrap64 (Int.tdiv ((f + i : Nat) : Int) 8) = (((f + i) / 8 : Nat) : Int) := by
          clear hv1
          rw [Int.tdiv_eq_ediv_of_nonneg (by omega), wrap64_small _ (by omega) (by omega)]; omega
        have e2 : IntKind.u64.wrap (Int.tmod ((f + i : Nat) : Int) 8) = (((f + i) % 8 : Nat) : Int) := by
          clear hv1
          rw [Int.tmod_eq_emod_of_nonneg (by omega)]; simp [IntKind.wrap, IntKind.signed, IntKind.bits]; omega
        rw [e1, e2, if_pos c1, if_pos c2, if_pos c3, shl1 _ c4, rd_left _ _ _ hq, ← hv1, Int.toNat_natCast, List.set_append_left _ _ hq]
        clear hv1
        clear e1 e2
        refine ih k (i + 1) (y.set ((f + i) / 8) v) (w ^^^ 2 ^ i) (by omega) (by omega) (by rw [List.length_set, hy]) ?_ (small_turn hw) hv4
        intro x hx
        rcases List.mem_or_eq_of_mem_set hx with h | h
        · exact hyb x h
        · subst h; exact ⟨hv2, hv3⟩
      · rw [if_neg hin]; exact skip
    · exact skip
end BurstL
open BurstL in
theorem CrcBursts (l0 : List Int) (a1 : Int) (a2 : Int) (g0 : (fun xs : List Int => xs.length ≤ maxLen ∧ ∀ x ∈ xs, (fun n : Int => (Lit.int .u8 n).wf = true) x) l0) (b0 : l0.length * 1 ≤ 140737488351232) (g1 : (fun n : Int => (Lit.int .i64 n).wf = true) a1) (g2 : (fun n : Int => (Lit.int .u32 n).wf = true) a2) : ∃ k, barbicanlaw04_CrcBursts.f k l0 a1 a2 = some true := by
  have hb : Bytes l0 := bytes_wf g0.2
  have hs := seal_len l0
  obtain ⟨k, hk⟩ : ∃ k : Nat, 100 ≤ k := ⟨_, Nat.le_refl _⟩
  refine ⟨k + 1, ?_⟩
  have hj1 : barbicanlaw04_CrcBursts.j0 (k + 1) l0 a1 a2 true = some true := by
    simp only [barbicanlaw04_CrcBursts.j0]
    rw [if_pos trivial, twin4 _ (by omega), Option.bind_some, seal_f _ hb (by omega), Option.bind_some, open_f _ (seal_bytes _ hb) (by omega), Option.bind_some, opened_seal, if_pos (by rfl), sure4, Option.bind_some]
  unfold barbicanlaw04_CrcBursts.f
  by_cases h0 : l0.length = 0
  · rw [if_pos (by omega)]; exact hj1
  · rw [if_neg (by omega)]
    cases hc : (a2 == 0) with
    | true => exact hj1
    | false =>
      simp only [barbicanlaw04_CrcBursts.j0]
      have hu : 0 ≤ IntKind.u64.wrap a1 := by simp [IntKind.wrap, IntKind.signed, IntKind.bits]; omega
      have e8 : IntKind.u64.wrap (wrap64 (8 * (l0.length : Int))) = ((8 * l0.length : Nat) : Int) := by rw [wrap64_small _ (by omega) (by omega)]; simp [IntKind.wrap, IntKind.signed, IntKind.bits]; omega
      rw [if_neg (by decide), twin4 _ (by omega), Option.bind_some, seal_f _ hb (by omega), Option.bind_some, wrap64_small ((l0.length : Int) + 4) (by omega) (by omega), if_pos (by omega), e8, if_neg (by omega), Int.tmod_eq_emod_of_nonneg hu]
      obtain ⟨f, hf⟩ : ∃ f : Nat, (f : Int) = IntKind.u64.wrap a1 % ((8 * l0.length : Nat) : Int) := ⟨(IntKind.u64.wrap a1 % ((8 * l0.length : Nat) : Int)).toNat, Int.toNat_of_nonneg (Int.emod_nonneg _ (by omega))⟩
      have hlt : IntKind.u64.wrap a1 % ((8 * l0.length : Nat) : Int) < ((8 * l0.length : Nat) : Int) := Int.emod_lt_of_pos _ (by omega)
      rw [← hf] at hlt ⊢
      rw [wrap64_small (f : Int) (by omega) (by omega)]
      have h := loop l0 a2 hb (by omega) (by omega) f (by omega) 32 k 0 l0 0 (by omega) (by omega) rfl hb (by unfold Small; decide) (by unfold Turned; simp)
      exact h
end Go.Proofs.YtindggjkcnelcaaDoor.Pure
