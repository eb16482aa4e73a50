/- The text of values that may be is read as they were. -/
import Derived.Test.YtcchjnadhjeniaaXAllx23
import Derived.Test.YtcchjnadhjeniaaEncL3
import Derived.Lib.IndexLaws
namespace Go.Proofs.Ytcchjnadhjeniaa.Pure
open Go.RowKit Go.Proofs.Ytcchjnadhjeniaa.XAll Go.Proofs.YtcchjnadhjeniaaW.PrintWords Go.Proofs.YtcchjnadhjeniaaW.PrintLast Go.Proofs.YtcchjnadhjeniaaW.PrintMore
set_option linter.unusedVariables false
set_option linter.unusedSimpArgs false
open ValueL
namespace EncL
theorem beN_get : ∀ (d n i : Nat) (h : i < (beN d n).length), (beN d n)[i] = ((n / 256 ^ (d - 1 - i) % 256 : Nat) : Int)
  | 0, n, i, h => by simp [beN] at h
  | d + 1, n, 0, h => by simp [beN]
  | d + 1, n, i + 1, h => by
    have h' : i < (beN d n).length := by simpa [beN] using h
    have e := beN_get d n i h'
    simp only [beN, List.getElem_cons_succ]
    rw [e, show d + 1 - 1 - (i + 1) = d - 1 - i by omega]
theorem or_byte (x b : Nat) (hx : x < 72057594037927936) (hb : b < 256) : Go.bits .or .u64 (IntKind.u64.wrap ((x : Int) * 256)) (IntKind.u64.wrap (b : Int)) = ((x * 256 + b : Nat) : Int) := by
  have e1 : IntKind.u64.wrap ((x : Int) * 256) = ((x * 256 : Nat) : Int) := by simp [IntKind.wrap, IntKind.signed, IntKind.bits]; omega
  have e2 : IntKind.u64.wrap (b : Int) = ((b : Nat) : Int) := by simp [IntKind.wrap, IntKind.signed, IntKind.bits]; omega
  rw [e1, e2, Go.u64_or_nat _ _ (by omega) (by omega)]
  have h := Nat.shiftLeft_add_eq_or_of_lt (i := 8) (b := b) (by omega) x
  rw [Nat.shiftLeft_eq] at h
  rw [← h]
theorem number_l0 (n : Nat) (hn : n < 18446744073709551616) : ∀ (d i k : Nat), i + d = 8 → d < k → order_number.l0 k (strOfNums (beN 8 n)) ((n / 256 ^ d : Nat) : Int) 8 (i : Int) = some (n : Int)
  | 0, i, k, hi, hk => by
    obtain ⟨k, rfl⟩ : ∃ q, k = q + 1 := ⟨k - 1, by omega⟩
    simp only [order_number.l0]
    rw [if_neg (by omega)]
    simp
  | d + 1, i, k, hi, hk => by
    obtain ⟨k, rfl⟩ : ∃ q, k = q + 1 := ⟨k - 1, by omega⟩
    simp only [order_number.l0]
    have hs : (strOfNums (beN 8 n)).size = 8 := by rw [son_size, beN_len]
    have hil : i < (beN 8 n).length := by rw [beN_len]; omega
    have hlt : n / 256 ^ (d + 1) < 72057594037927936 := by
      rw [Nat.pow_succ, Nat.mul_comm, ← Nat.div_div_eq_div_mul]
      have : n / 256 < 72057594037927936 := by omega
      exact Nat.lt_of_le_of_lt (Nat.div_le_self _ _) this
    rw [if_pos (by omega), if_pos (by omega), if_pos (by rw [hs]; omega), son_bt _ (beN_byt 8 n) i hil, beN_get 8 n i hil, show 8 - 1 - i = d by omega, or_byte _ _ hlt (Nat.mod_lt _ (by omega)), show wrap64 ((i : Int) + 1) = ((i + 1 : Nat) : Int) by rw [w64 _ (by omega) (by omega)]; omega]
    have e : n / 256 ^ (d + 1) * 256 + n / 256 ^ d % 256 = n / 256 ^ d := by
      rw [Nat.pow_succ, ← Nat.div_div_eq_div_mul]
      omega
    rw [e]
    exact number_l0 n hn d (i + 1) k (by omega) (by omega)
theorem number_f (n k : Nat) (hn : n < 18446744073709551616) (hk : 9 ≤ k) : order_number.f k (strOfNums (beN 8 n)) = some (n : Int) := by
  unfold order_number.f
  have h := number_l0 n hn 8 0 k (by omega) (by omega)
  have e : n / 256 ^ 8 = 0 := Nat.div_eq_of_lt (by have : (256 : Nat) ^ 8 = 18446744073709551616 := by decide
                                                   omega)
  rw [e] at h
  rw [son_size, beN_len]
  exact h
theorem down_xor (n : Int) (h : -9223372036854775808 ≤ n ∧ n ≤ 9223372036854775807) : wrap64 (Go.bits .xor .u64 ((up n : Nat) : Int) 9223372036854775808) = n := by
  have hu := up_lt n h
  have h1 := up_xor (((up n : Nat) : Int) - 9223372036854775808) (by omega) (by omega)
  have e1 : up (((up n : Nat) : Int) - 9223372036854775808) = up n := by unfold up; omega
  have e2 : (((up n : Nat) : Int) - 9223372036854775808) = n := by unfold up; omega
  -- what is turned twice is what it was
  have hb := up_xor n h.1 h.2
  have hw : IntKind.u64.wrap n = (((IntKind.u64.wrap n).toNat : Nat) : Int) ∧ (IntKind.u64.wrap n).toNat < 18446744073709551616 := by
    constructor <;> first | (simp [IntKind.wrap, IntKind.signed, IntKind.bits]; done) | (simp [IntKind.wrap, IntKind.signed, IntKind.bits]; omega)
  obtain ⟨a, ha⟩ : ∃ a, a = (IntKind.u64.wrap n).toNat := ⟨_, rfl⟩
  rw [← ha] at hw
  have hxor : a ^^^ 9223372036854775808 = up n := by
    rw [hw.1, show (9223372036854775808 : Int) = ((9223372036854775808 : Nat) : Int) from rfl, Go.u64_xor_nat a 9223372036854775808 hw.2 (by omega)] at hb
    exact Int.ofNat.inj hb
  have hback : up n ^^^ 9223372036854775808 = a := by rw [← hxor, Nat.xor_assoc, Nat.xor_self, Nat.xor_zero]
  rw [show (9223372036854775808 : Int) = ((9223372036854775808 : Nat) : Int) from rfl, Go.u64_xor_nat (up n) 9223372036854775808 hu (by omega), hback, ← hw.1]
  simp [wrap64, IntKind.wrap, IntKind.signed, IntKind.bits]
  omega
theorem index_byte (p : List UInt8) : ∀ t : List UInt8, (∀ c ∈ t, c ≠ 0) → Lib.indexByte (t ++ 0 :: p) 0 = (t.length : Int)
  | [], _ => by simp [Lib.indexByte]
  | a :: t, h => by
    have ih := index_byte p t (fun c hc => h c (by simp [hc]))
    simp only [List.cons_append, Lib.indexByte]
    rw [if_neg (by simpa using h a (by simp)), ih, if_neg (by simp)]
    simp
theorem cut_f (t : ByteArray) (p : List Int) (hp : Byt p) (hlen : t.size + p.length < 4611686018427387904) (ht : ∀ c ∈ bytesOf t, 32 ≤ c ∧ c ≤ 126) : strings_Cut.f (strOfNums (bytesOf t ++ 0 :: p)) ⟨#[0]⟩ = some (t, strOfNums p, true) := by
  unfold strings_Cut.f stringslite_Cut.f stringslite_Index.f
  have hl : (bytesOf t).length = t.size := bytesOf_length t
  have e0 : (⟨#[0]⟩ : ByteArray).data.toList = [0] := rfl
  have e1 : (strOfNums (bytesOf t ++ 0 :: p)).data.toList = t.data.toList ++ 0 :: (p.map fun n => UInt8.ofNat n.toNat) := by
    rw [strOfNums_data, List.map_append, ← strOfNums_data, son_bytesOf]
    rfl
  have hnz : ∀ c ∈ t.data.toList, c ≠ 0 := by
    rintro c hc rfl
    have := ht ((0 : UInt8).toNat : Int) (by unfold bytesOf; exact List.mem_map.2 ⟨0, hc, rfl⟩)
    simp at this
  have hlt : t.data.toList.length = t.size := by simp
  have hsz : (strOfNums (bytesOf t ++ 0 :: p)).size = t.size + (p.length + 1) := by rw [son_size, List.length_append, List.length_cons, hl]
  simp only [e0]
  rw [e1, index_byte _ _ hnz, hlt, Option.bind_some, if_pos (by omega), if_pos (by omega), hsz, if_pos (by omega)]
  have e2 : (⟨#[0]⟩ : ByteArray).size = 1 := rfl
  rw [e2, show wrap64 ((t.size : Int) + ((1 : Nat) : Int)) = ((t.size + 1 : Nat) : Int) by rw [w64 _ (by omega) (by omega)]; omega, if_pos (by omega), if_pos (by omega), Option.bind_some, son_extract, son_extract, Int.toNat_natCast, Int.toNat_natCast]
  have c1 : ((bytesOf t ++ 0 :: p).drop 0).take (t.size - 0) = bytesOf t := by rw [List.drop_zero, Nat.sub_zero, ← hl, List.take_left]
  have c2 : ((bytesOf t ++ 0 :: p).drop (t.size + 1)).take (t.size + (p.length + 1) - (t.size + 1)) = p := by
    rw [show bytesOf t ++ 0 :: p = (bytesOf t ++ [0]) ++ p by simp, List.drop_left' (by simp [hl]), List.take_of_length_le (by omega)]
  rw [c1, c2, son_bytesOf]
theorem one_f (k : Nat) (hk : 12 ≤ k) (x : S36) (hx : Ok x) (p : List Int) (hp : Byt p) (hlen : p.length < 1000000) : order_one.f k (strOfNums (encI x ++ p)) = some (x.f0, x.f1, x.f2, x.f3, strOfNums p, true) := by
  have hb : Byt (encI x ++ p) := fun c hc => by
    rcases List.mem_append.1 hc with h | h
    · exact encI_byt x c h
    · exact hp c h
  have hlx := encI_len hx
  obtain ⟨r, hr⟩ : ∃ r, encI x = ((x.f0 + 1) % 256) :: r := ⟨_, rfl⟩
  have hsz : (strOfNums (encI x ++ p)).size = (encI x).length + p.length := by rw [son_size, List.length_append]
  have h1 : 1 ≤ (encI x).length := by rw [hr, List.length_cons]; omega
  have hbt : bt (strOfNums (encI x ++ p)) 0 = (x.f0 + 1) % 256 := by
    have h := son_bt _ hb 0 (by rw [List.length_append]; omega)
    rw [show ((0 : Nat) : Int) = 0 from rfl] at h
    rw [h]
    simp [hr]
  have hrest : (strOfNums (encI x ++ p)).extract 1 ((encI x).length + p.length) = strOfNums (r ++ p) := by
    rw [son_extract, hr]
    congr 1
    simp only [List.cons_append, List.drop_succ_cons, List.drop_zero, List.length_cons]
    rw [List.take_of_length_le (by rw [List.length_append]; omega)]
  have hrs : (strOfNums (r ++ p)).size = r.length + p.length := by rw [son_size, List.length_append]
  unfold order_one.f
  rw [hsz, hbt, if_pos (by omega), if_pos (by omega), hrest, hrs]
  have kx := shape_cases hx.shape
  obtain ⟨f0, f1, f2, f3⟩ := x
  dsimp only at kx hr hx ⊢
  unfold encI at hr
  dsimp only at hr
  rcases kx with ⟨rfl, rfl, rfl, rfl⟩ | ⟨rfl, rfl, rfl⟩ | ⟨rfl, rfl, rfl⟩ | ⟨rfl, rfl, rfl⟩
  · have er : r = [] := by simpa using hr.symm
    subst er
    rw [show wrap64 (wrap64 (((0 : Int) + 1) % 256) - 1) = 0 by decide +kernel, if_pos rfl]
    simp only [value_Null.f, Option.bind_some, List.nil_append]
  · have er : r = beN 8 (up f1) := by simpa using hr.symm
    subst er
    have hi := hx.i
    dsimp only at hi
    rw [show wrap64 (wrap64 (((1 : Int) + 1) % 256) - 1) = 1 by decide +kernel, if_neg (by omega), if_pos rfl, beN_len, if_neg (by omega), if_pos (by omega), if_pos (by omega), son_extract, son_extract, List.drop_zero, Nat.sub_zero, List.take_left' (beN_len _ _), number_f _ k (up_lt f1 hi) (by omega), Option.bind_some, down_xor f1 hi, List.drop_left' (beN_len _ _), List.take_of_length_le (by omega)]
    simp only [value_Int.f, Option.bind_some]
  · have er : r = bytesOf f2 ++ [0] := by simpa using hr.symm
    subst er
    have hpr := hx.printed
    have hz := hx.size
    dsimp only at hpr hz
    rw [show wrap64 (wrap64 (((2 : Int) + 1) % 256) - 1) = 2 by decide +kernel, if_neg (by omega), if_neg (by omega), if_pos rfl, List.append_assoc, List.singleton_append, cut_f f2 p hp (by omega) hpr, Option.bind_some]
    simp only [value_Text.f, Option.bind_some]
  · obtain ⟨k, rfl⟩ : ∃ q, k = q + 1 := ⟨k - 1, by omega⟩
    have er : r = [if f3 = true then 1 else 0] := by simpa using hr.symm
    subst er
    have hb2 : Byt ([if f3 = true then (1 : Int) else 0] ++ p) := fun c hc => by
      rcases List.mem_append.1 hc with h | h
      · cases f3 <;> simp at h <;> omega
      · exact hp c h
    have hbt2 : bt (strOfNums ([if f3 = true then (1 : Int) else 0] ++ p)) 0 = if f3 = true then 1 else 0 := by
      have h := son_bt _ hb2 0 (by simp)
      rw [show ((0 : Nat) : Int) = 0 from rfl] at h
      rw [h]
      simp
    rw [show wrap64 (wrap64 (((3 : Int) + 1) % 256) - 1) = 3 by decide +kernel, if_neg (by omega), if_neg (by omega), if_neg (by omega), if_pos rfl, if_neg (by rw [son_toList]; simp), if_pos (by simp; omega), hbt2]
    simp only [order_one.j0]
    rw [show decide ((if f3 = true then (1 : Int) else 0) > 1) = false by cases f3 <;> decide, if_neg (by simp), hrs, if_pos (by simp; omega), hbt2]
    simp only [value_Bool.f, Option.bind_some]
    rw [if_pos (by simp; omega), son_extract, show ([if f3 = true then (1 : Int) else 0] ++ p).drop 1 = p by simp, List.take_of_length_le (by simp)]
    cases f3 <;> rfl
theorem encI_ne (x : S36) : encI x ≠ [] := by unfold encI; simp
theorem encL_len : ∀ l : List S36, (∀ x ∈ l, Ok x) → (encL l).length ≤ 4100 * l.length
  | [], _ => by simp [encL]
  | x :: l, h => by
    have h1 := encI_len (h x (by simp))
    have h2 := encL_len l (fun y hy => h y (by simp [hy]))
    simp only [encL, List.length_append, List.length_cons]
    omega
theorem decode_l0 : ∀ (l acc : List S36) (k : Nat), (∀ x ∈ l, Ok x) → acc.length + l.length ≤ 16 → l.length + 20 ≤ k → order_Decode.l0 k (strOfNums (encL l)) acc = some (acc ++ l, none)
  | [], acc, k, h, h16, hk => by
    obtain ⟨k, rfl⟩ : ∃ q, k = q + 1 := ⟨k - 1, by omega⟩
    simp only [order_Decode.l0]
    rw [if_pos (by rw [son_toList]; rfl)]
    simp
  | x :: l, acc, k, h, h16, hk => by
    obtain ⟨k, rfl⟩ : ∃ q, k = q + 1 := ⟨k - 1, by omega⟩
    rw [List.length_cons] at h16 hk
    have hx := h x (by simp)
    have hl := encL_len l (fun y hy => h y (by simp [hy]))
    simp only [order_Decode.l0]
    rw [if_neg (by rw [son_toList]; intro e; rw [List.map_eq_nil_iff] at e; simp only [encL] at e; exact encI_ne x (List.append_eq_nil_iff.1 e).1)]
    simp only [encL]
    rw [one_f k (by omega) x hx _ (encL_byt l) (by omega), Option.bind_some]
    dsimp only
    rw [if_pos rfl, valid_f k (by omega) x, hx.v, Option.bind_some, if_pos (by rfl), if_neg (by omega), if_pos (by omega), decode_l0 l _ k (fun y hy => h y (by simp [hy])) (by simp; omega) (by omega)]
    simp
theorem decode_f (k : Nat) (l : List S36) (h : ∀ x ∈ l, Ok x) (h16 : l.length ≤ 16) (hk : 40 ≤ k) : order_Decode.f k (strOfNums (encL l)) = some (l, none) := by
  unfold order_Decode.f
  rw [decode_l0 l [] k h (by simpa using h16) (by omega)]
  rfl
end EncL
end Go.Proofs.Ytcchjnadhjeniaa.Pure
