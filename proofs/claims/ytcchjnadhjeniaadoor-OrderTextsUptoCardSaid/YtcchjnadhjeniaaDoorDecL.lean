/- What the program reads of a text: of the text of values, and of any text. -/
import Derived.Test.YtcchjnadhjeniaaDoorXAllx14
import Derived.Test.YtcchjnadhjeniaaDoorEncL
import Derived.Lib.IndexLaws
namespace Go.Proofs.YtcchjnadhjeniaaDoor.Pure
open Go.RowKit Go.Proofs.YtcchjnadhjeniaaDoor.XAll Go.Proofs.YtcchjnadhjeniaaDoorW.PrintWords Go.Proofs.YtcchjnadhjeniaaDoorW.PrintLast Go.Proofs.YtcchjnadhjeniaaDoorW.PrintMore
set_option linter.unusedVariables false
set_option linter.unusedSimpArgs false
open ValueL
namespace EncL
theorem beN_get : ∀ (d n i : Nat) (h : i < (beN d n).length), (beN d n)[i] = ((n / 256 ^ (d - 1 - i) % 256 : Nat) : Int)
  | 0, n, i, h => by simp [beN] at h
  | d + 1, n, 0, h => by simp [beN]
  | d + 1, n, i + 1, h => by
    have h' : i < (beN d n).length := by simpa [beN] using h
    have e := beN_get d n i h'
    simp only [beN, List.getElem_cons_succ]
    rw [e, show d + 1 - 1 - (i + 1) = d - 1 - i by omega]
theorem or_byte (x b : Nat) (hx : x < 72057594037927936) (hb : b < 256) : Go.bits .or .u64 (IntKind.u64.wrap ((x : Int) * 256)) (IntKind.u64.wrap (b : Int)) = ((x * 256 + b : Nat) : Int) := by
  have e1 : IntKind.u64.wrap ((x : Int) * 256) = ((x * 256 : Nat) : Int) := by simp [IntKind.wrap, IntKind.signed, IntKind.bits]; omega
  have e2 : IntKind.u64.wrap (b : Int) = ((b : Nat) : Int) := by simp [IntKind.wrap, IntKind.signed, IntKind.bits]; omega
  rw [e1, e2, Go.u64_or_nat _ _ (by omega) (by omega)]
  have h := Nat.shiftLeft_add_eq_or_of_lt (i := 8) (b := b) (by omega) x
  rw [Nat.shiftLeft_eq] at h
  rw [← h]
theorem number_l0 (n : Nat) (hn : n < 18446744073709551616) : ∀ (d i k : Nat), i + d = 8 → d < k → order_number.l0 k (strOfNums (beN 8 n)) ((n / 256 ^ d : Nat) : Int) 8 (i : Int) = some (n : Int)
  | 0, i, k, hi, hk => by
    obtain ⟨k, rfl⟩ : ∃ q, k = q + 1 := ⟨k - 1, by omega⟩
    simp only [order_number.l0]
    rw [if_neg (by omega)]
    simp
  | d + 1, i, k, hi, hk => by
    obtain ⟨k, rfl⟩ : ∃ q, k = q + 1 := ⟨k - 1, by omega⟩
    simp only [order_number.l0]
    have hs : (strOfNums (beN 8 n)).size = 8 := by rw [son_size, beN_len]
    have hil : i < (beN 8 n).length := by rw [beN_len]; omega
    have hlt : n / 256 ^ (d + 1) < 72057594037927936 := by
      rw [Nat.pow_succ, Nat.mul_comm, ← Nat.div_div_eq_div_mul]
      have : n / 256 < 72057594037927936 := by omega
      exact Nat.lt_of_le_of_lt (Nat.div_le_self _ _) this
    rw [if_pos (by omega), if_pos (by omega), if_pos (by rw [hs]; omega), son_bt _ (beN_byt 8 n) i hil, beN_get 8 n i hil, show 8 - 1 - i = d by omega, or_byte _ _ hlt (Nat.mod_lt _ (by omega)), show wrap64 ((i : Int) + 1) = ((i + 1 : Nat) : Int) by rw [w64 _ (by omega) (by omega)]; omega]
    have e : n / 256 ^ (d + 1) * 256 + n / 256 ^ d % 256 = n / 256 ^ d := by
      rw [Nat.pow_succ, ← Nat.div_div_eq_div_mul]
      omega
    rw [e]
    exact number_l0 n hn d (i + 1) k (by omega) (by omega)
theorem number_f (n k : Nat) (hn : n < 18446744073709551616) (hk : 9 ≤ k) : order_number.f k (strOfNums (beN 8 n)) = some (n : Int) := by
  unfold order_number.f
  have h := number_l0 n hn 8 0 k (by omega) (by omega)
  have e : n / 256 ^ 8 = 0 := Nat.div_eq_of_lt (by have : (256 : Nat) ^ 8 = 18446744073709551616 := by decide
                                                   omega)
  rw [e] at h
  rw [son_size, beN_len]
  exact h
theorem down_xor (n : Int) (h : -9223372036854775808 ≤ n ∧ n ≤ 9223372036854775807) : wrap64 (Go.bits .xor .u64 ((up n : Nat) : Int) 9223372036854775808) = n := by
  have hu := up_lt n h
  have h1 := up_xor (((up n : Nat) : Int) - 9223372036854775808) (by omega) (by omega)
  have e1 : up (((up n : Nat) : Int) - 9223372036854775808) = up n := by unfold up; omega
  have e2 : (((up n : Nat) : Int) - 9223372036854775808) = n := by unfold up; omega
  -- what is turned twice is what it was
  have hb := up_xor n h.1 h.2
  have hw : IntKind.u64.wrap n = (((IntKind.u64.wrap n).toNat : Nat) : Int) ∧ (IntKind.u64.wrap n).toNat < 18446744073709551616 := by
    constructor <;> first | (simp [IntKind.wrap, IntKind.signed, IntKind.bits]; done) | (simp [IntKind.wrap, IntKind.signed, IntKind.bits]; omega)
  obtain ⟨a, ha⟩ : ∃ a, a = (IntKind.u64.wrap n).toNat := ⟨_, rfl⟩
  rw [← ha] at hw
  have hxor : a ^^^ 9223372036854775808 = up n := by
    rw [hw.1, show (9223372036854775808 : Int) = ((9223372036854775808 : Nat) : Int) from rfl, Go.u64_xor_nat a 9223372036854775808 hw.2 (by omega)] at hb
    exact Int.ofNat.inj hb
  have hback : up n ^^^ 9223372036854775808 = a := by rw [← hxor, Nat.xor_assoc, Nat.xor_self, Nat.xor_zero]
  rw [show (9223372036854775808 : Int) = ((9223372036854775808 : Nat) : Int) from rfl, Go.u64_xor_nat (up n) 9223372036854775808 hu (by omega), hback, ← hw.1]
  simp [wrap64, IntKind.wrap, IntKind.signed, IntKind.bits]
  omega
theorem index_byte (p : List UInt8) : ∀ t : List UInt8, (∀ c ∈ t, c ≠ 0) → Lib.indexByte (t ++ 0 :: p) 0 = (t.length : Int)
  | [], _ => by simp [Lib.indexByte]
  | a :: t, h => by
    have ih := index_byte p t (fun c hc => h c (by simp [hc]))
    simp only [List.cons_append, Lib.indexByte]
    rw [if_neg (by simpa using h a (by simp)), ih, if_neg (by simp)]
    simp
theorem cut_f (t : ByteArray) (p : List Int) (hp : Byt p) (hlen : t.size + p.length < 4611686018427387904) (ht : ∀ c ∈ bytesOf t, 32 ≤ c ∧ c ≤ 126) : strings_Cut.f (strOfNums (bytesOf t ++ 0 :: p)) ⟨#[0]⟩ = some (t, strOfNums p, true) := by
  unfold strings_Cut.f stringslite_Cut.f stringslite_Index.f
  have hl : (bytesOf t).length = t.size := bytesOf_length t
  have e0 : (⟨#[0]⟩ : ByteArray).data.toList = [0] := rfl
  have e1 : (strOfNums (bytesOf t ++ 0 :: p)).data.toList = t.data.toList ++ 0 :: (p.map fun n => UInt8.ofNat n.toNat) := by
    rw [strOfNums_data, List.map_append, ← strOfNums_data, son_bytesOf]
    rfl
  have hnz : ∀ c ∈ t.data.toList, c ≠ 0 := by
    rintro c hc rfl
    have := ht ((0 : UInt8).toNat : Int) (by unfold bytesOf; exact List.mem_map.2 ⟨0, hc, rfl⟩)
    simp at this
  have hlt : t.data.toList.length = t.size := by simp
  have hsz : (strOfNums (bytesOf t ++ 0 :: p)).size = t.size + (p.length + 1) := by rw [son_size, List.length_append, List.length_cons, hl]
  simp only [e0]
  rw [e1, index_byte _ _ hnz, hlt, Option.bind_some, if_pos (by omega), if_pos (by omega), hsz, if_pos (by omega)]
  have e2 : (⟨#[0]⟩ : ByteArray).size = 1 := rfl
  rw [e2, show wrap64 ((t.size : Int) + ((1 : Nat) : Int)) = ((t.size + 1 : Nat) : Int) by rw [w64 _ (by omega) (by omega)]; omega, if_pos (by omega), if_pos (by omega), Option.bind_some, son_extract, son_extract, Int.toNat_natCast, Int.toNat_natCast]
  have c1 : ((bytesOf t ++ 0 :: p).drop 0).take (t.size - 0) = bytesOf t := by rw [List.drop_zero, Nat.sub_zero, ← hl, List.take_left]
  have c2 : ((bytesOf t ++ 0 :: p).drop (t.size + 1)).take (t.size + (p.length + 1) - (t.size + 1)) = p := by
    rw [show bytesOf t ++ 0 :: p = (bytesOf t ++ [0]) ++ p by simp, List.drop_left' (by simp [hl]), List.take_of_length_le (by omega)]
  rw [c1, c2, son_bytesOf]
theorem one_f (k : Nat) (hk : 12 ≤ k) (x : S41) (hx : Ok x) (p : List Int) (hp : Byt p) (hlen : p.length < 1000000) : order_one.f k (strOfNums (encI x ++ p)) = some (x.f0, x.f1, x.f2, x.f3, strOfNums p, true) := by
  have hb : Byt (encI x ++ p) := fun c hc => by
    rcases List.mem_append.1 hc with h | h
    · exact encI_byt x c h
    · exact hp c h
  have hlx := encI_len hx
  obtain ⟨r, hr⟩ : ∃ r, encI x = ((x.f0 + 1) % 256) :: r := ⟨_, rfl⟩
  have hsz : (strOfNums (encI x ++ p)).size = (encI x).length + p.length := by rw [son_size, List.length_append]
  have h1 : 1 ≤ (encI x).length := by rw [hr, List.length_cons]; omega
  have hbt : bt (strOfNums (encI x ++ p)) 0 = (x.f0 + 1) % 256 := by
    have h := son_bt _ hb 0 (by rw [List.length_append]; omega)
    rw [show ((0 : Nat) : Int) = 0 from rfl] at h
    rw [h]
    simp [hr]
  have hrest : (strOfNums (encI x ++ p)).extract 1 ((encI x).length + p.length) = strOfNums (r ++ p) := by
    rw [son_extract, hr]
    congr 1
    simp only [List.cons_append, List.drop_succ_cons, List.drop_zero, List.length_cons]
    rw [List.take_of_length_le (by rw [List.length_append]; omega)]
  have hrs : (strOfNums (r ++ p)).size = r.length + p.length := by rw [son_size, List.length_append]
  unfold order_one.f
  rw [hsz, hbt, if_pos (by omega), if_pos (by omega), hrest, hrs]
  have kx := shape_cases hx.shape
  obtain ⟨f0, f1, f2, f3⟩ := x
  dsimp only at kx hr hx ⊢
  unfold encI at hr
  dsimp only at hr
  rcases kx with ⟨rfl, rfl, rfl, rfl⟩ | ⟨rfl, rfl, rfl⟩ | ⟨rfl, rfl, rfl⟩ | ⟨rfl, rfl, rfl⟩
  · have er : r = [] := by simpa using hr.symm
    subst er
    rw [show wrap64 (wrap64 (((0 : Int) + 1) % 256) - 1) = 0 by decide +kernel, if_pos rfl]
    simp only [value_Null.f, Option.bind_some, List.nil_append]
  · have er : r = beN 8 (up f1) := by simpa using hr.symm
    subst er
    have hi := hx.i
    dsimp only at hi
    rw [show wrap64 (wrap64 (((1 : Int) + 1) % 256) - 1) = 1 by decide +kernel, if_neg (by omega), if_pos rfl, beN_len, if_neg (by omega), if_pos (by omega), if_pos (by omega), son_extract, son_extract, List.drop_zero, Nat.sub_zero, List.take_left' (beN_len _ _), number_f _ k (up_lt f1 hi) (by omega), Option.bind_some, down_xor f1 hi, List.drop_left' (beN_len _ _), List.take_of_length_le (by omega)]
    simp only [value_Int.f, Option.bind_some]
  · have er : r = bytesOf f2 ++ [0] := by simpa using hr.symm
    subst er
    have hpr := hx.printed
    have hz := hx.size
    dsimp only at hpr hz
    rw [show wrap64 (wrap64 (((2 : Int) + 1) % 256) - 1) = 2 by decide +kernel, if_neg (by omega), if_neg (by omega), if_pos rfl, List.append_assoc, List.singleton_append, cut_f f2 p hp (by omega) hpr, Option.bind_some]
    simp only [value_Text.f, Option.bind_some]
  · obtain ⟨k, rfl⟩ : ∃ q, k = q + 1 := ⟨k - 1, by omega⟩
    have er : r = [if f3 = true then 1 else 0] := by simpa using hr.symm
    subst er
    have hb2 : Byt ([if f3 = true then (1 : Int) else 0] ++ p) := fun c hc => by
      rcases List.mem_append.1 hc with h | h
      · cases f3 <;> simp at h <;> omega
      · exact hp c h
    have hbt2 : bt (strOfNums ([if f3 = true then (1 : Int) else 0] ++ p)) 0 = if f3 = true then 1 else 0 := by
      have h := son_bt _ hb2 0 (by simp)
      rw [show ((0 : Nat) : Int) = 0 from rfl] at h
      rw [h]
      simp
    rw [show wrap64 (wrap64 (((3 : Int) + 1) % 256) - 1) = 3 by decide +kernel, if_neg (by omega), if_neg (by omega), if_neg (by omega), if_pos rfl, if_neg (by rw [son_toList]; simp), if_pos (by simp; omega), hbt2]
    simp only [order_one.j0]
    rw [show decide ((if f3 = true then (1 : Int) else 0) > 1) = false by cases f3 <;> decide, if_neg (by simp), hrs, if_pos (by simp; omega), hbt2]
    simp only [value_Bool.f, Option.bind_some]
    rw [if_pos (by simp; omega), son_extract, show ([if f3 = true then (1 : Int) else 0] ++ p).drop 1 = p by simp, List.take_of_length_le (by simp)]
    cases f3 <;> rfl
theorem encI_ne (x : S41) : encI x ≠ [] := by unfold encI; simp
theorem encL_len : ∀ l : List S41, (∀ x ∈ l, Ok x) → (encL l).length ≤ 4100 * l.length
  | [], _ => by simp [encL]
  | x :: l, h => by
    have h1 := encI_len (h x (by simp))
    have h2 := encL_len l (fun y hy => h y (by simp [hy]))
    simp only [encL, List.length_append, List.length_cons]
    omega
theorem decode_l0 : ∀ (l acc : List S41) (k : Nat), (∀ x ∈ l, Ok x) → acc.length + l.length ≤ 16 → l.length + 20 ≤ k → order_Decode.l0 k (strOfNums (encL l)) acc = some (acc ++ l, none)
  | [], acc, k, h, h16, hk => by
    obtain ⟨k, rfl⟩ : ∃ q, k = q + 1 := ⟨k - 1, by omega⟩
    simp only [order_Decode.l0]
    rw [if_pos (by rw [son_toList]; rfl)]
    simp
  | x :: l, acc, k, h, h16, hk => by
    obtain ⟨k, rfl⟩ : ∃ q, k = q + 1 := ⟨k - 1, by omega⟩
    rw [List.length_cons] at h16 hk
    have hx := h x (by simp)
    have hl := encL_len l (fun y hy => h y (by simp [hy]))
    simp only [order_Decode.l0]
    rw [if_neg (by rw [son_toList]; intro e; rw [List.map_eq_nil_iff] at e; simp only [encL] at e; exact encI_ne x (List.append_eq_nil_iff.1 e).1)]
    simp only [encL]
    rw [one_f k (by omega) x hx _ (encL_byt l) (by omega), Option.bind_some]
    dsimp only
    rw [if_pos rfl, valid_f k (by omega) x, hx.v, Option.bind_some, if_pos (by rfl), if_neg (by omega), if_pos (by omega), decode_l0 l _ k (fun y hy => h y (by simp [hy])) (by simp; omega) (by omega)]
    simp
theorem decode_f (k : Nat) (l : List S41) (h : ∀ x ∈ l, Ok x) (h16 : l.length ≤ 16) (hk : 40 ≤ k) : order_Decode.f k (strOfNums (encL l)) = some (l, none) := by
  unfold order_Decode.f
  rw [decode_l0 l [] k h (by simpa using h16) (by omega)]
  rfl
theorem bytesOf_son (l : List Int) (hl : Byt l) : bytesOf (strOfNums l) = l := by
  unfold bytesOf
  rw [strOfNums_data, List.map_map]
  conv => rhs; rw [← List.map_id l]
  apply List.map_congr_left
  intro c hc
  have := hl c hc
  simp only [Function.comp, id]
  rw [UInt8.toNat_ofNat']
  omega
theorem beN_add : ∀ d a n, beN d (a * 256 ^ d + n) = beN d n
  | 0, a, n => rfl
  | d + 1, a, n => by
    have ih := beN_add d (a * 256) n
    have hp : 0 < 256 ^ d := Nat.pow_pos (by omega)
    have e : a * 256 ^ (d + 1) + n = a * 256 * 256 ^ d + n := by rw [Nat.pow_succ, Nat.mul_assoc, Nat.mul_comm 256]
    simp only [beN]
    rw [e, ih, Nat.add_comm (a * 256 * 256 ^ d) n, Nat.add_mul_div_right n _ hp]
    congr 2
    omega
theorem be_val : ∀ l : List Int, Byt l → ∃ n, n < 256 ^ l.length ∧ beN l.length n = l
  | [], _ => ⟨0, by simp, rfl⟩
  | c :: r, h => by
    obtain ⟨n, hn, he⟩ := be_val r (fun x hx => h x (by simp [hx]))
    have hc := h c (by simp)
    obtain ⟨c, rfl⟩ := Int.eq_ofNat_of_zero_le hc.1
    have hp : 0 < 256 ^ r.length := Nat.pow_pos (by omega)
    refine ⟨c * 256 ^ r.length + n, ?_, ?_⟩
    · rw [List.length_cons, Nat.pow_succ]
      have : c * 256 ^ r.length ≤ 255 * 256 ^ r.length := Nat.mul_le_mul_right _ (by omega)
      omega
    · rw [List.length_cons]
      simp only [beN]
      rw [beN_add, he, Nat.add_comm, Nat.add_mul_div_right n _ hp, Nat.div_eq_of_lt hn]
      congr 1
      omega
theorem zero_split : ∀ r : List Int, Byt r → (∃ u p, r = u ++ 0 :: p ∧ ∀ c ∈ u, c ≠ 0) ∨ ∀ c ∈ r, c ≠ 0
  | [], _ => .inr (by simp)
  | c :: r, h => by
    by_cases hc : c = 0
    · subst hc; exact .inl ⟨[], r, rfl, by simp⟩
    · rcases zero_split r (fun x hx => h x (by simp [hx])) with ⟨u, p, rfl, hu⟩ | hr
      · exact .inl ⟨c :: u, p, rfl, by intro x hx; rcases List.mem_cons.1 hx with rfl | hx; exact hc; exact hu x hx⟩
      · exact .inr (by intro x hx; rcases List.mem_cons.1 hx with rfl | hx; exact hc; exact hr x hx)
theorem none_index : ∀ t : List UInt8, (∀ c ∈ t, c ≠ 0) → Lib.indexByte t 0 = -1
  | [], _ => rfl
  | a :: t, h => by
    have ih := none_index t (fun c hc => h c (by simp [hc]))
    simp only [Lib.indexByte]
    rw [if_neg (by simpa using h a (by simp)), ih]
    rfl
theorem cut_gen (t : ByteArray) (p : List Int) (hp : Byt p) (hlen : t.size + p.length < 4611686018427387904) (ht : ∀ c ∈ bytesOf t, c ≠ 0) : strings_Cut.f (strOfNums (bytesOf t ++ 0 :: p)) ⟨#[0]⟩ = some (t, strOfNums p, true) := by
  unfold strings_Cut.f stringslite_Cut.f stringslite_Index.f
  have hl : (bytesOf t).length = t.size := bytesOf_length t
  have e0 : (⟨#[0]⟩ : ByteArray).data.toList = [0] := rfl
  have e1 : (strOfNums (bytesOf t ++ 0 :: p)).data.toList = t.data.toList ++ 0 :: (p.map fun n => UInt8.ofNat n.toNat) := by
    rw [strOfNums_data, List.map_append, ← strOfNums_data, son_bytesOf]
    rfl
  have hnz : ∀ c ∈ t.data.toList, c ≠ 0 := by
    rintro c hc rfl
    exact ht ((0 : UInt8).toNat : Int) (by unfold bytesOf; exact List.mem_map.2 ⟨0, hc, rfl⟩) rfl
  have hlt : t.data.toList.length = t.size := by simp
  have hsz : (strOfNums (bytesOf t ++ 0 :: p)).size = t.size + (p.length + 1) := by rw [son_size, List.length_append, List.length_cons, hl]
  simp only [e0]
  rw [e1, index_byte _ _ hnz, hlt, Option.bind_some, if_pos (by omega), if_pos (by omega), hsz, if_pos (by omega)]
  have e2 : (⟨#[0]⟩ : ByteArray).size = 1 := rfl
  rw [e2, show wrap64 ((t.size : Int) + ((1 : Nat) : Int)) = ((t.size + 1 : Nat) : Int) by rw [w64 _ (by omega) (by omega)]; omega, if_pos (by omega), if_pos (by omega), Option.bind_some, son_extract, son_extract, Int.toNat_natCast, Int.toNat_natCast]
  have c1 : ((bytesOf t ++ 0 :: p).drop 0).take (t.size - 0) = bytesOf t := by rw [List.drop_zero, Nat.sub_zero, ← hl, List.take_left]
  have c2 : ((bytesOf t ++ 0 :: p).drop (t.size + 1)).take (t.size + (p.length + 1) - (t.size + 1)) = p := by
    rw [show bytesOf t ++ 0 :: p = (bytesOf t ++ [0]) ++ p by simp, List.drop_left' (by simp [hl]), List.take_of_length_le (by omega)]
  rw [c1, c2, son_bytesOf]
theorem cut_none (r : List Int) (hr : Byt r) (h : ∀ c ∈ r, c ≠ 0) : strings_Cut.f (strOfNums r) ⟨#[0]⟩ = some (strOfNums r, ⟨#[]⟩, false) := by
  unfold strings_Cut.f stringslite_Cut.f stringslite_Index.f
  have e0 : (⟨#[0]⟩ : ByteArray).data.toList = [0] := rfl
  have hnz : ∀ c ∈ (strOfNums r).data.toList, c ≠ 0 := by
    rintro c hc rfl
    rw [strOfNums_data] at hc
    obtain ⟨x, hx, hx2⟩ := List.mem_map.1 hc
    have h1 := hr x hx
    have h2 := h x hx
    have h3 := congrArg UInt8.toNat hx2
    rw [UInt8.toNat_ofNat'] at h3
    simp at h3
    omega
  simp only [e0]
  rw [none_index _ hnz, Option.bind_some, if_neg (by omega), Option.bind_some]
set_option maxHeartbeats 1000000 in
theorem one_rev (k : Nat) (hk : 12 ≤ k) (c : Int) (r : List Int) (hb : Byt (c :: r)) (hlen : r.length < 4000000) : ∃ (v : S41) (p : List Int) (b : Bool), order_one.f k (strOfNums (c :: r)) = some (v.f0, v.f1, v.f2, v.f3, strOfNums p, b) ∧ Byt p ∧
    (b = true → p.length ≤ r.length ∧ (-9223372036854775808 ≤ v.f1 ∧ v.f1 ≤ 9223372036854775807) ∧ c :: r = encI v ++ p) := by
  have hc := hb c (by simp)
  have hr : Byt r := fun x hx => hb x (by simp [hx])
  have hsz : (strOfNums (c :: r)).size = r.length + 1 := by rw [son_size, List.length_cons]
  have hbt : bt (strOfNums (c :: r)) 0 = c := by
    have h := son_bt _ hb 0 (by simp)
    exact h
  have hrest : (strOfNums (c :: r)).extract 1 (r.length + 1) = strOfNums r := by
    rw [son_extract]
    congr 1
    simp only [List.drop_succ_cons, List.drop_zero]
    rw [List.take_of_length_le (by omega)]
  have hrs : (strOfNums r).size = r.length := son_size r
  have hw : wrap64 (wrap64 c - 1) = c - 1 := by rw [w64 c (by omega) (by omega), w64 _ (by omega) (by omega)]
  have hnil : Byt ([] : List Int) := by intro x hx; cases hx
  unfold order_one.f
  rw [hsz, hbt, hw, if_pos (by omega), if_pos (by omega), hrest, hrs]
  by_cases h0 : c - 1 = 0
  · rw [if_pos h0]
    refine ⟨⟨0, 0, ⟨#[]⟩, false⟩, r, true, by simp only [value_Null.f, Option.bind_some], hr, fun _ => ⟨Nat.le_refl _, by decide, ?_⟩⟩
    obtain rfl : c = 1 := by omega
    rfl
  · rw [if_neg h0]
    by_cases h1 : c - 1 = 1
    · rw [if_pos h1]
      by_cases h8 : r.length < 8
      · rw [if_pos (by omega)]
        exact ⟨⟨0, 0, ⟨#[]⟩, false⟩, [], false, by simp only [value_Null.f, Option.bind_some]; rfl, hnil, fun h => by cases h⟩
      · rw [if_neg (by omega), if_pos (by omega), if_pos (by omega), son_extract, son_extract, List.drop_zero, Nat.sub_zero]
        have ht : Byt (r.take 8) := fun x hx => hr x (List.mem_of_mem_take hx)
        obtain ⟨n, hn, he⟩ := be_val (r.take 8) ht
        have hl8 : (r.take 8).length = 8 := by rw [List.length_take]; omega
        rw [hl8] at hn he
        have hn2 : n < 18446744073709551616 := by rw [show (256 : Nat) ^ 8 = 18446744073709551616 by decide] at hn; exact hn
        clear hn
        have hc2 : c = 2 := by clear he; omega
        have hrg : -9223372036854775808 ≤ (n : Int) - 9223372036854775808 ∧ (n : Int) - 9223372036854775808 ≤ 9223372036854775807 := by clear he; omega
        have hup : up ((n : Int) - 9223372036854775808) = n := by unfold up; omega
        have hdx := down_xor ((n : Int) - 9223372036854775808) hrg
        rw [hup] at hdx
        rw [← he, number_f n k hn2 (by omega), Option.bind_some, hdx]
        refine ⟨⟨1, (n : Int) - 9223372036854775808, ⟨#[]⟩, false⟩, (r.drop 8).take (r.length - 8), true, by simp only [value_Int.f, Option.bind_some], fun x hx => hr x (List.mem_of_mem_drop (List.mem_of_mem_take hx)), fun _ => ⟨by simp, hrg, ?_⟩⟩
        subst hc2
        unfold encI
        dsimp only
        rw [if_pos rfl, hup, he, List.take_of_length_le (l := r.drop 8) (by simp)]
        simp
    · rw [if_neg h1]
      by_cases h2 : c - 1 = 2
      · rw [if_pos h2]
        obtain rfl : c = 3 := by omega
        rcases zero_split r hr with ⟨u, p, rfl, hu⟩ | hz
        · have hub : Byt u := fun x hx => hr x (by simp [hx])
          have hpb : Byt p := fun x hx => hr x (by simp [hx])
          have hbu := bytesOf_son u hub
          have hls : (strOfNums u).size = u.length := son_size u
          have hcut := cut_gen (strOfNums u) p hpb (by rw [hls]; simp at hlen; omega) (by rw [hbu]; exact hu)
          rw [hbu] at hcut
          rw [hcut, Option.bind_some]
          refine ⟨⟨2, 0, strOfNums u, false⟩, p, true, by simp only [value_Text.f, Option.bind_some], hpb, fun _ => ⟨by simp; omega, by dsimp only; omega, ?_⟩⟩
          unfold encI
          dsimp only
          rw [if_neg (by omega), if_pos rfl, hbu]
          simp
        · rw [cut_none r hr hz, Option.bind_some]
          exact ⟨⟨2, 0, strOfNums r, false⟩, [], false, by simp only [value_Text.f, Option.bind_some]; rfl, hnil, fun h => by cases h⟩
      · rw [if_neg h2]
        by_cases h3 : c - 1 = 3
        · rw [if_pos h3]
          obtain rfl : c = 4 := by omega
          obtain ⟨k, rfl⟩ : ∃ q, k = q + 1 := ⟨k - 1, by omega⟩
          cases r with
          | nil =>
            rw [if_pos (by rw [son_toList]; rfl)]
            simp only [order_one.j0]
            rw [if_pos trivial]
            exact ⟨⟨0, 0, ⟨#[]⟩, false⟩, [], false, by simp only [value_Null.f, Option.bind_some]; rfl, hnil, fun h => by cases h⟩
          | cons e p =>
            have he := hr e (by simp)
            have hpb : Byt p := fun x hx => hr x (by simp [hx])
            have hbt2 : bt (strOfNums (e :: p)) 0 = e := by
              have h := son_bt _ hr 0 (by simp)
              exact h
            rw [if_neg (by rw [son_toList]; simp), if_pos (by first | (simp; done) | (simp; omega)), hbt2]
            simp only [order_one.j0]
            by_cases he1 : e > 1
            · rw [if_pos (by simpa using he1)]
              exact ⟨⟨0, 0, ⟨#[]⟩, false⟩, [], false, by simp only [value_Null.f, Option.bind_some]; rfl, hnil, fun h => by cases h⟩
            · rw [if_neg (by simpa using he1), hrs, if_pos (by first | (simp; done) | (simp; omega)), hbt2]
              simp only [value_Bool.f, Option.bind_some]
              rw [if_pos (by first | (simp; done) | (simp; omega)), son_extract]
              refine ⟨⟨3, 0, ⟨#[]⟩, e == 1⟩, p, true, ?_, hpb, fun _ => ⟨by simp, by dsimp only; omega, ?_⟩⟩
              · simp only [List.drop_succ_cons, List.drop_zero]
                rw [List.take_of_length_le (by simp)]
              · unfold encI
                dsimp only
                rw [if_neg (by omega), if_neg (by omega), if_pos rfl]
                have h01 : e = 0 ∨ e = 1 := by omega
                rcases h01 with rfl | rfl <;> rfl
        · rw [if_neg h3]
          exact ⟨⟨0, 0, ⟨#[]⟩, false⟩, [], false, by simp only [value_Null.f, Option.bind_some]; rfl, hnil, fun h => by cases h⟩
theorem decode_rev : ∀ (n : Nat) (L : List Int) (acc : List S41) (k : Nat), L.length ≤ n → n + 30 ≤ k → Byt L → L.length < 4000000 → acc.length ≤ 16 →
    (∃ l, order_Decode.l0 k (strOfNums L) acc = some (acc ++ l, none) ∧ (∀ x ∈ l, Ok x) ∧ L = encL l ∧ acc.length + l.length ≤ 16) ∨ order_Decode.l0 k (strOfNums L) acc = some ([], some 3) := by
  intro n
  induction n with
  | zero =>
    intro L acc k hL hk hb hl ha
    obtain ⟨k, rfl⟩ : ∃ q, k = q + 1 := ⟨k - 1, by omega⟩
    obtain rfl : L = [] := List.eq_nil_of_length_eq_zero (by omega)
    refine .inl ⟨[], ?_, by simp, rfl, by simpa using ha⟩
    simp only [order_Decode.l0]
    rw [if_pos (by rw [son_toList]; rfl)]
    simp
  | succ n ih =>
    intro L acc k hL hk hb hl ha
    obtain ⟨k, rfl⟩ : ∃ q, k = q + 1 := ⟨k - 1, by omega⟩
    cases L with
    | nil =>
      refine .inl ⟨[], ?_, by simp, rfl, by simpa using ha⟩
      simp only [order_Decode.l0]
      rw [if_pos (by rw [son_toList]; rfl)]
      simp
    | cons c r =>
      rw [List.length_cons] at hL hl
      obtain ⟨v, p, b, hone, hp, hrest⟩ := one_rev k (by omega) c r hb (by omega)
      simp only [order_Decode.l0]
      rw [if_neg (by rw [son_toList]; simp), hone, Option.bind_some]
      dsimp only
      cases b with
      | false => rw [if_neg (by simp)]; exact .inr rfl
      | true =>
        obtain ⟨h1, h2, h3⟩ := hrest rfl
        rw [if_pos rfl, valid_f k (by omega) v, Option.bind_some]
        cases hv : valid v with
        | some d => rw [if_neg (by simp)]; exact .inr rfl
        | none =>
          rw [if_pos (by rfl)]
          by_cases h16 : acc.length = 16
          · rw [if_pos (by omega)]; exact .inr rfl
          · rw [if_neg (by omega), if_pos (by omega)]
            rcases ih p (acc ++ [v]) k (by omega) (by omega) hp (by omega) (by simp; omega) with ⟨l, e1, e2, e3, e4⟩ | e
            · refine .inl ⟨v :: l, ?_, ?_, ?_, ?_⟩
              · refine e1.trans ?_
                simp
              · intro x hx
                rcases List.mem_cons.1 hx with rfl | hx
                · exact ⟨hv, h2⟩
                · exact e2 x hx
              · rw [h3, e3]; rfl
              · simp at e4 ⊢; omega
            · exact .inr e
end EncL
end Go.Proofs.YtcchjnadhjeniaaDoor.Pure
