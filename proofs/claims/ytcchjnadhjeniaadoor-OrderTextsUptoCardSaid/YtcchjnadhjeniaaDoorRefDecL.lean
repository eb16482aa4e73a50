/- What the document reads of any text, and of the text of values. -/
import Derived.Test.YtcchjnadhjeniaaDoorXAllx15
import Derived.Test.YtcchjnadhjeniaaDoorRefEncL
import Derived.Test.YtcchjnadhjeniaaDoorDecL
namespace Go.Proofs.YtcchjnadhjeniaaDoor.Pure
open Go.RowKit Go.Proofs.YtcchjnadhjeniaaDoor.XAll Go.Proofs.YtcchjnadhjeniaaDoorW.PrintWords Go.Proofs.YtcchjnadhjeniaaDoorW.PrintLast Go.Proofs.YtcchjnadhjeniaaDoorW.PrintMore
set_option linter.unusedVariables false
set_option linter.unusedSimpArgs false
open ValueL
namespace EncL
/-- A number of bytes, the highest first, as the document reckons it. -/
def foldN (x : Nat) : List Int → Nat
  | [] => x
  | b :: l => foldN ((x * 256 + b.toNat) % 18446744073709551616) l
def numV (n : Nat) : Int := wrap64 (Go.bits .xor .u64 (n : Int) 9223372036854775808)
def hd : List Int → Bool
  | [] => false
  | b :: _ => b == 1
/-- What the document reads, value by value. -/
def rp : Nat → List Int → List S41
  | 0, _ => []
  | _ + 1, [] => []
  | f + 1, c :: r =>
    if c = 2 then ⟨1, numV (foldN 0 (r.take 8)), ⟨#[]⟩, false⟩ :: rp f (r.drop 8)
    else if c = 3 then ⟨2, 0, strOfNums (r.takeWhile (fun b => b != 0)), false⟩ :: rp f (r.drop ((r.takeWhile (fun b => b != 0)).length + 1))
    else if c = 4 then ⟨3, 0, ⟨#[]⟩, hd r⟩ :: rp f (r.drop 1)
    else ⟨c - 1, 0, ⟨#[]⟩, false⟩ :: rp f r
theorem numV_range (n : Nat) : -9223372036854775808 ≤ numV n ∧ numV n ≤ 9223372036854775807 := by
  unfold numV
  generalize Go.bits .xor .u64 (n : Int) 9223372036854775808 = z
  simp [wrap64, IntKind.wrap, IntKind.signed, IntKind.bits]
  omega
theorem rp_range : ∀ (f : Nat) (L : List Int), ∀ x ∈ rp f L, -9223372036854775808 ≤ x.f1 ∧ x.f1 ≤ 9223372036854775807
  | 0, L => by intro x hx; simp [rp] at hx
  | f + 1, [] => by intro x hx; simp [rp] at hx
  | f + 1, c :: r => by
    intro x hx
    unfold rp at hx
    by_cases h1 : c = 2
    · rw [if_pos h1] at hx
      rcases List.mem_cons.1 hx with rfl | hx
      · exact numV_range _
      · exact rp_range f _ x hx
    · rw [if_neg h1] at hx
      by_cases h2 : c = 3
      · rw [if_pos h2] at hx
        rcases List.mem_cons.1 hx with rfl | hx
        · dsimp only; omega
        · exact rp_range f _ x hx
      · rw [if_neg h2] at hx
        by_cases h3 : c = 4
        · rw [if_pos h3] at hx
          rcases List.mem_cons.1 hx with rfl | hx
          · dsimp only; omega
          · exact rp_range f _ x hx
        · rw [if_neg h3] at hx
          rcases List.mem_cons.1 hx with rfl | hx
          · dsimp only; omega
          · exact rp_range f _ x hx
theorem rp_len : ∀ (f : Nat) (L : List Int), (rp f L).length ≤ f
  | 0, L => by simp [rp]
  | f + 1, [] => by simp [rp]
  | f + 1, c :: r => by
    unfold rp
    have a := rp_len f (r.drop 8)
    have b := rp_len f (r.drop ((r.takeWhile (fun b => b != 0)).length + 1))
    have d := rp_len f (r.drop 1)
    have e := rp_len f r
    repeat' split
    all_goals simp only [List.length_cons]; omega
/-- The document's answer, of what was read. -/
def judge (s : ByteArray) (l : List S41) : List S41 × Int := if (told (encode l)).2 = 0 then (if (told (encode l)).1.toList = s.toList then (l, 0) else ([], 3)) else ([], 3)
theorem judge_f (k : Nat) (s : ByteArray) (l : List S41) (i : Int) (hi : ¬ i < (s.size : Int)) (hl : l.length < 4000000) (hr : ∀ x ∈ l, -9223372036854775808 ≤ x.f1 ∧ x.f1 ≤ 9223372036854775807) (hk : l.length + 4400 ≤ k) : barbicanref06_Decode.l0 k s l i = some (judge s l) := by
  obtain ⟨k, rfl⟩ : ∃ q, k = q + 1 := ⟨k - 1, by omega⟩
  simp only [barbicanref06_Decode.l0]
  rw [if_neg hi, ref_encode k l (by omega) hr (by omega), Option.bind_some]
  unfold judge
  by_cases h1 : (told (encode l)).2 = 0
  · rw [if_pos h1, if_pos h1]
    by_cases h2 : (told (encode l)).1.toList = s.toList
    · rw [if_pos h2, if_pos h2]
    · rw [if_neg h2, if_neg h2]
  · rw [if_neg h1, if_neg h1]
theorem u64_nat (n : Nat) : IntKind.u64.wrap (n : Int) = ((n % 18446744073709551616 : Nat) : Int) := by simp [IntKind.wrap, IntKind.signed, IntKind.bits]
/-- The loop that reckons a number: it ends in the loop of the values. -/
theorem loop1 (L : List Int) (hL : Byt L) (hlen : L.length < 4000000) (acc : List S41) (hacc : acc.length < 3518437208883) (f0 f1 : Int) (f2 : ByteArray) (f3 : Bool) (K : Nat) (X : Option (List S41 × Int)) :
    ∀ (d j i n k : Nat), j + d = 8 → n < 18446744073709551616 → i ≤ L.length → K + d + 1 ≤ k → (∀ q, K ≤ q → barbicanref06_Decode.l0 q (strOfNums L) (acc ++ [⟨f0, numV (foldN n ((L.drop i).take d)), f2, f3⟩]) ((i + ((L.drop i).take d).length : Nat) : Int) = X) →
    barbicanref06_Decode.l1 k (strOfNums L) acc (i : Int) (n : Int) (j : Int) f0 f1 f2 f3 = X := by
  intro d
  induction d with
  | zero =>
    intro j i n k hj hn hi hk hX
    obtain ⟨k, rfl⟩ : ∃ q, k = q + 1 := ⟨k - 1, by omega⟩
    simp only [barbicanref06_Decode.l1]
    rw [if_neg (by omega), if_pos hacc]
    have h := hX k (by omega)
    simpa [foldN, numV] using h
  | succ d ih =>
    intro j i n k hj hn hi hk hX
    obtain ⟨k, rfl⟩ : ∃ q, k = q + 1 := ⟨k - 1, by omega⟩
    simp only [barbicanref06_Decode.l1]
    rw [if_pos (by omega)]
    by_cases hil : i < L.length
    · have hb := hL L[i] (List.getElem_mem hil)
      rw [if_pos (by rw [son_size]; omega), if_pos (by omega), son_bt L hL i hil]
      have hdrop : (L.drop i).take (d + 1) = L[i] :: (L.drop (i + 1)).take d := by rw [List.drop_eq_getElem_cons hil, List.take_succ_cons]
      rw [hdrop] at hX
      obtain ⟨b, hb0⟩ := Int.eq_ofNat_of_zero_le hb.1
      rw [hb0] at hX hb ⊢
      have e1 : IntKind.u64.wrap (IntKind.u64.wrap ((n : Int) * 256) + IntKind.u64.wrap (b : Int)) = (((n * 256 + b) % 18446744073709551616 : Nat) : Int) := by
        rw [show (n : Int) * 256 = ((n * 256 : Nat) : Int) by omega, u64_nat, u64_nat, ← Int.natCast_add, u64_nat]
        omega
      rw [e1, show wrap64 ((i : Int) + 1) = ((i + 1 : Nat) : Int) by rw [w64 _ (by omega) (by omega)]; omega, show wrap64 ((j : Int) + 1) = ((j + 1 : Nat) : Int) by rw [w64 _ (by omega) (by omega)]; omega]
      refine ih (j + 1) (i + 1) _ k (by omega) (Nat.mod_lt _ (by omega)) (by omega) (by omega) (fun q hq => ?_)
      have h := hX q hq
      simp only [foldN, Int.toNat_natCast, List.length_cons] at h
      rw [show i + 1 + (List.take d (List.drop (i + 1) L)).length = i + ((List.take d (List.drop (i + 1) L)).length + 1) by omega]
      exact h
    · rw [if_neg (by rw [son_size]; omega), if_pos hacc]
      have h := hX k (by omega)
      rw [List.drop_eq_nil_of_le (by omega)] at h
      simpa [foldN, numV] using h
/-- The loop over a text: up to the nought, or the end. -/
theorem loop2 (L : List Int) (hL : Byt L) (hlen : L.length < 4000000) (acc : List S41) (hacc : acc.length < 3518437208883) (f0 f1 : Int) (f3 : Bool) (K m : Nat) (X : Option (List S41 × Int)) :
    ∀ (d i k : Nat), i + d = L.length → m ≤ i → K + d + 1 ≤ k → (∀ q, K ≤ q → barbicanref06_Decode.l0 q (strOfNums L) (acc ++ [⟨f0, f1, strOfNums ((L.drop m).take (i + ((L.drop i).takeWhile (fun b => b != 0)).length - m)), f3⟩]) ((i + ((L.drop i).takeWhile (fun b => b != 0)).length + 1 : Nat) : Int) = X) →
    ∀ f2, barbicanref06_Decode.l2 k (strOfNums L) acc (i : Int) (m : Int) f0 f1 f2 f3 = X := by
  intro d
  induction d with
  | zero =>
    intro i k hi hm hk hX f2
    obtain ⟨k, rfl⟩ : ∃ q, k = q + 1 := ⟨k - 1, by omega⟩
    simp only [barbicanref06_Decode.l2]
    have h := hX k (by omega)
    rw [List.drop_eq_nil_of_le (show L.length ≤ i by omega)] at h
    rw [if_neg (by rw [son_size]; omega), if_pos (by omega), if_pos (by omega), if_pos (by rw [son_size]; omega), if_pos hacc, son_extract, Int.toNat_natCast, Int.toNat_natCast, show wrap64 ((i : Int) + 1) = ((i + 1 : Nat) : Int) by rw [w64 _ (by omega) (by omega)]; omega]
    simpa using h
  | succ d ih =>
    intro i k hi hm hk hX f2
    obtain ⟨k, rfl⟩ : ∃ q, k = q + 1 := ⟨k - 1, by omega⟩
    have hil : i < L.length := by omega
    simp only [barbicanref06_Decode.l2]
    rw [if_pos (by rw [son_size]; omega), if_pos (by omega), son_bt L hL i hil, show wrap64 ((i : Int) + 1) = ((i + 1 : Nat) : Int) by rw [w64 _ (by omega) (by omega)]; omega]
    rw [List.drop_eq_getElem_cons hil] at hX
    by_cases h0 : L[i] = 0
    · have h := hX k (by omega)
      rw [List.takeWhile_cons_of_neg (by simpa using h0)] at h
      rw [if_pos h0, if_pos (by omega), if_pos (by omega), if_pos (by rw [son_size]; omega), if_pos hacc, son_extract, Int.toNat_natCast, Int.toNat_natCast]
      simpa using h
    · rw [if_neg h0]
      refine ih (i + 1) k (by omega) (by omega) (by omega) (fun q hq => ?_) f2
      have h := hX q hq
      rw [List.takeWhile_cons_of_pos (by simpa using h0), List.length_cons] at h
      rw [show i + 1 + (List.takeWhile (fun b => b != 0) (List.drop (i + 1) L)).length = i + ((List.takeWhile (fun b => b != 0) (List.drop (i + 1) L)).length + 1) by omega]
      exact h
theorem drop_least (r : List Int) (n : Nat) : r.drop (r.take n).length = r.drop n := by
  rw [List.length_take]
  by_cases h : n ≤ r.length
  · rw [Nat.min_eq_left h]
  · rw [Nat.min_eq_right (by omega), List.drop_eq_nil_of_le (Nat.le_refl _), List.drop_eq_nil_of_le (by omega)]
theorem take_while (r : List Int) : r.take (r.takeWhile (fun b => b != 0)).length = r.takeWhile (fun b => b != 0) := by
  conv => lhs; arg 2; rw [← List.takeWhile_append_dropWhile (p := fun b : Int => b != 0) (l := r)]
  rw [List.take_left]
theorem ref_dec (L : List Int) (hL : Byt L) (hlen : L.length < 2000000) (M : Nat) (hM : M = L.length + 30) : ∀ (f i : Nat) (acc : List S41) (k : Nat), L.length ≤ i + f → acc.length + f < 3000000 → (∀ x ∈ acc, -9223372036854775808 ≤ x.f1 ∧ x.f1 ≤ 9223372036854775807) → f * M + acc.length + f + 4500 ≤ k → i ≤ L.length + 1 →
    barbicanref06_Decode.l0 k (strOfNums L) acc (i : Int) = some (judge (strOfNums L) (acc ++ rp f (L.drop i))) := by
  have hend : ∀ (f i : Nat) (acc : List S41) (k : Nat), L.length ≤ i → acc.length + f < 3000000 → (∀ x ∈ acc, -9223372036854775808 ≤ x.f1 ∧ x.f1 ≤ 9223372036854775807) → acc.length + f + 4500 ≤ k →
      barbicanref06_Decode.l0 k (strOfNums L) acc (i : Int) = some (judge (strOfNums L) (acc ++ rp f (L.drop i))) := by
    intro f i acc k hi hf hr hk
    have e : rp f (L.drop i) = [] := by
      rw [List.drop_eq_nil_of_le hi]
      cases f <;> rfl
    rw [e, List.append_nil]
    exact judge_f k _ acc i (by rw [son_size]; omega) (by omega) hr (by omega)
  intro f
  induction f with
  | zero =>
    intro i acc k hi hf hr hk hi2
    exact hend 0 i acc k (by omega) hf hr (by omega)
  | succ f ih =>
    intro i acc k hi hf hr hk hi2
    rw [Nat.succ_mul] at hk
    obtain ⟨g, hg⟩ : ∃ g, g = f * M := ⟨_, rfl⟩
    rw [← hg] at hk ih
    by_cases hil : i < L.length
    case neg => exact hend (f + 1) i acc k (by omega) hf hr (by omega)
    obtain ⟨k, rfl⟩ : ∃ q, k = q + 1 := ⟨k - 1, by omega⟩
    have hb := hL L[i] (List.getElem_mem hil)
    have hdrop : L.drop i = L[i] :: L.drop (i + 1) := List.drop_eq_getElem_cons hil
    have hstep : Unit → wrap64 ((i : Int) + 1) = ((i + 1 : Nat) : Int) := fun _ => by rw [w64 _ (by omega) (by omega)]; omega
    have hstep2 : Unit → wrap64 (((i + 1 : Nat) : Int) + 1) = ((i + 2 : Nat) : Int) := fun _ => by rw [w64 _ (by omega) (by omega)]; omega
    obtain ⟨r, hr0⟩ : ∃ r, r = L.drop (i + 1) := ⟨_, rfl⟩
    have hrl : r.length = L.length - (i + 1) := by rw [hr0, List.length_drop]
    have hdd : ∀ n, L.drop (i + 1 + n) = r.drop n := by intro n; rw [hr0, List.drop_drop]
    simp only [barbicanref06_Decode.l0]
    rw [if_pos (by rw [son_size]; omega), if_pos (by omega), son_bt L hL i hil, hstep (), hstep2 (), hdrop, ← hr0]
    obtain ⟨c, hc⟩ : ∃ c, c = L[i] := ⟨_, rfl⟩
    rw [← hc] at hb ⊢
    have hw : Unit → wrap64 (wrap64 c - 1) = c - 1 := fun _ => by rw [w64 c (by omega) (by omega), w64 _ (by omega) (by omega)]
    rw [hw ()]
    -- how one value more is read
    have more : ∀ (v : S41) (i' q : Nat) (tl : List Int), -9223372036854775808 ≤ v.f1 ∧ v.f1 ≤ 9223372036854775807 → i < i' → i' ≤ L.length + 1 → L.drop i' = tl → g + acc.length + 1 + f + 4500 ≤ q →
        barbicanref06_Decode.l0 q (strOfNums L) (acc ++ [v]) (i' : Int) = some (judge (strOfNums L) (acc ++ v :: rp f tl)) := by
      intro v i' q tl hv h1 h2 h3 h4
      have h := ih i' (acc ++ [v]) q (by omega) (by rw [List.length_append, List.length_singleton]; omega) (by
        intro x hx
        rcases List.mem_append.1 hx with hx | hx
        · exact hr x hx
        · rw [List.mem_singleton.1 hx]; exact hv) (by rw [List.length_append, List.length_singleton]; omega) h2
      rw [h, h3]
      simp
    by_cases h1 : c = 2
    · rw [if_pos (by omega)]
      have hl8 : (r.take 8).length ≤ r.length := by rw [List.length_take]; omega
      refine loop1 L hL (by omega) acc (by omega) _ _ _ _ (g + acc.length + 1 + f + 4500) _ 8 0 (i + 1) 0 k (by omega) (by omega) (by omega) (by omega) (fun q hq => ?_)
      rw [← hr0, show rp (f + 1) (c :: r) = ⟨1, numV (foldN 0 (r.take 8)), ⟨#[]⟩, false⟩ :: rp f (r.drop 8) by simp only [rp]; rw [if_pos h1], h1]
      exact more _ _ q _ (numV_range _) (by omega) (by omega) (by rw [hdd, drop_least]) hq
    · rw [if_neg (by omega)]
      by_cases h2 : c = 3
      · rw [if_pos (by omega)]
        have hlu : (r.takeWhile (fun b => b != 0)).length ≤ r.length := by
          rw [← take_while r, List.length_take]
          omega
        refine loop2 L hL (by omega) acc (by omega) _ _ _ (g + acc.length + 1 + f + 4500) (i + 1) _ (L.length - (i + 1)) (i + 1) k (by omega) (by omega) (by omega) (fun q hq => ?_) _
        rw [← hr0, Nat.add_sub_cancel_left, take_while r, show rp (f + 1) (c :: r) = ⟨2, 0, strOfNums (r.takeWhile (fun b => b != 0)), false⟩ :: rp f (r.drop ((r.takeWhile (fun b => b != 0)).length + 1)) by simp only [rp]; rw [if_neg h1, if_pos h2], h2]
        exact more _ _ q _ (by dsimp only; omega) (by omega) (by omega) (by rw [Nat.add_assoc (i + 1), hdd]) hq
      · rw [if_neg (by omega)]
        by_cases h3 : c = 4
        · rw [if_pos (by omega)]
          have hrp : rp (f + 1) (c :: r) = ⟨3, 0, ⟨#[]⟩, hd r⟩ :: rp f (r.drop 1) := by simp only [rp]; rw [if_neg h1, if_neg h2, if_pos h3]
          rw [hrp]
          by_cases h4 : i + 1 < L.length
          · have hne : r = L[i + 1] :: r.drop 1 := by
              rw [hr0, List.drop_eq_getElem_cons h4]
              rfl
            have hhd : hd r = (L[i + 1] == 1) := by rw [hne]; rfl
            rw [if_pos (by rw [son_size]; omega), if_pos (by omega), if_pos (by omega), son_bt L hL (i + 1) h4, hhd, h3]
            exact more _ (i + 2) k _ (by dsimp only; omega) (by omega) (by omega) (hdd 1) (by omega)
          · have hne : r = [] := List.eq_nil_of_length_eq_zero (by omega)
            have hhd : hd r = false := by rw [hne]; rfl
            rw [if_neg (by rw [son_size]; omega), if_pos (by omega), hhd, h3]
            exact more _ (i + 2) k _ (by dsimp only; omega) (by omega) (by omega) (hdd 1) (by omega)
        · rw [if_neg (by omega), if_pos (by omega), show rp (f + 1) (c :: r) = ⟨c - 1, 0, ⟨#[]⟩, false⟩ :: rp f r by simp only [rp]; rw [if_neg h1, if_neg h2, if_neg h3]]
          exact more _ (i + 1) k _ (by dsimp only; omega) (by omega) (by omega) hr0.symm (by omega)
theorem foldN_be (n : Nat) (hn : n < 18446744073709551616) : ∀ d, foldN (n / 256 ^ d) (beN d n) = n
  | 0 => by simp [foldN, beN]
  | d + 1 => by
    have ih := foldN_be n hn d
    have hlt : n / 256 ^ d < 18446744073709551616 := Nat.lt_of_le_of_lt (Nat.div_le_self _ _) hn
    simp only [beN, foldN, Int.toNat_natCast]
    have e : n / 256 ^ (d + 1) * 256 + n / 256 ^ d % 256 = n / 256 ^ d := by
      rw [Nat.pow_succ, ← Nat.div_div_eq_div_mul]
      omega
    rw [e, Nat.mod_eq_of_lt hlt]
    exact ih
theorem while_of (p : List Int) : ∀ u : List Int, (∀ c ∈ u, c ≠ 0) → (u ++ 0 :: p).takeWhile (fun b => b != 0) = u
  | [], _ => by simp
  | a :: u, h => by
    have ih := while_of p u (fun c hc => h c (by simp [hc]))
    rw [List.cons_append, List.takeWhile_cons_of_pos (by simpa using h a (by simp)), ih]
theorem rp_enc : ∀ (l : List S41) (f : Nat), (∀ x ∈ l, Ok x) → l.length ≤ f → rp f (encL l) = l
  | [], f, _, _ => by cases f <;> rfl
  | x :: l, f, h, hf => by
    obtain ⟨f, rfl⟩ : ∃ q, f = q + 1 := ⟨f - 1, by rw [List.length_cons] at hf; omega⟩
    rw [List.length_cons] at hf
    have ih := rp_enc l f (fun y hy => h y (by simp [hy])) (by omega)
    have hx := h x (by simp)
    have hs := shape_cases hx.shape
    obtain ⟨f0, f1, f2, f3⟩ := x
    dsimp only at hs
    simp only [encL, encI]
    rcases hs with ⟨rfl, rfl, rfl, rfl⟩ | ⟨rfl, rfl, rfl⟩ | ⟨rfl, rfl, rfl⟩ | ⟨rfl, rfl, rfl⟩
    · simp only [List.cons_append, rp]
      rw [if_neg (by omega), if_neg (by omega), if_neg (by omega)]
      simpa using ih
    · have hi := hx.i
      dsimp only at hi
      have e0 : up f1 / 256 ^ 8 = 0 := Nat.div_eq_of_lt (by rw [show (256 : Nat) ^ 8 = 18446744073709551616 by decide]; exact up_lt f1 hi)
      have hfold := foldN_be (up f1) (up_lt f1 hi) 8
      rw [e0] at hfold
      rw [if_pos rfl]
      simp only [List.cons_append, rp]
      rw [if_pos (by omega), List.take_left' (beN_len 8 _), List.drop_left' (beN_len 8 _), hfold, ih]
      unfold numV
      rw [down_xor f1 hi]
    · have hpr := hx.printed
      dsimp only at hpr
      rw [if_neg (by omega), if_pos rfl]
      simp only [List.cons_append, List.append_assoc, List.nil_append, rp]
      have hw := while_of (encL l) (bytesOf f2) (fun c hc => by have := hpr c hc; omega)
      rw [if_neg (by omega), if_pos (by omega), hw, show bytesOf f2 ++ 0 :: encL l = (bytesOf f2 ++ [0]) ++ encL l by simp, List.drop_left' (by simp), son_bytesOf, ih]
    · rw [if_neg (by omega), if_neg (by omega), if_pos rfl]
      simp only [List.cons_append, List.nil_append, rp]
      rw [if_neg (by omega), if_neg (by omega), if_pos (by omega)]
      simp only [List.drop_succ_cons, List.drop_zero]
      rw [ih]
      cases f3 <;> rfl
end EncL
end Go.Proofs.YtcchjnadhjeniaaDoor.Pure
