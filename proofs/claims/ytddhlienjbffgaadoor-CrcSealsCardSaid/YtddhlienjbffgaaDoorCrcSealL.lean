import Derived.Test.YtddhlienjbffgaaDoorXAllx2
import Derived.Test.YtddhlienjbffgaaDoorXAllx2
import Derived.Test.YtddhlienjbffgaaDoorCrcL
namespace Go.Proofs.YtddhlienjbffgaaDoor.Pure
open Go.RowKit Go.Proofs.YtddhlienjbffgaaDoor.XAll Go.Proofs.YtddhlienjbffgaaDoorW.PrintWords Go.Proofs.YtddhlienjbffgaaDoorW.PrintLast
/- What is sealed and opened. -/
namespace CrcL
theorem sum4_f (l : List Int) (hl : Bytes l) : crc_Sum.f l = some ((upd 0 l : Nat) : Int) := by
  unfold crc_Sum.f
  rw [sum_f l hl, Option.bind_some]
theorem upd_lt (a : Nat) (l : List Int) : upd a l < 4294967296 := by unfold upd; omega
def be (s : Nat) : List Int := [((s / 16777216 % 256 : Nat) : Int), ((s / 65536 % 256 : Nat) : Int), ((s / 256 % 256 : Nat) : Int), ((s % 256 : Nat) : Int)]
theorem be_len (s : Nat) : (be s).length = 4 := rfl
theorem be_bytes (s : Nat) : Bytes (be s) := by
  intro x hx
  simp only [be, List.mem_cons, List.not_mem_nil, or_false] at hx
  omega
def sealed (l : List Int) : List Int := l ++ be (upd 0 l)
theorem seal_len (l : List Int) : (sealed l).length = l.length + 4 := by simp [sealed, be_len]
theorem bytes_append {l m : List Int} (hl : Bytes l) (hm : Bytes m) : Bytes (l ++ m) := by
  intro x hx
  rcases List.mem_append.1 hx with h | h
  · exact hl x h
  · exact hm x h
theorem bytes_take {l : List Int} (n : Nat) (hl : Bytes l) : Bytes (l.take n) := fun x hx => hl x (List.mem_of_mem_take hx)
theorem bytes_drop {l : List Int} (n : Nat) (hl : Bytes l) : Bytes (l.drop n) := fun x hx => hl x (List.mem_of_mem_drop hx)
theorem seal_bytes (l : List Int) (hl : Bytes l) : Bytes (sealed l) := bytes_append hl (be_bytes _)
theorem seal_f (l : List Int) (hl : Bytes l) (hm : l.length < 140737488355320) : crc_Seal.f l = some (sealed l) := by
  unfold crc_Seal.f
  have hb := upd_lt 0 l
  rw [sum4_f l hl, Option.bind_some, wrap64_small _ (by omega) (by omega), if_pos (by omega), if_pos (by omega), Option.bind_some, if_pos (by simp; omega), Option.bind_some, Option.bind_some, if_pos (by simp; omega), List.nil_append]
  unfold sealed be
  simp only [Int.natCast_emod, Int.natCast_ediv]
  rfl
theorem or_add (a b i : Nat) (h : b < 2 ^ i) : a * 2 ^ i ||| b = a * 2 ^ i + b := by
  have := Nat.shiftLeft_add_eq_or_of_lt h a
  rw [Nat.shiftLeft_eq] at this
  exact this.symm
def dec (a b c d : Nat) : Nat := a * 16777216 + b * 65536 + c * 256 + d
theorem or24 (a b : Nat) (h : b < 16777216) : a * 16777216 ||| b = a * 16777216 + b := or_add a b 24 h
theorem or16 (a b : Nat) (h : b < 65536) : a * 65536 ||| b = a * 65536 + b := or_add a b 16 h
theorem or8 (a b : Nat) (h : b < 256) : a * 256 ||| b = a * 256 + b := or_add a b 8 h
theorem f2_ (e c : Nat) : e * 65536 + c * 256 = (e * 256 + c) * 256 := by rw [Nat.add_mul, Nat.mul_assoc]
set_option maxRecDepth 20000 in
theorem dec_or (a b c d : Nat) (ha : a < 256) (hb : b < 256) (hc : c < 256) (hd : d < 256) :
    Go.bits .or .u32 (Go.bits .or .u32 (Go.bits .or .u32 (((((a : Int)) % 4294967296) * 16777216) % 4294967296) (((((b : Int)) % 4294967296) * 65536) % 4294967296)) (((((c : Int)) % 4294967296) * 256) % 4294967296)) ((d : Int) % 4294967296) = ((dec a b c d : Nat) : Int) := by
  have e1 : ((((a : Int)) % 4294967296) * 16777216) % 4294967296 = ((a * 16777216 : Nat) : Int) := by omega
  have e2 : ((((b : Int)) % 4294967296) * 65536) % 4294967296 = ((b * 65536 : Nat) : Int) := by omega
  have e3 : ((((c : Int)) % 4294967296) * 256) % 4294967296 = ((c * 256 : Nat) : Int) := by omega
  have e4 : ((d : Int)) % 4294967296 = ((d : Nat) : Int) := by omega
  have f1 : a * 16777216 + b * 65536 = (a * 256 + b) * 65536 := by omega
  have f2 : (a * 256 + b) * 65536 + c * 256 = ((a * 256 + b) * 256 + c) * 256 := f2_ _ _
  rw [e1, e2, e3, e4, Go.u32_or_nat _ _ (by omega) (by omega), or24 _ _ (by omega), f1, Go.u32_or_nat _ _ (by omega) (by omega), or16 _ _ (by omega), f2, Go.u32_or_nat _ _ (by omega) (by omega), or8 _ _ (by omega)]
  unfold dec
  have f3 : ((a * 256 + b) * 256 + c) * 256 + d = a * 16777216 + b * 65536 + c * 256 + d := by omega
  rw [f3]
/-- The last four bytes of a text, as a sum. -/
def tailSum (l : List Int) : Nat := dec (rd l ((l.length - 4 : Nat) : Int)).toNat (rd l ((l.length - 4 + 1 : Nat) : Int)).toNat (rd l ((l.length - 4 + 2 : Nat) : Int)).toNat (rd l ((l.length - 4 + 3 : Nat) : Int)).toNat
def opened (l : List Int) : List Int × Option Int :=
  if l.length < 4 then ([], some 12) else if upd 0 (l.take (l.length - 4)) = tailSum l then (l.take (l.length - 4), none) else ([], some 11)
theorem rd_byte (l : List Int) (hl : Bytes l) (n : Nat) (h : n < l.length) : 0 ≤ rd l (n : Int) ∧ rd l (n : Int) < 256 := by
  have : rd l (n : Int) = l[n] := by unfold rd; rw [Int.toNat_natCast]; simp [h]
  rw [this]
  exact hl _ (List.getElem_mem _)
theorem open_f (l : List Int) (hl : Bytes l) (hm : l.length < 140737488355328) : crc_Open.f l = some (opened l) := by
  unfold crc_Open.f opened
  rw [wrap64_small ((l.length : Int) - 4) (by omega) (by omega)]
  by_cases h : l.length < 4
  · rw [if_pos (by omega), if_pos h]
  · rw [if_neg (by omega), if_neg h, if_pos (by omega), if_pos (by omega), show ((l.length : Int) - 4) = ((l.length - 4 : Nat) : Int) by omega, Int.toNat_natCast, sum4_f _ (bytes_take _ hl), Option.bind_some,
      if_pos (by omega), wrap64_small _ (by omega) (by omega), if_pos (by omega), if_pos (by omega), wrap64_small _ (by omega) (by omega), if_pos (by omega), if_pos (by omega), wrap64_small _ (by omega) (by omega), if_pos (by omega), if_pos (by omega)]
    have r0 := rd_byte l hl (l.length - 4) (by omega)
    have r1 := rd_byte l hl (l.length - 4 + 1) (by omega)
    have r2 := rd_byte l hl (l.length - 4 + 2) (by omega)
    have r3 := rd_byte l hl (l.length - 4 + 3) (by omega)
    have e := dec_or (rd l ((l.length - 4 : Nat) : Int)).toNat (rd l ((l.length - 4 + 1 : Nat) : Int)).toNat (rd l ((l.length - 4 + 2 : Nat) : Int)).toNat (rd l ((l.length - 4 + 3 : Nat) : Int)).toNat (by omega) (by omega) (by omega) (by omega)
    rw [Int.toNat_of_nonneg r0.1, Int.toNat_of_nonneg r1.1, Int.toNat_of_nonneg r2.1, Int.toNat_of_nonneg r3.1] at e
    rw [show ((l.length - 4 : Nat) : Int) + 1 = ((l.length - 4 + 1 : Nat) : Int) by omega, show ((l.length - 4 : Nat) : Int) + 2 = ((l.length - 4 + 2 : Nat) : Int) by omega, show ((l.length - 4 : Nat) : Int) + 3 = ((l.length - 4 + 3 : Nat) : Int) by omega, e]
    by_cases hs : upd 0 (l.take (l.length - 4)) = tailSum l
    · rw [if_pos hs, if_pos (by rw [hs]; rfl), Option.bind_some, if_pos (by simp; omega), List.nil_append]
    · rw [if_neg hs, if_neg (by intro h; exact hs (by unfold tailSum; omega))]
theorem rd_right (l m : List Int) (i : Nat) : rd (l ++ m) ((l.length + i : Nat) : Int) = rd m (i : Int) := by
  unfold rd
  rw [Int.toNat_natCast, Int.toNat_natCast]
  simp [List.getElem?_append_right]
theorem opened_seal (l : List Int) : opened (sealed l) = (l, none) := by
  unfold opened
  have hb := upd_lt 0 l
  have hl := seal_len l
  rw [if_neg (by omega), show (sealed l).length - 4 = l.length by omega]
  have ht : (sealed l).take l.length = l := by unfold sealed; simp
  have hs : tailSum (sealed l) = upd 0 l := by
    unfold tailSum
    rw [show (sealed l).length - 4 = l.length by omega]
    unfold sealed
    rw [show ((l.length : Nat) : Int) = ((l.length + 0 : Nat) : Int) by rfl, rd_right, rd_right, rd_right, rd_right]
    unfold dec be rd
    simp
    omega
  rw [ht, hs, if_pos rfl]
end CrcL
end Go.Proofs.YtddhlienjbffgaaDoor.Pure
