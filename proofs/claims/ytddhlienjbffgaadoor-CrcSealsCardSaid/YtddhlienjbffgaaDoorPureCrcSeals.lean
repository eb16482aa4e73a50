/- CrcSeals, plain: bytes sealed, and any bytes opened, or the error, are the document's; they stay. -/
import Derived.Test.YtddhlienjbffgaaDoorXAllx6
import Derived.Test.YtddhlienjbffgaaDoorXAllx4
import Derived.Test.YtddhlienjbffgaaDoorPure4
namespace Go.Proofs.YtddhlienjbffgaaDoor.Pure
open Go.RowKit Go.Proofs.YtddhlienjbffgaaDoor.XAll Go.Proofs.YtddhlienjbffgaaDoorW.PrintWords Go.Proofs.YtddhlienjbffgaaDoorW.PrintLast
set_option linter.unusedVariables false
set_option linter.unusedSimpArgs false
namespace CrcL
theorem rseal_f (k : Nat) (l : List Int) (hl : Bytes l) (hm : l.length < 140737488355320) (hk : l.length + 10 < k) : barbicanref04_Seal.f k l = some (sealed l) := by
  unfold barbicanref04_Seal.f
  have hb := upd_lt 0 l
  have hr := ref_f k 0 l (by omega) hl (by omega) hk
  rw [show ((0 : Nat) : Int) = 0 from rfl] at hr
  rw [hr, Option.bind_some, if_pos (by simp; omega), Option.bind_some, Option.bind_some, if_pos (by simp; omega), List.nil_append]
  unfold sealed be
  have t1 : Int.tdiv ((upd 0 l : Nat) : Int) 16777216 = ((upd 0 l / 16777216 : Nat) : Int) := by rw [Int.tdiv_eq_ediv_of_nonneg (by omega)]; omega
  have t2 : Int.tdiv ((upd 0 l : Nat) : Int) 65536 = ((upd 0 l / 65536 : Nat) : Int) := by rw [Int.tdiv_eq_ediv_of_nonneg (by omega)]; omega
  have t3 : Int.tdiv ((upd 0 l : Nat) : Int) 256 = ((upd 0 l / 256 : Nat) : Int) := by rw [Int.tdiv_eq_ediv_of_nonneg (by omega)]; omega
  rw [t1, t2, t3]
  have e1 : (((upd 0 l / 16777216 : Nat) : Int) % 4294967296) % 256 = ((upd 0 l / 16777216 % 256 : Nat) : Int) := by omega
  have e2 : (((upd 0 l / 65536 : Nat) : Int) % 4294967296) % 256 = ((upd 0 l / 65536 % 256 : Nat) : Int) := by omega
  have e3 : (((upd 0 l / 256 : Nat) : Int) % 4294967296) % 256 = ((upd 0 l / 256 % 256 : Nat) : Int) := by omega
  have e4 : ((upd 0 l : Nat) : Int) % 256 = ((upd 0 l % 256 : Nat) : Int) := by omega
  rw [e1, e2, e3, e4]
theorem son_inj (a b : List Int) (ha : Bytes a) (hb : Bytes b) : (strOfNums a).toList = (strOfNums b).toList ↔ a = b := by
  constructor
  · intro h
    have h2 : a.map (fun n : Int => UInt8.ofNat n.toNat) = b.map (fun n : Int => UInt8.ofNat n.toNat) := by
      rw [ByteArray.toList_eq, ByteArray.toList_eq] at h
      simpa [strOfNums] using h
    clear h
    induction a generalizing b with
    | nil =>
      cases b with
      | nil => rfl
      | cons y b => simp at h2
    | cons x a ih =>
      cases b with
      | nil => simp at h2
      | cons y b =>
        simp only [List.map_cons, List.cons.injEq] at h2
        have hx := ha x (List.mem_cons_self ..)
        have hy := hb y (List.mem_cons_self ..)
        have h3 := congrArg UInt8.toNat h2.1
        simp only [UInt8.toNat_ofNat'] at h3
        have : x = y := by omega
        rw [this, ih b (fun z hz => ha z (List.mem_cons_of_mem _ hz)) (fun z hz => hb z (List.mem_cons_of_mem _ hz)) h2.2]
  · intro h; rw [h]
theorem be_dec (a b c d : Nat) (ha : a < 256) (hb : b < 256) (hc : c < 256) (hd : d < 256) : be (dec a b c d) = [(a : Int), (b : Int), (c : Int), (d : Int)] := by
  unfold be dec
  have e1 : (a * 16777216 + b * 65536 + c * 256 + d) / 16777216 % 256 = a := by omega
  have e2 : (a * 16777216 + b * 65536 + c * 256 + d) / 65536 % 256 = b := by omega
  have e3 : (a * 16777216 + b * 65536 + c * 256 + d) / 256 % 256 = c := by omega
  have e4 : (a * 16777216 + b * 65536 + c * 256 + d) % 256 = d := by omega
  rw [e1, e2, e3, e4]
theorem drop_four (l : List Int) (h : 4 ≤ l.length) : l.drop (l.length - 4) = [rd l ((l.length - 4 : Nat) : Int), rd l ((l.length - 4 + 1 : Nat) : Int), rd l ((l.length - 4 + 2 : Nat) : Int), rd l ((l.length - 4 + 3 : Nat) : Int)] := by
  have hr : ∀ n : Nat, (h : n < l.length) → rd l (n : Int) = l[n] := by intro n h; unfold rd; rw [Int.toNat_natCast]; simp [h]
  rw [hr _ (by omega), hr _ (by omega), hr _ (by omega), hr _ (by omega)]
  rw [List.drop_eq_getElem_cons (by omega), List.drop_eq_getElem_cons (by omega), List.drop_eq_getElem_cons (by omega), List.drop_eq_getElem_cons (by omega), List.drop_eq_nil_of_le (by omega)]
/-- A text is a sealed one if its last four bytes are the sum of the others. -/
theorem seal_iff (l : List Int) (hl : Bytes l) (h : 4 ≤ l.length) : sealed (l.take (l.length - 4)) = l ↔ upd 0 (l.take (l.length - 4)) = tailSum l := by
  have r0 := rd_byte l hl (l.length - 4) (by omega)
  have r1 := rd_byte l hl (l.length - 4 + 1) (by omega)
  have r2 := rd_byte l hl (l.length - 4 + 2) (by omega)
  have r3 := rd_byte l hl (l.length - 4 + 3) (by omega)
  constructor
  · intro he
    have h1 := opened_seal (l.take (l.length - 4))
    rw [he] at h1
    unfold opened at h1
    rw [if_neg (by omega)] at h1
    apply Decidable.byContradiction
    intro hn
    rw [if_neg hn] at h1
    have := congrArg (fun z => z.2) h1
    simp at this
  · intro he
    unfold sealed
    rw [he]
    unfold tailSum
    rw [be_dec _ _ _ _ (by omega) (by omega) (by omega) (by omega), Int.toNat_of_nonneg r0.1, Int.toNat_of_nonneg r1.1, Int.toNat_of_nonneg r2.1, Int.toNat_of_nonneg r3.1, ← drop_four l h, List.take_append_drop]
theorem ropen_f (k : Nat) (l : List Int) (hl : Bytes l) (hm : l.length < 140737488355320) (hk : l.length + 10 < k) : barbicanref04_Open.f k l = some ((opened l).1, (opened l).2.getD 0) := by
  unfold barbicanref04_Open.f opened
  by_cases h : l.length < 4
  · rw [if_pos (by omega), if_pos h]; rfl
  · rw [if_neg (by omega), if_neg h, wrap64_small ((l.length : Int) - 4) (by omega) (by omega), if_pos (by omega), if_pos (by omega), show ((l.length : Int) - 4) = ((l.length - 4 : Nat) : Int) by omega, Int.toNat_natCast,
      rseal_f k _ (bytes_take _ hl) (by rw [List.length_take]; omega) (by rw [List.length_take]; omega), Option.bind_some]
    have hi := (son_inj _ _ (seal_bytes _ (bytes_take (l.length - 4) hl)) hl).trans (seal_iff l hl (by omega))
    by_cases hs : upd 0 (l.take (l.length - 4)) = tailSum l
    · rw [if_pos (hi.2 hs), if_pos hs]; rfl
    · rw [if_neg (fun z => hs (hi.1 z)), if_neg hs]; rfl
theorem cs_loop (l : List Int) : ∀ (d : Nat) (y : List Int) (k i : Nat), y.length < 9223372036854770000 → i + d = y.length → d < k → barbicanlaw04_CrcSeals.l0 k l l y true (i : Int) = some true := by
  intro d
  induction d with
  | zero =>
    intro y k i hy hi hk
    obtain ⟨k, rfl⟩ : ∃ q, k = q + 1 := ⟨k - 1, by omega⟩
    simp only [barbicanlaw04_CrcSeals.l0, ↓reduceIte]
    rw [if_neg (by omega), sure4]
    rfl
  | succ d ih =>
    intro y k i hy hi hk
    obtain ⟨k, rfl⟩ : ∃ q, k = q + 1 := ⟨k - 1, by omega⟩
    simp only [barbicanlaw04_CrcSeals.l0]
    rw [if_pos (by omega), if_pos (by omega), wrap64_small _ (by omega) (by omega), show (i : Int) + 1 = ((i + 1 : Nat) : Int) by omega]
    exact ih _ k (i + 1) (by rw [List.length_set]; exact hy) (by rw [List.length_set]; omega) (by omega)
end CrcL
open CrcL in
theorem CrcSeals (l0 : List Int) (g0 : (fun xs : List Int => xs.length ≤ maxLen ∧ ∀ x ∈ xs, (fun n : Int => (Lit.int .u8 n).wf = true) x) l0) (b0 : l0.length * 1 ≤ 140737488351232) : ∃ k, barbicanlaw04_CrcSeals.f k l0 = some true := by
  have hl : Bytes l0 := bytes_wf g0.2
  have hlen : (opened l0).1.length ≤ l0.length := by
    unfold opened
    repeat' split
    · simp
    · rw [List.length_take]; omega
    · simp
  refine ⟨l0.length + 100, ?_⟩
  unfold barbicanlaw04_CrcSeals.f
  rw [twin4 _ (by omega), Option.bind_some, seal_f _ hl (by omega), Option.bind_some, open_f _ hl (by omega), Option.bind_some, ropen_f _ _ hl (by omega) (by omega), Option.bind_some, rseal_f _ _ hl (by omega) (by omega), Option.bind_some, if_pos rfl]
  dsimp only
  rw [if_pos rfl]
  unfold barbicanlaw04_num.f
  rw [Option.bind_some, if_pos rfl, beq_self_eq_true]
  simp only [barbicanlaw04_CrcSeals.j0]
  exact cs_loop l0 (opened l0).1.length (opened l0).1 (l0.length + 99) 0 (by omega) (by omega) (by omega)
end Go.Proofs.YtddhlienjbffgaaDoor.Pure
