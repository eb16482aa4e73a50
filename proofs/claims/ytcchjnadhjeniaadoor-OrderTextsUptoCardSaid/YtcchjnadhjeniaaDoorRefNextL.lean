/- The document's next text is the program's. -/
import Derived.Test.YtcchjnadhjeniaaDoorXAllx16
import Derived.Test.YtcchjnadhjeniaaDoorXAllx17
import Derived.Test.YtcchjnadhjeniaaDoorEncL
namespace Go.Proofs.YtcchjnadhjeniaaDoor.Pure
open Go.RowKit Go.Proofs.YtcchjnadhjeniaaDoor.XAll Go.Proofs.YtcchjnadhjeniaaDoorW.PrintWords Go.Proofs.YtcchjnadhjeniaaDoorW.PrintLast Go.Proofs.YtcchjnadhjeniaaDoorW.PrintMore
set_option linter.unusedVariables false
set_option linter.unusedSimpArgs false
namespace EncL
theorem bt_rd (s : ByteArray) (j : Nat) (h : j < s.size) : bt s (j : Int) = rd (bytesOf s) (j : Int) := by
  have hb : j < (bytesOf s).length := by rw [bytesOf_length]; exact h
  have := son_bt (bytesOf s) (bytesOf_byt s) j hb
  rw [son_bytesOf] at this
  rw [this]
  unfold rd
  rw [Int.toNat_natCast]
  simp [hb]
theorem ref_next (s : ByteArray) (hs : s.size < 140737488355328) : ∀ (n k : Nat), n ≤ s.size → n + 2 ≤ k → ∃ t b, barbicanref06_Next.l0 k s ((n : Int) - 1) = some (t, b) ∧
    (if trimTo (bytesOf s) n = 0 then t.toList = [] ∧ b = false else t.toList = (strOfNums ((bytesOf s).take (trimTo (bytesOf s) n - 1) ++ [(rd (bytesOf s) ((trimTo (bytesOf s) n - 1 : Nat) : Int) + 1) % 256])).toList ∧ b = true)
  | 0, k, hn, hk => by
    obtain ⟨k, rfl⟩ : ∃ q, k = q + 1 := ⟨k - 1, by omega⟩
    simp only [barbicanref06_Next.l0]
    rw [if_neg (by omega)]
    refine ⟨_, _, rfl, ?_⟩
    rw [if_pos (by rfl)]
    exact ⟨by rw [Lib.toList_data], rfl⟩
  | n + 1, k, hn, hk => by
    obtain ⟨k, rfl⟩ : ∃ q, k = q + 1 := ⟨k - 1, by omega⟩
    simp only [barbicanref06_Next.l0]
    have e0 : (((n + 1 : Nat) : Int) - 1) = (n : Int) := by omega
    have hb := bt_rd s n (by omega)
    have hby : 0 ≤ rd (bytesOf s) (n : Int) ∧ rd (bytesOf s) (n : Int) < 256 := by
      have hl : n < (bytesOf s).length := by rw [bytesOf_length]; omega
      have e : rd (bytesOf s) (n : Int) = (bytesOf s)[n] := by unfold rd; rw [Int.toNat_natCast]; simp [hl]
      rw [e]
      exact bytesOf_byt s _ (List.getElem_mem hl)
    rw [e0, if_pos (by omega), if_pos (by omega), if_pos (by omega), hb]
    unfold trimTo
    by_cases h : rd (bytesOf s) (n : Int) = 255
    · rw [if_neg (by omega), if_pos h, show wrap64 ((n : Int) - 1) = (n : Int) - 1 from w64 _ (by omega) (by omega)]
      exact ref_next s hs n k (by omega) (by omega)
    · rw [if_pos (by omega), if_neg h, if_pos (by omega), Option.bind_some, if_pos]
      · refine ⟨_, _, rfl, ?_⟩
        rw [if_neg (by omega)]
        refine ⟨?_, rfl⟩
        rw [Lib.toList_data, ByteArray.data_append, Array.toList_append, Lib.extract_data, List.drop_zero, Nat.sub_zero, Int.toNat_natCast, strOfNums_data, Nat.add_sub_cancel, son_toList, List.map_append]
        congr 1
        have e := strOfNums_data (bytesOf s)
        rw [son_bytesOf] at e
        rw [e, List.map_take]
      · rw [son_size, List.length_singleton, ByteArray.size_extract]
        omega
theorem next_same (k : Nat) (s : ByteArray) (hs : s.size < 140737488355328) (hk : s.size + 2 ≤ k) : ∃ t t' b, order_Next.f s = some (t, b) ∧ barbicanref06_Next.f k s = some (t', b) ∧ t.toList = t'.toList := by
  obtain ⟨t', b, h1, h2⟩ := ref_next s hs s.size k (Nat.le_refl _) hk
  unfold barbicanref06_Next.f order_Next.f
  rw [w64 _ (by omega) (by omega), h1, if_pos hs]
  by_cases h : trimTo (bytesOf s) s.size = 0
  · rw [if_pos h] at h2 ⊢
    obtain ⟨e, rfl⟩ := h2
    exact ⟨_, _, _, rfl, rfl, by rw [e, Lib.toList_data]⟩
  · rw [if_neg h] at h2 ⊢
    obtain ⟨e, rfl⟩ := h2
    exact ⟨_, _, _, rfl, rfl, e.symm⟩
end EncL
end Go.Proofs.YtcchjnadhjeniaaDoor.Pure
