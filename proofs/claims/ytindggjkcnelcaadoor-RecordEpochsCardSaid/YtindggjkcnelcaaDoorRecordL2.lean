/- Records: lengths, the document's answer, what must come. -/
import Derived.Test.YtindggjkcnelcaaDoorXAllx11
import Derived.Test.YtindggjkcnelcaaDoorXAllx11
import Derived.Test.YtindggjkcnelcaaDoorXAllx12
import Derived.Test.YtindggjkcnelcaaDoorXAllx10
import Derived.Test.YtindggjkcnelcaaDoorXAllx11
import Derived.Test.YtindggjkcnelcaaDoorRecordL
namespace Go.Proofs.YtindggjkcnelcaaDoor.Pure
open Go.RowKit Go.Proofs.YtindggjkcnelcaaDoor.XAll Go.Proofs.YtindggjkcnelcaaDoorW.PrintWords Go.Proofs.YtindggjkcnelcaaDoorW.PrintLast Go.Proofs.YtindggjkcnelcaaDoorW.PrintMore
open CrcL
open Go.Proofs.YtindggjkcnelcaaDoor.PackL (uv uv_len uv_byte append_f uv_mono u64_small u64_wf i64_wf uints_f)
set_option linter.unusedVariables false
set_option linter.unusedSimpArgs false
namespace RecL
def lenOf (e n : Int) : Int × Option Int := match bad n with | none => (((head e n).length : Int) + n + 4, none) | some c => (0, some c)
theorem bad_none {n : Int} (h : bad n = none) : 1 ≤ n ∧ n ≤ 1048576 := by
  unfold bad at h
  split at h
  · cases h
  · split at h
    · cases h
    · omega
theorem len_f (k : Nat) (e n : Int) (he : 0 ≤ e ∧ e < 18446744073709551616) (hk : 10 ≤ k) : record_Len.f k e n = some (lenOf e n) := by
  unfold record_Len.f lenOf
  rw [check_f, Option.bind_some]
  cases hb : bad n with
  | some c => rw [if_neg (by simp)]; rfl
  | none =>
    have hn := bad_none hb
    have hh := head_len e n
    rw [if_pos (by rfl), head_f k e n he (by omega) hn.2 hk, Option.bind_some, wrap64_small (((head e n).length : Int) + n) (by omega) (by omega), wrap64_small _ (by omega) (by omega)]
theorem refSeal_f (k : Nat) (l : List Int) (hl : Bytes l) (hm : l.length < 140737488355320) (hk : l.length + 10 < k) : barbicanref04_Seal.f k l = some (sealed l) := by
  unfold barbicanref04_Seal.f
  have hb := upd_lt 0 l
  have h0 : barbicanref04_Update.f k 0 l = some ((upd 0 l : Nat) : Int) := ref_f k 0 l (by omega) hl (by omega) hk
  rw [h0, Option.bind_some, if_pos (by simp; omega), Option.bind_some, Option.bind_some, List.nil_append, if_pos (by simp; omega)]
  unfold sealed be
  rw [Int.tdiv_eq_ediv_of_nonneg (by omega), Int.tdiv_eq_ediv_of_nonneg (by omega), Int.tdiv_eq_ediv_of_nonneg (by omega)]
  generalize upd 0 l = s at hb
  have e1 : (s : Int) / 16777216 % 4294967296 % 256 = ((s / 16777216 % 256 : Nat) : Int) := by omega
  have e2 : (s : Int) / 65536 % 4294967296 % 256 = ((s / 65536 % 256 : Nat) : Int) := by omega
  have e3 : (s : Int) / 256 % 4294967296 % 256 = ((s / 256 % 256 : Nat) : Int) := by omega
  have e4 : (s : Int) % 256 = ((s % 256 : Nat) : Int) := by omega
  rw [e1, e2, e3, e4]
theorem ref_frame_f (k : Nat) (e : Int) (l : List Int) (he : 0 ≤ e ∧ e < 18446744073709551616) (hl : Bytes l) (hk : 2000000 ≤ k) :
    barbicanref10_Frame.f k e l = some (frOf e l, (bad l.length).getD 0) := by
  unfold barbicanref10_Frame.f frOf
  by_cases h0 : l.length = 0
  · rw [if_pos (by omega), show bad l.length = some 1 by unfold bad; rw [if_pos (by omega)]]
    rfl
  · rw [if_neg (by omega)]
    by_cases h1 : (l.length : Int) > 1048576
    · rw [if_pos h1, show bad l.length = some 2 by unfold bad; rw [if_neg (by omega), if_pos h1]]
      rfl
    · have hb : bad l.length = none := by unfold bad; rw [if_neg (by omega), if_neg h1]
      have hh := head_len e (l.length : Int)
      have hbb := head_bytes e (l.length : Int) he (by omega) (by omega)
      have hu := uv_len 9 (l.length : Int)
      have hu2 := uv_len 9 e
      rw [if_neg h1, hb, u64_small _ (by omega) (by omega), uints_f 9 k _ (by omega) (by omega) (by omega) (by omega) (by omega), Option.bind_some, if_pos (by simp; omega), Option.bind_some, List.nil_append,
        uints_f 9 k _ he.1 he.2 (by omega) (by omega) (by omega), Option.bind_some, if_pos (by omega), Option.bind_some]
      have hd : uv 9 (l.length : Int) ++ uv 9 e = head e (l.length : Int) := rfl
      rw [hd, if_pos (by omega), refSeal_f k _ (bytes_append hbb hl) (by rw [List.length_append]; omega) (by rw [List.length_append]; omega), Option.bind_some]
      rfl
theorem sure10 (k : Nat) (hk : 10 ≤ k) : barbicanlaw10_sure.f k = some true := by
  unfold barbicanlaw10_sure.f
  have hb : Bytes [97] := by unfold Bytes; decide
  rw [frame_f k 1 [97] (by omega) hb hk, Option.bind_some]
  decide +kernel
theorem frOf_len (e : Int) (l : List Int) : ((frOf e l).length : Int) = (lenOf e l.length).1 := by
  unfold frOf lenOf
  cases bad l.length with
  | none => simp only []; rw [framed_len]; omega
  | some c => rfl
theorem lenOf_bad (e n : Int) : (lenOf e n).2 = bad n := by unfold lenOf; cases bad n <;> rfl
theorem twin10 (l : List Int) (h : l.length < 140737488355328) : barbicanlaw10_twin.f l = some l := by
  unfold barbicanlaw10_twin.f
  rw [if_pos (by simpa using h)]
  rfl
theorem bad_num (n : Int) : ((bad n).getD 0 = 0 ↔ bad n = none) ∧ ∀ c, bad n = some c → c = 1 ∨ c = 2 := by
  unfold bad
  constructor
  · split
    · simp
    · split <;> simp
  · intro c h
    split at h
    · simp at h; omega
    · split at h
      · simp at h; omega
      · cases h
end RecL
end Go.Proofs.YtindggjkcnelcaaDoor.Pure
