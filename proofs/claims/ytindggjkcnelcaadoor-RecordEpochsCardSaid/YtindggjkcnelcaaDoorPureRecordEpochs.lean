import Derived.Test.YtindggjkcnelcaaDoorXAllx18
import Derived.Test.YtindggjkcnelcaaDoorRecordL2
import Derived.Test.YtindggjkcnelcaaDoorRecordO
namespace Go.Proofs.YtindggjkcnelcaaDoor.Pure
open Go.RowKit Go.Proofs.YtindggjkcnelcaaDoor.XAll Go.Proofs.YtindggjkcnelcaaDoorW.PrintWords Go.Proofs.YtindggjkcnelcaaDoorW.PrintLast Go.Proofs.YtindggjkcnelcaaDoorW.PrintMore
open CrcL RecL
open Go.Proofs.YtindggjkcnelcaaDoor.PackL (uv uv_len uv_byte append_f uv_mono u64_small u64_wf i64_wf uints_f)
set_option linter.unusedVariables false
set_option linter.unusedSimpArgs false
theorem RecordEpochs (a0 : Int) (a1 : Int) (l2 : List Int) (g0 : (fun n : Int => (Lit.int .u64 n).wf = true) a0) (g1 : (fun n : Int => (Lit.int .u64 n).wf = true) a1) (g2 : (fun xs : List Int => xs.length ≤ maxLen ∧ ∀ x ∈ xs, (fun n : Int => (Lit.int .u8 n).wf = true) x) l2) (b2 : l2.length * 1 ≤ 140737488351232) : ∃ k, barbicanlaw10_RecordEpochs.f k a0 a1 l2 = some true := by
  obtain ⟨k, hk⟩ : ∃ k : Nat, 2000000 ≤ k := ⟨_, Nat.le_refl _⟩
  refine ⟨k, ?_⟩
  have he := u64_wf g0
  have he1 := u64_wf g1
  have hl : Bytes l2 := bytes_wf g2.2
  unfold barbicanlaw10_RecordEpochs.f
  have hS := sure10 k (by omega)
  rw [twin10 _ (by omega), Option.bind_some, frame_f k a0 l2 he hl (by omega), Option.bind_some]
  cases hb : bad l2.length with
  | some c =>
    have ef : frOf a0 l2 = [] := by unfold frOf; rw [hb]
    rw [ef, if_neg (by show ¬ (some c).isNone = true; simp), if_pos (by rfl), hS, Option.bind_some]
  | none =>
    have hn := bad_none hb
    have hfl := framed_len a0 l2
    have hh := head_len a0 (l2.length : Int)
    have hbb := head_bytes a0 (l2.length : Int) he (by omega) (by omega)
    have ef : frOf a0 l2 = framed a0 l2 := by unfold frOf; rw [hb]
    rw [ef, if_pos (by rfl)]
    have h1 : record_One.f k a1 (framed a0 l2) = some (if a0 = a1 then (l2, ((framed a0 l2).length : Int), none) else ([], 0, some 11)) := by
      rw [one_f k a1 (framed a0 l2) (seal_bytes _ (bytes_append hbb hl)) (by omega) (by omega)]
      have h := one_framed a0 a1 l2 [] he (by omega) (by omega)
      rw [List.append_nil] at h
      rw [h]
    dsimp only
    rw [h1, Option.bind_some]
    by_cases h : a0 = a1
    · rw [if_pos h, if_pos h, if_pos (by rfl), if_pos (by rfl), if_pos (by rfl), hS, Option.bind_some]
    · rw [if_neg h, if_neg h]
      show (barbicanlaw10_num.f (some 11)).bind _ = _
      unfold barbicanlaw10_num.f
      rw [Option.bind_some, if_pos (by rfl), if_pos (by rfl), if_pos (by rfl), hS, Option.bind_some]
end Go.Proofs.YtindggjkcnelcaaDoor.Pure
