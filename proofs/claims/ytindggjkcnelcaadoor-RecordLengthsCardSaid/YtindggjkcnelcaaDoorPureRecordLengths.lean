import Derived.Test.YtindggjkcnelcaaDoorXAllx20
import Derived.Test.YtindggjkcnelcaaDoorRecordL2
namespace Go.Proofs.YtindggjkcnelcaaDoor.Pure
open Go.RowKit Go.Proofs.YtindggjkcnelcaaDoor.XAll Go.Proofs.YtindggjkcnelcaaDoorW.PrintWords Go.Proofs.YtindggjkcnelcaaDoorW.PrintLast Go.Proofs.YtindggjkcnelcaaDoorW.PrintMore
open CrcL RecL
open Go.Proofs.YtindggjkcnelcaaDoor.PackL (uv uv_len uv_byte append_f uv_mono u64_small u64_wf i64_wf uints_f)
set_option linter.unusedVariables false
set_option linter.unusedSimpArgs false
theorem RecordLengths (a0 : Int) (l1 : List Int) (a2 : Int) (g0 : (fun n : Int => (Lit.int .u64 n).wf = true) a0) (g1 : (fun xs : List Int => xs.length ≤ maxLen ∧ ∀ x ∈ xs, (fun n : Int => (Lit.int .u8 n).wf = true) x) l1) (b1 : l1.length * 1 ≤ 140737488351232) (g2 : (fun n : Int => (Lit.int .i64 n).wf = true) a2) : ∃ k, barbicanlaw10_RecordLengths.f k a0 l1 a2 = some true := by
  obtain ⟨k, hk⟩ : ∃ k : Nat, 2000000 ≤ k := ⟨_, Nat.le_refl _⟩
  refine ⟨k, ?_⟩
  have he := u64_wf g0
  have hl : Bytes l1 := bytes_wf g1.2
  have hu : 0 ≤ IntKind.u64.wrap a2 := by simp [IntKind.wrap, IntKind.signed, IntKind.bits]; omega
  unfold barbicanlaw10_RecordLengths.f
  rw [Int.tmod_eq_emod_of_nonneg hu]
  obtain ⟨d, hd⟩ : ∃ d, d = IntKind.u64.wrap a2 % 1000 := ⟨_, rfl⟩
  have hd0 : 0 ≤ d ∧ d < 1000 := by omega
  rw [← hd, wrap64_small d (by omega) (by omega), wrap64_small ((l1.length : Int) + d) (by omega) (by omega), wrap64_small ((l1.length : Int) + 4) (by omega) (by omega)]
  have hS := sure10 k (by omega)
  rw [twin10 _ (by omega), Option.bind_some, frame_f k a0 l1 he hl (by omega), Option.bind_some, len_f k a0 _ he (by omega), Option.bind_some]
  cases hb : bad l1.length with
  | some c =>
    have e : lenOf a0 l1.length = (0, some c) := by unfold lenOf; rw [hb]
    have ef : frOf a0 l1 = [] := by unfold frOf; rw [hb]
    rw [e, ef, if_neg (by show ¬ (false = true); decide)]
    simp [barbicanlaw10_num.f, hS]
  | none =>
    have hn := bad_none hb
    have e : lenOf a0 l1.length = (((head a0 l1.length).length : Int) + l1.length + 4, none) := by unfold lenOf; rw [hb]
    have hh := head_len a0 (l1.length : Int)
    have hfl := framed_len a0 l1
    have ef : frOf a0 l1 = framed a0 l1 := by unfold frOf; rw [hb]
    rw [e, ef, if_pos (by rfl), len_f k a0 _ he (by omega), Option.bind_some, if_pos (by rfl), if_pos (by show _ = (((framed a0 l1).length : Nat) : Int); rw [hfl]; omega), if_pos (by show _ + _ + (4 : Int) > _; omega)]
    cases hb2 : bad ((l1.length : Int) + d) with
    | none =>
      have hn2 := bad_none hb2
      have e2 : lenOf a0 ((l1.length : Int) + d) = (((head a0 ((l1.length : Int) + d)).length : Int) + ((l1.length : Int) + d) + 4, none) := by unfold lenOf; rw [hb2]
      have hm : (head a0 (l1.length : Int)).length ≤ (head a0 ((l1.length : Int) + d)).length := by
        have := uv_mono 9 (l1.length : Int) ((l1.length : Int) + d) (by omega) (by omega)
        unfold head
        rw [List.length_append, List.length_append]
        omega
      rw [e2, if_pos (by rfl), if_pos (by show _ + _ + (4 : Int) ≥ _ + _ + 4; omega), hS, Option.bind_some]
    | some c =>
      have e2 : lenOf a0 ((l1.length : Int) + d) = (0, some c) := by unfold lenOf; rw [hb2]
      have hc : c = 2 ∧ (l1.length : Int) + d > 1048576 := by
        unfold bad at hb2
        rw [if_neg (by omega)] at hb2
        split at hb2
        · simp at hb2; omega
        · cases hb2
      rw [e2, if_neg (by show ¬ (false = true); decide)]
      simp only [barbicanlaw10_num.f, hS, Option.bind_some]
      rw [if_pos (by show c = 2; exact hc.1), if_pos hc.2]
end Go.Proofs.YtindggjkcnelcaaDoor.Pure
