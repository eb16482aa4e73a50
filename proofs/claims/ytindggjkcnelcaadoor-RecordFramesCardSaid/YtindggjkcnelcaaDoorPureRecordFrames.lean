import Derived.Test.YtindggjkcnelcaaDoorXAllx19
import Derived.Test.YtindggjkcnelcaaDoorRecordL2
namespace Go.Proofs.YtindggjkcnelcaaDoor.Pure
open Go.RowKit Go.Proofs.YtindggjkcnelcaaDoor.XAll Go.Proofs.YtindggjkcnelcaaDoorW.PrintWords Go.Proofs.YtindggjkcnelcaaDoorW.PrintLast Go.Proofs.YtindggjkcnelcaaDoorW.PrintMore
open CrcL RecL
open Go.Proofs.YtindggjkcnelcaaDoor.PackL (uv uv_len uv_byte append_f uv_mono u64_small u64_wf i64_wf uints_f)
set_option linter.unusedVariables false
set_option linter.unusedSimpArgs false
theorem RecordFrames (a0 : Int) (l1 : List Int) (a2 : Int) (g0 : (fun n : Int => (Lit.int .u64 n).wf = true) a0) (g1 : (fun xs : List Int => xs.length ≤ maxLen ∧ ∀ x ∈ xs, (fun n : Int => (Lit.int .u8 n).wf = true) x) l1) (b1 : l1.length * 1 ≤ 140737488351232) (g2 : (fun n : Int => (Lit.int .i64 n).wf = true) a2) : ∃ k, barbicanlaw10_RecordFrames.f k a0 l1 a2 = some true := by
  obtain ⟨k, hk⟩ : ∃ k : Nat, 2000000 ≤ k := ⟨_, Nat.le_refl _⟩
  refine ⟨k + 1, ?_⟩
  have he := u64_wf g0
  have hl : Bytes l1 := bytes_wf g1.2
  have hj : ∀ m : Int, m = (bad a2).getD 0 → barbicanlaw10_RecordFrames.j0 (k + 1) (frOf a0 l1) (bad l1.length) (frOf a0 l1) ((bad l1.length).getD 0) (lenOf a0 l1.length).1 (lenOf a0 l1.length).2 (lenOf a0 a2).2 m = some true := by
    intro m hm
    simp only [barbicanlaw10_RecordFrames.j0, barbicanlaw10_num.f]
    rw [if_pos trivial, Option.bind_some, if_pos rfl, if_pos (frOf_len a0 l1).symm, lenOf_bad, lenOf_bad, Option.bind_some, if_pos rfl, Option.bind_some, if_pos hm.symm, sure10 k (by omega), Option.bind_some]
  unfold barbicanlaw10_RecordFrames.f
  rw [twin10 _ (by omega), Option.bind_some, frame_f (k + 1) a0 l1 he hl (by omega), Option.bind_some, ref_frame_f (k + 1) a0 l1 he hl (by omega), Option.bind_some, len_f (k + 1) a0 _ he (by omega), Option.bind_some, len_f (k + 1) a0 _ he (by omega), Option.bind_some]
  by_cases c1 : a2 < 1
  · rw [if_pos c1]
    exact hj 1 (by unfold bad; rw [if_pos c1]; rfl)
  · rw [if_neg c1]
    by_cases c2 : a2 > 1048576
    · rw [if_pos c2]
      exact hj 2 (by unfold bad; rw [if_neg c1, if_pos c2]; rfl)
    · rw [if_neg c2]
      exact hj 0 (by unfold bad; rw [if_neg c1, if_neg c2]; rfl)
end Go.Proofs.YtindggjkcnelcaaDoor.Pure
