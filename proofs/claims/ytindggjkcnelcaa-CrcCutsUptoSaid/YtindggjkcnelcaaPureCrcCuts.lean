import Derived.Test.YtindggjkcnelcaaXAllx22
import Derived.Test.YtindggjkcnelcaaPure4
namespace Go.Proofs.Ytindggjkcnelcaa.Pure
open Go.RowKit Go.Proofs.Ytindggjkcnelcaa.XAll Go.Proofs.YtindggjkcnelcaaW.PrintWords Go.Proofs.YtindggjkcnelcaaW.PrintLast
open CrcL
theorem CrcCuts (l0 : List Int) (l1 : List Int) (g0 : (fun xs : List Int => xs.length ≤ maxLen ∧ ∀ x ∈ xs, (fun n : Int => (Lit.int .u8 n).wf = true) x) l0) (b0 : (fun xs : List Int => (xs.map (fun _ : Int => 1)).sum + 1) l0 ≤ 1048576) (g1 : (fun xs : List Int => xs.length ≤ maxLen ∧ ∀ x ∈ xs, (fun n : Int => (Lit.int .u8 n).wf = true) x) l1) (b1 : (fun xs : List Int => (xs.map (fun _ : Int => 1)).sum + 1) l1 ≤ 1048576) :
    barbicanlaw04_CrcCuts.f l0 l1 = some true := by
  replace b0 : (l0.map (fun _ : Int => 1)).sum + 1 ≤ 1048576 := b0
  replace b1 : (l1.map (fun _ : Int => 1)).sum + 1 ≤ 1048576 := b1
  rw [bulk_len] at b0 b1
  have h0 : Bytes l0 := bytes_wf g0.2
  have h1 : Bytes l1 := bytes_wf g1.2
  have hb := bytes_append h0 h1
  have hs := seal_len (l0 ++ l1)
  rw [List.length_append] at hs
  unfold barbicanlaw04_CrcCuts.f
  rw [if_pos (by simp; omega), Option.bind_some, List.nil_append, if_pos (by omega), Option.bind_some, twin4 _ (by simp; omega), Option.bind_some, seal_f _ hb (by simp; omega), Option.bind_some, open_f _ (seal_bytes _ hb) (by omega), Option.bind_some,
    opened_seal, twin4 _ (by omega), Option.bind_some, sum4_f _ h0, Option.bind_some, twin4 _ (by omega), Option.bind_some, update_f _ _ (upd_lt _ _) h1, Option.bind_some, sum4_f _ hb, Option.bind_some, if_pos (by rw [upd_append 0 l0 l1 (by omega) h0]), if_pos rfl, if_pos (by rfl), sure4, Option.bind_some]
end Go.Proofs.Ytindggjkcnelcaa.Pure
