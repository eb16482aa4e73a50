import Derived.Test.YtindggjkcnelcaaXAllx18
import Derived.Test.YtindggjkcnelcaaCrcL
namespace Go.Proofs.Ytindggjkcnelcaa.Pure
open Go.RowKit Go.Proofs.Ytindggjkcnelcaa.XAll Go.Proofs.YtindggjkcnelcaaW.PrintWords Go.Proofs.YtindggjkcnelcaaW.PrintLast
open CrcL
theorem sum4_f (l : List Int) (hl : Bytes l) : crc_Sum.f l = some ((upd 0 l : Nat) : Int) := by
  unfold crc_Sum.f
  rw [sum_f l hl, Option.bind_some]
theorem sure4 : barbicanlaw04_sure.f = some true := by
  unfold barbicanlaw04_sure.f
  rw [sum4_f _ (by unfold Bytes; decide), Option.bind_some]
  decide +kernel
theorem twin4 (l : List Int) (h : l.length < 140737488355328) : barbicanlaw04_twin.f l = some l := by
  unfold barbicanlaw04_twin.f
  rw [if_pos (by simpa using h)]
  rfl
theorem crem_f (j c : Nat) (h : c < 256) : crc_Remainder.f (20 + j) (c : Int) = some ((DD 8 c : Nat) : Int) := by
  have h2 := rem_some c h
  rw [crcR_eq c h] at h2
  induction j with
  | zero => exact h2
  | succ j ih => exact crc_Remainder.mono _ _ _ ih
theorem CrcSums : barbicanlaw04_CrcSums.Pure := by
  intro a0 l1 ha hm hs hb
  obtain ⟨h0, h1⟩ := u32_wf ha
  have hl := bytes_wf hb
  obtain ⟨a, rfl⟩ := Int.eq_ofNat_of_zero_le h0
  refine ⟨20 + l1.length, ?_⟩
  unfold barbicanlaw04_CrcSums.f
  have hz : barbicanref04_Update.f (20 + l1.length) 0 l1 = some ((upd 0 l1 : Nat) : Int) := ref_f _ 0 l1 (by omega) hl (by omega) (by omega)
  rw [twin4 l1 (by omega), Option.bind_some, update_f a l1 (by omega) hl, Option.bind_some, ref_f _ a l1 (by omega) hl (by omega) (by omega), Option.bind_some, if_pos rfl, Option.bind_some,
    sum4_f l1 hl, Option.bind_some, hz, Option.bind_some, if_pos rfl, show (a : Int) % 256 = ((a % 256 : Nat) : Int) by omega, crem_f _ _ (by omega), Option.bind_some,
    rem_f _ _ (by omega) (by omega), Option.bind_some, if_pos rfl, sure4, Option.bind_some]
end Go.Proofs.Ytindggjkcnelcaa.Pure
