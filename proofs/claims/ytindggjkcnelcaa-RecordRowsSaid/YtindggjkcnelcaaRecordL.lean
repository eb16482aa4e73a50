/- Records, plain. -/
import Derived.Test.YtindggjkcnelcaaXAllx3
import Derived.Test.YtindggjkcnelcaaCrcSealL
import Derived.Test.YtindggjkcnelcaaPackL
namespace Go.Proofs.Ytindggjkcnelcaa.Pure
open Go.RowKit Go.Proofs.Ytindggjkcnelcaa.XAll Go.Proofs.YtindggjkcnelcaaW.PrintWords Go.Proofs.YtindggjkcnelcaaW.PrintLast Go.Proofs.YtindggjkcnelcaaW.PrintMore
open CrcL
open Go.Proofs.Ytindggjkcnelcaa.PackL (uv uv_len uv_byte append_f uv_mono u64_small u64_wf i64_wf)
set_option linter.unusedVariables false
set_option linter.unusedSimpArgs false
namespace RecL
def bad (n : Int) : Option Int := if n < 1 then some 1 else if n > 1048576 then some 2 else none
theorem check_f (n : Int) : record_check.f n = some (bad n) := by
  unfold record_check.f bad
  split
  · rfl
  · split <;> rfl
def head (e n : Int) : List Int := uv 9 n ++ uv 9 e
theorem head_f (k : Nat) (e n : Int) (he : 0 ≤ e ∧ e < 18446744073709551616) (h0 : 0 ≤ n) (h1 : n ≤ 1048576) (hk : 10 ≤ k) : record_head.f k e n = some (head e n) := by
  have h := uv_len 9 n
  unfold record_head.f head
  rw [u64_small n h0 (by omega), append_f k [] n h0 (by omega) (by simp) hk, Option.bind_some, List.nil_append, append_f k _ e he.1 he.2 (by omega) hk, Option.bind_some]
theorem head_len (e n : Int) : 2 ≤ (head e n).length ∧ (head e n).length ≤ 20 := by
  have h1 := uv_len 9 n
  have h2 := uv_len 9 e
  unfold head
  rw [List.length_append]
  omega
theorem head_bytes (e n : Int) (he : 0 ≤ e ∧ e < 18446744073709551616) (h0 : 0 ≤ n) (h1 : n ≤ 1048576) : Bytes (head e n) := by
  apply bytes_append
  · exact uv_byte 9 n h0 (by omega)
  · exact uv_byte 9 e he.1 (by omega)
def framed (e : Int) (l : List Int) : List Int := sealed (head e (l.length : Int) ++ l)
/-- What Frame hands back: the record, or nothing. -/
def frOf (e : Int) (l : List Int) : List Int := match bad l.length with | none => framed e l | some _ => []
theorem frame_f (k : Nat) (e : Int) (l : List Int) (he : 0 ≤ e ∧ e < 18446744073709551616) (hl : Bytes l) (hk : 10 ≤ k) :
    record_Frame.f k e l = some (frOf e l, bad l.length) := by
  unfold record_Frame.f frOf
  rw [check_f, Option.bind_some]
  cases hb : bad l.length with
  | some c => rw [if_neg (by simp)]; rfl
  | none =>
    have hn : 1 ≤ l.length ∧ l.length ≤ 1048576 := by
      unfold bad at hb
      split at hb
      · cases hb
      · split at hb
        · cases hb
        · omega
    have hh := head_len e (l.length : Int)
    have hbb := head_bytes e (l.length : Int) he (by omega) (by omega)
    rw [if_pos (by rfl), head_f k e _ he (by omega) (by omega) hk, Option.bind_some, if_pos (by omega), seal_f _ (bytes_append hbb hl) (by rw [List.length_append]; omega), Option.bind_some]
    rfl
theorem framed_len (e : Int) (l : List Int) : (framed e l).length = (head e (l.length : Int)).length + l.length + 4 := by
  unfold framed
  rw [seal_len, List.length_append]
end RecL
end Go.Proofs.Ytindggjkcnelcaa.Pure
