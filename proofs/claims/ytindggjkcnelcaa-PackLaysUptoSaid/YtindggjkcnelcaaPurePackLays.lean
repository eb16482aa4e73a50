/- PackLays, where what is read is of bulk at most 1048576: numbers and texts laid behind any bytes, as the document says. -/
import Derived.Test.YtindggjkcnelcaaXAllx5
import Derived.Test.YtindggjkcnelcaaXAllx4
import Derived.Test.YtindggjkcnelcaaXAllx4
import Derived.Test.YtindggjkcnelcaaPackL
namespace Go.Proofs.Ytindggjkcnelcaa.Pure
open Go.RowKit Go.Proofs.Ytindggjkcnelcaa.XAll Go.Proofs.YtindggjkcnelcaaW.PrintWords Go.Proofs.YtindggjkcnelcaaW.PrintLast Go.Proofs.YtindggjkcnelcaaW.PrintMore Go.Proofs.Ytindggjkcnelcaa.PackL
set_option linter.unusedVariables false
set_option linter.unusedSimpArgs false
namespace PackLaysL
theorem sum_ones (l : List Int) : (l.map (fun _ : Int => 1)).sum = l.length := by
  induction l with
  | nil => rfl
  | cons x l ih => simp [ih]; omega
theorem ints_f (k : Nat) (n : Int) (h0 : -9223372036854775808 ≤ n) (h1 : n ≤ 9223372036854775807) (hk : 10 ≤ k) : barbicanref03_Ints.f k n = some (uv 9 (zig n)) := by
  have hz := zig_range n h0 h1
  unfold barbicanref03_Ints.f zig
  by_cases hn : 0 ≤ n
  · rw [if_pos hn, if_pos hn, u64_small n (by omega) (by omega), u64_small _ (by omega) (by omega), uints_f 9 k _ (by omega) (by omega) (by omega) (by omega) (by omega)]
    rfl
  · rw [if_neg hn, if_neg hn, wrap64_small (n + 1) (by omega) (by omega), wrap64_small _ (by omega) (by omega), u64_small (-(n + 1)) (by omega) (by omega), u64_small (2 * -(n + 1)) (by omega) (by omega), u64_small _ (by omega) (by omega), uints_f 9 k _ (by omega) (by omega) (by omega) (by omega) (by omega)]
    rw [show 2 * -(n + 1) + 1 = -2 * n - 1 by omega]
    rfl
theorem sure_any (k : Nat) (hk : 20 ≤ k) : barbicanlaw03_sure.f k = some true :=
  at_rounds (fun k => barbicanlaw03_sure.mono k) hk (by decide +kernel)
theorem twin_f (l : List Int) (hl : l.length ≤ 140737488351232) : barbicanlaw03_twin.f l = some l := by
  unfold barbicanlaw03_twin.f
  rw [wrap64_small _ (by omega) (by omega), if_pos (by omega), if_pos (by omega)]
  simp only [Option.bind_some, List.nil_append, List.length_nil]
  rw [if_pos (by omega)]
end PackLaysL
open PackLaysL in
theorem PackLays_at (k : Nat) (hk : 30 ≤ k) (l0 : List Int) (a1 : Int) (a2 : ByteArray) (hl : l0.length ≤ 1048575) (hs : a2.size ≤ 1048575) (h0 : -9223372036854775808 ≤ a1) (h1 : a1 ≤ 9223372036854775807) : barbicanlaw03_PackLays.f k l0 a1 a2 = some true := by
  have hu : 0 ≤ IntKind.u64.wrap a1 ∧ IntKind.u64.wrap a1 < 18446744073709551616 := by rw [u64_mod]; omega
  have ha : ∀ n, (uv 9 n).length ≤ 10 := fun n => (uv_len 9 n).2
  have hsz : IntKind.u64.wrap (a2.size : Int) = a2.size := u64_small _ (by omega) (by omega)
  have h9 := ha (IntKind.u64.wrap a1)
  have hz9 := ha (zig a1)
  have hs9 := ha (a2.size : Int)
  have hA := append_f k l0 _ hu.1 hu.2 (by omega) (by omega)
  have hI := appendInt_f k l0 a1 h0 h1 (by omega) (by omega)
  have hT : pack_AppendText.f k l0 a2 = some (l0 ++ uv 9 a2.size ++ bytesOf a2) := by
    unfold pack_AppendText.f
    rw [hsz, append_f k l0 _ (by omega) (by omega) (by omega) (by omega)]
    simp only [Option.bind_some]
    rw [if_pos (by simp; omega)]
  have hU := uints_f 9 k _ hu.1 hu.2 (by omega) (by omega) (by omega)
  have hRT : barbicanref03_Texts.f k a2 = some (uv 9 a2.size ++ bytesOf a2) := by
    unfold barbicanref03_Texts.f
    rw [hsz, uints_f 9 k _ (by omega) (by omega) (by omega) (by omega) (by omega)]
    simp only [Option.bind_some]
    rw [if_pos (by omega)]
  have hL : pack_Len.f k (IntKind.u64.wrap a1) = some ((uv 9 (IntKind.u64.wrap a1)).length : Int) := by
    unfold pack_Len.f
    rw [append_f k [] _ hu.1 hu.2 (by simp) (by omega)]
    rfl
  unfold barbicanlaw03_PackLays.f
  rw [twin_f l0 (by omega), Option.bind_some, hA, Option.bind_some, hI, Option.bind_some, hT, Option.bind_some, hU, Option.bind_some]
  have hb : (strOfNums (bytesOf a2)).size = a2.size := by rw [strOfNums_bytesOf]
  have e1 : (strOfNums l0).size = l0.length := strOfNums_size l0
  have e2 : (strOfNums (uv 9 (IntKind.u64.wrap a1))).size = (uv 9 (IntKind.u64.wrap a1)).length := strOfNums_size _
  have e3 : (strOfNums (uv 9 (zig a1))).size = (uv 9 (zig a1)).length := strOfNums_size _
  have e4 : (strOfNums (uv 9 (a2.size : Int) ++ bytesOf a2)).size = (uv 9 (a2.size : Int)).length + a2.size := by
    rw [strOfNums_append, ByteArray.size_append, strOfNums_size, hb]
  rw [if_pos (by omega), if_pos (by rw [strOfNums_append]), ints_f k a1 h0 h1 (by omega), Option.bind_some, if_pos (by omega), if_pos (by rw [strOfNums_append]), hRT, Option.bind_some, if_pos (by omega),
    if_pos (by rw [List.append_assoc, strOfNums_append]), if_pos rfl, hL, Option.bind_some, Option.bind_some, if_pos rfl, sure_any k (by omega), Option.bind_some]
open PackLaysL in
theorem PackLays (l0 : List Int) (a1 : Int) (a2 : ByteArray) (g0 : (fun xs : List Int => xs.length ≤ maxLen ∧ ∀ x ∈ xs, (fun n : Int => (Lit.int .u8 n).wf = true) x) l0) (b0 : (fun xs : List Int => (xs.map (fun _ : Int => 1)).sum + 1) l0 ≤ 1048576) (g1 : (fun n : Int => (Lit.int .i64 n).wf = true) a1) (g2 : (fun s : ByteArray => s.size ≤ maxLen) a2) (b2 : (fun s : ByteArray => s.size + 1) a2 ≤ 1048576) : ∃ k, barbicanlaw03_PackLays.f k l0 a1 a2 = some true := by
  have hl : l0.length ≤ 1048575 := by have := sum_ones l0; dsimp only at b0; omega
  have hs : a2.size ≤ 1048575 := by dsimp only at b2; omega
  obtain ⟨h0, h1⟩ := i64_wf g1
  exact ⟨30, PackLays_at 30 (Nat.le_refl _) l0 a1 a2 hl hs h0 h1⟩
end Go.Proofs.Ytindggjkcnelcaa.Pure
