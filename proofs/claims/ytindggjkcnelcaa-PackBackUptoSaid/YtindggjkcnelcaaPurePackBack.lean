/- PackBack, where what is read is of bulk at most 1048576: what is laid is read as it was. -/
import Derived.Test.YtindggjkcnelcaaXAllx12
import Derived.Test.YtindggjkcnelcaaPackR
namespace Go.Proofs.Ytindggjkcnelcaa.Pure
open Go.RowKit Go.Proofs.Ytindggjkcnelcaa.XAll Go.Proofs.YtindggjkcnelcaaW.PrintWords Go.Proofs.YtindggjkcnelcaaW.PrintLast Go.Proofs.YtindggjkcnelcaaW.PrintMore Go.Proofs.Ytindggjkcnelcaa.PackL
set_option linter.unusedVariables false
set_option linter.unusedSimpArgs false
namespace PackBackL
theorem sum_ones (l : List Int) : (l.map (fun _ : Int => 1)).sum = l.length := by
  induction l with
  | nil => rfl
  | cons x l ih => simp [ih]; omega
theorem sure_any (k : Nat) (hk : 24 ≤ k) : barbicanlaw03_sure.f k = some true :=
  at_rounds (fun k => barbicanlaw03_sure.mono k) hk (by decide +kernel)
theorem twin_f (l : List Int) (hl : l.length ≤ 140737488351232) : barbicanlaw03_twin.f l = some l := by
  unfold barbicanlaw03_twin.f
  rw [wrap64_small _ (by omega) (by omega), if_pos (by omega), if_pos (by omega)]
  simp only [Option.bind_some, List.nil_append, List.length_nil]
  rw [if_pos (by omega)]
theorem bytesOf_len (s : ByteArray) : (bytesOf s).length = s.size := by
  have h := strOfNums_size (bytesOf s)
  rw [strOfNums_bytesOf] at h
  exact h.symm
theorem bytesOf_byte (s : ByteArray) : ∀ x ∈ bytesOf s, 0 ≤ x ∧ x < 256 := by
  intro x hx
  simp only [bytesOf, List.mem_map] at hx
  obtain ⟨b, _, rfl⟩ := hx
  have := b.toNat_lt
  omega
theorem rest_ok (k : Nat) (l2 : List Int) (hb : ∀ x ∈ l2, 0 ≤ x ∧ x < 256) (hl : l2.length ≤ 1048576) (hk : 30 ≤ k) : barbicanlaw03_PackBack.j0 (k + 1) l2 false = some true := by
  simp only [barbicanlaw03_PackBack.j0]
  rw [if_neg (by decide), twin_f l2 (by omega), Option.bind_some, uint_f k l2 hb (by omega) (by omega), Option.bind_some]
  cases hr : rv 10 l2 with
  | inl e =>
    rw [show told 0 0 (.inl e) = (0, 0, some e) from rfl, if_neg (by show ¬ (false = true); decide), if_pos (by rfl), if_pos (by rfl), sure_any k (by omega), Option.bind_some]
  | inr p =>
    obtain ⟨v, n⟩ := p
    obtain ⟨a1, a2, a3, a4, a5, a6⟩ := rv_rev 9 l2 v n (Nat.le_refl _) hb hr
    have e : told 0 0 (.inr (v, n)) = (v, (n : Int), none) := by simp [told]
    rw [e, if_pos (by rfl), if_pos (by show (n : Int) ≥ 1; omega), if_pos (by show (n : Int) ≤ l2.length; omega), append_f k [] v a1 (by omega) (by simp) (by omega), Option.bind_some, if_pos (by show 0 ≤ (n : Int); omega), List.nil_append,
      show (v, (n : Int), (none : Option Int)).2.1.toNat = n from Int.toNat_natCast n, a6, if_pos rfl, sure_any k (by omega), Option.bind_some]
theorem text_lays (k : Nat) (s : ByteArray) (rest : List Int) (hs : s.size ≤ 1048576) (hb : ∀ x ∈ rest, 0 ≤ x ∧ x < 256) (hl : rest.length ≤ 1048576) (hk : 30 ≤ k) :
    pack_Text.f k (uv 9 (s.size : Int) ++ bytesOf s ++ rest) (s.size : Int) = some (s, (((uv 9 (s.size : Int)).length + s.size : Nat) : Int), none) := by
  have hlen := uv_len 9 (s.size : Int)
  have hbl := bytesOf_len s
  have hb2 : ∀ x ∈ bytesOf s ++ rest, 0 ≤ x ∧ x < 256 := by
    intro x hx
    rcases List.mem_append.1 hx with h | h
    · exact bytesOf_byte s x h
    · exact hb x h
  unfold pack_Text.f
  rw [List.append_assoc, uint_lays k _ _ (by omega) (by omega) hb2 (by simp; omega) (by omega), if_neg (by omega), Option.bind_some]
  simp only
  have hL : (uv 9 (s.size : Int) ++ (bytesOf s ++ rest)).length = (uv 9 (s.size : Int)).length + s.size + rest.length := by simp; omega
  rw [if_pos (by rfl), u64_small (s.size : Int) (by omega) (by omega), if_neg (by omega), hL, wrap64_small _ (by omega) (by omega), u64_small _ (by omega) (by omega), if_neg (by omega), if_pos (by omega),
    wrap64_small (s.size : Int) (by omega) (by omega), wrap64_small _ (by omega) (by omega), if_pos (by omega), if_pos (by omega)]
  have h1 : (((uv 9 (s.size : Int)).length : Int) + (s.size : Int)).toNat = (uv 9 (s.size : Int)).length + (bytesOf s).length := by omega
  have h2 : ((uv 9 (s.size : Int)).length : Int).toNat = (uv 9 (s.size : Int)).length := by omega
  rw [h1, h2, ← List.append_assoc, ← List.length_append, List.take_left', List.drop_left', strOfNums_bytesOf]
  · rfl
  · rfl
  · rfl
end PackBackL
open PackBackL in
theorem PackBack (a0 : Int) (a1 : ByteArray) (l2 : List Int) (g0 : (fun n : Int => (Lit.int .i64 n).wf = true) a0) (g1 : (fun s : ByteArray => s.size ≤ maxLen) a1) (b1 : (fun s : ByteArray => s.size + 1) a1 ≤ 1048576) (g2 : (fun xs : List Int => xs.length ≤ maxLen ∧ ∀ x ∈ xs, (fun n : Int => (Lit.int .u8 n).wf = true) x) l2) (b2 : (fun xs : List Int => (xs.map (fun _ : Int => 1)).sum + 1) l2 ≤ 1048576) : ∃ k, barbicanlaw03_PackBack.f k a0 a1 l2 = some true := by
  have hl : l2.length ≤ 1048575 := by have := sum_ones l2; dsimp only at b2; omega
  have hs : a1.size ≤ 1048575 := by dsimp only at b1; omega
  have hb : ∀ x ∈ l2, 0 ≤ x ∧ x < 256 := fun x hx => u8_wf (g2.2 x hx)
  obtain ⟨h0, h1⟩ := i64_wf g0
  have hz := uv_len 9 (zig a0)
  have ht := uv_len 9 (a1.size : Int)
  have hbl := bytesOf_len a1
  obtain ⟨k, hk⟩ : ∃ k : Nat, 30 ≤ k := ⟨30, Nat.le_refl _⟩
  refine ⟨k + 1, ?_⟩
  have hT : pack_AppendText.f (k + 1) [] a1 = some (uv 9 (a1.size : Int) ++ bytesOf a1) := by
    unfold pack_AppendText.f
    rw [u64_small _ (by omega) (by omega), append_f (k + 1) [] _ (by omega) (by omega) (by simp) (by omega), Option.bind_some, List.nil_append, if_pos (by omega)]
  unfold barbicanlaw03_PackBack.f
  rw [appendInt_f (k + 1) [] a0 h0 h1 (by simp) (by omega), Option.bind_some, List.nil_append, if_pos (by omega), Option.bind_some, hT, Option.bind_some, if_pos (by simp; omega), Option.bind_some,
    int_lays (k + 1) a0 l2 h0 h1 hb (by omega) (by omega), Option.bind_some, text_lays (k + 1) a1 l2 (by omega) hb (by omega) (by omega), Option.bind_some]
  simp only
  have m1 : mn ((uv 9 (zig a0)).length : Int) (((uv 9 (zig a0) ++ l2).length : Nat) : Int) = ((uv 9 (zig a0)).length : Int) := by
    unfold mn
    rw [List.length_append, if_neg (by omega)]
  have m2 : mn ((((uv 9 (a1.size : Int)).length + a1.size : Nat) : Nat) : Int) (((uv 9 (a1.size : Int) ++ bytesOf a1 ++ l2).length : Nat) : Int) = (((uv 9 (a1.size : Int)).length + a1.size : Nat) : Int) := by
    unfold mn
    rw [List.length_append, List.length_append, if_neg (by omega)]
  have d1 : (uv 9 (zig a0) ++ l2).drop ((uv 9 (zig a0)).length : Int).toNat = l2 := by rw [Int.toNat_natCast, List.drop_left' rfl]
  have d2 : (uv 9 (a1.size : Int) ++ bytesOf a1 ++ l2).drop (((uv 9 (a1.size : Int)).length + a1.size : Nat) : Int).toNat = l2 := by rw [Int.toNat_natCast, List.drop_left' (by simp; omega)]
  rw [if_pos (by rfl), if_pos (by rfl), if_pos trivial, if_pos trivial, if_neg (by omega), if_neg (by omega), m1, m2, if_pos (by omega), if_pos (by simp; omega), d1, if_pos rfl, if_pos (by omega), if_pos (by simp; omega), d2]
  rw [show ((strOfNums l2).toList != (strOfNums l2).toList) = false by simp]
  exact rest_ok k l2 hb (by omega) hk
end Go.Proofs.Ytindggjkcnelcaa.Pure
