/- OrderTexts: the text of all values, the values of every text, or the errors; the least text above all that begin with one: as the document tells them. -/
import Derived.Test.YtcchjnadhjeniaaDoorXAllx20
import Derived.Test.YtcchjnadhjeniaaDoorRefDecL
import Derived.Test.YtcchjnadhjeniaaDoorRefNextL
import Derived.Test.YtcchjnadhjeniaaDoorSure06
import Derived.Test.YtcchjnadhjeniaaDoorXSt41
namespace Go.Proofs.YtcchjnadhjeniaaDoor.Pure
open Go.RowKit Go.Proofs.YtcchjnadhjeniaaDoor.XAll Go.Proofs.YtcchjnadhjeniaaDoorW.PrintWords Go.Proofs.YtcchjnadhjeniaaDoorW.PrintLast Go.Proofs.YtcchjnadhjeniaaDoorW.PrintMore
set_option linter.unusedVariables false
set_option linter.unusedSimpArgs false
open ValueL EncL
namespace TextsL
theorem twin_f (l : List S41) (h : l.length < 3518437208883) : barbicanlaw06_twin.f l = some l := by
  unfold barbicanlaw06_twin.f
  rw [if_pos (by simpa using h)]
  rfl
theorem values_l0 (a : List S41) (ha : a.length < 4611686018427387904) : ∀ (d i k : Nat), i + d = a.length → d < k → barbicanlaw06_values.l0 k a a (i : Int) = some true
  | 0, i, k, hi, hk => by
    obtain ⟨k, rfl⟩ : ∃ q, k = q + 1 := ⟨k - 1, by omega⟩
    simp only [barbicanlaw06_values.l0]
    rw [if_neg (by omega)]
  | d + 1, i, k, hi, hk => by
    obtain ⟨k, rfl⟩ : ∃ q, k = q + 1 := ⟨k - 1, by omega⟩
    simp only [barbicanlaw06_values.l0]
    rw [if_pos (by omega), if_pos (by omega), if_pos (by omega), if_neg (by simp), show wrap64 ((i : Int) + 1) = ((i + 1 : Nat) : Int) by rw [w64 _ (by omega) (by omega)]; omega]
    exact values_l0 a ha d (i + 1) k (by omega) (by omega)
theorem values_f (k : Nat) (a : List S41) (ha : a.length < 4611686018427387904) (hk : a.length < k) : barbicanlaw06_values.f k a a = some true := by
  unfold barbicanlaw06_values.f
  rw [if_pos rfl]
  exact values_l0 a ha a.length 0 k (by omega) hk
theorem bulk_len (l : List S41) : l.length ≤ (l.map bulk41).sum := by
  induction l with
  | nil => simp
  | cons x l ih =>
    have h : 1 ≤ bulk41 x := by unfold bulk41; omega
    simp only [List.length_cons, List.map_cons, List.sum_cons]
    omega
/-- Both read the same, and tell the same error. -/
theorem decode_same (s : ByteArray) (hs : s.size < 2000000) (k : Nat) (hk : s.size * (s.size + 30) + s.size + 5000 ≤ k) : ∃ l e c, order_Decode.f k s = some (l, e) ∧ barbicanref06_Decode.f k s = some (l, c) ∧ e.getD 0 = c ∧ l.length ≤ 16 := by
  obtain ⟨L, hL⟩ : ∃ L, L = bytesOf s := ⟨_, rfl⟩
  have hb : Byt L := by rw [hL]; exact bytesOf_byt s
  have hsL : strOfNums L = s := by rw [hL, son_bytesOf]
  have hlen : L.length = s.size := by rw [hL, bytesOf_length]
  rw [← hlen] at hk hs
  obtain ⟨g, hg⟩ : ∃ g, g = L.length * (L.length + 30) := ⟨_, rfl⟩
  rw [← hg] at hk
  have hr := ref_dec L hb hs (L.length + 30) rfl L.length 0 [] k (by omega) (by simp; omega) (by simp) (by rw [← hg]; simp; omega) (by omega)
  rw [List.nil_append, List.drop_zero] at hr
  unfold order_Decode.f barbicanref06_Decode.f
  rw [← hsL]
  have hr' : barbicanref06_Decode.l0 k (strOfNums L) [] 0 = some (judge (strOfNums L) (rp L.length L)) := hr
  rw [hr']
  rcases decode_rev L.length L [] k (Nat.le_refl _) (by omega) hb (by omega) (by simp) with ⟨l, e1, e2, e3, e4⟩ | e
  · have h16 : l.length ≤ 16 := by simpa using e4
    have hrp : rp L.length L = l := by
      conv => lhs; arg 2; rw [e3]
      refine rp_enc l _ e2 ?_
      rw [e3]
      clear e1 e3 e4 h16 hr hr' hg hk
      induction l with
      | nil => simp
      | cons x l ih =>
        have := ih (fun y hy => e2 y (by simp [hy]))
        simp only [encL, List.length_append, List.length_cons]
        unfold encI
        simp only [List.length_cons]
        omega
    refine ⟨l, none, 0, by simpa using e1, ?_, rfl, h16⟩
    have hen := encode_of_ok (fun x hx => (e2 x hx).v) h16
    unfold judge told
    rw [hrp, hen, if_pos (by rfl), if_pos (by rw [← e3])]
  · refine ⟨[], some 3, 3, e, ?_, rfl, by simp⟩
    unfold judge told
    by_cases h1 : ((encode (rp L.length L)).2).getD 0 = 0
    · by_cases h2 : (encode (rp L.length L)).1.toList = (strOfNums L).toList
      · exfalso
        have hnone : (encode (rp L.length L)).2 = none := by
          cases hc : (encode (rp L.length L)).2 with
          | none => rfl
          | some c =>
            exfalso
            rw [hc] at h1
            have h0 : c = 0 := h1
            have hbad : ∀ l : List S41, ∀ c, (encode l).2 = some c → c ≠ 0 := by
              intro l c hc h0
              subst h0
              unfold encode at hc
              split at hc
              · split at hc
                · cases hc
                · cases hc
              · clear h1 h2
                induction l with
                | nil => cases hc
                | cons x l ih =>
                  by_cases hv : valid x = none
                  · rw [firstBad_pos hv] at hc
                    exact ih (by intro hn; rw [hn] at hc; cases hc) hc
                  · obtain ⟨d, hd⟩ := Option.ne_none_iff_exists'.1 hv
                    have := valid_ne x d hd
                    rw [firstBad_neg hd] at hc
                    injection hc with hc
                    omega
            exact hbad _ _ hc h0
        obtain ⟨v, s16, en⟩ := encode_ok hnone
        have hok : ∀ x ∈ rp L.length L, Ok x := fun x hx => ⟨v x hx, rp_range _ _ x hx⟩
        rw [en] at h2
        have hLe : L = encL (rp L.length L) := by
          have h3 := congrArg (fun z : List UInt8 => z.map fun b => (b.toNat : Int)) h2
          have q1 := bytesOf_son (encL (rp L.length L)) (encL_byt _)
          have q2 := bytesOf_son L hb
          unfold bytesOf at q1 q2
          rw [Lib.toList_data, Lib.toList_data] at h3
          dsimp only at h3
          rw [q1, q2] at h3
          exact h3.symm
        have hd := decode_f k _ hok s16 (by omega)
        unfold order_Decode.f at hd
        rw [← hLe, e] at hd
        simp at hd
      · rw [if_pos h1, if_neg h2]
    · rw [if_neg h1]
end TextsL
open TextsL
theorem OrderTexts (l0 : List (S41)) (a1 : ByteArray) (g0 : (fun xs : List (S41) => xs.length ≤ maxLen ∧ ∀ x ∈ xs, good41 x) l0) (b0 : (fun xs : List (S41) => (xs.map bulk41).sum + 1) l0 ≤ 1048576) (g1 : (fun s : ByteArray => s.size ≤ maxLen) a1) (b1 : (fun s : ByteArray => s.size + 1) a1 ≤ 1048576) : ∃ k, barbicanlaw06_OrderTexts.f k l0 a1 = some true := by
  obtain ⟨k, hk⟩ : ∃ k : Nat, a1.size * (a1.size + 30) + a1.size + l0.length + 9000 ≤ k := ⟨_, Nat.le_refl _⟩
  refine ⟨k, ?_⟩
  have b0' : (l0.map bulk41).sum + 1 ≤ 1048576 := b0
  have b1' : a1.size + 1 ≤ 1048576 := b1
  have hl := bulk_len l0
  obtain ⟨g, hg⟩ : ∃ g, g = a1.size * (a1.size + 30) := ⟨_, rfl⟩
  rw [← hg] at hk
  have wf : ∀ n : Int, (Lit.int .i64 n).wf = true → -9223372036854775808 ≤ n ∧ n ≤ 9223372036854775807 := by
    intro n h
    simp [Lit.wf, IntKind.min, IntKind.max, IntKind.signed, IntKind.bits] at h
    omega
  have r0 : ∀ x ∈ l0, -9223372036854775808 ≤ x.f1 ∧ x.f1 ≤ 9223372036854775807 := fun x hx => wf _ (g0.2 x hx).2.1
  have e0 := encode_f k l0 (by omega) r0 (by omega)
  have e1 := ref_encode k l0 (by omega) r0 (by omega)
  obtain ⟨l, e, c, d1, d2, d3, d4⟩ := decode_same a1 (by omega) k (by rw [← hg]; omega)
  obtain ⟨t, t', b, n1, n2, n3⟩ := next_same k a1 (by omega) (by omega)
  unfold barbicanlaw06_OrderTexts.f
  rw [twin_f _ (by omega), Option.bind_some, e0, Option.bind_some, e1, Option.bind_some, d1, Option.bind_some, d2, Option.bind_some, n1, Option.bind_some, n2, Option.bind_some]
  dsimp only [told, barbicanlaw06_num.f]
  refine (if_pos (by rfl)).trans ?_
  refine (Option.bind_some _ _).trans ?_
  refine (if_pos (by rfl)).trans ?_
  rw [values_f k l (by omega) (by omega)]
  refine (Option.bind_some _ _).trans ?_
  refine (if_pos (by rfl)).trans ?_
  refine (Option.bind_some _ _).trans ?_
  refine (if_pos d3).trans ?_
  refine (if_pos n3).trans ?_
  refine (if_pos (by simp)).trans ?_
  rw [sure06 k (by omega), Option.bind_some]
end Go.Proofs.YtcchjnadhjeniaaDoor.Pure
