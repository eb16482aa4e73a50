/- GuardBlind, plain: what a mask or a coarse number hides changes nothing of what is let down. -/
import Derived.Test.YtadnmajoimckgaaXGbx11
import Derived.Test.YtadnmajoimckgaaXGbx9
import Derived.Test.YtadnmajoimckgaaGbGbA
namespace Go.Proofs.Ytadnmajoimckgaa.Pure
open Go.RowKit Go.Proofs.Ytadnmajoimckgaa.XGb Go.Proofs.YtadnmajoimckgaaW.PrintWords Go.Proofs.YtadnmajoimckgaaW.PrintLast Go.Proofs.YtadnmajoimckgaaW.PrintMore
set_option linter.unusedVariables false
set_option linter.unusedSimpArgs false
namespace GbV
set_option maxRecDepth 20000 in
theorem sure_20 : barbicanlaw24_sure.f 20 = some true := by decide +kernel
theorem sure_f (k : Nat) (hk : 20 ≤ k) : barbicanlaw24_sure.f k = some true := at_rounds (g := fun k => barbicanlaw24_sure.f k) (fun k => barbicanlaw24_sure.mono k) hk sure_20
theorem ext {a b : ByteArray} (h : a.data.toList = b.data.toList) : a = b := by
  apply ByteArray.ext
  apply Array.ext'
  exact h
theorem app (a b : ByteArray) : (a ++ b).data.toList = a.data.toList ++ b.data.toList := by simp
theorem sz (a : ByteArray) : a.size = a.data.toList.length := Lib.size_eq a
theorem upto_ (s : ByteArray) (a : Nat) : (s.extract 0 a).data.toList = s.data.toList.take a := by
  rw [Lib.extract_data]; simp
theorem from_ (s : ByteArray) (a : Nat) : (s.extract a s.size).data.toList = s.data.toList.drop a := by
  rw [Lib.extract_data, sz, ← List.length_drop, List.take_length]
theorem rep_mem : ∀ (n : Nat) (b : UInt8), b ∈ Lib.repeatL [42] n → b = 42
  | 0, b, h => by cases h
  | n + 1, b, h => by
    simp only [Lib.repeatL, List.mem_append, List.mem_singleton] at h
    rcases h with h | h
    · exact h
    · exact rep_mem n b h
theorem mask_size (s : ByteArray) (n : Nat) (h : n ≤ s.size) : (maskB s n).size = s.size := by
  unfold maskB
  rw [ByteArray.size_append, ByteArray.size_extract]
  have hsz : (⟨(Lib.repeatL [42] (s.size - n)).toArray⟩ : ByteArray).size = s.size - n := by
    show (Lib.repeatL [42] (s.size - n)).toArray.size = _
    rw [List.size_toArray, Lib.repeatL_length]
    simp
  rw [hsz]
  omega
theorem mask_allP (s : ByteArray) (n : Nat) (h : allP s) : allP (maskB s n) := by
  intro b hb
  unfold maskB at hb
  rw [app, List.mem_append, upto_] at hb
  rcases hb with hb | hb
  · exact h b (List.mem_of_mem_take hb)
  · rw [rep_mem _ b hb]; decide
theorem ext_allP (s : ByteArray) (n : Nat) (h : allP s) : allP (s.extract 0 n) := by
  intro b hb
  rw [upto_] at hb
  exact h b (List.mem_of_mem_take hb)
theorem apS_ok {act arg : Int} {x : S} (h : okS x) : okS (apS act arg x) := by
  obtain ⟨h1, h2, h3⟩ := h
  unfold apS
  repeat' split
  · exact ok_text (by rw [mask_size _ _ (Nat.min_le_right _ _)]; exact h2) (mask_allP _ _ h3)
  · exact ok_null
  · exact ok_int _
  · exact ok_text (by rw [ByteArray.size_extract]; omega) (ext_allP _ _ h3)
  · exact ok_null
  · exact ⟨h1, h2, h3⟩
theorem tail_ok (k : Nat) (hk : 4300 ≤ k) (nm : ByteArray) (act arg w0 w1 : Int) (w2 : ByteArray) (w3 : Bool) (y : S) (hy : okS y) (e : guard_Apply.f k nm act arg w0 w1 w2 w3 = some (tup y none)) :
    ((guard_Apply.f k nm act arg w0 w1 w2 w3).bind fun bt => (if bt.2.2.2.2.isNone = true then (if (y.f0 == bt.1 && (y.f1 == bt.2.1 && (y.f2.toList == bt.2.2.1.toList && (y.f3 == bt.2.2.2.1)))) = true then ((barbicanref05_Valid.f k y.f0 y.f1 y.f2 y.f3).bind fun t => (if t = 0 then ((barbicanlaw24_sure.f k).bind fun s => (some s)) else (some false))) else (some false)) else (some false))) = some true := by
  rw [e, Option.bind_some]
  unfold tup
  dsimp only
  rw [if_pos (show (none : Option Int).isNone = true from rfl), if_pos (by simp), ref_ok k (by omega) hy, Option.bind_some, if_pos rfl, sure_f k (by omega)]
  rfl
/-- A value that may be is let down as 'apS' says. -/
theorem apply_ok (k : Nat) (hk : 20 ≤ k) (nm : ByteArray) (act arg : Int) (x : S) (hx : -9223372036854775808 ≤ x.f1 ∧ x.f1 ≤ 9223372036854775807) (hok : okS x) (hc : chkA act arg = none) (hl : ¬ low act arg x) :
    guard_Apply.f k nm act arg x.f0 x.f1 x.f2 x.f3 = some (tup (apS act arg x) none) := by
  rw [apply_f k hk nm act arg x hx, if_pos ((valid_ok x).2 hok), if_pos hc, if_neg hl]
theorem u64_range (n : Int) : 0 ≤ IntKind.u64.wrap n ∧ IntKind.u64.wrap n < 18446744073709551616 := by
  simp [IntKind.wrap, IntKind.bits, IntKind.signed]
  omega
theorem u64_pos (n : Int) (h0 : 0 ≤ n) (h1 : n < 9223372036854775808) : IntKind.u64.wrap n = n := by
  simp [IntKind.wrap, IntKind.bits, IntKind.signed]
  omega
/-- What is drawn below a number. -/
theorem below_f (n m : Int) (h0 : 1 ≤ m) (h1 : m < 9223372036854775808) : ∃ d : Int, wrap64 (Int.tmod (IntKind.u64.wrap n) (IntKind.u64.wrap m)) = d ∧ 0 ≤ d ∧ d < m := by
  have hr := u64_range n
  rw [u64_pos m (by omega) h1, Int.tmod_eq_emod_of_nonneg hr.1]
  have h2 := Int.emod_nonneg (IntKind.u64.wrap n) (show m ≠ 0 by omega)
  have h3 := Int.emod_lt_of_pos (IntKind.u64.wrap n) (show 0 < m by omega)
  exact ⟨_, w64 _ (by omega) (by omega), h2, h3⟩
/-! #### the four ways, and the rest -/
theorem j3_ok (k : Nat) (hk : 4310 ≤ k) (nm : ByteArray) (act arg : Int) (x : S) (hx : -9223372036854775808 ≤ x.f1 ∧ x.f1 ≤ 9223372036854775807) (hok : okS x) (hc : chkA act arg = none) (hl : ¬ low act arg x) (b : Bool) (hb : b = true → x.f0 = 3 ∧ act ≠ 1) :
    barbicanlaw24_GuardBlind.j3 k b nm act arg x.f0 x.f1 x.f2 x.f3 x.f0 x.f1 x.f2 x.f3 (apS act arg x).f0 (apS act arg x).f1 (apS act arg x).f2 (apS act arg x).f3 = some true := by
  obtain ⟨k, rfl⟩ : ∃ q, k = q + 1 := ⟨k - 1, by omega⟩
  simp only [barbicanlaw24_GuardBlind.j3]
  cases b with
  | false =>
    rw [if_neg Bool.false_ne_true]
    exact tail_ok k (by omega) nm act arg _ _ _ _ _ (apS_ok hok) (apply_ok k (by omega) nm act arg x hx hok hc hl)
  | true =>
    obtain ⟨h1, h2⟩ := hb rfl
    rw [if_pos rfl]
    have hs := shape_cases hok.1
    obtain ⟨a, b, s, t⟩ := x
    dsimp only at *
    subst h1
    rcases hs with ⟨h, _⟩ | ⟨h, _⟩ | ⟨h, _⟩ | ⟨_, rfl, rfl⟩
    · omega
    · omega
    · omega
    have hw : okS (⟨3, 0, ⟨#[]⟩, !t⟩ : S) := ⟨by unfold shape; simp [Lib.toList_data], Nat.zero_le _, allP_nil⟩
    have ha : act = 2 ∨ act = 3 := by
      unfold chkA at hc
      repeat' split at hc
      all_goals first
        | cases hc; done
        | omega
    have hn : ∀ q : Bool, apS act arg ⟨3, 0, ⟨#[]⟩, q⟩ = null := by
      intro q
      unfold apS
      rcases ha with rfl | rfl <;> simp
    have e := apply_ok k (by omega) nm act arg ⟨3, 0, ⟨#[]⟩, !t⟩ (by dsimp only; omega) hw hc (fun z => by have := z.2.1; dsimp only at this; omega)
    rw [hn (!t)] at e
    rw [hn t]
    exact tail_ok k (by omega) nm act arg _ _ _ _ _ ok_null e
theorem j2_ok (k : Nat) (hk : 4320 ≤ k) (nm : ByteArray) (act arg : Int) (x : S) (hx : -9223372036854775808 ≤ x.f1 ∧ x.f1 ≤ 9223372036854775807) (hok : okS x) (hc : chkA act arg = none) (hl : ¬ low act arg x) (b : Bool) (hb : b = true → x.f0 = 2 ∧ act = 3) :
    barbicanlaw24_GuardBlind.j2 k b nm act arg x.f0 x.f1 x.f2 x.f3 x.f0 x.f1 x.f2 x.f3 (apS act arg x).f0 (apS act arg x).f1 (apS act arg x).f2 (apS act arg x).f3 = some true := by
  obtain ⟨k, rfl⟩ : ∃ q, k = q + 1 := ⟨k - 1, by omega⟩
  simp only [barbicanlaw24_GuardBlind.j2]
  cases b with
  | false =>
    rw [if_neg Bool.false_ne_true]
    by_cases h : x.f0 = 3
    · rw [if_pos h]
      exact j3_ok k (by omega) nm act arg x hx hok hc hl _ (fun hq => ⟨h, by simpa using hq⟩)
    · rw [if_neg h]
      exact j3_ok k (by omega) nm act arg x hx hok hc hl _ (fun hq => by cases hq)
  | true =>
    obtain ⟨h1, rfl⟩ := hb rfl
    have harg : 1 ≤ arg := by unfold chkA at hc; simp at hc; omega
    have hs := shape_cases hok.1
    have hsz := hok.2.1
    have hP := hok.2.2
    obtain ⟨a, b, s, t⟩ := x
    dsimp only at *
    subst h1
    rcases hs with ⟨h, _⟩ | ⟨h, _⟩ | ⟨_, rfl, rfl⟩ | ⟨h, _⟩
    · omega
    · omega
    case inr.inr.inr => omega
    rw [if_pos rfl, mn_nat arg (by omega)]
    have hy : apS 3 arg ⟨2, 0, s, false⟩ = ⟨2, 0, s.extract 0 (min arg.toNat s.size), false⟩ := by unfold apS; simp
    rw [hy]
    have hm : min arg.toNat s.size ≤ s.size := Nat.min_le_right _ _
    have hm2 : min arg.toNat s.size ≤ arg.toNat := Nat.min_le_left _ _
    rw [if_pos (by omega), if_pos (by omega), Int.toNat_natCast]
    generalize min arg.toNat s.size = m at hm hm2
    have hw : okS (⟨2, 0, s.extract 0 m, false⟩ : S) := ok_text (by rw [ByteArray.size_extract]; omega) (ext_allP _ _ hP)
    have e := apply_ok k (by omega) nm 3 arg ⟨2, 0, s.extract 0 m, false⟩ (by dsimp only; omega) hw hc (fun z => by have := z.2.1; dsimp only at this; omega)
    have hy2 : apS 3 arg ⟨2, 0, s.extract 0 m, false⟩ = ⟨2, 0, s.extract 0 m, false⟩ := by
      unfold apS
      rw [if_neg (by decide), if_pos rfl, if_neg (by simp), if_pos rfl]
      congr 1
      apply ext
      have hsz2 : (s.extract 0 m).size = m := by rw [ByteArray.size_extract]; omega
      rw [hsz2, upto_, upto_, List.take_take, show min (min arg.toNat m) m = m by omega]
    rw [hy2] at e
    exact tail_ok k (by omega) nm 3 arg _ _ _ _ _ hw e
theorem j1_ok (k : Nat) (hk : 4330 ≤ k) (nm : ByteArray) (act arg : Int) (x : S) (hx : -9223372036854775808 ≤ x.f1 ∧ x.f1 ≤ 9223372036854775807) (hok : okS x) (hc : chkA act arg = none) (hl : ¬ low act arg x) (o0 o1 : Int) (b : Bool) (hb : b = true → x.f0 = 1 ∧ act = 3) :
    barbicanlaw24_GuardBlind.j1 k b nm act arg x.f0 x.f1 x.f2 x.f3 o0 o1 x.f0 x.f1 x.f2 x.f3 (apS act arg x).f0 (apS act arg x).f1 (apS act arg x).f2 (apS act arg x).f3 = some true := by
  obtain ⟨k, rfl⟩ : ∃ q, k = q + 1 := ⟨k - 1, by omega⟩
  simp only [barbicanlaw24_GuardBlind.j1]
  cases b with
  | false =>
    rw [if_neg Bool.false_ne_true]
    by_cases h : x.f0 = 2
    · rw [if_pos h]
      exact j2_ok k (by omega) nm act arg x hx hok hc hl _ (fun hq => ⟨h, by simpa using hq⟩)
    · rw [if_neg h]
      exact j2_ok k (by omega) nm act arg x hx hok hc hl _ (fun hq => by cases hq)
  | true =>
    obtain ⟨h1, rfl⟩ := hb rfl
    have harg : 1 ≤ arg ∧ arg ≤ 1099511627776 := by unfold chkA at hc; simp at hc; omega
    have hs := shape_cases hok.1
    obtain ⟨a, b, s, t⟩ := x
    dsimp only at *
    subst h1
    rcases hs with ⟨h, _⟩ | ⟨_, rfl, rfl⟩ | ⟨h, _⟩ | ⟨h, _⟩
    · omega
    case inr.inr.inl => omega
    case inr.inr.inr => omega
    have hy : apS 3 arg ⟨1, b, ⟨#[]⟩, false⟩ = ⟨1, b - b % arg, ⟨#[]⟩, false⟩ := by unfold apS; simp
    rw [hy]
    obtain ⟨d, hd, hd0, hd1⟩ := below_f o0 arg harg.1 (by omega)
    have hlo : -9223372036854775808 ≤ b - b % arg := by
      apply Decidable.byContradiction
      intro hq
      exact hl ⟨rfl, rfl, by dsimp only; omega⟩
    have hm0 := Int.emod_nonneg b (show arg ≠ 0 by omega)
    rw [if_pos rfl, if_neg (by rw [u64_pos arg (by omega) (by omega)]; omega), hd]
    dsimp only
    by_cases ho : wrap64 (b - b % arg + d) < b - b % arg
    · rw [if_pos ho, sure_f k (by omega)]; rfl
    · rw [if_neg ho]
      have hr : b - b % arg + d ≤ 9223372036854775807 := by
        apply Decidable.byContradiction
        intro hq
        apply ho
        have : wrap64 (b - b % arg + d) = b - b % arg + d - 18446744073709551616 := by
          simp [wrap64, IntKind.wrap]
          omega
        omega
      rw [w64 _ (by omega) hr]
      have hmod : (b - b % arg + d) % arg = d := by
        have h1 : b - b % arg = arg * (b / arg) := by have := Int.mul_ediv_add_emod b arg; omega
        rw [h1, Int.add_comm, Int.add_mul_emod_self_left, Int.emod_eq_of_lt hd0 hd1]
      have e := apply_ok k (by omega) nm 3 arg ⟨1, b - b % arg + d, ⟨#[]⟩, false⟩ (by dsimp only; omega) (ok_int _) hc (fun z => by have := z.2.2; dsimp only at this; rw [hmod] at this; omega)
      have hy2 : apS 3 arg ⟨1, b - b % arg + d, ⟨#[]⟩, false⟩ = ⟨1, b - b % arg, ⟨#[]⟩, false⟩ := by
        unfold apS
        rw [if_neg (by decide), if_pos rfl, if_pos rfl]
        dsimp only
        rw [hmod, Int.add_sub_cancel]
      rw [hy2] at e
      exact tail_ok k (by omega) nm 3 arg _ _ _ _ _ (ok_int _) e
theorem j0_ok (k : Nat) (hk : 4340 ≤ k) (nm : ByteArray) (act arg : Int) (x : S) (hx : -9223372036854775808 ≤ x.f1 ∧ x.f1 ≤ 9223372036854775807) (hok : okS x) (hc : chkA act arg = none) (hl : ¬ low act arg x) (o0 o1 : Int) (b : Bool) (hb : b = true → x.f0 = 2 ∧ act = 2 ∧ arg < (x.f2.size : Int)) :
    barbicanlaw24_GuardBlind.j0 k b nm act arg x.f0 x.f1 x.f2 x.f3 o0 o1 x.f0 x.f1 x.f2 x.f3 (apS act arg x).f0 (apS act arg x).f1 (apS act arg x).f2 (apS act arg x).f3 = some true := by
  obtain ⟨k, rfl⟩ : ∃ q, k = q + 1 := ⟨k - 1, by omega⟩
  simp only [barbicanlaw24_GuardBlind.j0]
  cases b with
  | false =>
    rw [if_neg Bool.false_ne_true]
    by_cases h : x.f0 = 1
    · rw [if_pos h]
      exact j1_ok k (by omega) nm act arg x hx hok hc hl o0 o1 _ (fun hq => ⟨h, by simpa using hq⟩)
    · rw [if_neg h]
      exact j1_ok k (by omega) nm act arg x hx hok hc hl o0 o1 _ (fun hq => by cases hq)
  | true =>
    obtain ⟨h1, rfl, h3⟩ := hb rfl
    have harg : 0 ≤ arg ∧ arg ≤ 4096 := by unfold chkA at hc; simp at hc; omega
    have hs := shape_cases hok.1
    have hsz := hok.2.1
    have hP := hok.2.2
    obtain ⟨a, b, s, t⟩ := x
    dsimp only at *
    subst h1
    rcases hs with ⟨h, _⟩ | ⟨h, _⟩ | ⟨_, rfl, rfl⟩ | ⟨h, _⟩
    · omega
    · omega
    case inr.inr.inr => omega
    obtain ⟨n, rfl⟩ : ∃ n : Nat, arg = n := ⟨arg.toNat, by omega⟩
    rw [if_pos rfl, w64 ((s.size : Int) - (n : Int)) (by omega) (by omega)]
    obtain ⟨d, hd, hd0, hd1⟩ := below_f o0 ((s.size : Int) - (n : Int)) (by omega) (by omega)
    rw [if_neg (by rw [u64_pos _ (by omega) (by omega)]; omega), hd, w64 ((n : Int) + d) (by omega) (by omega)]
    obtain ⟨i, hi⟩ : ∃ i : Nat, (n : Int) + d = i := ⟨((n : Int) + d).toNat, by omega⟩
    rw [hi, w64 ((i : Int) + 1) (by omega) (by omega), show (i : Int) + 1 = ((i + 1 : Nat) : Int) by omega, Int.toNat_natCast, Int.toNat_natCast]
    have s1 : (⟨#[126]⟩ : ByteArray).size = 1 := rfl
    rw [if_pos (by omega), if_pos (by omega), if_pos (by rw [ByteArray.size_extract]; omega), if_pos (by omega), if_pos (by omega), if_pos (by rw [ByteArray.size_append, ByteArray.size_extract, ByteArray.size_extract, s1]; omega)]
    have hy : apS 2 (n : Int) ⟨2, 0, s, false⟩ = ⟨2, 0, maskB s n, false⟩ := by
      unfold apS
      rw [if_pos rfl, if_pos rfl, Int.toNat_natCast, show min n s.size = n by omega]
    rw [hy]
    obtain ⟨w, hw⟩ : ∃ w : ByteArray, w = (s.extract 0 i ++ (⟨#[126]⟩ : ByteArray)) ++ s.extract (i + 1) s.size := ⟨_, rfl⟩
    rw [← hw]
    have hws : w.size = s.size := by rw [hw, ByteArray.size_append, ByteArray.size_append, ByteArray.size_extract, ByteArray.size_extract, s1]; omega
    have hwP : allP w := by
      intro b hb
      rw [hw, app, app, upto_, from_] at hb
      simp only [List.mem_append] at hb
      rcases hb with (hb | hb) | hb
      · exact hP b (List.mem_of_mem_take hb)
      · have : b = 126 := by simpa using hb
        rw [this]; decide
      · exact hP b (List.mem_of_mem_drop hb)
    have hwo : okS (⟨2, 0, w, false⟩ : S) := ok_text (by omega) hwP
    have e := apply_ok k (by omega) nm 2 (n : Int) ⟨2, 0, w, false⟩ (by dsimp only; omega) hwo hc (fun z => by have := z.1; omega)
    have hy2 : apS 2 (n : Int) ⟨2, 0, w, false⟩ = ⟨2, 0, maskB s n, false⟩ := by
      unfold apS
      rw [if_pos rfl, if_pos rfl, Int.toNat_natCast]
      dsimp only
      rw [show min n w.size = n by omega]
      congr 1
      unfold maskB
      rw [hws]
      congr 1
      apply ext
      have hl : (List.take i s.data.toList).length = i := by rw [List.length_take, ← sz]; omega
      rw [upto_, upto_, hw, app, app, upto_, List.append_assoc, List.take_append_of_le_length (by omega), List.take_take, show min n i = n by omega]
    rw [hy2] at e
    exact tail_ok k (by omega) nm 2 (n : Int) _ _ _ _ ⟨2, 0, maskB s n, false⟩ (by have := apS_ok (act := 2) (arg := (n : Int)) hok; rwa [hy] at this) e
end GbV
open GbV in
theorem GuardBlind (a0_0 : ByteArray) (a0_1 : Int) (a0_2 : Int) (a1_0 : Int) (a1_1 : Int) (a1_2 : ByteArray) (a1_3 : Bool) (a2_0 : Int) (a2_1 : Int) (g0_0 : (fun s : ByteArray => s.size ≤ 140737488351232) a0_0) (g0_1 : (fun n : Int => (Lit.int .i64 n).wf = true) a0_1) (g0_2 : (fun n : Int => (Lit.int .i64 n).wf = true) a0_2) (g1_0 : (fun n : Int => (Lit.int .i64 n).wf = true) a1_0) (g1_1 : (fun n : Int => (Lit.int .i64 n).wf = true) a1_1) (g1_2 : (fun s : ByteArray => s.size ≤ 140737488351232) a1_2) (g1_3 : (fun _ : Bool => True) a1_3) (g2_0 : (fun n : Int => (Lit.int .i64 n).wf = true) a2_0) (g2_1 : (fun n : Int => (Lit.int .i64 n).wf = true) a2_1) : ∃ k, barbicanlaw24_GuardBlind.f k a0_0 a0_1 a0_2 a1_0 a1_1 a1_2 a1_3 a2_0 a2_1 = some true := by
  have hx : -9223372036854775808 ≤ a1_1 ∧ a1_1 ≤ 9223372036854775807 := by
    simp [Lit.wf, IntKind.min, IntKind.max, IntKind.bits, IntKind.signed] at g1_1
    omega
  refine ⟨5000, ?_⟩
  generalize hk : (5000 : Nat) = k
  unfold barbicanlaw24_GuardBlind.f
  have h := apply_f k (by omega) a0_0 a0_1 a0_2 ⟨a1_0, a1_1, a1_2, a1_3⟩ hx
  dsimp only at h
  rw [h]
  have hbad : ∀ e : Int, (some (tup null (some e))).bind (fun bt239 : Int × Int × ByteArray × Bool × Option Int => (if bt239.2.2.2.2.isNone = true then (if a1_0 = 2 then (if a0_1 = 2 then (barbicanlaw24_GuardBlind.j0 k (decide ((a1_2.size : Int) > a0_2)) a0_0 a0_1 a0_2 a1_0 a1_1 a1_2 a1_3 a2_0 a2_1 a1_0 a1_1 a1_2 a1_3 bt239.1 bt239.2.1 bt239.2.2.1 bt239.2.2.2.1) else (barbicanlaw24_GuardBlind.j0 k false a0_0 a0_1 a0_2 a1_0 a1_1 a1_2 a1_3 a2_0 a2_1 a1_0 a1_1 a1_2 a1_3 bt239.1 bt239.2.1 bt239.2.2.1 bt239.2.2.2.1)) else (barbicanlaw24_GuardBlind.j0 k false a0_0 a0_1 a0_2 a1_0 a1_1 a1_2 a1_3 a2_0 a2_1 a1_0 a1_1 a1_2 a1_3 bt239.1 bt239.2.1 bt239.2.2.1 bt239.2.2.2.1)) else (if (bt239.1 == 0 && (bt239.2.1 == 0 && (bt239.2.2.1.toList == ([] : List UInt8) && (!bt239.2.2.2.1)))) = true then ((barbicanlaw24_sure.f k).bind fun t292 => (some t292)) else (some false)))) = some true := by
    intro e
    rw [Option.bind_some]
    unfold tup null
    dsimp only
    rw [if_neg (by simp), if_pos (by simp [Lib.toList_data]), sure_f k (by omega)]
    rfl
  by_cases hv : valid ⟨a1_0, a1_1, a1_2, a1_3⟩ = none
  · rw [if_pos hv]
    have hok := (valid_ok _).1 hv
    by_cases hc : chkA a0_1 a0_2 = none
    · rw [if_pos hc]
      by_cases hl : low a0_1 a0_2 ⟨a1_0, a1_1, a1_2, a1_3⟩
      · rw [if_pos hl]
        exact hbad 5
      · rw [if_neg hl, Option.bind_some]
        unfold tup
        dsimp only
        rw [if_pos (show (none : Option Int).isNone = true from rfl)]
        have hj := fun b hb => j0_ok k (by omega) a0_0 a0_1 a0_2 ⟨a1_0, a1_1, a1_2, a1_3⟩ hx hok hc hl a2_0 a2_1 b hb
        dsimp only at hj
        by_cases h2 : a1_0 = 2
        · rw [if_pos h2]
          by_cases h3 : a0_1 = 2
          · rw [if_pos h3]
            exact hj _ (fun hq => ⟨h2, h3, by simpa using hq⟩)
          · rw [if_neg h3]
            exact hj _ (fun hq => by cases hq)
        · rw [if_neg h2]
          exact hj _ (fun hq => by cases hq)
    · rw [if_neg hc]
      exact hbad _
  · rw [if_neg hv]
    exact hbad _
end Go.Proofs.Ytadnmajoimckgaa.Pure
