/- TableChecks, plain: whether a table may be, its text, the place of a column, and the errors are the document's. -/
import Derived.Test.YtnflmaonilabgaaDoorXTckx16
import Derived.Test.YtnflmaonilabgaaDoorTckTabP
import Derived.Test.YtnflmaonilabgaaDoorTckTabR
import Derived.Test.YtnflmaonilabgaaDoorXSt55
import Derived.Test.YtnflmaonilabgaaDoorXSt24
namespace Go.Proofs.YtnflmaonilabgaaDoor.Pure
open Go.RowKit Go.Proofs.YtnflmaonilabgaaDoor.XTck Go.Proofs.YtnflmaonilabgaaDoorW.PrintWords Go.Proofs.YtnflmaonilabgaaDoorW.PrintLast Go.Proofs.YtnflmaonilabgaaDoorW.PrintMore
set_option linter.unusedVariables false
set_option linter.unusedSimpArgs false
namespace TabL
theorem rcol_l0 (s a : ByteArray) (l : List S55) (hl : l.length < 9223372036854770000) : ∀ (rest done : List S55) (k : Nat), l = done ++ rest → rest.length < k →
    barbicanref15_Column.l0 k s (done.length : Int) a l = some (if Lib.idxByFrom (fun _ y => sameName s y) default rest done.length ≥ 0 then (Lib.idxByFrom (fun _ y => sameName s y) default rest done.length, 0) else (0, 30)) := by
  intro rest
  induction rest with
  | nil =>
    intro done k h hk
    obtain ⟨k, rfl⟩ : ∃ q, k = q + 1 := ⟨k - 1, by omega⟩
    rw [List.append_nil] at h
    subst h
    simp only [barbicanref15_Column.l0]
    rw [if_neg (by omega)]
    rfl
  | cons c r ih =>
    intro done k h hk
    obtain ⟨k, rfl⟩ : ∃ q, k = q + 1 := ⟨k - 1, by omega⟩
    have hlen : l.length = done.length + (r.length + 1) := by rw [h]; simp
    have hc := rd_at h
    have hi := ih (done ++ [c]) k (by rw [h]; simp) (by simp only [List.length_cons] at hk; omega)
    rw [show (done ++ [c]).length = done.length + 1 by simp] at hi
    simp only [barbicanref15_Column.l0]
    rw [if_pos (by omega), if_pos (by omega), hc, step64 _ (by omega), hi]
    have e : Lib.idxByFrom (fun _ y => sameName s y) default (c :: r) done.length = if sameName s c = true then (done.length : Int) else Lib.idxByFrom (fun _ y => sameName s y) default r (done.length + 1) := by
      simp only [Lib.idxByFrom]
    rw [e]
    by_cases hq : c.f0.toList = s.toList
    · have : sameName s c = true := by unfold sameName; simp [hq]
      rw [if_pos hq, if_pos this, if_pos (by omega)]
    · have : ¬ sameName s c = true := by unfold sameName; simpa using hq
      rw [if_neg hq, if_neg this]
theorem rcol_f (k : Nat) (s a : ByteArray) (l : List S55) (hl : l.length < 9223372036854770000) (hk : l.length < k) : barbicanref15_Column.f k a l s = some (if placeOf s l ≥ 0 then (placeOf s l, 0) else (0, 30)) :=
  rcol_l0 s a l hl l [] k rfl hk
theorem bulk_mem : ∀ (l : List S55) (c : S55), c ∈ l → bulk55 c ≤ (l.map bulk55).sum := by
  intro l
  induction l with
  | nil => intro c h; cases h
  | cons d r ih =>
    intro c h
    simp only [List.map_cons, List.sum_cons]
    rcases List.mem_cons.1 h with rfl | h
    · omega
    · have := ih c h; omega
theorem bulk_len : ∀ l : List S55, l.length ≤ (l.map bulk55).sum := by
  intro l
  induction l with
  | nil => exact Nat.le_refl _
  | cons c r ih =>
    have hb : 1 ≤ bulk55 c := by unfold bulk55; omega
    simp only [List.length_cons, List.map_cons, List.sum_cons]
    omega
end TabL
open TabL in
theorem TableChecks (a0_0 : ByteArray) (l0_1 : List (S55)) (a1 : ByteArray) (g0_0 : (fun s : ByteArray => s.size ≤ maxLen) a0_0) (b0_0 : (fun s : ByteArray => s.size + 1) a0_0 ≤ 1048576) (g0_1 : (fun xs : List (S55) => xs.length ≤ maxLen ∧ ∀ x ∈ xs, good55 x) l0_1) (b0_1 : (fun xs : List (S55) => (xs.map bulk55).sum + 1) l0_1 ≤ 1048576) (g1 : (fun s : ByteArray => s.size ≤ maxLen) a1) (b1 : (fun s : ByteArray => s.size + 1) a1 ≤ 1048576) : ∃ k, barbicanlaw15_TableChecks.f k a0_0 l0_1 a1 = some true := by
  have h0 := bulk_len l0_1
  dsimp only at b0_0 b0_1 b1
  have hM : ∀ c ∈ l0_1, c.f0.size ≤ 1048576 := by
    intro c hc
    have h1 := bulk_mem l0_1 c hc
    have h2 : c.f0.size ≤ bulk55 c := by unfold bulk55; dsimp only; omega
    omega
  refine ⟨4000000, ?_⟩
  generalize hkk : (4000000 : Nat) = k
  obtain ⟨k, rfl⟩ : ∃ q, k = q + 1 := ⟨k - 1, by omega⟩
  unfold barbicanlaw15_TableChecks.f
  rw [twin_f a0_0 l0_1 (by omega), Option.bind_some]
  dsimp only
  have hcol : table_Column.f a0_0 l0_1 a1 = some (if placeOf a1 l0_1 ≥ 0 then (placeOf a1 l0_1, none) else (0, some 30)) := by
    unfold table_Column.f
    rw [if_pos (by omega)]
    split <;> rfl
  rw [text_f (k + 1) (by omega) a0_0 l0_1, Option.bind_some, rtext_f (k + 1) a0_0 l0_1 1048576 (by omega) (by omega) hM (by omega), Option.bind_some, hcol, Option.bind_some,
    rcol_f (k + 1) a1 a0_0 l0_1 (by omega) (by omega), Option.bind_some, name_f (k + 1) (by omega) a1, Option.bind_some, rname_f (k + 1) a1 (by omega) (by omega), Option.bind_some, if_pos (by simp),
    resv_eq a1 (by omega), Option.bind_some, rres_f (k + 1) (by omega) a1, Option.bind_some, beq_self_eq_true]
  simp only [barbicanlaw15_TableChecks.j0, ↓reduceIte]
  rw [check_f k (by omega), Option.bind_some, rcheck_f k a0_0 l0_1 1048576 (by omega) (by omega) hM (by omega)]
  unfold barbicanlaw15_num.f
  rw [Option.bind_some, Option.bind_some, if_pos rfl]
  have e1 : (if (chk a0_0 l0_1).isNone = true then (textB a0_0 l0_1, (none : Option Int)) else ((⟨#[]⟩ : ByteArray), some ((chk a0_0 l0_1).getD 0))) = (if chk a0_0 l0_1 = none then textB a0_0 l0_1 else (⟨#[]⟩ : ByteArray), chk a0_0 l0_1) := by
    cases chk a0_0 l0_1 <;> rfl
  have e2 : (if chk a0_0 l0_1 = none then (textB a0_0 l0_1, (0 : Int)) else ((⟨#[]⟩ : ByteArray), (chk a0_0 l0_1).getD 0)) = (if chk a0_0 l0_1 = none then textB a0_0 l0_1 else (⟨#[]⟩ : ByteArray), (chk a0_0 l0_1).getD 0) := by
    cases chk a0_0 l0_1 <;> rfl
  rw [e1, e2]
  dsimp only
  rw [if_pos rfl, Option.bind_some, if_pos rfl]
  have e3 : (if placeOf a1 l0_1 ≥ 0 then (placeOf a1 l0_1, (none : Option Int)) else (0, some 30)).1 = (if placeOf a1 l0_1 ≥ 0 then (placeOf a1 l0_1, (0 : Int)) else (0, 30)).1 := by split <;> rfl
  have e4 : (if placeOf a1 l0_1 ≥ 0 then (placeOf a1 l0_1, (none : Option Int)) else (0, some 30)).2.getD 0 = (if placeOf a1 l0_1 ≥ 0 then (placeOf a1 l0_1, (0 : Int)) else (0, 30)).2 := by split <;> rfl
  rw [if_pos e3, Option.bind_some, if_pos e4, same_f k _ _ (by omega) (by omega), Option.bind_some, if_pos rfl, sure_f k (by omega)]
  rfl
end Go.Proofs.YtnflmaonilabgaaDoor.Pure
