/- Tables, plain: the document's cut and Parse: what they read of a text. -/
import Derived.Test.YtnflmaonilabgaaDoorXTabx19
import Derived.Test.YtnflmaonilabgaaDoorTabTabP
import Derived.Test.YtnflmaonilabgaaDoorTabTabR
namespace Go.Proofs.YtnflmaonilabgaaDoor.Pure
open Go.RowKit Go.Proofs.YtnflmaonilabgaaDoor.XTab Go.Proofs.YtnflmaonilabgaaDoorW.PrintWords Go.Proofs.YtnflmaonilabgaaDoorW.PrintLast Go.Proofs.YtnflmaonilabgaaDoorW.PrintMore
set_option linter.unusedVariables false
set_option linter.unusedSimpArgs false
namespace TabL
open TabS (ext app sz from_ upto_)
/-- A text cut at the first place of a part. -/
def cutR (s p : ByteArray) : ByteArray × ByteArray × Bool := if Lib.index s.data.toList p.data.toList = -1 then (s, (⟨#[]⟩ : ByteArray), false) else (s.extract 0 (Lib.index s.data.toList p.data.toList).toNat, s.extract ((Lib.index s.data.toList p.data.toList).toNat + p.size) s.size, true)
theorem rcut_l0 (s p : ByteArray) (hs : s.size < 4611686018427387904) (hp : 1 ≤ p.size) (hp2 : p.size < 4611686018427387) : ∀ d k i : Nat, i + d = s.size + 1 → d < k → Lib.NoOcc s.data.toList p.data.toList i → barbicanref15_cut.l0 k s p (i : Int) = some (cutR s p) := by
  intro d
  induction d with
  | zero =>
    intro k i hi hk hno
    obtain ⟨k, rfl⟩ : ∃ q, k = q + 1 := ⟨k - 1, by omega⟩
    have hpn : p.data.toList ≠ [] := fun e => by have := sz p; rw [e, List.length_nil] at this; omega
    have hix : Lib.index s.data.toList p.data.toList = -1 := Lib.index_past (i := i) hpn hno (by rw [← sz, ← sz]; omega)
    simp only [barbicanref15_cut.l0]
    rw [wrap64_small _ (by omega) (by omega), if_neg (by omega)]
    unfold cutR
    rw [if_pos hix]
  | succ d ih =>
    intro k i hi hk hno
    obtain ⟨k, rfl⟩ : ∃ q, k = q + 1 := ⟨k - 1, by omega⟩
    have hpn : p.data.toList ≠ [] := fun e => by have := sz p; rw [e, List.length_nil] at this; omega
    simp only [barbicanref15_cut.l0]
    rw [wrap64_small _ (by omega) (by omega), show (i : Int) + (p.size : Int) = ((i + p.size : Nat) : Int) by omega]
    by_cases hr : i + p.size ≤ s.size
    · rw [if_pos (by omega), if_pos (by omega), if_pos (by omega), Int.toNat_natCast, Int.toNat_natCast]
      have ho := Lib.occAt_iff_take s.data.toList p.data.toList i (by rw [← sz, ← sz]; exact hr)
      have hx : (s.extract i (i + p.size)).toList = (s.data.toList.drop i).take p.data.toList.length := by
        rw [tl, Lib.extract_data, ← sz, Nat.add_sub_cancel_left]
      by_cases he : (s.extract i (i + p.size)).toList = p.toList
      · rw [if_pos he, if_pos (by omega), if_pos (by omega)]
        have hix : Lib.index s.data.toList p.data.toList = i := Lib.index_hit hno (by rw [← sz]; omega) (by rw [ho, beq_iff_eq, ← hx, he, tl])
        unfold cutR
        rw [if_neg (by omega), hix, Int.toNat_natCast]
      · rw [if_neg he, step64 i (by omega)]
        refine ih k (i + 1) (by omega) (by omega) (hno.succ ?_)
        rw [ho, beq_eq_false_iff_ne, ← hx, ← tl]
        exact he
    · have hix : Lib.index s.data.toList p.data.toList = -1 := Lib.index_past (i := i) hpn hno (by rw [← sz, ← sz]; omega)
      rw [if_neg (by omega)]
      unfold cutR
      rw [if_pos hix]
theorem rcut_f (k : Nat) (s p : ByteArray) (hs : s.size < 4611686018427387904) (hp : 1 ≤ p.size) (hp2 : p.size < 4611686018427387) (hk : s.size + 2 ≤ k) : barbicanref15_cut.f k s p = some (cutR s p) :=
  rcut_l0 s p hs hp hp2 (s.size + 1) k 0 (by omega) (by omega) (Lib.NoOcc.zero _ _)
theorem cutR_size (s p : ByteArray) : (cutR s p).1.size ≤ s.size ∧ (cutR s p).2.1.size ≤ s.size := by
  unfold cutR
  split
  · exact ⟨Nat.le_refl _, Nat.zero_le _⟩
  · dsimp only
    rw [ByteArray.size_extract, ByteArray.size_extract]
    omega
theorem cutR_less (s p : ByteArray) (hp : 1 ≤ p.size) (h : (cutR s p).2.2 = true) : (cutR s p).2.1.size + 1 ≤ s.size := by
  unfold cutR at h ⊢
  by_cases hm : Lib.index s.data.toList p.data.toList = -1
  · rw [if_pos hm] at h; cases h
  · rw [if_neg hm]
    have hg := Lib.index_ge s.data.toList p.data.toList
    have hr := Lib.index_room s.data.toList p.data.toList (by have := Lib.index_ge s.data.toList p.data.toList; omega)
    rw [← sz, ← sz] at hr
    dsimp only
    rw [ByteArray.size_extract]
    omega
theorem cutR_at {s p : ByteArray} {c : UInt8} {t u v : List UInt8} (hp : p.data.toList = c :: t) (hu : c ∉ u) (hs : s.data.toList = u ++ (c :: t ++ v)) : (cutR s p).1.data.toList = u ∧ (cutR s p).2.1.data.toList = v ∧ (cutR s p).2.2 = true := by
  have hi : Lib.index s.data.toList p.data.toList = u.length := by rw [hs, hp]; exact TabS.index_at hu
  unfold cutR
  rw [if_neg (by omega), hi, Int.toNat_natCast]
  refine ⟨?_, ?_, rfl⟩
  · rw [upto_, hs, List.take_left]
  · rw [from_ _ _ _ rfl, hs, ← List.append_assoc, List.drop_left']
    rw [List.length_append, ← hp, ← sz]
theorem cutR_no {s p : ByteArray} {c : UInt8} {t : List UInt8} (hp : p.data.toList = c :: t) (hs : c ∉ s.data.toList) : cutR s p = (s, (⟨#[]⟩ : ByteArray), false) := by
  have hi : Lib.index s.data.toList p.data.toList = -1 := by rw [hp]; exact TabS.index_no hs
  unfold cutR
  rw [if_pos hi]
/-! #### a column's words -/
def kindR (w : ByteArray) : Int := if w.toList = ([73, 78, 84] : List UInt8) then 1 else if w.toList = ([84, 69, 88, 84] : List UInt8) then 2 else if w.toList = ([66, 79, 79, 76] : List UInt8) then 3 else 0
def colR (p : ByteArray) : S55 := ⟨(cutR p (⟨#[32]⟩ : ByteArray)).1, kindR (cutR (cutR p (⟨#[32]⟩ : ByteArray)).2.1 (⟨#[32]⟩ : ByteArray)).1, ((cutR (cutR p (⟨#[32]⟩ : ByteArray)).2.1 (⟨#[32]⟩ : ByteArray)).2.1.toList == ([75, 69, 89] : List UInt8)), ((cutR (cutR p (⟨#[32]⟩ : ByteArray)).2.1 (⟨#[32]⟩ : ByteArray)).2.1.toList == ([78, 85, 76, 76] : List UInt8))⟩
theorem rstep (k : Nat) (s x a : ByteArray) (cols : List S55) (hx : x.size < 1000000000) (hk : x.size + 2 ≤ k) (hc : cols.length < 4398046511104) :
    barbicanref15_Parse.l0 (k + 1) s x true a cols = barbicanref15_Parse.l0 k s (cutR x (⟨#[44, 32]⟩ : ByteArray)).2.1 (cutR x (⟨#[44, 32]⟩ : ByteArray)).2.2 a (cols ++ [colR (cutR x (⟨#[44, 32]⟩ : ByteArray)).1]) := by
  have z1 := cutR_size x (⟨#[44, 32]⟩ : ByteArray)
  have z2 := cutR_size (cutR x (⟨#[44, 32]⟩ : ByteArray)).1 (⟨#[32]⟩ : ByteArray)
  simp only [barbicanref15_Parse.l0, ↓reduceIte]
  rw [rcut_f k x _ (by omega) (by decide) (by decide) hk, Option.bind_some, rcut_f k _ _ (by omega) (by decide) (by decide) (by omega), Option.bind_some, rcut_f k _ _ (by omega) (by decide) (by decide) (by omega), Option.bind_some]
  unfold colR kindR
  generalize cutR x (⟨#[44, 32]⟩ : ByteArray) = q
  generalize cutR q.1 (⟨#[32]⟩ : ByteArray) = q1
  generalize cutR q1.2.1 (⟨#[32]⟩ : ByteArray) = q2
  repeat' split
  all_goals first
    | rfl
    | (exfalso; omega)
def finR (s : ByteArray) (a : ByteArray) (l : List S55) : ByteArray × List S55 × Int := if chk a l = none ∧ textB a l = s then (a, l, 0) else ((⟨#[]⟩ : ByteArray), ([] : List (S55)), 3)
theorem rend (k : Nat) (s x a : ByteArray) (l : List S55) (M : Nat) (hM : M < 2147483648) (ha : a.size ≤ M) (hn : ∀ c ∈ l, c.f0.size ≤ M) (hk : M + 600 ≤ k) : barbicanref15_Parse.l0 (k + 1) s x false a l = some (finR s a l) := by
  simp only [barbicanref15_Parse.l0]
  rw [if_neg Bool.false_ne_true, rtext_f k a l M hM ha hn hk, Option.bind_some]
  unfold finR
  by_cases h1 : chk a l = none
  · rw [if_pos h1]
    dsimp only
    rw [if_pos rfl]
    by_cases h2 : textB a l = s
    · rw [if_pos (by rw [h2]), if_pos ⟨h1, h2⟩]
    · rw [if_neg (fun z => h2 (ext (by rw [tl, tl] at z; exact z))), if_neg (fun z => h2 z.2)]
  · rw [if_neg h1]
    dsimp only
    rw [if_neg (fun z => h1 ((chk_zero a l).1 z)), if_neg (fun z => h1 z.1)]
theorem rloop (s a : ByteArray) (M : Nat) (hM : M < 1000000000) (ha : a.size ≤ M) : ∀ (m : Nat) (x : ByteArray) (cols : List S55) (k : Nat), x.size ≤ m → m ≤ M → cols.length + m ≤ 1000000000 → (∀ c ∈ cols, c.f0.size ≤ M) → M + 700 + m ≤ k →
    ∃ l, barbicanref15_Parse.l0 k s x true a cols = some (finR s a l) := by
  intro m
  induction m with
  | zero =>
    intro x cols k hx hm hl hc hk
    obtain ⟨k, rfl⟩ : ∃ q, k = q + 1 + 1 := ⟨k - 2, by omega⟩
    have z1 := cutR_size x (⟨#[44, 32]⟩ : ByteArray)
    have z2 := cutR_size (cutR x (⟨#[44, 32]⟩ : ByteArray)).1 (⟨#[32]⟩ : ByteArray)
    rw [rstep (k + 1) s x a cols (by omega) (by omega) (by omega)]
    cases hb : (cutR x (⟨#[44, 32]⟩ : ByteArray)).2.2 with
    | true =>
      have := cutR_less x _ (by decide) hb
      omega
    | false =>
      exact ⟨_, rend k s _ a _ M (by omega) ha (by
        intro c hc2
        rcases List.mem_append.1 hc2 with h | h
        · exact hc c h
        · rw [List.mem_singleton.1 h]
          show (cutR (cutR x (⟨#[44, 32]⟩ : ByteArray)).1 (⟨#[32]⟩ : ByteArray)).1.size ≤ M
          omega) (by omega)⟩
  | succ m ih =>
    intro x cols k hx hm hl hc hk
    obtain ⟨k, rfl⟩ : ∃ q, k = q + 1 + 1 := ⟨k - 2, by omega⟩
    have z1 := cutR_size x (⟨#[44, 32]⟩ : ByteArray)
    have z2 := cutR_size (cutR x (⟨#[44, 32]⟩ : ByteArray)).1 (⟨#[32]⟩ : ByteArray)
    have hcs : ∀ c ∈ cols ++ [colR (cutR x (⟨#[44, 32]⟩ : ByteArray)).1], c.f0.size ≤ M := by
      intro c hc2
      rcases List.mem_append.1 hc2 with h | h
      · exact hc c h
      · rw [List.mem_singleton.1 h]
        show (cutR (cutR x (⟨#[44, 32]⟩ : ByteArray)).1 (⟨#[32]⟩ : ByteArray)).1.size ≤ M
        omega
    rw [rstep (k + 1) s x a cols (by omega) (by omega) (by omega)]
    cases hb : (cutR x (⟨#[44, 32]⟩ : ByteArray)).2.2 with
    | true =>
      have hlt := cutR_less x _ (by decide) hb
      exact ih _ _ _ (by omega) (by omega) (by rw [List.length_append]; simp; omega) hcs (by omega)
    | false => exact ⟨_, rend k s _ a _ M (by omega) ha hcs (by omega)⟩
/-! #### a table's text is read as it -/
theorem kindR_eq {n : Int} (h : n = 1 ∨ n = 2 ∨ n = 3) : kindR (kindB n) = n ∧ (32 : UInt8) ∉ (kindB n).data.toList ∧ (41 : UInt8) ∉ (kindB n).data.toList := by
  rcases h with rfl | rfl | rfl <;> decide +kernel
theorem part_two (c : S55) : (partB c).data.toList = c.f0.data.toList ++ (32 :: [] ++ Lib.join ((kindB c.f1).data.toList :: flagW c) [32]) := by
  rw [part_words, TabS.join_two]
theorem colR_part {c : S55} (h : good c) : colR (partB c) = c := by
  obtain ⟨h1, h2, h3⟩ := h
  obtain ⟨k1, k2, _⟩ := kindR_eq h2
  obtain ⟨y1, y2, _⟩ := cutR_at (s := partB c) (p := (⟨#[32]⟩ : ByteArray)) rfl (nm_no h1 (by decide)) (part_two c)
  have e0 : (cutR (partB c) (⟨#[32]⟩ : ByteArray)).1 = c.f0 := ext y1
  unfold colR
  generalize (cutR (partB c) (⟨#[32]⟩ : ByteArray)).2.1 = w at y2
  rw [e0]
  obtain ⟨f0, f1, f2, f3⟩ := c
  unfold flagW at y2
  dsimp only at *
  cases f2 with
  | true =>
    have hf : f3 = false := by cases f3 with
      | true => exact absurd ⟨rfl, rfl⟩ h3
      | false => rfl
    subst hf
    rw [if_pos rfl, TabS.join_two, Lib.join_one] at y2
    obtain ⟨x1, x2, _⟩ := cutR_at (s := w) (p := (⟨#[32]⟩ : ByteArray)) (t := []) rfl k2 y2
    rw [ext x1, k1, tl, x2]
    rfl
  | false =>
    rw [if_neg Bool.false_ne_true] at y2
    cases f3 with
    | true =>
      rw [if_pos rfl, TabS.join_two, Lib.join_one] at y2
      obtain ⟨x1, x2, _⟩ := cutR_at (s := w) (p := (⟨#[32]⟩ : ByteArray)) (t := []) rfl k2 y2
      rw [ext x1, k1, tl, x2]
      rfl
    | false =>
      rw [if_neg Bool.false_ne_true, Lib.join_one] at y2
      rw [cutR_no (s := w) (p := (⟨#[32]⟩ : ByteArray)) (t := []) rfl (by rw [y2]; exact k2)]
      dsimp only
      rw [ext y2, k1, tl]
      rfl
theorem rexact (s a : ByteArray) (ha : a.size ≤ 32) : ∀ (rs : List S55) (x : ByteArray) (cols : List S55) (k : Nat), rs ≠ [] → (∀ c ∈ rs, good c) → (∀ c ∈ cols, c.f0.size ≤ 100000) → x.data.toList = Lib.join ((rs.map partB).map (·.data.toList)) [44, 32] → x.size ≤ 100000 → cols.length + rs.length ≤ 100000 → 200700 + rs.length ≤ k →
    barbicanref15_Parse.l0 k s x true a cols = some (finR s a (cols ++ rs)) := by
  intro rs
  induction rs with
  | nil => intro x cols k h; exact absurd rfl h
  | cons c r ih =>
    intro x cols k _ hg hc hx hxs hl hk
    simp only [List.length_cons] at hl hk
    obtain ⟨k, rfl⟩ : ∃ q, k = q + 1 + 1 := ⟨k - 2, by omega⟩
    have hcg := hg c (List.mem_cons_self ..)
    have hcs : ∀ d ∈ cols ++ [c], d.f0.size ≤ 100000 := by
      intro d hd
      rcases List.mem_append.1 hd with h | h
      · exact hc d h
      · rw [List.mem_singleton.1 h]
        have := nm_size hcg.1
        omega
    rw [rstep (k + 1) s x a cols (by omega) (by omega) (by omega)]
    cases r with
    | nil =>
      rw [List.map_cons, List.map_nil, List.map_cons, List.map_nil, Lib.join_one] at hx
      rw [cutR_no (s := x) (p := (⟨#[44, 32]⟩ : ByteArray)) (t := [32]) rfl (by rw [hx]; exact part_no hcg)]
      dsimp only
      rw [ext hx, colR_part hcg]
      exact rend k s _ a _ 100000 (by omega) (by omega) hcs (by omega)
    | cons d r =>
      rw [List.map_cons, List.map_cons, List.map_cons, List.map_cons, TabS.join_two] at hx
      obtain ⟨x1, x2, x3⟩ := cutR_at (s := x) (p := (⟨#[44, 32]⟩ : ByteArray)) (c := 44) (t := [32]) rfl (part_no hcg) hx
      have z1 := cutR_size x (⟨#[44, 32]⟩ : ByteArray)
      rw [x3, ext x1, colR_part hcg]
      have hi := ih (cutR x (⟨#[44, 32]⟩ : ByteArray)).2.1 (cols ++ [c]) (k + 1) (by simp) (fun e he => hg e (List.mem_cons_of_mem _ he)) hcs x2 (by omega) (by rw [List.length_append]; simp at hl ⊢; omega) (by omega)
      rw [hi, List.append_assoc]
      rfl
theorem part_no41 {c : S55} (h : good c) : (41 : UInt8) ∉ (partB c).data.toList := by
  obtain ⟨h1, h2, _⟩ := h
  have hk := (kindR_eq h2).2.2
  have hn := nm_no h1 (c := 41) (by decide)
  unfold partB
  repeat' split
  all_goals (simp only [app, List.mem_append]; rintro hq; simp [hk, hn] at hq)
/-- What the document reads of a text: the one table whose text it is, or the error. -/
theorem rparse_f (s : ByteArray) (hs : s.size ≤ 1048576) : ∃ K, ∃ r, (∀ k, K ≤ k → barbicanref15_Parse.f k s = some r) ∧
    ((∃ a l, r = (a, l, 0) ∧ chk a l = none ∧ textB a l = s) ∨ (r = ((⟨#[]⟩ : ByteArray), ([] : List (S55)), 3) ∧ ∀ a l, chk a l = none → textB a l ≠ s)) ∧
    (∀ a l, chk a l = none → textB a l = s → r = (a, l, 0)) := by
  have z1 := cutR_size s (⟨#[84, 65, 66, 76, 69, 32]⟩ : ByteArray)
  have t1 := fun t (h : s.data.toList = [84, 65, 66, 76, 69, 32] ++ t) => cutR_at (s := s) (p := (⟨#[84, 65, 66, 76, 69, 32]⟩ : ByteArray)) (c := 84) (t := [65, 66, 76, 69, 32]) (u := []) (v := t) rfl (by simp) h
  have e1 := fun k (hk : 3000000 ≤ k) => rcut_f k s (⟨#[84, 65, 66, 76, 69, 32]⟩ : ByteArray) (by omega) (by decide) (by decide) (by omega)
  generalize cutR s (⟨#[84, 65, 66, 76, 69, 32]⟩ : ByteArray) = q1 at z1 t1 e1
  have z2 := cutR_size q1.2.1 (⟨#[32, 40]⟩ : ByteArray)
  have t2 := fun u v => cutR_at (s := q1.2.1) (p := (⟨#[32, 40]⟩ : ByteArray)) (c := 32) (t := [40]) (u := u) (v := v) rfl
  have e2 := fun k (hk : 3000000 ≤ k) => rcut_f k q1.2.1 (⟨#[32, 40]⟩ : ByteArray) (by omega) (by decide) (by decide) (by omega)
  generalize cutR q1.2.1 (⟨#[32, 40]⟩ : ByteArray) = q2 at z2 t2 e2
  have z3 := cutR_size q2.2.1 (⟨#[41]⟩ : ByteArray)
  have t3 := fun u v => cutR_at (s := q2.2.1) (p := (⟨#[41]⟩ : ByteArray)) (c := 41) (t := []) (u := u) (v := v) rfl
  have e3 := fun k (hk : 3000000 ≤ k) => rcut_f k q2.2.1 (⟨#[41]⟩ : ByteArray) (by omega) (by decide) (by decide) (by omega)
  generalize cutR q2.2.1 (⟨#[41]⟩ : ByteArray) = q3 at z3 t3 e3
  have hf : ∀ k, 3000000 ≤ k → barbicanref15_Parse.f k s = barbicanref15_Parse.l0 k s q3.1 true q2.1 [] := by
    intro k hk
    unfold barbicanref15_Parse.f
    rw [e1 k hk, Option.bind_some, e2 k hk, Option.bind_some, e3 k hk, Option.bind_some]
  -- a table's own text
  have hx : ∀ a l, chk a l = none → textB a l = s → ∀ k, 3000000 ≤ k → barbicanref15_Parse.f k s = some (finR s a l) := by
    intro a l hk ht k hkk
    obtain ⟨g1, g2, g3, g4⟩ := chk_good hk
    have hcs := colsB_size g3 (fun c hc => (nm_size (g4 c hc).1).2)
    have y1 := t1 (a.data.toList ++ (32 :: [40] ++ ((colsB l).data.toList ++ [41]))) (by rw [← ht]; simp [textB, app, List.append_assoc])
    obtain ⟨w1, w2, _⟩ := t2 _ _ (nm_no g1 (by decide)) y1.2.1
    have h41 : (41 : UInt8) ∉ (colsB l).data.toList := by
      refine TabS.join_no (by decide) _ ?_
      intro p hp
      obtain ⟨q, hq, rfl⟩ := List.mem_map.1 hp
      obtain ⟨c, hc, rfl⟩ := List.mem_map.1 hq
      exact part_no41 (g4 c hc)
    obtain ⟨v1, _, _⟩ := t3 (colsB l).data.toList [] h41 w2
    have ea : q2.1 = a := ext w1
    have hne : l ≠ [] := by intro e; subst e; simp at g2
    have hq3 : q3.1.size ≤ 832 := by rw [sz, v1]; exact hcs
    rw [hf k hkk, ea]
    exact rexact s a (nm_size g1).2 l q3.1 [] k hne g4 (by intro c hc; cases hc) v1 (by omega) (by simp; omega) (by omega)
  obtain ⟨l, hl⟩ := rloop s q2.1 1048576 (by omega) (by omega) 1048576 q3.1 [] 3000000 (by omega) (Nat.le_refl _) (by simp) (by intro c hc; cases hc) (by omega)
  have h0 : ∀ k, 3000000 ≤ k → barbicanref15_Parse.f k s = some (finR s q2.1 l) := by
    intro k hk
    rw [hf k hk]
    exact at_rounds (g := fun k => barbicanref15_Parse.l0 k s q3.1 true q2.1 []) (fun k => (barbicanref15_Parse.mono_l k) _ _ _ _ _) hk hl
  refine ⟨3000000, _, h0, ?_, ?_⟩
  · by_cases h : chk q2.1 l = none ∧ textB q2.1 l = s
    · exact .inl ⟨q2.1, l, if_pos h, h.1, h.2⟩
    · refine .inr ⟨if_neg h, fun a' l' h1 h2 => ?_⟩
      have e := (h0 _ (Nat.le_refl _)).symm.trans (hx a' l' h1 h2 _ (Nat.le_refl _))
      have e' := Option.some.inj e
      unfold finR at e'
      rw [if_neg h, if_pos ⟨h1, h2⟩] at e'
      have := congrArg (fun z => z.2.2) e'
      simp at this
  · intro a' l' h1 h2
    have e := (h0 _ (Nat.le_refl _)).symm.trans (hx a' l' h1 h2 _ (Nat.le_refl _))
    rw [Option.some.inj e]
    exact if_pos ⟨h1, h2⟩
end TabL
end Go.Proofs.YtnflmaonilabgaaDoor.Pure
