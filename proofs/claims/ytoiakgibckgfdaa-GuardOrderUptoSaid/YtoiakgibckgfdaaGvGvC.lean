/- Values compared, and lists of them: an order; what it tells of values that may be. -/
import Derived.Test.YtoiakgibckgfdaaXGvx0
import Derived.Sort.Walk0
import Derived.Sort.LotA
namespace Go.Proofs.Ytoiakgibckgfdaa.XGv
open Go.RowKit Go.Proofs.YtoiakgibckgfdaaW.PrintWords Go.Sort
set_option linter.unusedVariables false
set_option linter.unusedSimpArgs false
namespace GvC
/-- What two tests tell: less, greater, the same. -/
def sgn (a b : Bool) : Int := if a = true then -1 else if b = true then 1 else 0
/-- Two values compared. -/
def vcmp (x y : S47) : Int :=
  if x.f0 = y.f0 then
    if x.f0 = 1 then sgn (decide (x.f1 < y.f1)) (decide (y.f1 < x.f1))
    else if x.f0 = 2 then sgn (Op.bytesLess x.f2.toList y.f2.toList) (Op.bytesLess y.f2.toList x.f2.toList)
    else if x.f0 = 3 then sgn (!x.f3 && y.f3) (x.f3 && !y.f3)
    else 0
  else sgn (decide (x.f0 < y.f0)) (decide (y.f0 < x.f0))
/-- Two lists compared. -/
def lcmp : List S47 → List S47 → Int
  | [], [] => 0
  | [], _ :: _ => -1
  | _ :: _, [] => 1
  | x :: l, y :: m => if vcmp x y = 0 then lcmp l m else vcmp x y
/-- The fields that a kind leaves unused are nought. -/
def shp (x : S47) : Bool :=
  (x.f0 == 0 && x.f1 == 0 && x.f2.toList == [] && !x.f3) || (x.f0 == 1 && x.f2.toList == [] && !x.f3) || (x.f0 == 2 && x.f1 == 0 && !x.f3) || (x.f0 == 3 && x.f1 == 0 && x.f2.toList == [])
/-- A way to compare is an order. -/
structure Ord {α : Type} (c : α → α → Int) : Prop where
  anti : ∀ x y, c y x = - c x y
  lt : ∀ x y z, c x y < 0 → c y z < 0 → c x z < 0
  eq : ∀ x y z, c x y = 0 → c x z = c y z
theorem Ord.self {α : Type} {c : α → α → Int} (h : Ord c) (x : α) : c x x = 0 := by have := h.anti x x; omega
theorem sgn_anti (a b : Bool) (h : ¬ (a = true ∧ b = true)) : sgn b a = - sgn a b := by cases a <;> cases b <;> simp_all [sgn]
theorem int_ord : Ord fun a b : Int => sgn (decide (a < b)) (decide (b < a)) where
  anti x y := sgn_anti _ _ (by simp only [decide_eq_true_eq]; omega)
  lt x y z := by
    unfold sgn
    simp only [decide_eq_true_eq]
    intro h1 h2
    repeat' split at h1
    all_goals try omega
    repeat' split at h2
    all_goals try omega
  eq x y z := by
    unfold sgn
    simp only [decide_eq_true_eq]
    intro h1
    have e : x = y := by
      repeat' split at h1
      all_goals omega
    rw [e]
theorem str_ord : Ord fun a b : List UInt8 => sgn (Op.bytesLess a b) (Op.bytesLess b a) where
  anti x y := sgn_anti _ _ (by
    rw [bytesLess_eq, bytesLess_eq]
    simp only [decide_eq_true_eq]
    rintro ⟨h1, h2⟩
    exact List.lt_irrefl x (List.lt_trans h1 h2))
  lt x y z := by
    rw [bytesLess_eq, bytesLess_eq, bytesLess_eq, bytesLess_eq, bytesLess_eq, bytesLess_eq]
    unfold sgn
    simp only [decide_eq_true_eq]
    intro h1 h2
    have e1 : x < y := by
      repeat' split at h1
      all_goals first | assumption | omega
    have e2 : y < z := by
      repeat' split at h2
      all_goals first | assumption | omega
    rw [if_pos (List.lt_trans e1 e2)]
    omega
  eq x y z := by
    rw [bytesLess_eq, bytesLess_eq, bytesLess_eq, bytesLess_eq, bytesLess_eq, bytesLess_eq]
    unfold sgn
    simp only [decide_eq_true_eq]
    intro h1
    have e : x = y := by
      by_cases h2 : x < y
      · rw [if_pos h2] at h1; omega
      · rw [if_neg h2] at h1
        by_cases h3 : y < x
        · rw [if_pos h3] at h1; omega
        · exact List.le_antisymm (List.not_lt.1 h3) (List.not_lt.1 h2)
    rw [e]
theorem bool_ord : Ord fun a b : Bool => sgn (!a && b) (a && !b) where
  anti x y := by cases x <;> cases y <;> rfl
  lt x y z := by cases x <;> cases y <;> cases z <;> simp [sgn]
  eq x y z := by cases x <;> cases y <;> cases z <;> simp [sgn]
theorem sgn_int_zero {a b : Int} (h : sgn (decide (a < b)) (decide (b < a)) = 0) : a = b := by
  unfold sgn at h
  simp only [decide_eq_true_eq] at h
  repeat' split at h
  all_goals omega
theorem sgn_str_zero {a b : List UInt8} (h : sgn (Op.bytesLess a b) (Op.bytesLess b a) = 0) : a = b := by
  rw [bytesLess_eq, bytesLess_eq] at h
  unfold sgn at h
  simp only [decide_eq_true_eq] at h
  by_cases h2 : a < b
  · rw [if_pos h2] at h; omega
  · rw [if_neg h2] at h
    by_cases h3 : b < a
    · rw [if_pos h3] at h; omega
    · exact List.le_antisymm (List.not_lt.1 h3) (List.not_lt.1 h2)
theorem vcmp_kind {x y : S47} (h : vcmp x y = 0) : x.f0 = y.f0 := by
  by_cases e : x.f0 = y.f0
  · exact e
  · unfold vcmp at h
    rw [if_neg e] at h
    exact absurd (sgn_int_zero h) e
theorem vcmp_ne {x y : S47} (h : x.f0 ≠ y.f0) : vcmp x y = sgn (decide (x.f0 < y.f0)) (decide (y.f0 < x.f0)) := by unfold vcmp; rw [if_neg h]
theorem vcmp_1 {x y : S47} (h1 : x.f0 = 1) (h2 : y.f0 = 1) : vcmp x y = sgn (decide (x.f1 < y.f1)) (decide (y.f1 < x.f1)) := by unfold vcmp; rw [if_pos (h1.trans h2.symm), if_pos h1]
theorem vcmp_2 {x y : S47} (h1 : x.f0 = 2) (h2 : y.f0 = 2) : vcmp x y = sgn (Op.bytesLess x.f2.toList y.f2.toList) (Op.bytesLess y.f2.toList x.f2.toList) := by unfold vcmp; rw [if_pos (h1.trans h2.symm), if_neg (by omega), if_pos h1]
theorem vcmp_3 {x y : S47} (h1 : x.f0 = 3) (h2 : y.f0 = 3) : vcmp x y = sgn (!x.f3 && y.f3) (x.f3 && !y.f3) := by unfold vcmp; rw [if_pos (h1.trans h2.symm), if_neg (by omega), if_neg (by omega), if_pos h1]
theorem vcmp_0 {x y : S47} (h1 : x.f0 = y.f0) (n1 : x.f0 ≠ 1) (n2 : x.f0 ≠ 2) (n3 : x.f0 ≠ 3) : vcmp x y = 0 := by unfold vcmp; rw [if_pos h1, if_neg n1, if_neg n2, if_neg n3]
theorem v_ord : Ord vcmp where
  anti x y := by
    by_cases e : x.f0 = y.f0
    · by_cases h1 : x.f0 = 1
      · rw [vcmp_1 h1 (e ▸ h1), vcmp_1 (e ▸ h1) h1]; exact int_ord.anti _ _
      · by_cases h2 : x.f0 = 2
        · rw [vcmp_2 h2 (e ▸ h2), vcmp_2 (e ▸ h2) h2]; exact str_ord.anti _ _
        · by_cases h3 : x.f0 = 3
          · rw [vcmp_3 h3 (e ▸ h3), vcmp_3 (e ▸ h3) h3]; exact bool_ord.anti _ _
          · rw [vcmp_0 e h1 h2 h3, vcmp_0 e.symm (e ▸ h1) (e ▸ h2) (e ▸ h3)]; rfl
    · rw [vcmp_ne e, vcmp_ne (fun h => e h.symm)]; exact int_ord.anti _ _
  lt x y z h1 h2 := by
    by_cases e : x.f0 = y.f0
    · by_cases e2 : y.f0 = z.f0
      · by_cases k1 : x.f0 = 1
        · rw [vcmp_1 k1 (e ▸ k1)] at h1; rw [vcmp_1 (e ▸ k1) (e2 ▸ e ▸ k1)] at h2; rw [vcmp_1 k1 (e2 ▸ e ▸ k1)]; exact int_ord.lt _ _ _ h1 h2
        · by_cases k2 : x.f0 = 2
          · rw [vcmp_2 k2 (e ▸ k2)] at h1; rw [vcmp_2 (e ▸ k2) (e2 ▸ e ▸ k2)] at h2; rw [vcmp_2 k2 (e2 ▸ e ▸ k2)]; exact str_ord.lt _ _ _ h1 h2
          · by_cases k3 : x.f0 = 3
            · rw [vcmp_3 k3 (e ▸ k3)] at h1; rw [vcmp_3 (e ▸ k3) (e2 ▸ e ▸ k3)] at h2; rw [vcmp_3 k3 (e2 ▸ e ▸ k3)]; exact bool_ord.lt _ _ _ h1 h2
            · rw [vcmp_0 e k1 k2 k3] at h1; omega
      · rw [vcmp_ne e2] at h2; rw [vcmp_ne (by omega), e]; exact h2
    · rw [vcmp_ne e] at h1
      by_cases e2 : y.f0 = z.f0
      · rw [vcmp_ne (by omega), ← e2]; exact h1
      · rw [vcmp_ne e2] at h2
        have h3 := int_ord.lt _ _ _ h1 h2
        have ne : x.f0 ≠ z.f0 := by
          intro h
          rw [h] at h3
          simp [sgn] at h3
        rw [vcmp_ne ne]; exact h3
  eq x y z h := by
    have e := vcmp_kind h
    by_cases e2 : y.f0 = z.f0
    · by_cases k1 : x.f0 = 1
      · rw [vcmp_1 k1 (e ▸ k1)] at h; rw [vcmp_1 k1 (e2 ▸ e ▸ k1), vcmp_1 (x := y) (e ▸ k1) (e2 ▸ e ▸ k1)]; exact int_ord.eq _ _ _ h
      · by_cases k2 : x.f0 = 2
        · rw [vcmp_2 k2 (e ▸ k2)] at h; rw [vcmp_2 k2 (e2 ▸ e ▸ k2), vcmp_2 (x := y) (e ▸ k2) (e2 ▸ e ▸ k2)]; exact str_ord.eq _ _ _ h
        · by_cases k3 : x.f0 = 3
          · rw [vcmp_3 k3 (e ▸ k3)] at h; rw [vcmp_3 k3 (e2 ▸ e ▸ k3), vcmp_3 (x := y) (e ▸ k3) (e2 ▸ e ▸ k3)]; exact bool_ord.eq _ _ _ h
          · rw [vcmp_0 (e.trans e2) k1 k2 k3, vcmp_0 e2 (e ▸ k1) (e ▸ k2) (e ▸ k3)]
    · rw [vcmp_ne e2, vcmp_ne (by omega), e]
theorem l_anti : ∀ l m, lcmp m l = - lcmp l m
  | [], [] => rfl
  | [], _ :: _ => rfl
  | _ :: _, [] => rfl
  | x :: l, y :: m => by
    unfold lcmp
    have h := v_ord.anti x y
    by_cases e : vcmp x y = 0
    · rw [if_pos (by omega), if_pos e]; exact l_anti l m
    · rw [if_neg (by omega), if_neg e]; exact h
theorem l_eq : ∀ l m n, lcmp l m = 0 → lcmp l n = lcmp m n
  | [], [], _, _ => rfl
  | [], _ :: _, _, h => by simp [lcmp] at h
  | _ :: _, [], _, h => by simp [lcmp] at h
  | x :: l, y :: m, [], h => rfl
  | x :: l, y :: m, z :: n, h => by
    unfold lcmp at h ⊢
    by_cases e : vcmp x y = 0
    · rw [if_pos e] at h
      rw [v_ord.eq x y z e]
      split
      · exact l_eq l m n h
      · rfl
    · rw [if_neg e] at h; exact absurd h e
theorem l_lt : ∀ l m n, lcmp l m < 0 → lcmp m n < 0 → lcmp l n < 0
  | [], [], _, h, _ => by simp [lcmp] at h
  | [], _ :: _, [], _, h => by simp [lcmp] at h
  | [], _ :: _, _ :: _, _, _ => by simp [lcmp]
  | _ :: _, [], _, h, _ => by simp [lcmp] at h
  | _ :: _, _ :: _, [], _, h => by simp [lcmp] at h
  | x :: l, y :: m, z :: n, h1, h2 => by
    unfold lcmp at h1 h2 ⊢
    by_cases e : vcmp x y = 0
    · rw [if_pos e] at h1
      rw [v_ord.eq x y z e]
      by_cases e2 : vcmp y z = 0
      · rw [if_pos e2] at h2; rw [if_pos e2]; exact l_lt l m n h1 h2
      · rw [if_neg e2] at h2; rw [if_neg e2]; exact h2
    · rw [if_neg e] at h1
      by_cases e2 : vcmp y z = 0
      · have h3 : vcmp x z = vcmp x y := by
          have a1 := v_ord.eq y z x e2
          have a2 := v_ord.anti x y
          have a3 := v_ord.anti x z
          omega
        rw [h3, if_neg e]; exact h1
      · rw [if_neg e2] at h2
        have h3 := v_ord.lt x y z h1 h2
        rw [if_neg (by omega)]; exact h3
theorem l_ord : Ord lcmp := ⟨l_anti, l_lt, l_eq⟩
theorem swo {α : Type} {c : α → α → Int} (h : Ord c) : SWO fun x y => decide (c x y < 0) where
  irrefl x := by simp [h.self x]
  trans x y z h1 h2 := by simp only [decide_eq_true_eq] at *; exact h.lt x y z h1 h2
  ntrans x y z h1 h2 := by
    simp only [decide_eq_false_iff_not] at *
    intro h3
    by_cases e : c x y = 0
    · rw [h.eq x y z e] at h3; exact h2 h3
    · have := h.anti x y
      exact h2 (h.lt y x z (by omega) h3)
theorem shp_eq {x y : S47} (h : vcmp x y = 0) (hx : shp x = true) (hy : shp y = true) : x = y := by
  have e := vcmp_kind h
  obtain ⟨a, b, s, t⟩ := x
  obtain ⟨a', b', s', t'⟩ := y
  dsimp only at e
  subst e
  have hs : s.toList = s'.toList → s = s' := fun h => by
    rw [Lib.toList_data, Lib.toList_data] at h
    exact ByteArray.ext (Array.toList_inj.1 h)
  unfold shp at hx hy
  simp only [Bool.or_eq_true, Bool.and_eq_true, beq_iff_eq, Bool.not_eq_true'] at hx hy
  by_cases k1 : a = 1
  · rw [vcmp_1 k1 k1] at h
    have h := sgn_int_zero h
    dsimp only at h
    have e2 : s = s' := hs (by rcases hx with ((⟨⟨⟨h1, _⟩, _⟩, _⟩ | ⟨⟨_, h2⟩, _⟩) | ⟨⟨h1, _⟩, _⟩) | ⟨⟨h1, _⟩, _⟩ <;> rcases hy with ((⟨⟨⟨h1', _⟩, _⟩, _⟩ | ⟨⟨_, h2'⟩, _⟩) | ⟨⟨h1', _⟩, _⟩) | ⟨⟨h1', _⟩, _⟩ <;> first | omega | rw [h2, h2'])
    have e3 : t = t' := by rcases hx with ((⟨⟨⟨h1, _⟩, _⟩, _⟩ | ⟨⟨_, _⟩, h2⟩) | ⟨⟨h1, _⟩, _⟩) | ⟨⟨h1, _⟩, _⟩ <;> rcases hy with ((⟨⟨⟨h1', _⟩, _⟩, _⟩ | ⟨⟨_, _⟩, h2'⟩) | ⟨⟨h1', _⟩, _⟩) | ⟨⟨h1', _⟩, _⟩ <;> first | omega | rw [h2, h2']
    rw [h, e2, e3]
  · by_cases k2 : a = 2
    · rw [vcmp_2 k2 k2] at h
      have h := hs (sgn_str_zero h)
      have e2 : b = b' := by rcases hx with ((⟨⟨⟨h1, _⟩, _⟩, _⟩ | ⟨⟨h1, _⟩, _⟩) | ⟨⟨_, h2⟩, _⟩) | ⟨⟨h1, _⟩, _⟩ <;> rcases hy with ((⟨⟨⟨h1', _⟩, _⟩, _⟩ | ⟨⟨h1', _⟩, _⟩) | ⟨⟨_, h2'⟩, _⟩) | ⟨⟨h1', _⟩, _⟩ <;> first | omega | rw [h2, h2']
      have e3 : t = t' := by rcases hx with ((⟨⟨⟨h1, _⟩, _⟩, _⟩ | ⟨⟨h1, _⟩, _⟩) | ⟨⟨_, _⟩, h2⟩) | ⟨⟨h1, _⟩, _⟩ <;> rcases hy with ((⟨⟨⟨h1', _⟩, _⟩, _⟩ | ⟨⟨h1', _⟩, _⟩) | ⟨⟨_, _⟩, h2'⟩) | ⟨⟨h1', _⟩, _⟩ <;> first | omega | rw [h2, h2']
      rw [h, e2, e3]
    · by_cases k3 : a = 3
      · rw [vcmp_3 k3 k3] at h
        have h : t = t' := by revert h; dsimp only; cases t <;> cases t' <;> simp [sgn]
        have e2 : b = b' := by rcases hx with ((⟨⟨⟨h1, _⟩, _⟩, _⟩ | ⟨⟨h1, _⟩, _⟩) | ⟨⟨h1, _⟩, _⟩) | ⟨⟨_, h2⟩, _⟩ <;> rcases hy with ((⟨⟨⟨h1', _⟩, _⟩, _⟩ | ⟨⟨h1', _⟩, _⟩) | ⟨⟨h1', _⟩, _⟩) | ⟨⟨_, h2'⟩, _⟩ <;> first | omega | rw [h2, h2']
        have e3 : s = s' := hs (by rcases hx with ((⟨⟨⟨h1, _⟩, _⟩, _⟩ | ⟨⟨h1, _⟩, _⟩) | ⟨⟨h1, _⟩, _⟩) | ⟨⟨_, _⟩, h2⟩ <;> rcases hy with ((⟨⟨⟨h1', _⟩, _⟩, _⟩ | ⟨⟨h1', _⟩, _⟩) | ⟨⟨h1', _⟩, _⟩) | ⟨⟨_, _⟩, h2'⟩ <;> first | omega | rw [h2, h2'])
        rw [h, e2, e3]
      · have hz : ∀ {b : Int} {s : ByteArray} {t : Bool}, (((((a = 0 ∧ b = 0) ∧ s.toList = []) ∧ t = false) ∨ ((a = 1 ∧ s.toList = []) ∧ t = false)) ∨ ((a = 2 ∧ b = 0) ∧ t = false)) ∨ ((a = 3 ∧ b = 0) ∧ s.toList = []) → b = 0 ∧ s.toList = [] ∧ t = false := by
          rintro b s t (((⟨⟨⟨_, h2⟩, h3⟩, h4⟩ | ⟨⟨h1, _⟩, _⟩) | ⟨⟨h1, _⟩, _⟩) | ⟨⟨h1, _⟩, _⟩)
          · exact ⟨h2, h3, h4⟩
          all_goals omega
        obtain ⟨p1, p2, p3⟩ := hz hx
        obtain ⟨q1, q2, q3⟩ := hz hy
        rw [p1, q1, p3, q3, hs (p2.trans q2.symm)]
theorem l_same : ∀ l m, (∀ x ∈ l, shp x = true) → (∀ x ∈ m, shp x = true) → lcmp l m = 0 → l = m
  | [], [], _, _, _ => rfl
  | [], _ :: _, _, _, h => by simp [lcmp] at h
  | _ :: _, [], _, _, h => by simp [lcmp] at h
  | x :: l, y :: m, hl, hm, h => by
    unfold lcmp at h
    by_cases e : vcmp x y = 0
    · rw [if_pos e] at h
      rw [shp_eq e (hl x (by simp)) (hm y (by simp)), l_same l m (fun z hz => hl z (by simp [hz])) (fun z hz => hm z (by simp [hz])) h]
    · rw [if_neg e] at h; exact absurd h e
/-- Lists in order. -/
def le (a b : List S47) : Bool := decide (lcmp a b ≤ 0)
theorem le_trans (a b c : List S47) (h1 : le a b = true) (h2 : le b c = true) : le a c = true := by
  unfold le at *
  simp only [decide_eq_true_eq] at *
  by_cases e : lcmp a b = 0
  · rw [l_eq a b c e]; exact h2
  · by_cases e2 : lcmp b c = 0
    · have a1 := l_eq b c a e2
      have a2 := l_anti a b
      have a3 := l_anti a c
      omega
    · have := l_lt a b c (by omega) (by omega)
      omega
theorem le_total (a b : List S47) : (le a b || le b a) = true := by
  unfold le
  have := l_anti a b
  simp only [Bool.or_eq_true, decide_eq_true_eq]
  omega
end GvC
end Go.Proofs.Ytoiakgibckgfdaa.XGv
