/- Printed by this session's program (wip/print) out of the translation, for the statement named in the file's name. -/
import Derived.Test.YtgcaalgaellciaaDoorXLatx0
import Derived.Test.YtgcaalgaellciaaDoorXLatx1
namespace Go.Proofs.YtgcaalgaellciaaDoor.XLat
open Go.RowKit Go.Proofs.YtgcaalgaellciaaDoorW.PrintWords Go.Proofs.YtgcaalgaellciaaDoorW.PrintLast Go.Proofs.YtgcaalgaellciaaDoorW.PrintMore Go.Proofs.YtgcaalgaellciaaDoor.Lab
attribute [local go_sem] str_gtr str_leq str_geq max2_int min2_int max_two min_two max_three min_three max_four min_four   -- for this text's walks alone
set_option linter.unusedVariables false
set_option linter.unusedSimpArgs false
set_option linter.unnecessarySimpa false

/-! ### barbicanlaw02_ints: function 14 -/
def barbicanlaw02_ints.l0 : Nat → List Int → List Int → Int → Option (Bool)
  | 0, _, _, _ => none
  | k + 1, x0, x1, x5 => if x5 < (x0.length : Int) then (if 0 ≤ x5 then (if x5 < (x1.length : Int) then (if (rd x0 x5) = (rd x1 x5) then (barbicanlaw02_ints.l0 k x0 x1 (wrap64 (x5 + 1))) else (some false)) else (none)) else (none)) else (some true)
def barbicanlaw02_ints.f (k : Nat) (l0 : List Int) (l1 : List Int) : Option (Bool) := if (l0.length : Int) = (l1.length : Int) then (barbicanlaw02_ints.l0 k l0 l1 0) else (some false)
theorem barbicanlaw02_ints.mono_l : ∀ k, (∀ y0 y1 y2, LeO (barbicanlaw02_ints.l0 k y0 y1 y2) (barbicanlaw02_ints.l0 (k + 1) y0 y1 y2))
  | 0 => fun _ _ _ r h => by simp [barbicanlaw02_ints.l0] at h
  | k + 1 => by
    have ih0 := barbicanlaw02_ints.mono_l k
    · intro y0 y1 y2
      unfold barbicanlaw02_ints.l0
      repeat' first
      | (with_reducible exact ih0 _ _ _)
      | (with_reducible exact LeO.refl _)
      | (with_reducible exact LeO.none _)
      | (with_reducible refine LeO.ite ?_ ?_)
      | (with_reducible refine LeO.bind ?_ (fun _ => ?_))
      | exact ih0 _ _ _
      | exact LeO.none _
      | refine LeO.ite ?_ ?_
      | refine LeO.bind ?_ (fun _ => ?_)
theorem barbicanlaw02_ints.mono : ∀ a0 a1 k, LeO (barbicanlaw02_ints.f k a0 a1) (barbicanlaw02_ints.f (k + 1) a0 a1) := by
  intro a0 a1 k
  have ih0 := barbicanlaw02_ints.mono_l k
  unfold barbicanlaw02_ints.f
  repeat' first
      | (with_reducible exact ih0 _ _ _)
      | (with_reducible exact LeO.refl _)
      | (with_reducible exact LeO.none _)
      | (with_reducible refine LeO.ite ?_ ?_)
      | (with_reducible refine LeO.bind ?_ (fun _ => ?_))
      | exact ih0 _ _ _
      | exact LeO.none _
      | refine LeO.ite ?_ ?_
      | refine LeO.bind ?_ (fun _ => ?_)
set_option maxHeartbeats 8000000 in
set_option maxRecDepth 100000 in
theorem barbicanlaw02_ints.calls (k : Nat) (A0 : Option Addr) (c0 : Nat) (l0 : List Int) (A1 : Option Addr) (c1 : Nat) (l1 : List Int) (r : Bool) (w : World) (hr0 : Kd.C (Kd.int .i64) w A0 l0.length l0) (hc0 : l0.length ≤ c0) (hr1 : Kd.C (Kd.int .i64) w A1 l1.length l1) (hc1 : l1.length ≤ c1) (h : barbicanlaw02_ints.f k l0 l1 = some r) :
    Calls Tryd.prog 14 #[.slice A0 l0.length c0, .slice A1 l1.length c1] w fun e w' => e = .returned (.bool r) ∧ Drawn0 w w' := by
  have HR0 := Aside0.mk hr0
  have HC0 := Aside0.mk hc0
  clear hr0 hc0
  have HR1 := Aside0.mk hr1
  have HC1 := Aside0.mk hc1
  clear hr1 hc1
  have H : (if (l0.length : Int) = (l1.length : Int) then (barbicanlaw02_ints.l0 k l0 l1 0) else (some false)) = some r := h
  clear h
  by_cases c3 : (l0.length : Int) = (l1.length : Int)
  · rw [if_pos c3] at H
    have c3b0 : ((l0.length : Int) == (l1.length : Int)) = true := beq_iff_eq.mpr c3
    have c3b1 : ((l0.length : Int) != (l1.length : Int)) = false := bne_eq_false_iff_eq.mpr c3
    have c3b2 : (l0.length == l1.length) = true := by first | simpa using c3 | (simp at c3 ⊢; omega)
    clear c3
    have H' := Aside0.mk H
    clear H
    go_enter Tryd.func14, Tryd.ntmps14
    go_wp2
    repeat (go_quiet (fail); try go_wp2)
    go_loopg [5] k (fun kq v5 w' => ∃ (x5_1 : Int), v5 = .int .i64 x5_1 ∧ Aside0 (barbicanlaw02_ints.l0 kq l0 l1 x5_1 = some r) ∧ Aside0 (kq ≤ k) ∧ Drawn0 w w')
    case atStart => exact ⟨(0), (by first | rfl | (simp; done) | (simp [*]; done)), H', ⟨Nat.le_refl _⟩, by repeat (first | exact Drawn0.refl _ | apply Drawn0.step)⟩
    case round =>
      clear H'
      try clear c1
      try clear p2
      try clear c3
      try clear c3b0
      try clear c3b1
      try clear c3b2
      obtain ⟨x5_1, rfl, HA, HK1, ⟨m1, rfl⟩⟩ := hrel
      cases gk with
      | zero => exact absurd HA.out (by simp [barbicanlaw02_ints.l0])
      | succ k1 =>
        have H := HA.out
        clear HA
        simp only [barbicanlaw02_ints.l0] at H
        by_cases c4 : x5_1 < (l0.length : Int)
        · rw [if_pos c4] at H
          have c4b0 : decide (x5_1 < (l0.length : Int)) = true := decide_eq_true c4
          clear c4
          by_cases c5 : 0 ≤ x5_1
          · rw [if_pos c5] at H
            have c5b0 : decide (0 ≤ x5_1) = true := decide_eq_true c5
            clear c5
            by_cases c6 : x5_1 < (l1.length : Int)
            · rw [if_pos c6] at H
              have c6b0 : decide (x5_1 < (l1.length : Int)) = true := decide_eq_true c6
              clear c6
              by_cases c7 : (rd l0 x5_1) = (rd l1 x5_1)
              · rw [if_pos c7] at H
                have c7b0 : ((rd l0 x5_1) == (rd l1 x5_1)) = true := beq_iff_eq.mpr c7
                have c7b1 : ((rd l0 x5_1) != (rd l1 x5_1)) = false := bne_eq_false_iff_eq.mpr c7
                clear c7
                have H' := Aside0.mk H
                clear H
                have p107 : 0 ≤ (x5_1 : Int) := of_decide_eq_true (by first | (with_reducible assumption) | assumption)
                have q107 : x5_1 < (l0.length : Int) := of_decide_eq_true (by first | (with_reducible assumption) | assumption)
                obtain ⟨ad107, e107, hx107_0⟩ := Kd.at_int HR0.out x5_1 p107 q107
                cases e107
                replace p107 := eq_true p107
                replace q107 := eq_true q107
                have p108 : 0 ≤ (x5_1 : Int) := of_decide_eq_true (by first | (with_reducible assumption) | assumption)
                have q108 : x5_1 < (l1.length : Int) := of_decide_eq_true (by first | (with_reducible assumption) | assumption)
                obtain ⟨ad108, e108, hx108_0⟩ := Kd.at_int HR1.out x5_1 p108 q108
                cases e108
                replace p108 := eq_true p108
                replace q108 := eq_true q108
                go_wp2
                repeat (go_quiet (fail); try go_wp2)
                go_roundg k1
                case measure => have := HK1.out; omega
                case rel => exact ⟨(wrap64 (x5_1 + 1)), (by first | rfl | (simp; done) | (simp [*]; done)), H', ⟨by have := HK1.out; omega⟩, by repeat (first | exact Drawn0.refl _ | apply Drawn0.step)⟩
              · rw [if_neg c7] at H
                have c7b0 : ((rd l0 x5_1) == (rd l1 x5_1)) = false := beq_eq_false_iff_ne.mpr c7
                have c7b1 : ((rd l0 x5_1) != (rd l1 x5_1)) = true := bne_iff_ne.mpr c7
                obtain rfl := Option.some.inj H
                have p107 : 0 ≤ (x5_1 : Int) := of_decide_eq_true (by first | (with_reducible assumption) | assumption)
                have q107 : x5_1 < (l0.length : Int) := of_decide_eq_true (by first | (with_reducible assumption) | assumption)
                obtain ⟨ad107, e107, hx107_0⟩ := Kd.at_int HR0.out x5_1 p107 q107
                cases e107
                replace p107 := eq_true p107
                replace q107 := eq_true q107
                have p108 : 0 ≤ (x5_1 : Int) := of_decide_eq_true (by first | (with_reducible assumption) | assumption)
                have q108 : x5_1 < (l1.length : Int) := of_decide_eq_true (by first | (with_reducible assumption) | assumption)
                obtain ⟨ad108, e108, hx108_0⟩ := Kd.at_int HR1.out x5_1 p108 q108
                cases e108
                replace p108 := eq_true p108
                replace q108 := eq_true q108
                go_wp2
                repeat (go_quiet (fail); try go_wp2)
                go_ret
                exact ⟨by first | rfl | (simp; done) | (simp [*]; done), by repeat (first | exact Drawn0.refl _ | apply Drawn0.step)⟩
            · rw [if_neg c6] at H
              exact absurd H (by simp)
          · rw [if_neg c5] at H
            exact absurd H (by simp)
        · rw [if_neg c4] at H
          have c4b0 : decide (x5_1 < (l0.length : Int)) = false := decide_eq_false c4
          clear c4
          obtain rfl := Option.some.inj H
          go_wp2
          repeat (go_quiet (fail); try go_wp2)
          go_ret
          exact ⟨by first | rfl | (simp; done) | (simp [*]; done), by repeat (first | exact Drawn0.refl _ | apply Drawn0.step)⟩
  · rw [if_neg c3] at H
    have c3b0 : ((l0.length : Int) == (l1.length : Int)) = false := beq_eq_false_iff_ne.mpr c3
    have c3b1 : ((l0.length : Int) != (l1.length : Int)) = true := bne_iff_ne.mpr c3
    have c3b2 : (l0.length == l1.length) = false := by first | simpa using c3 | (simp at c3 ⊢; omega)
    obtain rfl := Option.some.inj H
    go_enter Tryd.func14, Tryd.ntmps14
    go_wp2
    repeat (go_quiet (fail); try go_wp2)
    go_ret
    exact ⟨by first | rfl | (simp; done) | (simp [*]; done), by repeat (first | exact Drawn0.refl _ | apply Drawn0.step)⟩

/-! ### label_Text: function 31 (by hand) -/
/-- A label's text. -/
def label_textOf (r c : Nat) : List UInt8 := Lib.decDigits r ++ (if c = 0 then [] else 58 :: LabL.cats c)
def label_Text.f (a0_0 : Int) (a0_1 : Int) : Option (ByteArray × (Option Int)) :=
  if 0 ≤ a0_1 ∧ a0_1 < 4294967296 then (label_Valid.f a0_0 a0_1).bind fun e => if e.isNone = true then some (⟨(label_textOf a0_0.toNat a0_1.toNat).toArray⟩, none) else some (ByteArray.empty, e) else none
theorem label_Valid_none (a c : Int) (h0 : 0 ≤ c) (h1 : c < 4294967296) (h : label_Valid.f a c = some none) : 0 ≤ a ∧ a ≤ 15 ∧ c < 67108864 := by
  unfold label_Valid.f at h
  obtain ⟨n, rfl⟩ := Int.eq_ofNat_of_zero_le h0
  split at h
  · simp at h
  · split at h
    · simp at h
    · split at h
      · rename_i h3
        have := (LabB.andNot_zero n (by omega)).1 h3
        omega
      · simp at h
theorem label_cat (l : List UInt8) (n : List UInt8) : (({ data := l.toArray } : ByteArray) ++ { data := #[58] } ++ { data := n.toArray }) = { data := (l ++ 58 :: n).toArray } := by
  apply ByteArray.ext
  simp
theorem label_ret {a b : ByteArray} (v : Value) (h : a = b) : Ending.returned (.tuple #[.string a, v]) = Ending.returned (.tuple #[.string b, v]) := by rw [h]
theorem label_cell (k : Nat) (h : k < 26) : Lib.byteCells [UInt8.ofNat (97 + k)] = [Value.int .u8 (97 + (k : Int))] := by
  have e : (UInt8.ofNat (97 + k)).toNat = 97 + k := by
    rw [UInt8.toNat_ofNat']
    omega
  simp [Lib.byteCells, e]
  omega
set_option maxHeartbeats 8000000 in
set_option maxRecDepth 100000 in
theorem label_Text.calls (a0_0 : Int) (a0_1 : Int) (r1 : ByteArray) (r2 : Option Int) (w : World) (hG : GE w) (h : label_Text.f a0_0 a0_1 = some (r1, r2)) :
    Calls Tryd.prog 31 #[.agg #[.int .i64 a0_0, .int .u32 a0_1]] w fun e w' => e = .returned (.tuple #[.string r1, errW r2]) ∧ Below w.heap.size w w' := by
  have hu24 := Tryd.underlying35
  unfold label_Text.f at h
  by_cases hc : 0 ≤ a0_1 ∧ a0_1 < 4294967296
  case neg => rw [if_neg hc] at h; cases h
  rw [if_pos hc] at h
  obtain ⟨c, rfl⟩ := Int.eq_ofNat_of_zero_le hc.1
  obtain ⟨e, he, h⟩ := Option.bind_eq_some_iff.mp h
  have HE := Aside0.mk he
  cases e with
  | some x =>
    rw [if_neg (by simp)] at h
    obtain ⟨rfl, rfl⟩ := Prod.mk.inj (Option.some.inj h)
    clear h hc he
    rw [errW_some]
    go_enter Tryd.func31, Tryd.ntmps31
    go_wp2_with (go_at_call 21; refine (label_Valid.calls _ _ _ _ HE.out).mono ?_; rw [errW_some]; rintro e w1 ⟨rfl, hb⟩)
    go_ret2
    exact ⟨rfl, (((Below.refl _ _).alloc (Nat.le_refl _) _).trans (hb.mono (by simp)))⟩
  | none =>
    rw [if_pos (by rfl)] at h
    obtain ⟨rfl, rfl⟩ := Prod.mk.inj (Option.some.inj h)
    obtain ⟨ha0, ha1, hcc⟩ := label_Valid_none a0_0 c hc.1 hc.2 he
    obtain ⟨a, rfl⟩ := Int.eq_ofNat_of_zero_le ha0
    simp only [Int.toNat_natCast]
    have ha : a < 100 := by omega
    have hcc' : c < 67108864 := by omega
    clear h hc he ha0 ha1 hcc
    rw [errW_none]
    have HG := Aside0.mk hG
    clear hG
    by_cases h0 : c = 0
    · subst h0
      have hT : label_textOf a 0 = Lib.decDigits a := by simp [label_textOf]
      rw [hT]
      go_enter Tryd.func31, Tryd.ntmps31
      go_wp2_with (first
        | (go_at_call 21; refine (label_Valid.calls _ _ _ _ HE.out).mono ?_; rw [errW_none]; rintro e w1 ⟨rfl, hb⟩; have c0 := (hb.cell (p := ⟨w.heap.size, 0, none⟩) (by simp)).trans (show _ = some (Value.int .i64 (a : Int)) by simp); have c1 := (hb.cell (p := ⟨w.heap.size, 1, none⟩) (by simp)).trans (show _ = some (Value.int .u32 0) by simp); have hz : w.heap.size < w1.heap.size := (by have := hb.size; simp at this; omega); have HB := Aside0.mk hb; clear hb)
        | (go_at_call 40; refine (Lab.itoa a ha _).mono ?_; rintro e w2 ⟨rfl, rfl⟩))
      go_ret2
      exact ⟨rfl, (((Below.refl _ _).alloc (Nat.le_refl _) _).trans (HB.out.mono (by simp)))⟩
    · have hne : ((c : Int) == 0) = false := by simp [h0]
      go_enter Tryd.func31, Tryd.ntmps31
      go_wp2_with (first
        | (go_at_call 21; refine (label_Valid.calls _ _ _ _ HE.out).mono ?_; rw [errW_none]; rintro e w1 ⟨rfl, hb⟩; have c0 := (hb.cell (p := ⟨w.heap.size, 0, none⟩) (by simp)).trans (show _ = some (Value.int .i64 (a : Int)) by simp); have c1 := (hb.cell (p := ⟨w.heap.size, 1, none⟩) (by simp)).trans (show _ = some (Value.int .u32 (c : Int)) by simp); have hz : w.heap.size < w1.heap.size := (by have := hb.size; simp at this; omega); have HB := Aside0.mk hb; clear hb)
        | (go_at_call 40; refine (Lab.itoa a ha _).mono ?_; rintro e w2 ⟨rfl, rfl⟩))
      have hb2 : Below w.heap.size w w2 := ((Below.refl _ _).alloc (Nat.le_refl _) _).trans (HB.out.mono (by simp))
      clear c0 c1
      have HZ := Aside0.mk hb2
      clear hb2 HB
      go_loopw [7] (fun v7 wr => ∃ p : Nat, p ≤ 26 ∧ v7 = .int .u32 (LabL.high c p : Nat) ∧ Lib.IsBuilderF 73 5 w2.heap.size w2.heap.size (Lib.byteCells (LabL.catsTo c p)) wr ∧ Below w.heap.size w wr ∧ w2.heap.size ≤ wr.heap.size) (fun v7 _ => (intOf v7).toNat)
      case atStart => exact ⟨0, by omega, by rw [LabL.high_zero], Lib.IsBuilderF.of (Lib.fresh_isBuilder 73 5 w2), HZ.out.alloc (Nat.le_of_lt hz) _, by simp⟩
      case round =>
        obtain ⟨p, hp, rfl, hI, hb, hs⟩ := hrel
        have HI := Aside0.mk hI
        have HB := Aside0.mk hb
        clear hI hb
        by_cases hx : LabL.high c p = 0
        · have hd := Aside0.mk (LabL.done c p hp hx)
          rw [hx]
          have hl1 := LabL.catsTo_len c p
          have hl2 : (Lib.decDigits a).length ≤ 2 := by
            rcases Nat.lt_or_ge a 10 with h10 | h10
            · rw [Lib.decDigits_one h10]; simp
            · rw [Lib.decDigits_two (by omega) ha]; simp
          have hq1 : ¬ 9223372036854775807 < (Lib.decDigits a).length + 1 := by omega
          have hq2 : ¬ 9223372036854775807 < (Lib.decDigits a).length + 1 + (LabL.catsTo c p).length := by omega
          go_wp2_with (go_at_call 43; refine (Lab.string w2.heap.size w2.heap.size (LabL.catsTo c p) _ HI.out hs).mono ?_; rintro e W1 ⟨rfl, b1⟩)
          go_ret2
          exact ⟨label_ret _ ((label_cat _ _).trans (by unfold label_textOf; rw [if_neg h0, hd.out])), HB.out.trans (b1.mono HZ.out.size)⟩
        · obtain ⟨h1, h2, h3, h4⟩ := LabL.round c p hcc' hx
          have hle := LabL.high_le c p
          have h3' := Aside0.mk h3
          have h4' := Aside0.mk h4
          clear h3 h4
          obtain ⟨x, hX⟩ : ∃ x, x = LabL.high c p := ⟨_, rfl⟩
          rw [← hX] at hx h1 h2 h3' h4' hle ⊢
          have hXs := Aside0.mk hX
          clear hX
          obtain ⟨hq1, hq2⟩ := LabB.pred_and x hx (by omega)
          have hx0 : ((x : Int) == 0) = false := by simp [hx]
          have hx1 : ((x : Int) != 0) = true := by simp [hx]
          obtain ⟨k, hk⟩ : ∃ k, k = Lib.ctz 32 x := ⟨_, rfl⟩
          rw [← hk] at h1 h2 h3' h4'
          have HK := Aside0.mk hk
          clear hk
          go_wp2_with (first
            | (go_at_call 42; refine (Lab.trailing x (by omega) _ (HG.out.below HB.out).lab).mono ?_; rw [← HK.out]; rintro e w' ⟨rfl, rfl⟩)
            | (go_at_call 41; refine (Lab.writeByte w2.heap.size w2.heap.size _ _ _ HI.out (by rw [Lib.byteCells_length]; have := LabL.catsTo_len c p; omega) hs).mono ?_; rintro e W1 ⟨rfl, i1, b1⟩))
          have hb3 := HB.out.trans (b1.mono HZ.out.size)
          go_roundw
          case rel =>
            refine ⟨k + 1, by omega, by rw [h3'.out], ?_, hb3, Nat.le_trans hs b1.size⟩
            rw [h4'.out, Lib.byteCells_append, label_cell k h2]
            exact i1
          case measure =>
            have h5 : x &&& (x - 1) ≤ x - 1 := Nat.and_le_right
            simp only [intOf]
            omega

end Go.Proofs.YtgcaalgaellciaaDoor.XLat
