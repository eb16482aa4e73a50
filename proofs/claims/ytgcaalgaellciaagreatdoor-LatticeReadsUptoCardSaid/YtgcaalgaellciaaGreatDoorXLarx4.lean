/- Printed by this session's program (wip/print) out of the translation, for the statement named in the file's name. -/
import Derived.Test.YtgcaalgaellciaaGreatDoorXLarx0
import Derived.Test.YtgcaalgaellciaaGreatDoorXLarx2
namespace Go.Proofs.YtgcaalgaellciaaGreatDoor.XLar
open Go.RowKit Go.Proofs.YtgcaalgaellciaaGreatDoorW.PrintWords Go.Proofs.YtgcaalgaellciaaGreatDoorW.PrintLast Go.Proofs.YtgcaalgaellciaaGreatDoorW.PrintMore Go.Proofs.YtgcaalgaellciaaGreatDoor.Both
attribute [local go_sem] str_gtr str_leq str_geq max2_int min2_int max_two min_two max_three min_three max_four min_four   -- for this text's walks alone
set_option linter.unusedVariables false
set_option linter.unusedSimpArgs false
set_option linter.unnecessarySimpa false

/-! ### label_Text: function 24 (by hand) -/
/-- A label's text. -/
def label_textOf (r c : Nat) : List UInt8 := Lib.decDigits r ++ (if c = 0 then [] else 58 :: LabL.cats c)
def label_Text.f (a0_0 : Int) (a0_1 : Int) : Option (ByteArray × (Option Int)) :=
  if 0 ≤ a0_1 ∧ a0_1 < 4294967296 then (label_Valid.f a0_0 a0_1).bind fun e => if e.isNone = true then some (⟨(label_textOf a0_0.toNat a0_1.toNat).toArray⟩, none) else some (ByteArray.empty, e) else none
theorem label_Valid_none (a c : Int) (h0 : 0 ≤ c) (h1 : c < 4294967296) (h : label_Valid.f a c = some none) : 0 ≤ a ∧ a ≤ 15 ∧ c < 67108864 := by
  unfold label_Valid.f at h
  obtain ⟨n, rfl⟩ := Int.eq_ofNat_of_zero_le h0
  split at h
  · simp at h
  · split at h
    · simp at h
    · split at h
      · rename_i h3
        have := (LabB.andNot_zero n (by omega)).1 h3
        omega
      · simp at h
theorem label_cat (l : List UInt8) (n : List UInt8) : (({ data := l.toArray } : ByteArray) ++ { data := #[58] } ++ { data := n.toArray }) = { data := (l ++ 58 :: n).toArray } := by
  apply ByteArray.ext
  simp
theorem label_ret {a b : ByteArray} (v : Value) (h : a = b) : Ending.returned (.tuple #[.string a, v]) = Ending.returned (.tuple #[.string b, v]) := by rw [h]
theorem label_cell (k : Nat) (h : k < 26) : Lib.byteCells [UInt8.ofNat (97 + k)] = [Value.int .u8 (97 + (k : Int))] := by
  have e : (UInt8.ofNat (97 + k)).toNat = 97 + k := by
    rw [UInt8.toNat_ofNat']
    omega
  simp [Lib.byteCells, e]
  omega
set_option maxHeartbeats 8000000 in
set_option maxRecDepth 100000 in
theorem label_Text.calls (a0_0 : Int) (a0_1 : Int) (r1 : ByteArray) (r2 : Option Int) (w : World) (hG : GE w) (h : label_Text.f a0_0 a0_1 = some (r1, r2)) :
    Calls Tryz.prog 24 #[.agg #[.int .i64 a0_0, .int .u32 a0_1]] w fun e w' => e = .returned (.tuple #[.string r1, errW r2]) ∧ Below w.heap.size w w' := by
  have hu24 := Tryz.underlying37
  unfold label_Text.f at h
  by_cases hc : 0 ≤ a0_1 ∧ a0_1 < 4294967296
  case neg => rw [if_neg hc] at h; cases h
  rw [if_pos hc] at h
  obtain ⟨c, rfl⟩ := Int.eq_ofNat_of_zero_le hc.1
  obtain ⟨e, he, h⟩ := Option.bind_eq_some_iff.mp h
  have HE := Aside0.mk he
  cases e with
  | some x =>
    rw [if_neg (by simp)] at h
    obtain ⟨rfl, rfl⟩ := Prod.mk.inj (Option.some.inj h)
    clear h hc he
    rw [errW_some]
    go_enter Tryz.func24, Tryz.ntmps24
    go_wp2_with (go_at_call 28; refine (label_Valid.calls _ _ _ _ HE.out).mono ?_; rw [errW_some]; rintro e w1 ⟨rfl, hb⟩)
    go_ret2
    exact ⟨rfl, (((Below.refl _ _).alloc (Nat.le_refl _) _).trans (hb.mono (by simp)))⟩
  | none =>
    rw [if_pos (by rfl)] at h
    obtain ⟨rfl, rfl⟩ := Prod.mk.inj (Option.some.inj h)
    obtain ⟨ha0, ha1, hcc⟩ := label_Valid_none a0_0 c hc.1 hc.2 he
    obtain ⟨a, rfl⟩ := Int.eq_ofNat_of_zero_le ha0
    simp only [Int.toNat_natCast]
    have ha : a < 100 := by omega
    have hcc' : c < 67108864 := by omega
    clear h hc he ha0 ha1 hcc
    rw [errW_none]
    have HG := Aside0.mk hG
    clear hG
    by_cases h0 : c = 0
    · subst h0
      have hT : label_textOf a 0 = Lib.decDigits a := by simp [label_textOf]
      rw [hT]
      go_enter Tryz.func24, Tryz.ntmps24
      go_wp2_with (first
        | (go_at_call 28; refine (label_Valid.calls _ _ _ _ HE.out).mono ?_; rw [errW_none]; rintro e w1 ⟨rfl, hb⟩; have c0 := (hb.cell (p := ⟨w.heap.size, 0, none⟩) (by simp)).trans (show _ = some (Value.int .i64 (a : Int)) by simp); have c1 := (hb.cell (p := ⟨w.heap.size, 1, none⟩) (by simp)).trans (show _ = some (Value.int .u32 0) by simp); have hz : w.heap.size < w1.heap.size := (by have := hb.size; simp at this; omega); have HB := Aside0.mk hb; clear hb)
        | (go_at_call 45; refine (Lab.itoa a ha _).mono ?_; rintro e w2 ⟨rfl, rfl⟩))
      go_ret2
      exact ⟨rfl, (((Below.refl _ _).alloc (Nat.le_refl _) _).trans (HB.out.mono (by simp)))⟩
    · have hne : ((c : Int) == 0) = false := by simp [h0]
      go_enter Tryz.func24, Tryz.ntmps24
      go_wp2_with (first
        | (go_at_call 28; refine (label_Valid.calls _ _ _ _ HE.out).mono ?_; rw [errW_none]; rintro e w1 ⟨rfl, hb⟩; have c0 := (hb.cell (p := ⟨w.heap.size, 0, none⟩) (by simp)).trans (show _ = some (Value.int .i64 (a : Int)) by simp); have c1 := (hb.cell (p := ⟨w.heap.size, 1, none⟩) (by simp)).trans (show _ = some (Value.int .u32 (c : Int)) by simp); have hz : w.heap.size < w1.heap.size := (by have := hb.size; simp at this; omega); have HB := Aside0.mk hb; clear hb)
        | (go_at_call 45; refine (Lab.itoa a ha _).mono ?_; rintro e w2 ⟨rfl, rfl⟩))
      have hb2 : Below w.heap.size w w2 := ((Below.refl _ _).alloc (Nat.le_refl _) _).trans (HB.out.mono (by simp))
      clear c0 c1
      have HZ := Aside0.mk hb2
      clear hb2 HB
      go_loopw [7] (fun v7 wr => ∃ p : Nat, p ≤ 26 ∧ v7 = .int .u32 (LabL.high c p : Nat) ∧ Lib.IsBuilderF 100 5 w2.heap.size w2.heap.size (Lib.byteCells (LabL.catsTo c p)) wr ∧ Below w.heap.size w wr ∧ w2.heap.size ≤ wr.heap.size) (fun v7 _ => (intOf v7).toNat)
      case atStart => exact ⟨0, by omega, by rw [LabL.high_zero], Lib.IsBuilderF.of (Lib.fresh_isBuilder 100 5 w2), HZ.out.alloc (Nat.le_of_lt hz) _, by simp⟩
      case round =>
        obtain ⟨p, hp, rfl, hI, hb, hs⟩ := hrel
        have HI := Aside0.mk hI
        have HB := Aside0.mk hb
        clear hI hb
        by_cases hx : LabL.high c p = 0
        · have hd := Aside0.mk (LabL.done c p hp hx)
          rw [hx]
          have hl1 := LabL.catsTo_len c p
          have hl2 : (Lib.decDigits a).length ≤ 2 := by
            rcases Nat.lt_or_ge a 10 with h10 | h10
            · rw [Lib.decDigits_one h10]; simp
            · rw [Lib.decDigits_two (by omega) ha]; simp
          have hq1 : ¬ 9223372036854775807 < (Lib.decDigits a).length + 1 := by omega
          have hq2 : ¬ 9223372036854775807 < (Lib.decDigits a).length + 1 + (LabL.catsTo c p).length := by omega
          go_wp2_with (go_at_call 48; refine (Lab.string w2.heap.size w2.heap.size (LabL.catsTo c p) _ HI.out hs).mono ?_; rintro e W1 ⟨rfl, b1⟩)
          go_ret2
          exact ⟨label_ret _ ((label_cat _ _).trans (by unfold label_textOf; rw [if_neg h0, hd.out])), HB.out.trans (b1.mono HZ.out.size)⟩
        · obtain ⟨h1, h2, h3, h4⟩ := LabL.round c p hcc' hx
          have hle := LabL.high_le c p
          have h3' := Aside0.mk h3
          have h4' := Aside0.mk h4
          clear h3 h4
          obtain ⟨x, hX⟩ : ∃ x, x = LabL.high c p := ⟨_, rfl⟩
          rw [← hX] at hx h1 h2 h3' h4' hle ⊢
          have hXs := Aside0.mk hX
          clear hX
          obtain ⟨hq1, hq2⟩ := LabB.pred_and x hx (by omega)
          have hx0 : ((x : Int) == 0) = false := by simp [hx]
          have hx1 : ((x : Int) != 0) = true := by simp [hx]
          obtain ⟨k, hk⟩ : ∃ k, k = Lib.ctz 32 x := ⟨_, rfl⟩
          rw [← hk] at h1 h2 h3' h4'
          have HK := Aside0.mk hk
          clear hk
          go_wp2_with (first
            | (go_at_call 47; refine (Lab.trailing x (by omega) _ (HG.out.below HB.out).lab).mono ?_; rw [← HK.out]; rintro e w' ⟨rfl, rfl⟩)
            | (go_at_call 46; refine (Lab.writeByte w2.heap.size w2.heap.size _ _ _ HI.out (by rw [Lib.byteCells_length]; have := LabL.catsTo_len c p; omega) hs).mono ?_; rintro e W1 ⟨rfl, i1, b1⟩))
          have hb3 := HB.out.trans (b1.mono HZ.out.size)
          go_roundw
          case rel =>
            refine ⟨k + 1, by omega, by rw [h3'.out], ?_, hb3, Nat.le_trans hs b1.size⟩
            rw [h4'.out, Lib.byteCells_append, label_cell k h2]
            exact i1
          case measure =>
            have h5 : x &&& (x - 1) ≤ x - 1 := Nat.and_le_right
            simp only [intOf]
            omega

/-! ### stringslite_Index: function 69 (by hand) -/
/- At a text of one byte. -/
def stringslite_Index.f (a0 : ByteArray) (a1 : ByteArray) : Option (Int) := match a1.data.toList with
  | [c] => some (Lib.indexByte a0.data.toList c)
  | _ => none
def findRen : Go.Shelf.Ren := ⟨fun | 219 => 69 | 217 => 79 | 225 => 80 | 224 => 81 | 267 => 82 | 266 => 90 | 314 => 91 | n => n, fun | 9 => 9 | 3 => 3 | 4 => 4 | 5 => 5 | 46 => 78 | 146 => 156 | 51 => 35 | n => n, fun | 1 => 4 | n => n⟩
theorem findLays : Go.Proofs.Lays.n219 Tryz.prog findRen := {
  mixed := by kernel_rfl
  f217 := Tryz.func79.trans (congrArg some (by kernel_rfl))
  f219 := Tryz.func69.trans (congrArg some (by kernel_rfl))
  f224 := Tryz.func81.trans (congrArg some (by kernel_rfl))
  f225 := Tryz.func80.trans (congrArg some (by kernel_rfl))
  f266 := Tryz.func90.trans (congrArg some (by kernel_rfl))
  f267 := Tryz.func82.trans (congrArg some (by kernel_rfl))
  f314 := Tryz.func91.trans (congrArg some (by kernel_rfl))
  t3 := Tryz.underlying3
  a3 := Tryz.isAgg3
  z3 := Tryz.sizeOf3
  v3 := Tryz.zeroValue3
  t4 := Tryz.underlying4
  a4 := Tryz.isAgg4
  z4 := Tryz.sizeOf4
  v4 := Tryz.zeroValue4
  t5 := Tryz.underlying5
  a5 := Tryz.isAgg5
  z5 := Tryz.sizeOf5
  v5 := Tryz.zeroValue5
  t9 := Tryz.underlying9
  a9 := Tryz.isAgg9
  z9 := Tryz.sizeOf9
  v9 := Tryz.zeroValue9
  t46 := Tryz.underlying78
  a46 := Tryz.isAgg78
  z46 := Tryz.sizeOf78
  v46 := Tryz.zeroValue78
  t51 := Tryz.underlying35
  a51 := Tryz.isAgg35
  z51 := Tryz.sizeOf35
  v51 := Tryz.zeroValue35
  t146 := Tryz.underlying156
  a146 := Tryz.isAgg156
  z146 := Tryz.sizeOf156
  v146 := Tryz.zeroValue156
  g1 := by kernel_rfl }
theorem stringslite_Index.calls (a0 : ByteArray) (a1 : ByteArray) (r : Int) (w : World) (h : stringslite_Index.f a0 a1 = some r) :
    Calls Tryz.prog 69 #[.string a0, .string a1] w fun e w' => e = .returned (.int .i64 r) ∧ Drawn0 w w' := by
  unfold stringslite_Index.f at h
  obtain ⟨⟨l⟩⟩ := a1
  match l, h with
  | [c], h =>
    obtain rfl := Option.some.inj h
    refine (Go.Proofs.Any.stringslite_Index_one findLays a0 c w).mono ?_
    rintro e w' ⟨rfl, rfl⟩
    exact ⟨rfl, Drawn0.refl _⟩

/-! ### stringslite_Cut: function 55 -/
def stringslite_Cut.f (a0 : ByteArray) (a1 : ByteArray) : Option (ByteArray × ByteArray × Bool) := (stringslite_Index.f a0 a1).bind fun t102 => (if t102 ≥ 0 then (if 0 ≤ t102 then (if t102 ≤ (a0.size : Int) then (if 0 ≤ (wrap64 (t102 + (a1.size : Int))) then (if (wrap64 (t102 + (a1.size : Int))) ≤ (a0.size : Int) then (some (a0.extract 0 (t102 : Int).toNat, a0.extract ((wrap64 (t102 + (a1.size : Int))) : Int).toNat a0.size, true)) else (none)) else (none)) else (none)) else (none)) else (some (a0, (⟨#[]⟩ : ByteArray), false)))
set_option maxHeartbeats 8000000 in
set_option maxRecDepth 100000 in
theorem stringslite_Cut.calls (a0 : ByteArray) (a1 : ByteArray) (r1 : ByteArray) (r2 : ByteArray) (r3 : Bool) (w : World) (h : stringslite_Cut.f a0 a1 = some (r1, r2, r3)) :
    Calls Tryz.prog 55 #[.string a0, .string a1] w fun e w' => e = .returned (.tuple #[.string r1, .string r2, .bool r3]) ∧ Drawn0 w w' := by
  have H : ((stringslite_Index.f a0 a1).bind fun t102 => (if t102 ≥ 0 then (if 0 ≤ t102 then (if t102 ≤ (a0.size : Int) then (if 0 ≤ (wrap64 (t102 + (a1.size : Int))) then (if (wrap64 (t102 + (a1.size : Int))) ≤ (a0.size : Int) then (some (a0.extract 0 (t102 : Int).toNat, a0.extract ((wrap64 (t102 + (a1.size : Int))) : Int).toNat a0.size, true)) else (none)) else (none)) else (none)) else (none)) else (some (a0, (⟨#[]⟩ : ByteArray), false)))) = some (r1, r2, r3) := h
  clear h
  replace H := Option.bind_eq_some_iff.mp H
  obtain ⟨t102, A30, H⟩ := H
  replace H : (if t102 ≥ 0 then (if 0 ≤ t102 then (if t102 ≤ (a0.size : Int) then (if 0 ≤ (wrap64 (t102 + (a1.size : Int))) then (if (wrap64 (t102 + (a1.size : Int))) ≤ (a0.size : Int) then (some (a0.extract 0 (t102 : Int).toNat, a0.extract ((wrap64 (t102 + (a1.size : Int))) : Int).toNat a0.size, true)) else (none)) else (none)) else (none)) else (none)) else (some (a0, (⟨#[]⟩ : ByteArray), false))) = some (r1, r2, r3) := H
  have A3 := Aside0.mk A30
  clear A30
  by_cases c4 : t102 ≥ 0
  · rw [if_pos c4] at H
    have c4b0 : decide (0 ≤ t102) = true := decide_eq_true c4
    clear c4
    by_cases c5 : 0 ≤ t102
    · rw [if_pos c5] at H
      have c5b0 := eq_true c5
      have c5b1 : decide (0 ≤ t102) = true := decide_eq_true c5
      clear c5
      by_cases c6 : t102 ≤ (a0.size : Int)
      · rw [if_pos c6] at H
        have c6b0 := eq_true c6
        have c6b1 : decide (t102 ≤ (a0.size : Int)) = true := decide_eq_true c6
        clear c6
        obtain ⟨ji7, hji7⟩ : ∃ j_ : ByteArray, (a0.extract 0 (t102 : Int).toNat) = j_ := ⟨_, rfl⟩
        replace H : (if 0 ≤ (wrap64 (t102 + (a1.size : Int))) then (if (wrap64 (t102 + (a1.size : Int))) ≤ (a0.size : Int) then (some (ji7, a0.extract ((wrap64 (t102 + (a1.size : Int))) : Int).toNat a0.size, true)) else (none)) else (none)) = some (r1, r2, r3) := by first | (rw [hji7] at H; exact H) | (simp only [hji7] at H ⊢; exact H) | exact H
        obtain ⟨ji8, hji8⟩ : ∃ j_ : Int, (wrap64 (t102 + (a1.size : Int))) = j_ := ⟨_, rfl⟩
        replace H : (if 0 ≤ (ji8) then (if (ji8) ≤ (a0.size : Int) then (some (ji7, a0.extract ((ji8) : Int).toNat a0.size, true)) else (none)) else (none)) = some (r1, r2, r3) := by first | (rw [hji8] at H; exact H) | (simp only [hji8] at H ⊢; exact H)
        (try rw [hji8] at A3)
        have hji8w : (IntKind.i64.wrap (t102 + (a1.size : Int))) = ji8 := (i64_w _).trans hji8
        by_cases c9 : 0 ≤ (ji8)
        · rw [if_pos c9] at H
          have c9b0 := eq_true c9
          have c9b1 : decide (0 ≤ (ji8)) = true := decide_eq_true c9
          clear c9
          by_cases c10 : (ji8) ≤ (a0.size : Int)
          · rw [if_pos c10] at H
            have c10b0 := eq_true c10
            have c10b1 : decide ((ji8) ≤ (a0.size : Int)) = true := decide_eq_true c10
            clear c10
            obtain ⟨ji11, hji11⟩ : ∃ j_ : ByteArray, (a0.extract ((ji8) : Int).toNat a0.size) = j_ := ⟨_, rfl⟩
            replace H : (some (ji7, ji11, true)) = some (r1, r2, r3) := by first | (rw [hji11] at H; exact H) | (simp only [hji11] at H ⊢; exact H) | exact H
            simp only [Option.some.injEq, Prod.mk.injEq] at H
            obtain ⟨rfl, rfl, rfl⟩ := H
            go_enter Tryz.func55, Tryz.ntmps55
            go_wp2_with (first | (go_at_call 69; (with_reducible refine (stringslite_Index.calls a0 a1 t102 _ A3.out).mono ?_); rintro e w' ⟨rfl, ⟨nd, rfl⟩⟩; (try first | exact ⟨rfl, _, World.drewN_drewN _ _ _⟩ | exact ⟨rfl, _, Eq.trans (World.drewN_drewN _ _ _) (congrArg (World.drewN _) (Nat.add_assoc _ _ _))⟩)))
            repeat (go_quiet (first | (go_at_call 69; (with_reducible refine (stringslite_Index.calls a0 a1 t102 _ A3.out).mono ?_); rintro e w' ⟨rfl, ⟨nd, rfl⟩⟩; (try first | exact ⟨rfl, _, World.drewN_drewN _ _ _⟩ | exact ⟨rfl, _, Eq.trans (World.drewN_drewN _ _ _) (congrArg (World.drewN _) (Nat.add_assoc _ _ _))⟩))); try go_wp2_with (first | (go_at_call 69; (with_reducible refine (stringslite_Index.calls a0 a1 t102 _ A3.out).mono ?_); rintro e w' ⟨rfl, ⟨nd, rfl⟩⟩; (try first | exact ⟨rfl, _, World.drewN_drewN _ _ _⟩ | exact ⟨rfl, _, Eq.trans (World.drewN_drewN _ _ _) (congrArg (World.drewN _) (Nat.add_assoc _ _ _))⟩))))
            go_ret3
            exact ⟨by first | rfl | (simp; done) | (simp only [← hji7, ← hji8, ← hji11] <;> (first | rfl | simp)) | (simp [*]; done), by repeat (first | exact Drawn0.refl _ | apply Drawn0.step)⟩
          · rw [if_neg c10] at H
            exact absurd H (by simp)
        · rw [if_neg c9] at H
          exact absurd H (by simp)
      · rw [if_neg c6] at H
        exact absurd H (by simp)
    · rw [if_neg c5] at H
      exact absurd H (by simp)
  · rw [if_neg c4] at H
    have c4b0 : decide (0 ≤ t102) = false := decide_eq_false c4
    clear c4
    simp only [Option.some.injEq, Prod.mk.injEq] at H
    obtain ⟨rfl, rfl, rfl⟩ := H
    go_enter Tryz.func55, Tryz.ntmps55
    go_wp2_with (first | (go_at_call 69; (with_reducible refine (stringslite_Index.calls a0 a1 t102 _ A3.out).mono ?_); rintro e w' ⟨rfl, ⟨nd, rfl⟩⟩; (try first | exact ⟨rfl, _, World.drewN_drewN _ _ _⟩ | exact ⟨rfl, _, Eq.trans (World.drewN_drewN _ _ _) (congrArg (World.drewN _) (Nat.add_assoc _ _ _))⟩)))
    repeat (go_quiet (first | (go_at_call 69; (with_reducible refine (stringslite_Index.calls a0 a1 t102 _ A3.out).mono ?_); rintro e w' ⟨rfl, ⟨nd, rfl⟩⟩; (try first | exact ⟨rfl, _, World.drewN_drewN _ _ _⟩ | exact ⟨rfl, _, Eq.trans (World.drewN_drewN _ _ _) (congrArg (World.drewN _) (Nat.add_assoc _ _ _))⟩))); try go_wp2_with (first | (go_at_call 69; (with_reducible refine (stringslite_Index.calls a0 a1 t102 _ A3.out).mono ?_); rintro e w' ⟨rfl, ⟨nd, rfl⟩⟩; (try first | exact ⟨rfl, _, World.drewN_drewN _ _ _⟩ | exact ⟨rfl, _, Eq.trans (World.drewN_drewN _ _ _) (congrArg (World.drewN _) (Nat.add_assoc _ _ _))⟩))))
    go_ret3
    exact ⟨by first | rfl | (simp; done) | (simp [*]; done), by repeat (first | exact Drawn0.refl _ | apply Drawn0.step)⟩

/-! ### strings_Cut: function 32 -/
def strings_Cut.f (a0 : ByteArray) (a1 : ByteArray) : Option (ByteArray × ByteArray × Bool) := (stringslite_Cut.f a0 a1).bind fun bt103 => (some (bt103.1, bt103.2.1, bt103.2.2))
set_option maxHeartbeats 8000000 in
set_option maxRecDepth 100000 in
theorem strings_Cut.calls (a0 : ByteArray) (a1 : ByteArray) (r1 : ByteArray) (r2 : ByteArray) (r3 : Bool) (w : World) (h : strings_Cut.f a0 a1 = some (r1, r2, r3)) :
    Calls Tryz.prog 32 #[.string a0, .string a1] w fun e w' => e = .returned (.tuple #[.string r1, .string r2, .bool r3]) ∧ Drawn0 w w' := by
  have H : ((stringslite_Cut.f a0 a1).bind fun bt103 => (some (bt103.1, bt103.2.1, bt103.2.2))) = some (r1, r2, r3) := h
  clear h
  replace H := Option.bind_eq_some_iff.mp H
  obtain ⟨⟨t103, t104, t105⟩, A30, H⟩ := H
  replace H : (some (t103, t104, t105)) = some (r1, r2, r3) := H
  have A3 := Aside0.mk A30
  clear A30
  simp only [Option.some.injEq, Prod.mk.injEq] at H
  obtain ⟨rfl, rfl, rfl⟩ := H
  go_enter Tryz.func32, Tryz.ntmps32
  go_wp2_with (first | ((with_reducible refine gate_callee (f := 55) rfl ?_); refine goesL_ (some 9) rfl rfl Tryz.func55 (by kernel_rfl) rfl #[.string a0, .string a1] rfl (by (try simp only [List.map_toArray, List.map_cons, List.map_nil]); first | done | rfl | (simp only [List.length_drop, List.length_take]; rfl)) ?_; (with_reducible refine (stringslite_Cut.calls a0 a1 t103 t104 t105 _ A3.out).mono ?_); rintro e w' ⟨rfl, ⟨nd, rfl⟩⟩; refine ⟨_, rfl, ?_⟩))
  go_ret3
  exact ⟨by first | rfl | (simp; done) | (simp [*]; done), by repeat (first | exact Drawn0.refl _ | apply Drawn0.step)⟩

end Go.Proofs.YtgcaalgaellciaaGreatDoor.XLar
