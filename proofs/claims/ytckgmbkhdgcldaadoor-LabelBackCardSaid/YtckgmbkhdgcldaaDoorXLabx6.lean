/- Printed by this session's program (wip/print) out of the translation, for the statement named in the file's name. -/
import Derived.Test.YtckgmbkhdgcldaaDoorXLabx0
namespace Go.Proofs.YtckgmbkhdgcldaaDoor.XLab
open Go.RowKit Go.Proofs.YtckgmbkhdgcldaaDoorW.PrintWords Go.Proofs.YtckgmbkhdgcldaaDoorW.PrintLast Go.Proofs.YtckgmbkhdgcldaaDoorW.PrintMore Go.Proofs.YtckgmbkhdgcldaaDoor.Lab
attribute [local go_sem] str_gtr str_leq str_geq max2_int min2_int max_two min_two max_three min_three max_four min_four   -- for this text's walks alone
set_option linter.unusedVariables false
set_option linter.unusedSimpArgs false
set_option linter.unnecessarySimpa false

/-! ### label_Valid: function 13 -/
def label_Valid.f (a0_0 : Int) (a0_1 : Int) : Option (Option Int) := if a0_0 < 0 then (some (some 20)) else (if a0_0 > 15 then (some (some 20)) else (if (Go.bits .andNot .u32 a0_1 67108863) = 0 then (some none) else (some (some 20))))
set_option maxHeartbeats 8000000 in
set_option maxRecDepth 100000 in
theorem label_Valid.calls (a0_0 : Int) (a0_1 : Int) (r : Option Int) (w : World) (h : label_Valid.f a0_0 a0_1 = some r) :
    Calls Tryd.prog 13 #[.agg #[.int .i64 a0_0, .int .u32 a0_1]] w fun e w' => e = .returned (errW r) ∧ Below w.heap.size w w' := by
  have hu24 := Tryd.underlying24
  have hu29 := Tryd.underlying29
  have hu53 := Tryd.underlying53
  have HB := Aside0.mk (Below.refl w.heap.size w)
  have H : (if a0_0 < 0 then (some (some 20)) else (if a0_0 > 15 then (some (some 20)) else (if (Go.bits .andNot .u32 a0_1 67108863) = 0 then (some none) else (some (some 20))))) = some r := h
  clear h
  by_cases c2 : a0_0 < 0
  · rw [if_pos c2] at H
    have c2b0 : decide (a0_0 < 0) = true := decide_eq_true c2
    clear c2
    obtain rfl := Option.some.inj H
    go_enter Tryd.func13, Tryd.ntmps13
    go_wp2_with (first | ((with_reducible refine gate_dst (N := 1) rfl ?_); refine box_event ?hg (N := 1) ?hd (cs := #[.int .i64 a0_0, .int .u32 a0_1]) (t := 24) ?hr ?_; (case hd => rfl); (case hg => rfl); (case hr => first | (go_simp; done) | (go_simp; rfl)); intro gb116 hg w3 hbox hb; have n0_ := Aside0.mk (below_step (by repeat (first | (with_reducible first | exact HB.out | apply below_alloc | apply pw_below_drewN | apply below_drew1) | exact HB.out | exact below_undrew HB.out)) hb); have n1_ := Aside0.mk (hbox); have n2_ := Aside0.mk ((by rw [hg]; exact (below_size (by repeat (first | (with_reducible first | exact HB.out | apply below_alloc | apply pw_below_drewN | apply below_drew1) | exact HB.out | exact below_undrew HB.out))) : w.heap.size ≤ gb116)); have n3_ := Aside0.mk ((by rw [hg]; exact (below_size (by repeat (first | (with_reducible first | exact HB.out | apply below_alloc | apply pw_below_drewN | apply below_drew1) | exact HB.out | exact below_undrew HB.out))) : w.heap.size ≤ gb116)); clear HB; have HB := n0_; have BK116 := n1_; have GW116 := n2_; have GE116 := n3_; clear n0_ n1_ n2_ n3_; clear hb hbox hg; have hcz4_0 : w3.cell? ⟨gb116, 0, none⟩ = some (.int .i64 a0_0) := (blk_cell BK116.out 0).trans rfl; have hcz4_1 : w3.cell? ⟨gb116, 1, none⟩ = some (.int .u32 a0_1) := (blk_cell BK116.out 1).trans rfl; have hfz4_0 := blk_frozen BK116.out 0; have hfz4_1 := blk_frozen BK116.out 1))
    go_ret
    exact ⟨by first | rfl | (simp [errW_none, errW_some] <;> rfl) | (simp [*, errW_none, errW_some] <;> rfl), by repeat (first | (with_reducible first | exact HB.out | apply below_alloc | apply pw_below_drewN | apply below_drew1 | refine below_set ?_ GE116.out) | exact HB.out | exact below_undrew HB.out)⟩
  · rw [if_neg c2] at H
    have c2b0 : decide (a0_0 < 0) = false := decide_eq_false c2
    clear c2
    by_cases c5 : a0_0 > 15
    · rw [if_pos c5] at H
      have c5b0 : decide (15 < a0_0) = true := decide_eq_true c5
      clear c5
      obtain rfl := Option.some.inj H
      go_enter Tryd.func13, Tryd.ntmps13
      go_wp2_with (first | ((with_reducible refine gate_dst (N := 1) rfl ?_); refine box_event ?hg (N := 1) ?hd (cs := #[.int .i64 a0_0, .int .u32 a0_1]) (t := 24) ?hr ?_; (case hd => rfl); (case hg => rfl); (case hr => first | (go_simp; done) | (go_simp; rfl)); intro gb116 hg w6 hbox hb; have n0_ := Aside0.mk (below_step (by repeat (first | (with_reducible first | exact HB.out | apply below_alloc | apply pw_below_drewN | apply below_drew1) | exact HB.out | exact below_undrew HB.out)) hb); have n1_ := Aside0.mk (hbox); have n2_ := Aside0.mk ((by rw [hg]; exact (below_size (by repeat (first | (with_reducible first | exact HB.out | apply below_alloc | apply pw_below_drewN | apply below_drew1) | exact HB.out | exact below_undrew HB.out))) : w.heap.size ≤ gb116)); have n3_ := Aside0.mk ((by rw [hg]; exact (below_size (by repeat (first | (with_reducible first | exact HB.out | apply below_alloc | apply pw_below_drewN | apply below_drew1) | exact HB.out | exact below_undrew HB.out))) : w.heap.size ≤ gb116)); clear HB; have HB := n0_; have BK116 := n1_; have GW116 := n2_; have GE116 := n3_; clear n0_ n1_ n2_ n3_; clear hb hbox hg; have hcz7_0 : w6.cell? ⟨gb116, 0, none⟩ = some (.int .i64 a0_0) := (blk_cell BK116.out 0).trans rfl; have hcz7_1 : w6.cell? ⟨gb116, 1, none⟩ = some (.int .u32 a0_1) := (blk_cell BK116.out 1).trans rfl; have hfz7_0 := blk_frozen BK116.out 0; have hfz7_1 := blk_frozen BK116.out 1))
      go_ret
      exact ⟨by first | rfl | (simp [errW_none, errW_some] <;> rfl) | (simp [*, errW_none, errW_some] <;> rfl), by repeat (first | (with_reducible first | exact HB.out | apply below_alloc | apply pw_below_drewN | apply below_drew1 | refine below_set ?_ GE116.out) | exact HB.out | exact below_undrew HB.out)⟩
    · rw [if_neg c5] at H
      have c5b0 : decide (15 < a0_0) = false := decide_eq_false c5
      clear c5
      by_cases c8 : (Go.bits .andNot .u32 a0_1 67108863) = 0
      · rw [if_pos c8] at H
        have c8b0 : ((Go.bits .andNot .u32 a0_1 67108863) == 0) = true := beq_iff_eq.mpr c8
        have c8b1 : ((Go.bits .andNot .u32 a0_1 67108863) != 0) = false := bne_eq_false_iff_eq.mpr c8
        clear c8
        obtain rfl := Option.some.inj H
        go_enter Tryd.func13, Tryd.ntmps13
        go_wp2_with (first | ((with_reducible refine gate_dst (N := 1) rfl ?_); refine box_event ?hg (N := 1) ?hd (cs := #[.int .i64 a0_0, .int .u32 a0_1]) (t := 24) ?hr ?_; (case hd => rfl); (case hg => rfl); (case hr => first | (go_simp; done) | (go_simp; rfl)); intro gb116 hg w9 hbox hb; have n0_ := Aside0.mk (below_step (by repeat (first | (with_reducible first | exact HB.out | apply below_alloc | apply pw_below_drewN | apply below_drew1) | exact HB.out | exact below_undrew HB.out)) hb); have n1_ := Aside0.mk (hbox); have n2_ := Aside0.mk ((by rw [hg]; exact (below_size (by repeat (first | (with_reducible first | exact HB.out | apply below_alloc | apply pw_below_drewN | apply below_drew1) | exact HB.out | exact below_undrew HB.out))) : w.heap.size ≤ gb116)); have n3_ := Aside0.mk ((by rw [hg]; exact (below_size (by repeat (first | (with_reducible first | exact HB.out | apply below_alloc | apply pw_below_drewN | apply below_drew1) | exact HB.out | exact below_undrew HB.out))) : w.heap.size ≤ gb116)); clear HB; have HB := n0_; have BK116 := n1_; have GW116 := n2_; have GE116 := n3_; clear n0_ n1_ n2_ n3_; clear hb hbox hg; have hcz10_0 : w9.cell? ⟨gb116, 0, none⟩ = some (.int .i64 a0_0) := (blk_cell BK116.out 0).trans rfl; have hcz10_1 : w9.cell? ⟨gb116, 1, none⟩ = some (.int .u32 a0_1) := (blk_cell BK116.out 1).trans rfl; have hfz10_0 := blk_frozen BK116.out 0; have hfz10_1 := blk_frozen BK116.out 1))
        go_ret
        exact ⟨by first | rfl | (simp [errW_none, errW_some] <;> rfl) | (simp [*, errW_none, errW_some] <;> rfl), by repeat (first | (with_reducible first | exact HB.out | apply below_alloc | apply pw_below_drewN | apply below_drew1 | refine below_set ?_ GE116.out) | exact HB.out | exact below_undrew HB.out)⟩
      · rw [if_neg c8] at H
        have c8b0 : ((Go.bits .andNot .u32 a0_1 67108863) == 0) = false := beq_eq_false_iff_ne.mpr c8
        have c8b1 : ((Go.bits .andNot .u32 a0_1 67108863) != 0) = true := bne_iff_ne.mpr c8
        obtain rfl := Option.some.inj H
        go_enter Tryd.func13, Tryd.ntmps13
        go_wp2_with (first | ((with_reducible refine gate_dst (N := 1) rfl ?_); refine box_event ?hg (N := 1) ?hd (cs := #[.int .i64 a0_0, .int .u32 a0_1]) (t := 24) ?hr ?_; (case hd => rfl); (case hg => rfl); (case hr => first | (go_simp; done) | (go_simp; rfl)); intro gb116 hg w11 hbox hb; have n0_ := Aside0.mk (below_step (by repeat (first | (with_reducible first | exact HB.out | apply below_alloc | apply pw_below_drewN | apply below_drew1) | exact HB.out | exact below_undrew HB.out)) hb); have n1_ := Aside0.mk (hbox); have n2_ := Aside0.mk ((by rw [hg]; exact (below_size (by repeat (first | (with_reducible first | exact HB.out | apply below_alloc | apply pw_below_drewN | apply below_drew1) | exact HB.out | exact below_undrew HB.out))) : w.heap.size ≤ gb116)); have n3_ := Aside0.mk ((by rw [hg]; exact (below_size (by repeat (first | (with_reducible first | exact HB.out | apply below_alloc | apply pw_below_drewN | apply below_drew1) | exact HB.out | exact below_undrew HB.out))) : w.heap.size ≤ gb116)); clear HB; have HB := n0_; have BK116 := n1_; have GW116 := n2_; have GE116 := n3_; clear n0_ n1_ n2_ n3_; clear hb hbox hg; have hcz12_0 : w11.cell? ⟨gb116, 0, none⟩ = some (.int .i64 a0_0) := (blk_cell BK116.out 0).trans rfl; have hcz12_1 : w11.cell? ⟨gb116, 1, none⟩ = some (.int .u32 a0_1) := (blk_cell BK116.out 1).trans rfl; have hfz12_0 := blk_frozen BK116.out 0; have hfz12_1 := blk_frozen BK116.out 1))
        go_ret
        exact ⟨by first | rfl | (simp [errW_none, errW_some] <;> rfl) | (simp [*, errW_none, errW_some] <;> rfl), by repeat (first | (with_reducible first | exact HB.out | apply below_alloc | apply pw_below_drewN | apply below_drew1 | refine below_set ?_ GE116.out) | exact HB.out | exact below_undrew HB.out)⟩

/-! ### label_Text: function 12 (by hand) -/
/-- A label's text. -/
def label_textOf (r c : Nat) : List UInt8 := Lib.decDigits r ++ (if c = 0 then [] else 58 :: LabL.cats c)
def label_Text.f (a0_0 : Int) (a0_1 : Int) : Option (ByteArray × (Option Int)) :=
  if 0 ≤ a0_1 ∧ a0_1 < 4294967296 then (label_Valid.f a0_0 a0_1).bind fun e => if e.isNone = true then some (⟨(label_textOf a0_0.toNat a0_1.toNat).toArray⟩, none) else some (ByteArray.empty, e) else none
theorem label_Valid_none (a c : Int) (h0 : 0 ≤ c) (h1 : c < 4294967296) (h : label_Valid.f a c = some none) : 0 ≤ a ∧ a ≤ 15 ∧ c < 67108864 := by
  unfold label_Valid.f at h
  obtain ⟨n, rfl⟩ := Int.eq_ofNat_of_zero_le h0
  split at h
  · simp at h
  · split at h
    · simp at h
    · split at h
      · rename_i h3
        have := (LabB.andNot_zero n (by omega)).1 h3
        omega
      · simp at h
theorem label_cat (l : List UInt8) (n : List UInt8) : (({ data := l.toArray } : ByteArray) ++ { data := #[58] } ++ { data := n.toArray }) = { data := (l ++ 58 :: n).toArray } := by
  apply ByteArray.ext
  simp
theorem label_ret {a b : ByteArray} (v : Value) (h : a = b) : Ending.returned (.tuple #[.string a, v]) = Ending.returned (.tuple #[.string b, v]) := by rw [h]
theorem label_cell (k : Nat) (h : k < 26) : Lib.byteCells [UInt8.ofNat (97 + k)] = [Value.int .u8 (97 + (k : Int))] := by
  have e : (UInt8.ofNat (97 + k)).toNat = 97 + k := by
    rw [UInt8.toNat_ofNat']
    omega
  simp [Lib.byteCells, e]
  omega
set_option maxHeartbeats 8000000 in
set_option maxRecDepth 100000 in
theorem label_Text.calls (a0_0 : Int) (a0_1 : Int) (r1 : ByteArray) (r2 : Option Int) (w : World) (hG : GE w) (h : label_Text.f a0_0 a0_1 = some (r1, r2)) :
    Calls Tryd.prog 12 #[.agg #[.int .i64 a0_0, .int .u32 a0_1]] w fun e w' => e = .returned (.tuple #[.string r1, errW r2]) ∧ Below w.heap.size w w' := by
  have hu24 := Tryd.underlying24
  unfold label_Text.f at h
  by_cases hc : 0 ≤ a0_1 ∧ a0_1 < 4294967296
  case neg => rw [if_neg hc] at h; cases h
  rw [if_pos hc] at h
  obtain ⟨c, rfl⟩ := Int.eq_ofNat_of_zero_le hc.1
  obtain ⟨e, he, h⟩ := Option.bind_eq_some_iff.mp h
  have HE := Aside0.mk he
  cases e with
  | some x =>
    rw [if_neg (by simp)] at h
    obtain ⟨rfl, rfl⟩ := Prod.mk.inj (Option.some.inj h)
    clear h hc he
    rw [errW_some]
    go_enter Tryd.func12, Tryd.ntmps12
    go_wp2_with (go_at_call 13; refine (label_Valid.calls _ _ _ _ HE.out).mono ?_; rw [errW_some]; rintro e w1 ⟨rfl, hb⟩)
    go_ret2
    exact ⟨rfl, (((Below.refl _ _).alloc (Nat.le_refl _) _).trans (hb.mono (by simp)))⟩
  | none =>
    rw [if_pos (by rfl)] at h
    obtain ⟨rfl, rfl⟩ := Prod.mk.inj (Option.some.inj h)
    obtain ⟨ha0, ha1, hcc⟩ := label_Valid_none a0_0 c hc.1 hc.2 he
    obtain ⟨a, rfl⟩ := Int.eq_ofNat_of_zero_le ha0
    simp only [Int.toNat_natCast]
    have ha : a < 100 := by omega
    have hcc' : c < 67108864 := by omega
    clear h hc he ha0 ha1 hcc
    rw [errW_none]
    have HG := Aside0.mk hG
    clear hG
    by_cases h0 : c = 0
    · subst h0
      have hT : label_textOf a 0 = Lib.decDigits a := by simp [label_textOf]
      rw [hT]
      go_enter Tryd.func12, Tryd.ntmps12
      go_wp2_with (first
        | (go_at_call 13; refine (label_Valid.calls _ _ _ _ HE.out).mono ?_; rw [errW_none]; rintro e w1 ⟨rfl, hb⟩; have c0 := (hb.cell (p := ⟨w.heap.size, 0, none⟩) (by simp)).trans (show _ = some (Value.int .i64 (a : Int)) by simp); have c1 := (hb.cell (p := ⟨w.heap.size, 1, none⟩) (by simp)).trans (show _ = some (Value.int .u32 0) by simp); have hz : w.heap.size < w1.heap.size := (by have := hb.size; simp at this; omega); have HB := Aside0.mk hb; clear hb)
        | (go_at_call 22; refine (Lab.itoa a ha _).mono ?_; rintro e w2 ⟨rfl, rfl⟩))
      go_ret2
      exact ⟨rfl, (((Below.refl _ _).alloc (Nat.le_refl _) _).trans (HB.out.mono (by simp)))⟩
    · have hne : ((c : Int) == 0) = false := by simp [h0]
      go_enter Tryd.func12, Tryd.ntmps12
      go_wp2_with (first
        | (go_at_call 13; refine (label_Valid.calls _ _ _ _ HE.out).mono ?_; rw [errW_none]; rintro e w1 ⟨rfl, hb⟩; have c0 := (hb.cell (p := ⟨w.heap.size, 0, none⟩) (by simp)).trans (show _ = some (Value.int .i64 (a : Int)) by simp); have c1 := (hb.cell (p := ⟨w.heap.size, 1, none⟩) (by simp)).trans (show _ = some (Value.int .u32 (c : Int)) by simp); have hz : w.heap.size < w1.heap.size := (by have := hb.size; simp at this; omega); have HB := Aside0.mk hb; clear hb)
        | (go_at_call 22; refine (Lab.itoa a ha _).mono ?_; rintro e w2 ⟨rfl, rfl⟩))
      have hb2 : Below w.heap.size w w2 := ((Below.refl _ _).alloc (Nat.le_refl _) _).trans (HB.out.mono (by simp))
      clear c0 c1
      have HZ := Aside0.mk hb2
      clear hb2 HB
      go_loopw [7] (fun v7 wr => ∃ p : Nat, p ≤ 26 ∧ v7 = .int .u32 (LabL.high c p : Nat) ∧ Lib.IsBuilderF 49 5 w2.heap.size w2.heap.size (Lib.byteCells (LabL.catsTo c p)) wr ∧ Below w.heap.size w wr ∧ w2.heap.size ≤ wr.heap.size) (fun v7 _ => (intOf v7).toNat)
      case atStart => exact ⟨0, by omega, by rw [LabL.high_zero], Lib.IsBuilderF.of (Lib.fresh_isBuilder 49 5 w2), HZ.out.alloc (Nat.le_of_lt hz) _, by simp⟩
      case round =>
        obtain ⟨p, hp, rfl, hI, hb, hs⟩ := hrel
        have HI := Aside0.mk hI
        have HB := Aside0.mk hb
        clear hI hb
        by_cases hx : LabL.high c p = 0
        · have hd := Aside0.mk (LabL.done c p hp hx)
          rw [hx]
          have hl1 := LabL.catsTo_len c p
          have hl2 : (Lib.decDigits a).length ≤ 2 := by
            rcases Nat.lt_or_ge a 10 with h10 | h10
            · rw [Lib.decDigits_one h10]; simp
            · rw [Lib.decDigits_two (by omega) ha]; simp
          have hq1 : ¬ 9223372036854775807 < (Lib.decDigits a).length + 1 := by omega
          have hq2 : ¬ 9223372036854775807 < (Lib.decDigits a).length + 1 + (LabL.catsTo c p).length := by omega
          go_wp2_with (go_at_call 25; refine (Lab.string w2.heap.size w2.heap.size (LabL.catsTo c p) _ HI.out hs).mono ?_; rintro e W1 ⟨rfl, b1⟩)
          go_ret2
          exact ⟨label_ret _ ((label_cat _ _).trans (by unfold label_textOf; rw [if_neg h0, hd.out])), HB.out.trans (b1.mono HZ.out.size)⟩
        · obtain ⟨h1, h2, h3, h4⟩ := LabL.round c p hcc' hx
          have hle := LabL.high_le c p
          have h3' := Aside0.mk h3
          have h4' := Aside0.mk h4
          clear h3 h4
          obtain ⟨x, hX⟩ : ∃ x, x = LabL.high c p := ⟨_, rfl⟩
          rw [← hX] at hx h1 h2 h3' h4' hle ⊢
          have hXs := Aside0.mk hX
          clear hX
          obtain ⟨hq1, hq2⟩ := LabB.pred_and x hx (by omega)
          have hx0 : ((x : Int) == 0) = false := by simp [hx]
          have hx1 : ((x : Int) != 0) = true := by simp [hx]
          obtain ⟨k, hk⟩ : ∃ k, k = Lib.ctz 32 x := ⟨_, rfl⟩
          rw [← hk] at h1 h2 h3' h4'
          have HK := Aside0.mk hk
          clear hk
          go_wp2_with (first
            | (go_at_call 24; refine (Lab.trailing x (by omega) _ (HG.out.below HB.out).lab).mono ?_; rw [← HK.out]; rintro e w' ⟨rfl, rfl⟩)
            | (go_at_call 23; refine (Lab.writeByte w2.heap.size w2.heap.size _ _ _ HI.out (by rw [Lib.byteCells_length]; have := LabL.catsTo_len c p; omega) hs).mono ?_; rintro e W1 ⟨rfl, i1, b1⟩))
          have hb3 := HB.out.trans (b1.mono HZ.out.size)
          go_roundw
          case rel =>
            refine ⟨k + 1, by omega, by rw [h3'.out], ?_, hb3, Nat.le_trans hs b1.size⟩
            rw [h4'.out, Lib.byteCells_append, label_cell k h2]
            exact i1
          case measure =>
            have h5 : x &&& (x - 1) ≤ x - 1 := Nat.and_le_right
            simp only [intOf]
            omega

end Go.Proofs.YtckgmbkhdgcldaaDoor.XLab
