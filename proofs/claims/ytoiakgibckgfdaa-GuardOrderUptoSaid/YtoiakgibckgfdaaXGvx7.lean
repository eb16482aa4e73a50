/- Printed by this session's program (wip/print) out of the translation, for the statement named in the file's name. -/
import Derived.Test.YtoiakgibckgfdaaXGvx0
import Derived.Test.YtoiakgibckgfdaaXGvx5
import Derived.Test.YtoiakgibckgfdaaXGvx6
namespace Go.Proofs.Ytoiakgibckgfdaa.XGv
open Go.RowKit Go.Proofs.YtoiakgibckgfdaaW.PrintWords Go.Proofs.YtoiakgibckgfdaaW.PrintLast Go.Proofs.YtoiakgibckgfdaaW.PrintMore
attribute [local go_sem] str_gtr str_leq str_geq max2_int min2_int max_two min_two max_three min_three max_four min_four   -- for this text's walks alone
set_option linter.unusedVariables false
set_option linter.unusedSimpArgs false
set_option linter.unnecessarySimpa false

/-! ### guard_Release: function 6 -/
mutual
def guard_Release.l0 : Nat → List (List (S47)) → List (S44) → Int → Int → ByteArray → List (S81) → ByteArray → ByteArray → Int → Int → List (S51) → Int → Int → Option ((List (List (S47))) × Option Int)
  | 0, _, _, _, _, _, _, _, _, _, _, _, _, _ => none
  | k + 1, x8, x15, x16, x17, x262000, x262001, x263000, x263001, x263002, x263003, x263004, x263005, x263006 => if x17 < x16 then (if 0 ≤ x17 then (if x17 < (x15.length : Int) then ((guard_line.f k x262000 x262001 x263004 ((rd_T44 x15 x17).f0) ((rd_T44 x15 x17).f1)).bind fun bt265 => (if bt265.2.isNone = true then (if x8.length < 5864062014805 then (guard_Release.l0 k (x8 ++ [bt265.1]) x15 x16 (wrap64 (x17 + 1)) x262000 x262001 x263000 x263001 x263002 x263003 x263004 x263005 x263006) else (none)) else (some (([] : List (List (S47))), some (bt265.2.getD 0))))) else (none)) else (none)) else ((api_Value_13.f x8 ()).bind fun t273 => (guard_Release.l1 k t273 ([] : List (List (S47))) x263000 x263001 x263002 x263003 x263004 x263005 x263006))
def guard_Release.l1 : Nat → List (List (S47)) → List (List (S47)) → ByteArray → ByteArray → Int → Int → List (S51) → Int → Int → Option ((List (List (S47))) × Option Int)
  | 0, _, _, _, _, _, _, _, _, _ => none
  | k + 1, x8, x13, x263000, x263001, x263002, x263003, x263004, x263005, x263006 => if (x8.length : Int) > 0 then (guard_Release.l2 k x8 x13 1 x263000 x263001 x263002 x263003 x263004 x263005 x263006) else (some (x13, none))
def guard_Release.l2 : Nat → List (List (S47)) → List (List (S47)) → Int → ByteArray → ByteArray → Int → Int → List (S51) → Int → Int → Option ((List (List (S47))) × Option Int)
  | 0, _, _, _, _, _, _, _, _, _, _ => none
  | k + 1, x8, x13, x14, x263000, x263001, x263002, x263003, x263004, x263005, x263006 => if x14 < (x8.length : Int) then (if 0 < (x8.length : Int) then (if 0 ≤ x14 then ((order_Compare.f k (rd_L8 x8 0) (rd_L8 x8 x14)).bind fun t278 => (if t278 = 0 then (guard_Release.l2 k x8 x13 (wrap64 (x14 + 1)) x263000 x263001 x263002 x263003 x263004 x263005 x263006) else (if x14 ≥ x263005 then (if x14 ≤ (x8.length : Int) then ((some (x8.take (x14 : Int).toNat : List (List (S47)))).bind fun y279 => (if x13.length + y279.length < 5864062014805 then (guard_Release.l1 k (x8.drop (x14 : Int).toNat) (x13 ++ y279) x263000 x263001 x263002 x263003 x263004 x263005 x263006) else (none))) else (none)) else (if x14 ≤ (x8.length : Int) then (guard_Release.l1 k (x8.drop (x14 : Int).toNat) x13 x263000 x263001 x263002 x263003 x263004 x263005 x263006) else (none))))) else (none)) else (none)) else (if x14 ≥ x263005 then (if 0 ≤ x14 then (if x14 ≤ (x8.length : Int) then ((some (x8.take (x14 : Int).toNat : List (List (S47)))).bind fun y297 => (if x13.length + y297.length < 5864062014805 then (guard_Release.l1 k (x8.drop (x14 : Int).toNat) (x13 ++ y297) x263000 x263001 x263002 x263003 x263004 x263005 x263006) else (none))) else (none)) else (none)) else (if 0 ≤ x14 then (if x14 ≤ (x8.length : Int) then (guard_Release.l1 k (x8.drop (x14 : Int).toNat) x13 x263000 x263001 x263002 x263003 x263004 x263005 x263006) else (none)) else (none)))
end
def guard_Release.f (k : Nat) (a0_0 : ByteArray) (l0_1 : List (S81)) (a1_0 : ByteArray) (a1_1 : ByteArray) (a1_2 : Int) (a1_3 : Int) (l1_4 : List (S51)) (a1_5 : Int) (a1_6 : Int) (l2 : List (S44)) : Option ((List (List (S47))) × Option Int) := guard_Release.l0 k ([] : List (List (S47))) l2 (l2.length : Int) 0 a0_0 l0_1 a1_0 a1_1 a1_2 a1_3 l1_4 a1_5 a1_6
theorem guard_Release.mono_l : ∀ k, (∀ y0 y1 y2 y3 y4 y5 y6 y7 y8 y9 y10 y11 y12, LeO (guard_Release.l0 k y0 y1 y2 y3 y4 y5 y6 y7 y8 y9 y10 y11 y12) (guard_Release.l0 (k + 1) y0 y1 y2 y3 y4 y5 y6 y7 y8 y9 y10 y11 y12)) ∧ (∀ y0 y1 y2 y3 y4 y5 y6 y7 y8, LeO (guard_Release.l1 k y0 y1 y2 y3 y4 y5 y6 y7 y8) (guard_Release.l1 (k + 1) y0 y1 y2 y3 y4 y5 y6 y7 y8)) ∧ (∀ y0 y1 y2 y3 y4 y5 y6 y7 y8 y9, LeO (guard_Release.l2 k y0 y1 y2 y3 y4 y5 y6 y7 y8 y9) (guard_Release.l2 (k + 1) y0 y1 y2 y3 y4 y5 y6 y7 y8 y9))
  | 0 => ⟨fun _ _ _ _ _ _ _ _ _ _ _ _ _ r h => by simp [guard_Release.l0] at h, fun _ _ _ _ _ _ _ _ _ r h => by simp [guard_Release.l1] at h, fun _ _ _ _ _ _ _ _ _ _ r h => by simp [guard_Release.l2] at h⟩
  | k + 1 => by
    obtain ⟨ih0, ih1, ih2⟩ := guard_Release.mono_l k
    refine ⟨?_, ?_, ?_⟩
    · intro y0 y1 y2 y3 y4 y5 y6 y7 y8 y9 y10 y11 y12
      unfold guard_Release.l0
      repeat' first
      | (with_reducible exact ih0 _ _ _ _ _ _ _ _ _ _ _ _ _)
      | (with_reducible exact ih1 _ _ _ _ _ _ _ _ _)
      | (with_reducible exact ih2 _ _ _ _ _ _ _ _ _ _)
      | (with_reducible exact guard_line.mono _ _ _ _ _ _)
      | (with_reducible exact order_Compare.mono _ _ _)
      | (with_reducible exact LeO.refl _)
      | (with_reducible exact LeO.none _)
      | (with_reducible refine LeO.ite ?_ ?_)
      | (with_reducible refine LeO.bind ?_ (fun _ => ?_))
      | exact ih0 _ _ _ _ _ _ _ _ _ _ _ _ _
      | exact ih1 _ _ _ _ _ _ _ _ _
      | exact ih2 _ _ _ _ _ _ _ _ _ _
      | exact guard_line.mono _ _ _ _ _ _
      | exact order_Compare.mono _ _ _
      | exact LeO.none _
      | refine LeO.ite ?_ ?_
      | refine LeO.bind ?_ (fun _ => ?_)
    · intro y0 y1 y2 y3 y4 y5 y6 y7 y8
      unfold guard_Release.l1
      repeat' first
      | (with_reducible exact ih0 _ _ _ _ _ _ _ _ _ _ _ _ _)
      | (with_reducible exact ih1 _ _ _ _ _ _ _ _ _)
      | (with_reducible exact ih2 _ _ _ _ _ _ _ _ _ _)
      | (with_reducible exact guard_line.mono _ _ _ _ _ _)
      | (with_reducible exact order_Compare.mono _ _ _)
      | (with_reducible exact LeO.refl _)
      | (with_reducible exact LeO.none _)
      | (with_reducible refine LeO.ite ?_ ?_)
      | (with_reducible refine LeO.bind ?_ (fun _ => ?_))
      | exact ih0 _ _ _ _ _ _ _ _ _ _ _ _ _
      | exact ih1 _ _ _ _ _ _ _ _ _
      | exact ih2 _ _ _ _ _ _ _ _ _ _
      | exact guard_line.mono _ _ _ _ _ _
      | exact order_Compare.mono _ _ _
      | exact LeO.none _
      | refine LeO.ite ?_ ?_
      | refine LeO.bind ?_ (fun _ => ?_)
    · intro y0 y1 y2 y3 y4 y5 y6 y7 y8 y9
      unfold guard_Release.l2
      repeat' first
      | (with_reducible exact ih0 _ _ _ _ _ _ _ _ _ _ _ _ _)
      | (with_reducible exact ih1 _ _ _ _ _ _ _ _ _)
      | (with_reducible exact ih2 _ _ _ _ _ _ _ _ _ _)
      | (with_reducible exact guard_line.mono _ _ _ _ _ _)
      | (with_reducible exact order_Compare.mono _ _ _)
      | (with_reducible exact LeO.refl _)
      | (with_reducible exact LeO.none _)
      | (with_reducible refine LeO.ite ?_ ?_)
      | (with_reducible refine LeO.bind ?_ (fun _ => ?_))
      | exact ih0 _ _ _ _ _ _ _ _ _ _ _ _ _
      | exact ih1 _ _ _ _ _ _ _ _ _
      | exact ih2 _ _ _ _ _ _ _ _ _ _
      | exact guard_line.mono _ _ _ _ _ _
      | exact order_Compare.mono _ _ _
      | exact LeO.none _
      | refine LeO.ite ?_ ?_
      | refine LeO.bind ?_ (fun _ => ?_)
theorem guard_Release.mono : ∀ a0 a1 a2 a3 a4 a5 a6 a7 a8 a9 k, LeO (guard_Release.f k a0 a1 a2 a3 a4 a5 a6 a7 a8 a9) (guard_Release.f (k + 1) a0 a1 a2 a3 a4 a5 a6 a7 a8 a9) := by
  intro a0 a1 a2 a3 a4 a5 a6 a7 a8 a9 k
  obtain ⟨ih0, ih1, ih2⟩ := guard_Release.mono_l k
  unfold guard_Release.f
  repeat' first
      | (with_reducible exact ih0 _ _ _ _ _ _ _ _ _ _ _ _ _)
      | (with_reducible exact ih1 _ _ _ _ _ _ _ _ _)
      | (with_reducible exact ih2 _ _ _ _ _ _ _ _ _ _)
      | (with_reducible exact guard_line.mono _ _ _ _ _ _)
      | (with_reducible exact order_Compare.mono _ _ _)
      | (with_reducible exact LeO.refl _)
      | (with_reducible exact LeO.none _)
      | (with_reducible refine LeO.ite ?_ ?_)
      | (with_reducible refine LeO.bind ?_ (fun _ => ?_))
      | exact ih0 _ _ _ _ _ _ _ _ _ _ _ _ _
      | exact ih1 _ _ _ _ _ _ _ _ _
      | exact ih2 _ _ _ _ _ _ _ _ _ _
      | exact guard_line.mono _ _ _ _ _ _
      | exact order_Compare.mono _ _ _
      | exact LeO.none _
      | refine LeO.ite ?_ ?_
      | refine LeO.bind ?_ (fun _ => ?_)
def guard_Release.T14 : Bool × List (List Nat × List Nat) := (true, [([], []), ([], []), ([1], [1]), ([0, 2], [0, 2]), ([3], [3]), ([4], [4]), ([5, 4], [4, 5]), ([6, 4], [4, 6]), ([4], [4]), ([4], [4]), ([8, 9, 4], [4, 8, 9]), ([10, 4], [4, 10]), ([7, 11, 4, 4], [4, 7, 11]), ([12, 4], [4, 12]), ([4, 13], [4, 13])])
def guard_Release.B14 : List Nat := [0, 0, 2, 7, 15, 31, 63, 127, 31, 31, 799, 1823, 4095, 8191, 16383]
theorem guard_Release.tab14 : rtab .any (opsOf Try.f6 14) = guard_Release.T14 := by kernel_rfl
theorem guard_Release.bits14 : waitsOk guard_Release.T14.2 guard_Release.B14 = true := by kernel_rfl
theorem bk7_ {w0 w : World} {g : Nat} {o : Obj} (b : Aside0 (w0.heap[g]? = some o)) (h : w0.heap[g]? = some o → w.heap[g]? = some o := by intro h_; (with_reducible repeat (first | refine blk_drewN ?_ _ | refine blk_drew ?_ | refine blk_alloc ?_ _)); exact h_) : w.heap[g]? = some o := h b.out
theorem bh7_ {w0 w1 w2 : World} {n : Nat} (b : Aside0 (Below n w0 w1)) (h : Below n w0 w1 → Below n w0 w2 := by intro h_; repeat (first | (with_reducible first | exact h_ | apply below_alloc | apply pw_below_drewN | apply below_drew1 | refine below_set ?_ (Aside0.out (by assumption))) | exact h_ | exact below_undrew h_)) : Below n w0 w2 := h b.out
set_option maxHeartbeats 40000000 in
set_option maxRecDepth 100000 in
theorem guard_Release.calls (k : Nat) (a0_0 : ByteArray) (A0_1 : Option Addr) (c0_1 : Nat) (l0_1 : List (S81)) (a1_0 : ByteArray) (a1_1 : ByteArray) (a1_2 : Int) (a1_3 : Int) (A1_4 : Option Addr) (c1_4 : Nat) (l1_4 : List (S51)) (a1_5 : Int) (a1_6 : Int) (A2 : Option Addr) (c2 : Nat) (l2 : List (S44)) (r1 : List (List (S47))) (r2 : Option Int) (w : World) (hr0_1 : Kd.C k81 w A0_1 l0_1.length l0_1) (hc0_1 : l0_1.length ≤ c0_1) (hr1_4 : Kd.C k51 w A1_4 l1_4.length l1_4) (hc1_4 : l1_4.length ≤ c1_4) (hr2 : Kd.C k44 w A2 l2.length l2) (hc2 : l2.length ≤ c2) (h : guard_Release.f k a0_0 l0_1 a1_0 a1_1 a1_2 a1_3 l1_4 a1_5 a1_6 l2 = some (r1, r2)) :
  Calls Try.prog 6 #[.agg #[.string a0_0, .slice A0_1 l0_1.length c0_1], .agg #[.string a1_0, .string a1_1, .int .i64 a1_2, .int .i64 a1_3, .slice A1_4 l1_4.length c1_4, .int .i64 a1_5, .int .i64 a1_6], .slice A2 l2.length c2] w fun e w' => ∃ v0_ : Value, e = .returned (.tuple #[v0_, errW r2]) ∧ Kd.N (Kd.slice 47 k47) 41 w' w.heap.size (fun k_ => (w.heap.size ≤ k_)) v0_ r1 ∧ Below w.heap.size w w' := by
 have hu24 := Try.underlying24
 have hu37 := Try.underlying37
 have hu44 := Try.underlying44
 have hu32 := Try.underlying32
 have hu65 := Try.underlying65
 have HR0_1 := Aside0.mk hr0_1
 have HC0_1 := Aside0.mk hc0_1
 clear hr0_1 hc0_1
 have HR1_4 := Aside0.mk hr1_4
 have HC1_4 := Aside0.mk hc1_4
 clear hr1_4 hc1_4
 have HR2 := Aside0.mk hr2
 have HC2 := Aside0.mk hc2
 clear hr2 hc2
 have HB := Aside0.mk (Below.refl w.heap.size w)
 have H : (guard_Release.l0 k ([] : List (List (S47))) l2 (l2.length : Int) 0 a0_0 l0_1 a1_0 a1_1 a1_2 a1_3 l1_4 a1_5 a1_6) = some (r1, r2) := h
 clear h
 have H' := Aside0.mk H
 clear H
 go_enter Try.func6, Try.ntmps6
 go_wp2_with (first | ((with_reducible refine gate_dst (N := 3) rfl ?_); refine box_event ?hg (N := 3) ?hd (cs := #[.string a0_0, .slice A0_1 l0_1.length c0_1]) (t := 24) ?hr ?_; (case hd => rfl); (case hg => rfl); (case hr => first | (go_simp; done) | (go_simp; rfl)); intro gb261 hg w4 hbox hb; have n0_ := Aside0.mk (below_step (bh7_ HB) hb); have n1_ := Aside0.mk (hbox); have n2_ := Aside0.mk ((by rw [hg]; exact (below_size (bh7_ HB)) : w.heap.size ≤ gb261)); have n3_ := Aside0.mk ((by rw [hg]; exact (below_size (bh7_ HB)) : w.heap.size ≤ gb261)); clear HB; have HB := n0_; have BK261 := n1_; have GW261 := n2_; have GE261 := n3_; clear n0_ n1_ n2_ n3_; clear hb hbox hg) | ((with_reducible refine gate_dst (N := 4) rfl ?_); refine box_event ?hg (N := 4) ?hd (cs := #[.string a1_0, .string a1_1, .int .i64 a1_2, .int .i64 a1_3, .slice A1_4 l1_4.length c1_4, .int .i64 a1_5, .int .i64 a1_6]) (t := 37) ?hr ?_; (case hd => rfl); (case hg => rfl); (case hr => first | (go_simp; done) | (go_simp; rfl)); intro gb262 hg w5 hbox hb; have n0_ := Aside0.mk (blk_below (g := gb261) (o := .cells #[.string a0_0, .slice A0_1 l0_1.length c0_1] 24 (0, 0)) (bk7_ BK261) hb); have n1_ := Aside0.mk (below_step (bh7_ HB) hb); have n2_ := Aside0.mk (hbox); have n3_ := Aside0.mk ((by rw [hg]; exact (below_size (bh7_ HB)) : w.heap.size ≤ gb262)); have n4_ := Aside0.mk ((by rw [hg]; exact (below_size (bh7_ HB)) : w.heap.size ≤ gb262)); have n5_ := Aside0.mk ((by rw [hg]; exact Nat.ne_of_lt (blk_lt (g := gb261) (o := .cells #[.string a0_0, .slice A0_1 l0_1.length c0_1] 24 (0, 0)) (bk7_ BK261)) : gb261 ≠ gb262)); have n6_ := Aside0.mk ((by rw [hg]; exact Nat.ne_of_gt (blk_lt (g := gb261) (o := .cells #[.string a0_0, .slice A0_1 l0_1.length c0_1] 24 (0, 0)) (bk7_ BK261)) : gb262 ≠ gb261)); clear BK261; clear HB; have BK261 := n0_; have HB := n1_; have BK262 := n2_; have GW262 := n3_; have GE262 := n4_; have NB261_262 := n5_; have NB262_261 := n6_; clear n0_ n1_ n2_ n3_ n4_ n5_ n6_; clear hb hbox hg))
 go_loopg [8, 17] k (fun kq v8 v17 w' => ∃ (x8_1 : List (List (S47))) (x17_1 : Int), v17 = .int .i64 x17_1 ∧ Aside0 (guard_Release.l0 kq x8_1 l2 (l2.length : Int) x17_1 a0_0 l0_1 a1_0 a1_1 a1_2 a1_3 l1_4 a1_5 a1_6 = some (r1, r2)) ∧ Aside0 (kq ≤ k) ∧ Aside0 (Kd.Q (Kd.slice 47 k47) 41 w' w.heap.size (fun k_ => (w.heap.size ≤ k_)) v8 x8_1) ∧ Aside0 (w'.heap[gb261]? = some (.cells #[.string a0_0, (.slice A0_1 l0_1.length c0_1)] 24 (0, 0))) ∧ Aside0 (w'.heap[gb262]? = some (.cells #[.string a1_0, .string a1_1, .int .i64 a1_2, .int .i64 a1_3, (.slice A1_4 l1_4.length c1_4), .int .i64 a1_5, .int .i64 a1_6] 37 (0, 0))) ∧ Aside0 (Below w.heap.size w w'))
 case atStart => exact ⟨(([] : List (List (S47)))), (0), (by first | rfl | (simp; done) | (simp [*]; done)), H', ⟨Nat.le_refl _⟩, ⟨Kd.Q_of_R (by first | exact Kd.S_nil _ _ _ _ _ | exact Kd.N_nil _ _ _ _ _ | exact Kd.V_nil _ _ _ _ _ | exact Kd.Q_nil _ _ _ _ _ | exact Kd.R_nil _ _ _ _ _)⟩, ⟨bk7_ BK261⟩, ⟨bk7_ BK262⟩, ⟨by repeat (first | (with_reducible first | exact HB.out | apply below_alloc | apply pw_below_drewN | apply below_drew1 | refine below_set ?_ GE261.out | refine below_set ?_ GE262.out) | exact HB.out | exact below_undrew HB.out)⟩⟩
 case round =>
  clear H'
  try clear c1
  try clear c2
  try clear p2
  obtain ⟨x8_1, x17_1, rfl, HA, HK1, HO_8, BK261, BK262, HB⟩ := hrel
  cases gk with
  | zero => exact absurd HA.out (by simp [guard_Release.l0])
  | succ k1 =>
   have H := HA.out
   clear HA
   simp only [guard_Release.l0] at H
   by_cases c6 : x17_1 < (l2.length : Int)
   ·rw [if_pos c6] at H
    have c6b0 : decide (x17_1 < (l2.length : Int)) = true := decide_eq_true c6
    clear c6
    by_cases c7 : 0 ≤ x17_1
    ·rw [if_pos c7] at H
     have c7b0 : decide (0 ≤ x17_1) = true := decide_eq_true c7
     clear c7
     by_cases c8 : x17_1 < (l2.length : Int)
     ·rw [if_pos c8] at H
      have c8b0 : decide (x17_1 < (l2.length : Int)) = true := decide_eq_true c8
      clear c8
      replace H := Option.bind_eq_some_iff.mp H
      obtain ⟨⟨t265, t268⟩, A90, H⟩ := H
      replace H : (if t268.isNone = true then (if x8_1.length < 5864062014805 then (guard_Release.l0 k1 (x8_1 ++ [t265]) l2 (l2.length : Int) (wrap64 (x17_1 + 1)) a0_0 l0_1 a1_0 a1_1 a1_2 a1_3 l1_4 a1_5 a1_6) else (none)) else (some (([] : List (List (S47))), some (t268.getD 0)))) = some (r1, r2) := H
      have A9 := Aside0.mk A90
      clear A90
      rcases t268 with _ | q269
      ·have H1 : (if x8_1.length < 5864062014805 then (guard_Release.l0 k1 (x8_1 ++ [t265]) l2 (l2.length : Int) (wrap64 (x17_1 + 1)) a0_0 l0_1 a1_0 a1_1 a1_2 a1_3 l1_4 a1_5 a1_6) else (none)) = some (r1, r2) := by rw [if_pos (show (none : Option Int).isNone = true by rfl)] at H; exact H
       clear H
       have H := H1
       clear H1
       try simp only [errW_none, errW_some]
       by_cases c10 : x8_1.length < 5864062014805
       ·rw [if_pos c10] at H
        have LMc10 := Aside0.mk c10
        clear c10
        obtain ⟨y270, hy270⟩ : ∃ y_ : List (List (S47)), y_ = (x8_1 ++ [t265]) := ⟨_, rfl⟩
        replace H : (guard_Release.l0 k1 y270 l2 (l2.length : Int) (wrap64 (x17_1 + 1)) a0_0 l0_1 a1_0 a1_1 a1_2 a1_3 l1_4 a1_5 a1_6) = some (r1, r2) := by first | (rw [hy270]; with_reducible exact H) | (have H2_ := (Option.bind_some _ _).symm.trans H; rw [hy270]; with_reducible exact H2_) | (have H2_ := (Option.bind_some _ _).symm.trans H; with_reducible exact H2_) | with_reducible exact H | (rw [hy270]; exact H) | exact H
        have Ny270 := Aside0.mk hy270
        clear hy270
        have H' := Aside0.mk H
        clear H
        have p263 : 0 ≤ (x17_1 : Int) := of_decide_eq_true (by first | (with_reducible assumption) | assumption)
        have q263 : x17_1 < (l2.length : Int) := of_decide_eq_true (by first | (with_reducible assumption) | assumption)
        obtain ⟨ad263, A263_1, c263_1, e263, hx263_0, hx263_1, hl263_1, hi263_1⟩ := at_T44 HR2.out x17_1 p263 q263
        cases e263
        replace hx263_0 := (HB.out.cell (World.block_lt_of_cell? w _ hx263_0)).trans hx263_0
        replace hx263_1 := (HB.out.cell (World.block_lt_of_cell? w _ hx263_1)).trans hx263_1
        have HR263_1 := Aside0.mk hi263_1
        have HC263_1 := Aside0.mk hl263_1
        clear hi263_1 hl263_1
        replace p263 := eq_true p263
        replace q263 := eq_true q263
        go_wp2_with (first | ((with_reducible refine gate_dst (N := 10) rfl ?_); refine box_event ?hg (N := 10) ?hd (cs := #[.int .i64 0, .slice none 0 0]) (t := 44) ?hr ?_; (case hd => rfl); (case hg => rfl); (case hr => first | (go_simp; done) | (go_simp; rfl)); intro gb264 hg w11 hbox hb; have n0_ := Aside0.mk (Kd.Q_below (by (with_reducible repeat (first | apply Kd.Q_alloc | apply Kd.Q_drewN | apply Kd.Q_drew)); exact HO_8.out) hb); have n1_ := Aside0.mk (blk_below (g := gb261) (o := .cells #[.string a0_0, .slice A0_1 l0_1.length c0_1] 24 (0, 0)) (bk7_ BK261) hb); have n2_ := Aside0.mk (blk_below (g := gb262) (o := .cells #[.string a1_0, .string a1_1, .int .i64 a1_2, .int .i64 a1_3, .slice A1_4 l1_4.length c1_4, .int .i64 a1_5, .int .i64 a1_6] 37 (0, 0)) (bk7_ BK262) hb); have n3_ := Aside0.mk (below_step (bh7_ HB) hb); have n4_ := Aside0.mk (hbox); have n5_ := Aside0.mk ((by rw [hg]; exact (below_size (bh7_ HB)) : w.heap.size ≤ gb264)); have n6_ := Aside0.mk ((by rw [hg]; exact (below_size (bh7_ HB)) : w.heap.size ≤ gb264)); have n7_ := Aside0.mk ((by rw [hg]; exact Nat.ne_of_lt (blk_lt (g := gb261) (o := .cells #[.string a0_0, .slice A0_1 l0_1.length c0_1] 24 (0, 0)) (bk7_ BK261)) : gb261 ≠ gb264)); have n8_ := Aside0.mk ((by rw [hg]; exact Nat.ne_of_gt (blk_lt (g := gb261) (o := .cells #[.string a0_0, .slice A0_1 l0_1.length c0_1] 24 (0, 0)) (bk7_ BK261)) : gb264 ≠ gb261)); have n9_ := Aside0.mk ((by rw [hg]; exact Nat.ne_of_lt (blk_lt (g := gb262) (o := .cells #[.string a1_0, .string a1_1, .int .i64 a1_2, .int .i64 a1_3, .slice A1_4 l1_4.length c1_4, .int .i64 a1_5, .int .i64 a1_6] 37 (0, 0)) (bk7_ BK262)) : gb262 ≠ gb264)); have n10_ := Aside0.mk ((by rw [hg]; exact Nat.ne_of_gt (blk_lt (g := gb262) (o := .cells #[.string a1_0, .string a1_1, .int .i64 a1_2, .int .i64 a1_3, .slice A1_4 l1_4.length c1_4, .int .i64 a1_5, .int .i64 a1_6] 37 (0, 0)) (bk7_ BK262)) : gb264 ≠ gb262)); clear HO_8; clear BK261; clear BK262; clear HB; have HO_8 := n0_; have BK261 := n1_; have BK262 := n2_; have HB := n3_; have BK264 := n4_; have GW264 := n5_; have GE264 := n6_; have NB261_264 := n7_; have NB264_261 := n8_; have NB262_264 := n9_; have NB264_262 := n10_; clear n0_ n1_ n2_ n3_ n4_ n5_ n6_ n7_ n8_ n9_ n10_; clear hb hbox hg; have hnb12 := NB264_261.out; have hnc12 := NB261_264.out; have hnb13 := NB264_262.out; have hnc13 := NB262_264.out; have hcz14_0 : w11.cell? ⟨gb264, 0, none⟩ = some (.int .i64 0) := (blk_cell BK264.out 0).trans rfl; have hcz14_1 : w11.cell? ⟨gb264, 1, none⟩ = some (.slice none 0 0) := (blk_cell BK264.out 1).trans rfl; have hfz14_0 := blk_frozen BK264.out 0; have hfz14_1 := blk_frozen BK264.out 1; have hnb15 := NB261_262.out; have hnc15 := NB262_261.out; have hcz16_0 : w11.cell? ⟨gb261, 0, none⟩ = some (.string a0_0) := (blk_cell BK261.out 0).trans rfl; have hcz16_1 : w11.cell? ⟨gb261, 1, none⟩ = some (.slice A0_1 l0_1.length c0_1) := (blk_cell BK261.out 1).trans rfl; have hfz16_0 := blk_frozen BK261.out 0; have hfz16_1 := blk_frozen BK261.out 1; have hcz17_0 : w11.cell? ⟨gb262, 0, none⟩ = some (.string a1_0) := (blk_cell BK262.out 0).trans rfl; have hcz17_1 : w11.cell? ⟨gb262, 1, none⟩ = some (.string a1_1) := (blk_cell BK262.out 1).trans rfl; have hcz17_2 : w11.cell? ⟨gb262, 2, none⟩ = some (.int .i64 a1_2) := (blk_cell BK262.out 2).trans rfl; have hcz17_3 : w11.cell? ⟨gb262, 3, none⟩ = some (.int .i64 a1_3) := (blk_cell BK262.out 3).trans rfl; have hcz17_4 : w11.cell? ⟨gb262, 4, none⟩ = some (.slice A1_4 l1_4.length c1_4) := (blk_cell BK262.out 4).trans rfl; have hcz17_5 : w11.cell? ⟨gb262, 5, none⟩ = some (.int .i64 a1_5) := (blk_cell BK262.out 5).trans rfl; have hcz17_6 : w11.cell? ⟨gb262, 6, none⟩ = some (.int .i64 a1_6) := (blk_cell BK262.out 6).trans rfl; have hfz17_0 := blk_frozen BK262.out 0; have hfz17_1 := blk_frozen BK262.out 1; have hfz17_2 := blk_frozen BK262.out 2; have hfz17_3 := blk_frozen BK262.out 3; have hfz17_4 := blk_frozen BK262.out 4; have hfz17_5 := blk_frozen BK262.out 5; have hfz17_6 := blk_frozen BK262.out 6) | ((with_reducible refine gate_callee (f := 12) rfl ?_); refine goesL_ (some 26) rfl rfl Try.func12 (by kernel_rfl) rfl #[.agg #[.string a0_0, .slice A0_1 l0_1.length c0_1], .slice A1_4 l1_4.length c1_4, .agg #[.int .i64 ((rd_T44 l2 x17_1).f0), .slice A263_1 ((rd_T44 l2 x17_1).f1).length c263_1]] rfl (by (try simp only [List.map_toArray, List.map_cons, List.map_nil]); first | done | rfl | (simp only [List.length_drop, List.length_take]; rfl)) ?_; (with_reducible refine (guard_line.calls k1 a0_0 _ _ l0_1 _ _ l1_4 ((rd_T44 l2 x17_1).f0) _ _ ((rd_T44 l2 x17_1).f1) t265 none _ ?side1 ?side2 ?side3 ?side4 ?side5 ?side6 A9.out).mono ?_); (case side1 => exact Kd.C_below HR0_1.out (bh7_ HB)); (case side2 => exact HC0_1.out); (case side3 => exact Kd.C_below HR1_4.out (bh7_ HB)); (case side4 => exact HC1_4.out); (case side5 => exact Kd.C_below HR263_1.out (bh7_ HB)); (case side6 => exact HC263_1.out); rintro e w18 ⟨v266, rfl, ho0, hb⟩; refine ⟨_, rfl, ?_⟩; have n0_ := Aside0.mk (Kd.Q_elder' (by (with_reducible repeat (first | apply Kd.Q_alloc | apply Kd.Q_drewN | apply Kd.Q_drew)); exact (Kd.Q_mono (Kd.Q_far (p := ⟨gb264, 1, none⟩) (Kd.Q_far (p := ⟨gb264, 0, none⟩) (Kd.Q_types HO_8.out BK264.out (by decide)) (fun _ hk => hk.2) (.int .i64 ((rd_T44 l2 x17_1).f0))) (fun _ hk => hk.2) (.slice A263_1 ((rd_T44 l2 x17_1).f1).length c263_1)) (fun _ h_ => h_.1))) (Kd.R_base ho0) hb); have n1_ := Aside0.mk (Kd.R_lower (Kd.R_newM (M := fun k_ => (w.heap.size ≤ k_)) ho0 (below_size (bh7_ HB)) (fun k_ h_ => h_)) (below_size (bh7_ HB))); have n2_ := Aside0.mk (blk_below (g := gb261) (o := .cells #[.string a0_0, .slice A0_1 l0_1.length c0_1] 24 (0, 0)) (by (with_reducible repeat (first | refine blk_drewN ?_ _ | refine blk_drew ?_ | refine blk_alloc ?_ _)); refine blk_far ?_ NB261_264.out _; (with_reducible repeat (first | refine blk_drewN ?_ _ | refine blk_drew ?_ | refine blk_alloc ?_ _)); refine blk_far ?_ NB261_264.out _; (with_reducible repeat (first | refine blk_drewN ?_ _ | refine blk_drew ?_ | refine blk_alloc ?_ _)); exact BK261.out) hb); have n3_ := Aside0.mk (blk_below (g := gb262) (o := .cells #[.string a1_0, .string a1_1, .int .i64 a1_2, .int .i64 a1_3, .slice A1_4 l1_4.length c1_4, .int .i64 a1_5, .int .i64 a1_6] 37 (0, 0)) (by (with_reducible repeat (first | refine blk_drewN ?_ _ | refine blk_drew ?_ | refine blk_alloc ?_ _)); refine blk_far ?_ NB262_264.out _; (with_reducible repeat (first | refine blk_drewN ?_ _ | refine blk_drew ?_ | refine blk_alloc ?_ _)); refine blk_far ?_ NB262_264.out _; (with_reducible repeat (first | refine blk_drewN ?_ _ | refine blk_drew ?_ | refine blk_alloc ?_ _)); exact BK262.out) hb); have n4_ := Aside0.mk (blk_below (g := gb264) (o := .cells #[.int .i64 ((rd_T44 l2 x17_1).f0), .slice A263_1 ((rd_T44 l2 x17_1).f1).length c263_1] 44 (0, 0)) (by (with_reducible repeat (first | refine blk_drewN ?_ _ | refine blk_drew ?_ | refine blk_alloc ?_ _)); refine blk_put (cs := #[.int .i64 ((rd_T44 l2 x17_1).f0), .slice none 0 0]) ?_ 1 _ (by first | rfl | (simp only [w64_256, wu64_256]; rfl) | (subst_vars; simp only [w64_256, wu64_256, shl, wu32_mod, Int.one_mul]; rfl)); (with_reducible repeat (first | refine blk_drewN ?_ _ | refine blk_drew ?_ | refine blk_alloc ?_ _)); refine blk_put (cs := #[.int .i64 0, .slice none 0 0]) ?_ 0 _ (by first | rfl | (simp only [w64_256, wu64_256]; rfl) | (subst_vars; simp only [w64_256, wu64_256, shl, wu32_mod, Int.one_mul]; rfl)); (with_reducible repeat (first | refine blk_drewN ?_ _ | refine blk_drew ?_ | refine blk_alloc ?_ _)); exact BK264.out) hb); have n5_ := Aside0.mk (below_step (bh7_ HB) hb); clear HO_8; clear BK261; clear BK262; clear BK264; clear HB; have HO_8 := n0_; have HO267 := n1_; have BK261 := n2_; have BK262 := n3_; have BK264 := n4_; have HB := n5_; clear n0_ n1_ n2_ n3_ n4_ n5_; (try clear hb); (try clear hb2); (try clear hk); (try clear hi); (try clear ho0); (try simp only [errW_none, errW_some]); obtain ⟨Ao20, co20, eo20⟩ := Kd.R_slice HO267.out; subst eo20) | ((with_reducible refine gate_builtin (b := .append) (xs := #[.tmp 32, .tmp 34]) rfl ?_); at_builtin; refine Kd.Q_append (Kd.slice 47 k47) (w0 := w) w.heap.size rfl (.tmp 32) (.tmp 34) 30 41 (.slice none 0 0) 24 rfl Try.underlying30 info41 rfl (by decide) (by omega) u8 x8_1 t265 [.slice Ao20 t265.length co20] (fun k_ => (w.heap.size ≤ k_)) (fun k_ => ((fun k_ => (w.heap.size ≤ k_))) k_ ∧ some k_ ≠ (u8 : Value).ownBlock) rfl rfl ?aP (fun _ hk => hk) ?aF ?aO ?aB ?aS ?aL ?_; (case aP => exact Kd.M_row (Kd.R_mono (Kd.R_apart' (HO267.out) (Kd.Q_typed HO_8.out) (by decide)) (fun k_ hk => ⟨hk.1.1, hk.2⟩))); (case aB => exact (bh7_ HB)); (case aF => exact (fun k_ hk => (Nat.le_trans (below_size (bh7_ HB)) hk))); (case aO => exact (by (with_reducible repeat (first | apply Kd.Q_alloc | apply Kd.Q_drewN | apply Kd.Q_drew)); exact Kd.Q_mono HO_8.out (fun _ hk => hk.1))); (case aS => exact (below_size (bh7_ HB))); (case aL => have := LMc10.out; omega); intro v271 w19 ho hb hg hat; rw [← Ny270.out] at ho; have n0_ := Aside0.mk (blk_grown (g := gb261) (o := .cells #[.string a0_0, .slice A0_1 l0_1.length c0_1] 24 (0, 0)) (bk7_ BK261) hg (Kd.Q_ne HO_8.out BK261.out (by decide))); have n1_ := Aside0.mk (blk_grown (g := gb262) (o := .cells #[.string a1_0, .string a1_1, .int .i64 a1_2, .int .i64 a1_3, .slice A1_4 l1_4.length c1_4, .int .i64 a1_5, .int .i64 a1_6] 37 (0, 0)) (bk7_ BK262) hg (Kd.Q_ne HO_8.out BK262.out (by decide))); have n2_ := Aside0.mk (blk_grown (g := gb264) (o := .cells #[.int .i64 ((rd_T44 l2 x17_1).f0), .slice A263_1 ((rd_T44 l2 x17_1).f1).length c263_1] 44 (0, 0)) (bk7_ BK264) hg (Kd.Q_ne HO_8.out BK264.out (by decide))); have n3_ := Aside0.mk (hb); have n4_ := Aside0.mk (ho); clear BK261; clear BK262; clear BK264; clear HB; clear HO_8; clear HO267; have BK261 := n0_; have BK262 := n1_; have BK264 := n2_; have HB := n3_; have HO272 := n4_; clear n0_ n1_ n2_ n3_ n4_; clear ho hb hg hat))
        go_roundg k1
        case measure => have := HK1.out; omega
        case rel => exact ⟨(y270), (wrap64 (x17_1 + 1)), (by first | rfl | (simp; done) | (simp [*]; done)), H', ⟨by have := HK1.out; omega⟩, ⟨by (with_reducible repeat (first | apply Kd.Q_alloc | apply Kd.Q_drewN | apply Kd.Q_drew)); exact HO272.out⟩, ⟨bk7_ BK261⟩, ⟨bk7_ BK262⟩, ⟨by repeat (first | (with_reducible first | exact HB.out | apply below_alloc | apply pw_below_drewN | apply below_drew1 | refine below_set ?_ GE261.out | refine below_set ?_ GE262.out | refine below_set ?_ GE264.out) | exact HB.out | exact below_undrew HB.out)⟩⟩
       ·rw [if_neg c10] at H
        exact absurd H (by simp)
      ·have H1 : (some (([] : List (List (S47))), some q269)) = some (r1, r2) := by rw [if_neg (show ¬ (some q269).isNone = true by simp)] at H; exact H
       clear H
       have H := H1
       clear H1
       try simp only [errW_none, errW_some]
       simp only [Option.some.injEq, Prod.mk.injEq] at H
       obtain ⟨rfl, rfl⟩ := H
       have p263 : 0 ≤ (x17_1 : Int) := of_decide_eq_true (by first | (with_reducible assumption) | assumption)
       have q263 : x17_1 < (l2.length : Int) := of_decide_eq_true (by first | (with_reducible assumption) | assumption)
       obtain ⟨ad263, A263_1, c263_1, e263, hx263_0, hx263_1, hl263_1, hi263_1⟩ := at_T44 HR2.out x17_1 p263 q263
       cases e263
       replace hx263_0 := (HB.out.cell (World.block_lt_of_cell? w _ hx263_0)).trans hx263_0
       replace hx263_1 := (HB.out.cell (World.block_lt_of_cell? w _ hx263_1)).trans hx263_1
       have HR263_1 := Aside0.mk hi263_1
       have HC263_1 := Aside0.mk hl263_1
       clear hi263_1 hl263_1
       replace p263 := eq_true p263
       replace q263 := eq_true q263
       go_wp2_with (first | ((with_reducible refine gate_dst (N := 10) rfl ?_); refine box_event ?hg (N := 10) ?hd (cs := #[.int .i64 0, .slice none 0 0]) (t := 44) ?hr ?_; (case hd => rfl); (case hg => rfl); (case hr => first | (go_simp; done) | (go_simp; rfl)); intro gb264 hg w21 hbox hb; have n0_ := Aside0.mk (Kd.Q_below (by (with_reducible repeat (first | apply Kd.Q_alloc | apply Kd.Q_drewN | apply Kd.Q_drew)); exact HO_8.out) hb); have n1_ := Aside0.mk (blk_below (g := gb261) (o := .cells #[.string a0_0, .slice A0_1 l0_1.length c0_1] 24 (0, 0)) (bk7_ BK261) hb); have n2_ := Aside0.mk (blk_below (g := gb262) (o := .cells #[.string a1_0, .string a1_1, .int .i64 a1_2, .int .i64 a1_3, .slice A1_4 l1_4.length c1_4, .int .i64 a1_5, .int .i64 a1_6] 37 (0, 0)) (bk7_ BK262) hb); have n3_ := Aside0.mk (below_step (bh7_ HB) hb); have n4_ := Aside0.mk (hbox); have n5_ := Aside0.mk ((by rw [hg]; exact (below_size (bh7_ HB)) : w.heap.size ≤ gb264)); have n6_ := Aside0.mk ((by rw [hg]; exact (below_size (bh7_ HB)) : w.heap.size ≤ gb264)); have n7_ := Aside0.mk ((by rw [hg]; exact Nat.ne_of_lt (blk_lt (g := gb261) (o := .cells #[.string a0_0, .slice A0_1 l0_1.length c0_1] 24 (0, 0)) (bk7_ BK261)) : gb261 ≠ gb264)); have n8_ := Aside0.mk ((by rw [hg]; exact Nat.ne_of_gt (blk_lt (g := gb261) (o := .cells #[.string a0_0, .slice A0_1 l0_1.length c0_1] 24 (0, 0)) (bk7_ BK261)) : gb264 ≠ gb261)); have n9_ := Aside0.mk ((by rw [hg]; exact Nat.ne_of_lt (blk_lt (g := gb262) (o := .cells #[.string a1_0, .string a1_1, .int .i64 a1_2, .int .i64 a1_3, .slice A1_4 l1_4.length c1_4, .int .i64 a1_5, .int .i64 a1_6] 37 (0, 0)) (bk7_ BK262)) : gb262 ≠ gb264)); have n10_ := Aside0.mk ((by rw [hg]; exact Nat.ne_of_gt (blk_lt (g := gb262) (o := .cells #[.string a1_0, .string a1_1, .int .i64 a1_2, .int .i64 a1_3, .slice A1_4 l1_4.length c1_4, .int .i64 a1_5, .int .i64 a1_6] 37 (0, 0)) (bk7_ BK262)) : gb264 ≠ gb262)); clear HO_8; clear BK261; clear BK262; clear HB; have HO_8 := n0_; have BK261 := n1_; have BK262 := n2_; have HB := n3_; have BK264 := n4_; have GW264 := n5_; have GE264 := n6_; have NB261_264 := n7_; have NB264_261 := n8_; have NB262_264 := n9_; have NB264_262 := n10_; clear n0_ n1_ n2_ n3_ n4_ n5_ n6_ n7_ n8_ n9_ n10_; clear hb hbox hg; have hnb22 := NB264_261.out; have hnc22 := NB261_264.out; have hnb23 := NB264_262.out; have hnc23 := NB262_264.out; have hcz24_0 : w21.cell? ⟨gb264, 0, none⟩ = some (.int .i64 0) := (blk_cell BK264.out 0).trans rfl; have hcz24_1 : w21.cell? ⟨gb264, 1, none⟩ = some (.slice none 0 0) := (blk_cell BK264.out 1).trans rfl; have hfz24_0 := blk_frozen BK264.out 0; have hfz24_1 := blk_frozen BK264.out 1; have hnb25 := NB261_262.out; have hnc25 := NB262_261.out; have hcz26_0 : w21.cell? ⟨gb261, 0, none⟩ = some (.string a0_0) := (blk_cell BK261.out 0).trans rfl; have hcz26_1 : w21.cell? ⟨gb261, 1, none⟩ = some (.slice A0_1 l0_1.length c0_1) := (blk_cell BK261.out 1).trans rfl; have hfz26_0 := blk_frozen BK261.out 0; have hfz26_1 := blk_frozen BK261.out 1; have hcz27_0 : w21.cell? ⟨gb262, 0, none⟩ = some (.string a1_0) := (blk_cell BK262.out 0).trans rfl; have hcz27_1 : w21.cell? ⟨gb262, 1, none⟩ = some (.string a1_1) := (blk_cell BK262.out 1).trans rfl; have hcz27_2 : w21.cell? ⟨gb262, 2, none⟩ = some (.int .i64 a1_2) := (blk_cell BK262.out 2).trans rfl; have hcz27_3 : w21.cell? ⟨gb262, 3, none⟩ = some (.int .i64 a1_3) := (blk_cell BK262.out 3).trans rfl; have hcz27_4 : w21.cell? ⟨gb262, 4, none⟩ = some (.slice A1_4 l1_4.length c1_4) := (blk_cell BK262.out 4).trans rfl; have hcz27_5 : w21.cell? ⟨gb262, 5, none⟩ = some (.int .i64 a1_5) := (blk_cell BK262.out 5).trans rfl; have hcz27_6 : w21.cell? ⟨gb262, 6, none⟩ = some (.int .i64 a1_6) := (blk_cell BK262.out 6).trans rfl; have hfz27_0 := blk_frozen BK262.out 0; have hfz27_1 := blk_frozen BK262.out 1; have hfz27_2 := blk_frozen BK262.out 2; have hfz27_3 := blk_frozen BK262.out 3; have hfz27_4 := blk_frozen BK262.out 4; have hfz27_5 := blk_frozen BK262.out 5; have hfz27_6 := blk_frozen BK262.out 6) | ((with_reducible refine gate_callee (f := 12) rfl ?_); refine goesL_ (some 26) rfl rfl Try.func12 (by kernel_rfl) rfl #[.agg #[.string a0_0, .slice A0_1 l0_1.length c0_1], .slice A1_4 l1_4.length c1_4, .agg #[.int .i64 ((rd_T44 l2 x17_1).f0), .slice A263_1 ((rd_T44 l2 x17_1).f1).length c263_1]] rfl (by (try simp only [List.map_toArray, List.map_cons, List.map_nil]); first | done | rfl | (simp only [List.length_drop, List.length_take]; rfl)) ?_; (with_reducible refine (guard_line.calls k1 a0_0 _ _ l0_1 _ _ l1_4 ((rd_T44 l2 x17_1).f0) _ _ ((rd_T44 l2 x17_1).f1) t265 (some q269) _ ?side1 ?side2 ?side3 ?side4 ?side5 ?side6 A9.out).mono ?_); (case side1 => exact Kd.C_below HR0_1.out (bh7_ HB)); (case side2 => exact HC0_1.out); (case side3 => exact Kd.C_below HR1_4.out (bh7_ HB)); (case side4 => exact HC1_4.out); (case side5 => exact Kd.C_below HR263_1.out (bh7_ HB)); (case side6 => exact HC263_1.out); rintro e w28 ⟨v266, rfl, ho0, hb⟩; refine ⟨_, rfl, ?_⟩; have n0_ := Aside0.mk (Kd.Q_elder' (by (with_reducible repeat (first | apply Kd.Q_alloc | apply Kd.Q_drewN | apply Kd.Q_drew)); exact (Kd.Q_mono (Kd.Q_far (p := ⟨gb264, 1, none⟩) (Kd.Q_far (p := ⟨gb264, 0, none⟩) (Kd.Q_types HO_8.out BK264.out (by decide)) (fun _ hk => hk.2) (.int .i64 ((rd_T44 l2 x17_1).f0))) (fun _ hk => hk.2) (.slice A263_1 ((rd_T44 l2 x17_1).f1).length c263_1)) (fun _ h_ => h_.1))) (Kd.R_base ho0) hb); have n1_ := Aside0.mk (Kd.R_lower (Kd.R_newM (M := fun k_ => (w.heap.size ≤ k_)) ho0 (below_size (bh7_ HB)) (fun k_ h_ => h_)) (below_size (bh7_ HB))); have n2_ := Aside0.mk (blk_below (g := gb261) (o := .cells #[.string a0_0, .slice A0_1 l0_1.length c0_1] 24 (0, 0)) (by (with_reducible repeat (first | refine blk_drewN ?_ _ | refine blk_drew ?_ | refine blk_alloc ?_ _)); refine blk_far ?_ NB261_264.out _; (with_reducible repeat (first | refine blk_drewN ?_ _ | refine blk_drew ?_ | refine blk_alloc ?_ _)); refine blk_far ?_ NB261_264.out _; (with_reducible repeat (first | refine blk_drewN ?_ _ | refine blk_drew ?_ | refine blk_alloc ?_ _)); exact BK261.out) hb); have n3_ := Aside0.mk (blk_below (g := gb262) (o := .cells #[.string a1_0, .string a1_1, .int .i64 a1_2, .int .i64 a1_3, .slice A1_4 l1_4.length c1_4, .int .i64 a1_5, .int .i64 a1_6] 37 (0, 0)) (by (with_reducible repeat (first | refine blk_drewN ?_ _ | refine blk_drew ?_ | refine blk_alloc ?_ _)); refine blk_far ?_ NB262_264.out _; (with_reducible repeat (first | refine blk_drewN ?_ _ | refine blk_drew ?_ | refine blk_alloc ?_ _)); refine blk_far ?_ NB262_264.out _; (with_reducible repeat (first | refine blk_drewN ?_ _ | refine blk_drew ?_ | refine blk_alloc ?_ _)); exact BK262.out) hb); have n4_ := Aside0.mk (blk_below (g := gb264) (o := .cells #[.int .i64 ((rd_T44 l2 x17_1).f0), .slice A263_1 ((rd_T44 l2 x17_1).f1).length c263_1] 44 (0, 0)) (by (with_reducible repeat (first | refine blk_drewN ?_ _ | refine blk_drew ?_ | refine blk_alloc ?_ _)); refine blk_put (cs := #[.int .i64 ((rd_T44 l2 x17_1).f0), .slice none 0 0]) ?_ 1 _ (by first | rfl | (simp only [w64_256, wu64_256]; rfl) | (subst_vars; simp only [w64_256, wu64_256, shl, wu32_mod, Int.one_mul]; rfl)); (with_reducible repeat (first | refine blk_drewN ?_ _ | refine blk_drew ?_ | refine blk_alloc ?_ _)); refine blk_put (cs := #[.int .i64 0, .slice none 0 0]) ?_ 0 _ (by first | rfl | (simp only [w64_256, wu64_256]; rfl) | (subst_vars; simp only [w64_256, wu64_256, shl, wu32_mod, Int.one_mul]; rfl)); (with_reducible repeat (first | refine blk_drewN ?_ _ | refine blk_drew ?_ | refine blk_alloc ?_ _)); exact BK264.out) hb); have n5_ := Aside0.mk (below_step (bh7_ HB) hb); clear HO_8; clear BK261; clear BK262; clear BK264; clear HB; have HO_8 := n0_; have HO267 := n1_; have BK261 := n2_; have BK262 := n3_; have BK264 := n4_; have HB := n5_; clear n0_ n1_ n2_ n3_ n4_ n5_; (try clear hb); (try clear hb2); (try clear hk); (try clear hi); (try clear ho0); (try simp only [errW_none, errW_some])))
       go_ret2
       exact ⟨_, by first | rfl | (simp [errW_none, errW_some] <;> rfl) | (simp [*, errW_none, errW_some] <;> rfl), by first | exact Kd.S_nil _ _ _ _ _ | exact Kd.N_nil _ _ _ _ _ | exact Kd.V_nil _ _ _ _ _ | exact Kd.Q_nil _ _ _ _ _ | exact Kd.R_nil _ _ _ _ _, by repeat (first | (with_reducible first | exact HB.out | apply below_alloc | apply pw_below_drewN | apply below_drew1 | refine below_set ?_ GE261.out | refine below_set ?_ GE262.out | refine below_set ?_ GE264.out) | exact HB.out | exact below_undrew HB.out)⟩
     ·rw [if_neg c8] at H
      exact absurd H (by simp)
    ·rw [if_neg c7] at H
     exact absurd H (by simp)
   ·rw [if_neg c6] at H
    have c6b0 : decide (x17_1 < (l2.length : Int)) = false := decide_eq_false c6
    clear c6
    replace H := Option.bind_eq_some_iff.mp H
    obtain ⟨t273, A290, H⟩ := H
    replace H : (guard_Release.l1 k1 t273 ([] : List (List (S47))) a1_0 a1_1 a1_2 a1_3 l1_4 a1_5 a1_6) = some (r1, r2) := H
    have A29 := Aside0.mk A290
    clear A290
    have H' := Aside0.mk H
    clear H
    obtain ⟨Ao30, co30, eo30, _⟩ := Kd.Q_slice HO_8.out
    subst eo30
    go_wp2_with (first | ((with_reducible refine gate_callee (f := 13) rfl ?_); refine goesL_ (some 38) rfl rfl Try.func13 (by kernel_rfl) rfl #[.slice Ao30 x8_1.length co30, .func (.func 14) #[] #[]] rfl (by (try simp only [List.map_toArray, List.map_cons, List.map_nil]); first | done | rfl | (simp only [List.length_drop, List.length_take]; rfl)) ?_; (with_reducible refine (api_Value_13.sorted w.heap.size (fun k_ => (w.heap.size ≤ k_) ∧ True ∧ k_ ≠ gb261 ∧ k_ ≠ gb262) _ _ x8_1 t273 _ ?side1 A29.out).mono ?_); (case side1 => exact sort_two (g1 := gb261) (o1 := .cells #[.string a0_0, .slice A0_1 l0_1.length c0_1] 24 (0, 0)) (g2 := gb262) (o2 := .cells #[.string a1_0, .string a1_1, .int .i64 a1_2, .int .i64 a1_3, .slice A1_4 l1_4.length c1_4, .int .i64 a1_5, .int .i64 a1_6] 37 (0, 0)) (by (with_reducible repeat (first | apply Kd.Q_alloc | apply Kd.Q_drewN | apply Kd.Q_drew)); exact HO_8.out) (bk7_ BK261) (bk7_ BK262) (by intro c_ q_ hq_ h_; injection h_ with h1_ h2_ h3_; subst h2_; revert hq_; decide) (by intro c_ q_ hq_ h_; injection h_ with h1_ h2_ h3_; subst h2_; revert hq_; decide)); rintro e w31 ⟨rfl, ho0, hk_, hb⟩; refine ⟨_, rfl, ?_⟩; have n2_ := Aside0.mk (sort_keeps (g := gb261) (o := .cells #[.string a0_0, .slice A0_1 l0_1.length c0_1] 24 (0, 0)) (by (with_reducible repeat (first | apply Kd.Q_alloc | apply Kd.Q_drewN | apply Kd.Q_drew)); exact HO_8.out) hk_ (bk7_ BK261) (by intro c_ q_ hq_ h_; injection h_ with h1_ h2_ h3_; subst h2_; revert hq_; decide)); have n3_ := Aside0.mk (sort_keeps (g := gb262) (o := .cells #[.string a1_0, .string a1_1, .int .i64 a1_2, .int .i64 a1_3, .slice A1_4 l1_4.length c1_4, .int .i64 a1_5, .int .i64 a1_6] 37 (0, 0)) (by (with_reducible repeat (first | apply Kd.Q_alloc | apply Kd.Q_drewN | apply Kd.Q_drew)); exact HO_8.out) hk_ (bk7_ BK262) (by intro c_ q_ hq_ h_; injection h_ with h1_ h2_ h3_; subst h2_; revert hq_; decide)); have n1_ := Aside0.mk ho0; have n4_ := Aside0.mk (Below.trans (bh7_ HB) hb); clear HO_8; clear BK261; clear BK262; clear HB; have HO275 := n1_; have BK261 := n2_; have BK262 := n3_; have HB := n4_; clear n1_ n2_ n3_ n4_; (try clear hb); (try clear hk_); (try clear ho0)))
    go_loopg [8, 13] k1 (fun kq v8 v13 w' => ∃ (x8_2 : List (List (S47))) (x13_2 : List (List (S47))), Aside0 (guard_Release.l1 kq x8_2 x13_2 a1_0 a1_1 a1_2 a1_3 l1_4 a1_5 a1_6 = some (r1, r2)) ∧ Aside0 (kq ≤ k1) ∧ Aside0 (Kd.V (Kd.slice 47 k47) 41 w' w.heap.size (fun k_ => (w.heap.size ≤ k_) ∧ some k_ ≠ (v13 : Value).ownBlock ∧ k_ ≠ gb261 ∧ k_ ≠ gb262) v8 x8_2) ∧ Aside0 (Kd.N (Kd.slice 47 k47) 41 w' w.heap.size (fun k_ => (w.heap.size ≤ k_) ∧ k_ ≠ gb261 ∧ k_ ≠ gb262) v13 x13_2) ∧ Aside0 (w'.heap[gb261]? = some (.cells #[.string a0_0, (.slice A0_1 l0_1.length c0_1)] 24 (0, 0))) ∧ Aside0 (w'.heap[gb262]? = some (.cells #[.string a1_0, .string a1_1, .int .i64 a1_2, .int .i64 a1_3, (.slice A1_4 l1_4.length c1_4), .int .i64 a1_5, .int .i64 a1_6] 37 (0, 0))) ∧ Aside0 (Below w.heap.size w w'))
    case atStart => exact ⟨(t273), (([] : List (List (S47)))), H', ⟨Nat.le_refl _⟩, ⟨by (with_reducible repeat (first | apply Kd.V_alloc | apply Kd.V_drewN | apply Kd.V_drew)); exact Kd.V_mono HO275.out (fun _ hk => ⟨hk.1, ⟨(by simp [Value.ownBlock]), ⟨hk.2.2.1, hk.2.2.2⟩⟩⟩)⟩, ⟨by first | exact Kd.S_nil _ _ _ _ _ | exact Kd.N_nil _ _ _ _ _ | exact Kd.V_nil _ _ _ _ _ | exact Kd.Q_nil _ _ _ _ _ | exact Kd.R_nil _ _ _ _ _⟩, ⟨bk7_ BK261⟩, ⟨bk7_ BK262⟩, ⟨by repeat (first | (with_reducible first | exact HB.out | apply below_alloc | apply pw_below_drewN | apply below_drew1 | refine below_set ?_ GE261.out | refine below_set ?_ GE262.out) | exact HB.out | exact below_undrew HB.out)⟩⟩
    case round =>
     clear H'
     try clear c1
     try clear c2
     try clear p2
     try clear q2
     try clear hx2
     try clear c6
     try clear c6b0
     try clear p6
     try clear c7
     try clear c7b0
     try clear c8
     try clear c8b0
     try clear c10
     try clear c12
     try clear c13
     try clear c15
     try clear c22
     try clear c23
     try clear c25
     try clear c26
     try clear p26
     try clear q26
     try clear hx26
     try clear hcz14_0
     try clear hcz14_1
     try clear hcz16_0
     try clear hcz16_1
     try clear hcz17_0
     try clear hcz17_1
     try clear hcz17_2
     try clear hcz17_3
     try clear hcz17_4
     try clear hcz17_5
     try clear hcz17_6
     try clear hcz24_0
     try clear hcz24_1
     try clear hcz26_0
     try clear hcz26_1
     try clear hcz27_0
     try clear hcz27_1
     try clear hcz27_2
     try clear hcz27_3
     try clear hcz27_4
     try clear hcz27_5
     try clear hcz27_6
     try clear hfz14_0
     try clear hfz14_1
     try clear hfz16_0
     try clear hfz16_1
     try clear hfz17_0
     try clear hfz17_1
     try clear hfz17_2
     try clear hfz17_3
     try clear hfz17_4
     try clear hfz17_5
     try clear hfz17_6
     try clear hfz24_0
     try clear hfz24_1
     try clear hfz26_0
     try clear hfz26_1
     try clear hfz27_0
     try clear hfz27_1
     try clear hfz27_2
     try clear hfz27_3
     try clear hfz27_4
     try clear hfz27_5
     try clear hfz27_6
     try clear hx263_0
     try clear hx263_1
     try clear p2
     try clear p263
     try clear q263
     try clear q269
     obtain ⟨x8_2, x13_2, HA, HK2, HO_8, HO_13, BK261, BK262, HB⟩ := hrel
     cases gk with
     | zero => exact absurd HA.out (by simp [guard_Release.l1])
     | succ k2 =>
      have H := HA.out
      clear HA
      simp only [guard_Release.l1] at H
      by_cases c32 : (x8_2.length : Int) > 0
      ·rw [if_pos c32] at H
       have c32b0 : decide (0 < (x8_2.length : Int)) = true := decide_eq_true c32
       have c32b1 : decide (0 < x8_2.length) = true := decide_eq_true (by omega)
       clear c32
       have H' := Aside0.mk H
       clear H
       obtain ⟨Ao33, co33, eo33⟩ := Kd.V_slice HO_8.out
       subst eo33
       go_wp2
       go_loopg [14] k2 (fun kq v14 w' => ∃ (x14_3 : Int), v14 = .int .i64 x14_3 ∧ Aside0 (guard_Release.l2 kq x8_2 x13_2 x14_3 a1_0 a1_1 a1_2 a1_3 l1_4 a1_5 a1_6 = some (r1, r2)) ∧ Aside0 (kq ≤ k2) ∧ Aside0 (Kd.V (Kd.slice 47 k47) 41 w' w.heap.size (fun k_ => (w.heap.size ≤ k_) ∧ some k_ ≠ (u13 : Value).ownBlock ∧ k_ ≠ gb261 ∧ k_ ≠ gb262) (.slice Ao33 x8_2.length co33) x8_2) ∧ Aside0 (Kd.N (Kd.slice 47 k47) 41 w' w.heap.size (fun k_ => (w.heap.size ≤ k_) ∧ k_ ≠ gb261 ∧ k_ ≠ gb262) u13 x13_2) ∧ Aside0 (w'.heap[gb261]? = some (.cells #[.string a0_0, (.slice A0_1 l0_1.length c0_1)] 24 (0, 0))) ∧ Aside0 (w'.heap[gb262]? = some (.cells #[.string a1_0, .string a1_1, .int .i64 a1_2, .int .i64 a1_3, (.slice A1_4 l1_4.length c1_4), .int .i64 a1_5, .int .i64 a1_6] 37 (0, 0))) ∧ Aside0 (Below w.heap.size w w'))
       case atStart => exact ⟨(1), (by first | rfl | (simp; done) | (simp [*]; done)), H', ⟨Nat.le_refl _⟩, ⟨by (with_reducible repeat (first | apply Kd.V_alloc | apply Kd.V_drewN | apply Kd.V_drew)); exact HO_8.out⟩, ⟨by (with_reducible repeat (first | apply Kd.N_alloc | apply Kd.N_drewN | apply Kd.N_drew)); exact HO_13.out⟩, ⟨bk7_ BK261⟩, ⟨bk7_ BK262⟩, ⟨by repeat (first | (with_reducible first | exact HB.out | apply below_alloc | apply pw_below_drewN | apply below_drew1 | refine below_set ?_ GE261.out | refine below_set ?_ GE262.out) | exact HB.out | exact below_undrew HB.out)⟩⟩
       case round =>
        clear H'
        try clear c1
        try clear c2
        try clear p2
        try clear q2
        try clear hx2
        try clear c3
        try clear c6
        try clear c6b0
        try clear p6
        try clear c7
        try clear c7b0
        try clear c8
        try clear c8b0
        try clear c10
        try clear c12
        try clear c13
        try clear c15
        try clear c22
        try clear c23
        try clear c25
        try clear c26
        try clear p26
        try clear q26
        try clear hx26
        try clear c32
        try clear c32b0
        try clear c32b1
        try clear hcz14_0
        try clear hcz14_1
        try clear hcz16_0
        try clear hcz16_1
        try clear hcz17_0
        try clear hcz17_1
        try clear hcz17_2
        try clear hcz17_3
        try clear hcz17_4
        try clear hcz17_5
        try clear hcz17_6
        try clear hcz24_0
        try clear hcz24_1
        try clear hcz26_0
        try clear hcz26_1
        try clear hcz27_0
        try clear hcz27_1
        try clear hcz27_2
        try clear hcz27_3
        try clear hcz27_4
        try clear hcz27_5
        try clear hcz27_6
        try clear hfz14_0
        try clear hfz14_1
        try clear hfz16_0
        try clear hfz16_1
        try clear hfz17_0
        try clear hfz17_1
        try clear hfz17_2
        try clear hfz17_3
        try clear hfz17_4
        try clear hfz17_5
        try clear hfz17_6
        try clear hfz24_0
        try clear hfz24_1
        try clear hfz26_0
        try clear hfz26_1
        try clear hfz27_0
        try clear hfz27_1
        try clear hfz27_2
        try clear hfz27_3
        try clear hfz27_4
        try clear hfz27_5
        try clear hfz27_6
        try clear hx263_0
        try clear hx263_1
        try clear p2
        try clear p26
        try clear p263
        try clear p6
        try clear q2
        try clear q26
        try clear q263
        try clear q269
        obtain ⟨x14_3, rfl, HA, HK3, HO_8, HO_13, BK261, BK262, HB⟩ := hrel
        cases gk with
        | zero => exact absurd HA.out (by simp [guard_Release.l2])
        | succ k3 =>
         have H := HA.out
         clear HA
         simp only [guard_Release.l2] at H
         by_cases c34 : x14_3 < (x8_2.length : Int)
         ·rw [if_pos c34] at H
          have c34b0 : decide (x14_3 < (x8_2.length : Int)) = true := decide_eq_true c34
          clear c34
          by_cases c35 : 0 < (x8_2.length : Int)
          ·rw [if_pos c35] at H
           have c35b0 : decide (0 < (x8_2.length : Int)) = true := decide_eq_true c35
           have c35b1 : decide (0 < x8_2.length) = true := decide_eq_true (by omega)
           clear c35
           by_cases c36 : 0 ≤ x14_3
           ·rw [if_pos c36] at H
            have c36b0 : decide (0 ≤ x14_3) = true := decide_eq_true c36
            clear c36
            replace H := Option.bind_eq_some_iff.mp H
            obtain ⟨t278, A370, H⟩ := H
            replace H : (if t278 = 0 then (guard_Release.l2 k3 x8_2 x13_2 (wrap64 (x14_3 + 1)) a1_0 a1_1 a1_2 a1_3 l1_4 a1_5 a1_6) else (if x14_3 ≥ a1_5 then (if x14_3 ≤ (x8_2.length : Int) then ((some (x8_2.take (x14_3 : Int).toNat : List (List (S47)))).bind fun y279 => (if x13_2.length + y279.length < 5864062014805 then (guard_Release.l1 k3 (x8_2.drop (x14_3 : Int).toNat) (x13_2 ++ y279) a1_0 a1_1 a1_2 a1_3 l1_4 a1_5 a1_6) else (none))) else (none)) else (if x14_3 ≤ (x8_2.length : Int) then (guard_Release.l1 k3 (x8_2.drop (x14_3 : Int).toNat) x13_2 a1_0 a1_1 a1_2 a1_3 l1_4 a1_5 a1_6) else (none)))) = some (r1, r2) := H
            have A37 := Aside0.mk A370
            clear A370
            by_cases c38 : t278 = 0
            ·rw [if_pos c38] at H
             have c38b0 : (t278 == 0) = true := beq_iff_eq.mpr c38
             have c38b1 : (t278 != 0) = false := bne_eq_false_iff_eq.mpr c38
             clear c38
             have H' := Aside0.mk H
             clear H
             try go_wp2
             have n0_ := Aside0.mk (Kd.V_drew HO_8.out)
             have n1_ := Aside0.mk (Kd.N_drew HO_13.out)
             have n2_ := Aside0.mk (blk_drew BK261.out)
             have n3_ := Aside0.mk (blk_drew BK262.out)
             have n4_ := Aside0.mk (below_drew1 HB.out)
             clear HO_8
             clear HO_13
             clear BK261
             clear BK262
             clear HB
             have HO_8 := n0_
             have HO_13 := n1_
             have BK261 := n2_
             have BK262 := n3_
             have HB := n4_
             clear n0_ n1_ n2_ n3_ n4_
             have p276 : 0 ≤ (0 : Int) := (by omega)
             have q276 : 0 < (x8_2.length : Int) := of_decide_eq_true (by first | (with_reducible assumption) | assumption)
             obtain ⟨ad276, A276_0, c276_0, e276, hx276_0, hl276_0, hi276_0⟩ := at_L8 (Kd.V_reads' HO_8.out).2.2 0 p276 q276
             cases e276
             obtain ⟨ce276, hce276, hMe276, hcc276⟩ := Kd.V_get HO_8.out [] 0 p276 (by first | exact q276 | exact of_decide_eq_true (by first | (with_reducible assumption) | assumption) | (have e_ := (Kd.V_reads' HO_8.out).1; omega))
             obtain ⟨ua276_0, uc276_0, rfl, ul276_0, ge276_0⟩ := Kd.FK_slice_open hMe276
             have hv276_0 := hcc276 0 _ rfl
             rw [Nat.add_zero, show ((Kd.slice 47 k47)).sz = 1 from rfl, Nat.mul_one] at hv276_0
             replace hv276_0 := Option.some.inj (hv276_0.symm.trans hx276_0)
             injection hv276_0 with hva_ hvn_ hvc_
             rw [hva_] at ge276_0
             rw [hvc_] at ul276_0
             have HL276_0 := Aside0.mk (show Kd.V k47 47 _ w.heap.size _ _ (rd_L8 x8_2 0) from Kd.V_mk ul276_0 ge276_0)
             clear hva_ hvn_ hvc_ ge276_0 ul276_0
             clear hcc276 hce276
             have qi276 : (0 < x8_2.length) = True := eq_true (by omega)
             (try rw [show ((0 : Int)).toNat = 0 from rfl] at hx276_0)
             (try rw [Addr.add_zero'] at hx276_0)
             have HR276_0 := Aside0.mk hi276_0
             have HC276_0 := Aside0.mk hl276_0
             clear hi276_0 hl276_0
             replace p276 := eq_true p276
             replace q276 := eq_true q276
             have p277 : 0 ≤ (x14_3 : Int) := of_decide_eq_true (by first | (with_reducible assumption) | assumption)
             have q277 : x14_3 < (x8_2.length : Int) := of_decide_eq_true (by first | (with_reducible assumption) | assumption)
             obtain ⟨ad277, A277_0, c277_0, e277, hx277_0, hl277_0, hi277_0⟩ := at_L8 (Kd.V_reads' HO_8.out).2.2 x14_3 p277 q277
             obtain rfl : ad276 = ad277 := (by injection e277)
             obtain ⟨ce277, hce277, hMe277, hcc277⟩ := Kd.V_get HO_8.out [] x14_3 p277 (by first | exact q277 | exact of_decide_eq_true (by first | (with_reducible assumption) | assumption) | (have e_ := (Kd.V_reads' HO_8.out).1; omega))
             obtain ⟨ua277_0, uc277_0, rfl, ul277_0, ge277_0⟩ := Kd.FK_slice_open hMe277
             have hv277_0 := hcc277 0 _ rfl
             rw [Nat.add_zero, show ((Kd.slice 47 k47)).sz = 1 from rfl, Nat.mul_one] at hv277_0
             replace hv277_0 := Option.some.inj (hv277_0.symm.trans hx277_0)
             injection hv277_0 with hva_ hvn_ hvc_
             rw [hva_] at ge277_0
             rw [hvc_] at ul277_0
             have HL277_0 := Aside0.mk (show Kd.V k47 47 _ w.heap.size _ _ (rd_L8 x8_2 x14_3) from Kd.V_mk ul277_0 ge277_0)
             clear hva_ hvn_ hvc_ ge277_0 ul277_0
             clear hcc277 hce277
             have HR277_0 := Aside0.mk hi277_0
             have HC277_0 := Aside0.mk hl277_0
             clear hi277_0 hl277_0
             replace p277 := eq_true p277
             replace q277 := eq_true q277
             refine start_ (n := 15) (S := fun w' => w'.cell? ad276 = some (.slice A276_0 (rd_L8 x8_2 0).length c276_0) ∧ w'.cell? (ad276.add (x14_3).toNat) = some (.slice A277_0 (rd_L8 x8_2 x14_3).length c277_0)) (ds := []) #[false, false, false, false, false, false, false, false, false, false, false, false, false, false, false] (by kernel_rfl) rfl rfl ⟨hx276_0, hx277_0⟩ (fun hHeld => ?_); refine with_tabW guard_Release.tab14 guard_Release.bits14 (fun HT_ HW_ => ?_)
             generalize wr.drew = w39 at HO_8 HO_13 BK261 BK262 HB HL276_0 HL277_0 HR276_0 HR277_0 hx276_0 hx277_0 hHeld ⊢
             refine pure_ (i := 0) (N := some 42) (v := ?_) (a' := ?_) #[true, false, false, false, false, false, false, false, false, false, false, false, false, false, false] rfl rfl (any_of HT_.out (by kernel_rfl)) (fun _ _ _ h => h) (Or.inl ⟨by rfl, ?_⟩) ?_ ?_
             rotate_left
             ·intro w'
              go_simp
              with_reducible rfl
             rotate_left
             ·simp only [Act.put, List.setIfInBounds_toArray, List.set_cons_zero, List.set_cons_succ, i64_w, i32_w]
              rfl
             refine pure_ (i := 1) (N := some 43) (v := ?_) (a' := ?_) #[true, true, false, false, false, false, false, false, false, false, false, false, false, false, false] rfl rfl (any_of HT_.out (by kernel_rfl)) (fun _ _ _ h => h) (Or.inl ⟨by rfl, ?_⟩) ?_ ?_
             rotate_left
             ·intro w'
              go_simp
              with_reducible rfl
             rotate_left
             ·simp only [Act.put, List.setIfInBounds_toArray, List.set_cons_zero, List.set_cons_succ, i64_w, i32_w]
              rfl
             refine pure_ (i := 2) (N := some 44) (v := ?_) (a' := ?_) #[true, true, true, false, false, false, false, false, false, false, false, false, false, false, false] rfl rfl (any_of HT_.out (by kernel_rfl)) (fun _ _ _ h => h) (Or.inl ⟨by rfl, ?_⟩) ?_ ?_
             rotate_left
             ·intro w'
              go_simp
              with_reducible rfl
             rotate_left
             ·simp only [Act.put, List.setIfInBounds_toArray, List.set_cons_zero, List.set_cons_succ, i64_w, i32_w]
              rfl
             refine pure_ (i := 3) (N := some 45) (v := ?_) (a' := ?_) #[true, true, true, true, false, false, false, false, false, false, false, false, false, false, false] rfl rfl (any_of HT_.out (by kernel_rfl)) (fun _ _ _ h => h) (Or.inl ⟨by rfl, ?_⟩) ?_ ?_
             rotate_left
             ·intro w'
              go_simp
              with_reducible rfl
             rotate_left
             ·simp only [Act.put, List.setIfInBounds_toArray, List.set_cons_zero, List.set_cons_succ, i64_w, i32_w]
              rfl
             refine pure_ (i := 4) (N := some 46) (v := ?_) (a' := ?_) #[true, true, true, true, true, false, false, false, false, false, false, false, false, false, false] rfl rfl (any_of HT_.out (by kernel_rfl)) (fun _ _ _ h => h) (Or.inl ⟨by rfl, ?_⟩) ?_ ?_
             rotate_left
             ·intro w'
              go_simp
              with_reducible rfl
             rotate_left
             ·simp only [Act.put, List.setIfInBounds_toArray, List.set_cons_zero, List.set_cons_succ, i64_w, i32_w]
              rfl
             refine pure_ (i := 5) (N := some 47) (v := ?_) (a' := ?_) #[true, true, true, true, true, true, false, false, false, false, false, false, false, false, false] rfl rfl (any_of HT_.out (by kernel_rfl)) (fun _ _ _ h => h) (Or.inl ⟨by rfl, ?_⟩) ?_ ?_
             rotate_left
             ·intro w'
              go_simp
              with_reducible rfl
             rotate_left
             ·simp only [Act.put, List.setIfInBounds_toArray, List.set_cons_zero, List.set_cons_succ, i64_w, i32_w]
              rfl
             refine pure_ (i := 6) (N := some 48) (v := ?_) (a' := ?_) #[true, true, true, true, true, true, true, false, false, false, false, false, false, false, false] rfl rfl (any_of HT_.out (by kernel_rfl)) (fun _ _ _ h => h) (Or.inl ⟨by rfl, ?_⟩) ?_ ?_
             rotate_left
             ·intro w'
              go_simp
              with_reducible rfl
             rotate_left
             ·simp only [Act.put, List.setIfInBounds_toArray, List.set_cons_zero, List.set_cons_succ, i64_w, i32_w]
              rfl
             refine pure_ (i := 8) (N := some 50) (v := ?_) (a' := ?_) #[true, true, true, true, true, true, true, false, true, false, false, false, false, false, false] rfl rfl (any_of HT_.out (by kernel_rfl)) (fun _ _ _ h => h) (Or.inl ⟨by rfl, ?_⟩) ?_ ?_
             rotate_left
             ·intro w'
              go_simp
              with_reducible rfl
             rotate_left
             ·simp only [Act.put, List.setIfInBounds_toArray, List.set_cons_zero, List.set_cons_succ, i64_w, i32_w]
              rfl
             refine pure_ (i := 9) (N := some 51) (v := ?_) (a' := ?_) #[true, true, true, true, true, true, true, false, true, true, false, false, false, false, false] rfl rfl (any_of HT_.out (by kernel_rfl)) (fun _ _ _ h => h) (Or.inl ⟨by rfl, ?_⟩) ?_ ?_
             rotate_left
             ·intro w'
              go_simp
              with_reducible rfl
             rotate_left
             ·simp only [Act.put, List.setIfInBounds_toArray, List.set_cons_zero, List.set_cons_succ, i64_w, i32_w]
              rfl
             refine pure_ (i := 10) (N := some 52) (v := ?_) (a' := ?_) #[true, true, true, true, true, true, true, false, true, true, true, false, false, false, false] rfl rfl (any_of HT_.out (by kernel_rfl)) (fun _ _ _ h => h) (Or.inl ⟨by rfl, ?_⟩) ?_ ?_
             rotate_left
             ·intro w'
              go_simp
              with_reducible rfl
             rotate_left
             ·simp only [Act.put, List.setIfInBounds_toArray, List.set_cons_zero, List.set_cons_succ, i64_w, i32_w]
              rfl
             refine take_ (i := 7) (N := some 49) (v := ?_) (a' := ?_) #[true, true, true, true, true, true, true, true, true, true, true, false, false, false, false] rfl rfl (take_ofW HT_.out HW_.out (by kernel_rfl)) (fun _ _ _ h => h) (Or.inl ⟨by rfl, ?_⟩) hHeld ?_ ?_
             rotate_left
             ·rintro w' ⟨s0, s1⟩
              go_simp
              with_reducible rfl
             rotate_left
             ·simp only [Act.put, List.setIfInBounds_toArray, List.set_cons_zero, List.set_cons_succ, i64_w, i32_w]
              rfl
             refine take_ (i := 11) (N := some 53) (v := ?_) (a' := ?_) #[true, true, true, true, true, true, true, true, true, true, true, true, false, false, false] rfl rfl (take_ofW HT_.out HW_.out (by kernel_rfl)) (fun _ _ _ h => h) (Or.inl ⟨by rfl, ?_⟩) hHeld ?_ ?_
             rotate_left
             ·rintro w' ⟨s0, s1⟩
              go_simp
              with_reducible rfl
             rotate_left
             ·simp only [Act.put, List.setIfInBounds_toArray, List.set_cons_zero, List.set_cons_succ, i64_w, i32_w]
              rfl
             refine one_ (i := 12) (N := some 54) #[true, true, true, true, true, true, true, true, true, true, true, true, true, false, false] rfl rfl (one_of HT_.out (by kernel_rfl)) (by decide) (fun K hK => ?_)
             refine goes_ Try.func14 (by kernel_rfl) rfl #[.slice A276_0 (rd_L8 x8_2 0).length c276_0, .slice A277_0 (rd_L8 x8_2 x14_3).length c277_0] (by rfl) rfl rfl (by (try simp only [List.map_toArray, List.map_cons, List.map_nil]); first | done | rfl | (simp only [List.length_drop, List.length_take]; rfl)) ?_
             with_reducible refine (order_Compare.calls k3 _ _ (rd_L8 x8_2 0) _ _ (rd_L8 x8_2 x14_3) t278 _ ?side1 ?side2 ?side3 ?side4 A37.out).mono ?_
             (case side1 => repeat (first | exact (by repeat (first | (with_reducible exact HR276_0.out) | (with_reducible refine Kd.C_alloc ?_ _) | (with_reducible refine Kd.C_drewN ?_ _) | (with_reducible refine Kd.C_drew ?_) | exact HR276_0.out)) | (with_reducible refine Kd.C_alloc ?_ _) | (with_reducible refine Kd.C_drewN ?_ _) | (with_reducible refine Kd.C_drew ?_)))
             (case side2 => exact HC276_0.out)
             (case side3 => repeat (first | exact (by repeat (first | (with_reducible exact HR277_0.out) | (with_reducible refine Kd.C_alloc ?_ _) | (with_reducible refine Kd.C_drewN ?_ _) | (with_reducible refine Kd.C_drew ?_) | exact HR277_0.out)) | (with_reducible refine Kd.C_alloc ?_ _) | (with_reducible refine Kd.C_drewN ?_ _) | (with_reducible refine Kd.C_drew ?_)))
             (case side4 => exact HC277_0.out)
             rintro e w40 ⟨rfl, hb⟩
             have HS0_ := (hb.cell (World.block_lt_of_cell? _ _ (hHeld.1))).trans (hHeld.1)
             have HS1_ := (hb.cell (World.block_lt_of_cell? _ _ (hHeld.2))).trans (hHeld.2)
             refine ⟨_, rfl, ?_⟩
             have n0_ := Aside0.mk (Kd.V_below (by (with_reducible repeat (first | apply Kd.V_alloc | apply Kd.V_drewN | apply Kd.V_drew)); exact HO_8.out) hb)
             have n1_ := Aside0.mk (Kd.N_below (by (with_reducible repeat (first | apply Kd.N_alloc | apply Kd.N_drewN | apply Kd.N_drew)); exact HO_13.out) hb)
             have n2_ := Aside0.mk (Kd.V_below (by (with_reducible repeat (first | apply Kd.V_alloc | apply Kd.V_drewN | apply Kd.V_drew)); exact HL276_0.out) hb)
             have n3_ := Aside0.mk (Kd.V_below (by (with_reducible repeat (first | apply Kd.V_alloc | apply Kd.V_drewN | apply Kd.V_drew)); exact HL277_0.out) hb)
             have n4_ := Aside0.mk (blk_below (g := gb261) (o := .cells #[.string a0_0, .slice A0_1 l0_1.length c0_1] 24 (0, 0)) (bk7_ BK261) hb)
             have n5_ := Aside0.mk (blk_below (g := gb262) (o := .cells #[.string a1_0, .string a1_1, .int .i64 a1_2, .int .i64 a1_3, .slice A1_4 l1_4.length c1_4, .int .i64 a1_5, .int .i64 a1_6] 37 (0, 0)) (bk7_ BK262) hb)
             have n6_ := Aside0.mk (Kd.C_below (by repeat (first | (with_reducible exact HR276_0.out) | (with_reducible refine Kd.C_alloc ?_ _) | (with_reducible refine Kd.C_drewN ?_ _) | (with_reducible refine Kd.C_drew ?_) | exact HR276_0.out)) hb)
             have n7_ := Aside0.mk (Kd.C_below (by repeat (first | (with_reducible exact HR277_0.out) | (with_reducible refine Kd.C_alloc ?_ _) | (with_reducible refine Kd.C_drewN ?_ _) | (with_reducible refine Kd.C_drew ?_) | exact HR277_0.out)) hb)
             have n8_ := Aside0.mk (below_step (bh7_ HB) hb)
             clear HO_8
             clear HO_13
             clear HL276_0
             clear HL277_0
             clear BK261
             clear BK262
             clear HR276_0
             clear HR277_0
             clear HB
             have HO_8 := n0_
             have HO_13 := n1_
             have HL276_0 := n2_
             have HL277_0 := n3_
             have BK261 := n4_
             have BK262 := n5_
             have HR276_0 := n6_
             have HR277_0 := n7_
             have HB := n8_
             clear n0_ n1_ n2_ n3_ n4_ n5_ n6_ n7_ n8_
             (try clear hb)
             (try clear hb2)
             (try clear hk)
             (try clear hi)
             refine hK.out _ _ ⟨HS0_, HS1_⟩ (fun hHeld => ?_)
             clear hK K
             refine norm_ (a' := ?_) ?_ ?_
             rotate_left
             ·show Act.put _ (some 54) _ = _
              simp only [Act.put, List.setIfInBounds_toArray, List.set_cons_zero, List.set_cons_succ, i64_w, i32_w]
              rfl
             refine pure_ (i := 13) (N := some 55) (v := ?_) (a' := ?_) #[true, true, true, true, true, true, true, true, true, true, true, true, true, true, false] rfl rfl (any_of HT_.out (by kernel_rfl)) (fun _ _ _ h => h) (Or.inl ⟨by rfl, ?_⟩) ?_ ?_
             rotate_left
             ·intro w'
              go_simp
              with_reducible rfl
             rotate_left
             ·simp only [Act.put, List.setIfInBounds_toArray, List.set_cons_zero, List.set_cons_succ, i64_w, i32_w]
              rfl
             refine pure_ (i := 14) (N := some 56) (v := ?_) (a' := ?_) #[true, true, true, true, true, true, true, true, true, true, true, true, true, true, true] rfl rfl (any_of HT_.out (by kernel_rfl)) (fun _ _ _ h => h) (Or.inl ⟨by rfl, ?_⟩) ?_ ?_
             rotate_left
             ·intro w'
              go_simp
              with_reducible rfl
             rotate_left
             ·simp only [Act.put, List.setIfInBounds_toArray, List.set_cons_zero, List.set_cons_succ, i64_w, i32_w]
              rfl
             refine done_ (done_of HT_.out (by kernel_rfl)) ?_
             try go_wp2
             go_roundg k3
             case measure => have := HK1.out; have := HK2.out; have := HK3.out; omega
             case rel => exact ⟨(wrap64 (x14_3 + 1)), (by first | rfl | (simp; done) | (simp [*]; done)), H', ⟨by have := HK1.out; have := HK2.out; have := HK3.out; omega⟩, ⟨by (with_reducible repeat (first | apply Kd.V_alloc | apply Kd.V_drewN | apply Kd.V_drew)); exact HO_8.out⟩, ⟨by (with_reducible repeat (first | apply Kd.N_alloc | apply Kd.N_drewN | apply Kd.N_drew)); exact HO_13.out⟩, ⟨bk7_ BK261⟩, ⟨bk7_ BK262⟩, ⟨by repeat (first | (with_reducible first | exact HB.out | apply below_alloc | apply pw_below_drewN | apply below_drew1 | refine below_set ?_ GE261.out | refine below_set ?_ GE262.out) | exact HB.out | exact below_undrew HB.out)⟩⟩
            ·rw [if_neg c38] at H
             have c38b0 : (t278 == 0) = false := beq_eq_false_iff_ne.mpr c38
             have c38b1 : (t278 != 0) = true := bne_iff_ne.mpr c38
             by_cases c41 : x14_3 ≥ a1_5
             ·rw [if_pos c41] at H
              have c41b0 : decide (a1_5 ≤ x14_3) = true := decide_eq_true c41
              clear c41
              have c42b0 := eq_true (of_decide_eq_true (by first | (with_reducible assumption) | assumption) : 0 ≤ x14_3)
              by_cases c43 : x14_3 ≤ (x8_2.length : Int)
              ·rw [if_pos c43] at H
               have c43b0 := eq_true c43
               have c43b1 : decide (x14_3 ≤ (x8_2.length : Int)) = true := decide_eq_true c43
               clear c43
               obtain ⟨y279, hy279⟩ : ∃ y_ : List (List (S47)), y_ = (x8_2.take (x14_3 : Int).toNat) := ⟨_, rfl⟩
               replace H : (if x13_2.length + y279.length < 5864062014805 then (guard_Release.l1 k3 (x8_2.drop (x14_3 : Int).toNat) (x13_2 ++ y279) a1_0 a1_1 a1_2 a1_3 l1_4 a1_5 a1_6) else (none)) = some (r1, r2) := by first | (rw [hy279]; with_reducible exact H) | (have H2_ := (Option.bind_some _ _).symm.trans H; rw [hy279]; with_reducible exact H2_) | (have H2_ := (Option.bind_some _ _).symm.trans H; with_reducible exact H2_) | with_reducible exact H | (rw [hy279]; exact H) | exact H
               have Ny279 := Aside0.mk hy279
               clear hy279
               by_cases c44 : x13_2.length + y279.length < 5864062014805
               ·rw [if_pos c44] at H
                have LMc44 := Aside0.mk c44
                clear c44
                obtain ⟨y284, hy284⟩ : ∃ y_ : List (List (S47)), y_ = (x13_2 ++ y279) := ⟨_, rfl⟩
                replace H : (guard_Release.l1 k3 (x8_2.drop (x14_3 : Int).toNat) y284 a1_0 a1_1 a1_2 a1_3 l1_4 a1_5 a1_6) = some (r1, r2) := by first | (rw [hy284]; with_reducible exact H) | (have H2_ := (Option.bind_some _ _).symm.trans H; rw [hy284]; with_reducible exact H2_) | (have H2_ := (Option.bind_some _ _).symm.trans H; with_reducible exact H2_) | with_reducible exact H | (rw [hy284]; exact H) | exact H
                have Ny284 := Aside0.mk hy284
                clear hy284
                have c45b0 := eq_true (of_decide_eq_true (by first | (with_reducible assumption) | assumption) : 0 ≤ x14_3)
                have c46b0 := eq_true (of_decide_eq_true (by first | (with_reducible assumption) | assumption) : x14_3 ≤ (x8_2.length : Int))
                obtain ⟨y287, hy287⟩ : ∃ y_ : List (List (S47)), y_ = (x8_2.drop (x14_3 : Int).toNat) := ⟨_, rfl⟩
                replace H : (guard_Release.l1 k3 y287 y284 a1_0 a1_1 a1_2 a1_3 l1_4 a1_5 a1_6) = some (r1, r2) := by first | (rw [hy287]; with_reducible exact H) | (have H2_ := (Option.bind_some _ _).symm.trans H; rw [hy287]; with_reducible exact H2_) | (have H2_ := (Option.bind_some _ _).symm.trans H; with_reducible exact H2_) | with_reducible exact H | (rw [hy287]; exact H) | exact H
                have Ny287 := Aside0.mk hy287
                clear hy287
                have H' := Aside0.mk H
                clear H
                try go_wp2
                have n0_ := Aside0.mk (Kd.V_drew HO_8.out)
                have n1_ := Aside0.mk (Kd.N_drew HO_13.out)
                have n2_ := Aside0.mk (blk_drew BK261.out)
                have n3_ := Aside0.mk (blk_drew BK262.out)
                have n4_ := Aside0.mk (below_drew1 HB.out)
                clear HO_8
                clear HO_13
                clear BK261
                clear BK262
                clear HB
                have HO_8 := n0_
                have HO_13 := n1_
                have BK261 := n2_
                have BK262 := n3_
                have HB := n4_
                clear n0_ n1_ n2_ n3_ n4_
                have p276 : 0 ≤ (0 : Int) := (by omega)
                have q276 : 0 < (x8_2.length : Int) := of_decide_eq_true (by first | (with_reducible assumption) | assumption)
                obtain ⟨ad276, A276_0, c276_0, e276, hx276_0, hl276_0, hi276_0⟩ := at_L8 (Kd.V_reads' HO_8.out).2.2 0 p276 q276
                cases e276
                obtain ⟨ce276, hce276, hMe276, hcc276⟩ := Kd.V_get HO_8.out [] 0 p276 (by first | exact q276 | exact of_decide_eq_true (by first | (with_reducible assumption) | assumption) | (have e_ := (Kd.V_reads' HO_8.out).1; omega))
                obtain ⟨ua276_0, uc276_0, rfl, ul276_0, ge276_0⟩ := Kd.FK_slice_open hMe276
                have hv276_0 := hcc276 0 _ rfl
                rw [Nat.add_zero, show ((Kd.slice 47 k47)).sz = 1 from rfl, Nat.mul_one] at hv276_0
                replace hv276_0 := Option.some.inj (hv276_0.symm.trans hx276_0)
                injection hv276_0 with hva_ hvn_ hvc_
                rw [hva_] at ge276_0
                rw [hvc_] at ul276_0
                have HL276_0 := Aside0.mk (show Kd.V k47 47 _ w.heap.size _ _ (rd_L8 x8_2 0) from Kd.V_mk ul276_0 ge276_0)
                clear hva_ hvn_ hvc_ ge276_0 ul276_0
                clear hcc276 hce276
                have qi276 : (0 < x8_2.length) = True := eq_true (by omega)
                (try rw [show ((0 : Int)).toNat = 0 from rfl] at hx276_0)
                (try rw [Addr.add_zero'] at hx276_0)
                have HR276_0 := Aside0.mk hi276_0
                have HC276_0 := Aside0.mk hl276_0
                clear hi276_0 hl276_0
                replace p276 := eq_true p276
                replace q276 := eq_true q276
                have p277 : 0 ≤ (x14_3 : Int) := of_decide_eq_true (by first | (with_reducible assumption) | assumption)
                have q277 : x14_3 < (x8_2.length : Int) := of_decide_eq_true (by first | (with_reducible assumption) | assumption)
                obtain ⟨ad277, A277_0, c277_0, e277, hx277_0, hl277_0, hi277_0⟩ := at_L8 (Kd.V_reads' HO_8.out).2.2 x14_3 p277 q277
                obtain rfl : ad276 = ad277 := (by injection e277)
                obtain ⟨ce277, hce277, hMe277, hcc277⟩ := Kd.V_get HO_8.out [] x14_3 p277 (by first | exact q277 | exact of_decide_eq_true (by first | (with_reducible assumption) | assumption) | (have e_ := (Kd.V_reads' HO_8.out).1; omega))
                obtain ⟨ua277_0, uc277_0, rfl, ul277_0, ge277_0⟩ := Kd.FK_slice_open hMe277
                have hv277_0 := hcc277 0 _ rfl
                rw [Nat.add_zero, show ((Kd.slice 47 k47)).sz = 1 from rfl, Nat.mul_one] at hv277_0
                replace hv277_0 := Option.some.inj (hv277_0.symm.trans hx277_0)
                injection hv277_0 with hva_ hvn_ hvc_
                rw [hva_] at ge277_0
                rw [hvc_] at ul277_0
                have HL277_0 := Aside0.mk (show Kd.V k47 47 _ w.heap.size _ _ (rd_L8 x8_2 x14_3) from Kd.V_mk ul277_0 ge277_0)
                clear hva_ hvn_ hvc_ ge277_0 ul277_0
                clear hcc277 hce277
                have HR277_0 := Aside0.mk hi277_0
                have HC277_0 := Aside0.mk hl277_0
                clear hi277_0 hl277_0
                replace p277 := eq_true p277
                replace q277 := eq_true q277
                refine start_ (n := 15) (S := fun w' => w'.cell? ad276 = some (.slice A276_0 (rd_L8 x8_2 0).length c276_0) ∧ w'.cell? (ad276.add (x14_3).toNat) = some (.slice A277_0 (rd_L8 x8_2 x14_3).length c277_0)) (ds := []) #[false, false, false, false, false, false, false, false, false, false, false, false, false, false, false] (by kernel_rfl) rfl rfl ⟨hx276_0, hx277_0⟩ (fun hHeld => ?_); refine with_tabW guard_Release.tab14 guard_Release.bits14 (fun HT_ HW_ => ?_)
                generalize wr.drew = w47 at HO_8 HO_13 BK261 BK262 HB HL276_0 HL277_0 HR276_0 HR277_0 hx276_0 hx277_0 hHeld ⊢
                refine pure_ (i := 0) (N := some 42) (v := ?_) (a' := ?_) #[true, false, false, false, false, false, false, false, false, false, false, false, false, false, false] rfl rfl (any_of HT_.out (by kernel_rfl)) (fun _ _ _ h => h) (Or.inl ⟨by rfl, ?_⟩) ?_ ?_
                rotate_left
                ·intro w'
                 go_simp
                 with_reducible rfl
                rotate_left
                ·simp only [Act.put, List.setIfInBounds_toArray, List.set_cons_zero, List.set_cons_succ, i64_w, i32_w]
                 rfl
                refine pure_ (i := 1) (N := some 43) (v := ?_) (a' := ?_) #[true, true, false, false, false, false, false, false, false, false, false, false, false, false, false] rfl rfl (any_of HT_.out (by kernel_rfl)) (fun _ _ _ h => h) (Or.inl ⟨by rfl, ?_⟩) ?_ ?_
                rotate_left
                ·intro w'
                 go_simp
                 with_reducible rfl
                rotate_left
                ·simp only [Act.put, List.setIfInBounds_toArray, List.set_cons_zero, List.set_cons_succ, i64_w, i32_w]
                 rfl
                refine pure_ (i := 2) (N := some 44) (v := ?_) (a' := ?_) #[true, true, true, false, false, false, false, false, false, false, false, false, false, false, false] rfl rfl (any_of HT_.out (by kernel_rfl)) (fun _ _ _ h => h) (Or.inl ⟨by rfl, ?_⟩) ?_ ?_
                rotate_left
                ·intro w'
                 go_simp
                 with_reducible rfl
                rotate_left
                ·simp only [Act.put, List.setIfInBounds_toArray, List.set_cons_zero, List.set_cons_succ, i64_w, i32_w]
                 rfl
                refine pure_ (i := 3) (N := some 45) (v := ?_) (a' := ?_) #[true, true, true, true, false, false, false, false, false, false, false, false, false, false, false] rfl rfl (any_of HT_.out (by kernel_rfl)) (fun _ _ _ h => h) (Or.inl ⟨by rfl, ?_⟩) ?_ ?_
                rotate_left
                ·intro w'
                 go_simp
                 with_reducible rfl
                rotate_left
                ·simp only [Act.put, List.setIfInBounds_toArray, List.set_cons_zero, List.set_cons_succ, i64_w, i32_w]
                 rfl
                refine pure_ (i := 4) (N := some 46) (v := ?_) (a' := ?_) #[true, true, true, true, true, false, false, false, false, false, false, false, false, false, false] rfl rfl (any_of HT_.out (by kernel_rfl)) (fun _ _ _ h => h) (Or.inl ⟨by rfl, ?_⟩) ?_ ?_
                rotate_left
                ·intro w'
                 go_simp
                 with_reducible rfl
                rotate_left
                ·simp only [Act.put, List.setIfInBounds_toArray, List.set_cons_zero, List.set_cons_succ, i64_w, i32_w]
                 rfl
                refine pure_ (i := 5) (N := some 47) (v := ?_) (a' := ?_) #[true, true, true, true, true, true, false, false, false, false, false, false, false, false, false] rfl rfl (any_of HT_.out (by kernel_rfl)) (fun _ _ _ h => h) (Or.inl ⟨by rfl, ?_⟩) ?_ ?_
                rotate_left
                ·intro w'
                 go_simp
                 with_reducible rfl
                rotate_left
                ·simp only [Act.put, List.setIfInBounds_toArray, List.set_cons_zero, List.set_cons_succ, i64_w, i32_w]
                 rfl
                refine pure_ (i := 6) (N := some 48) (v := ?_) (a' := ?_) #[true, true, true, true, true, true, true, false, false, false, false, false, false, false, false] rfl rfl (any_of HT_.out (by kernel_rfl)) (fun _ _ _ h => h) (Or.inl ⟨by rfl, ?_⟩) ?_ ?_
                rotate_left
                ·intro w'
                 go_simp
                 with_reducible rfl
                rotate_left
                ·simp only [Act.put, List.setIfInBounds_toArray, List.set_cons_zero, List.set_cons_succ, i64_w, i32_w]
                 rfl
                refine pure_ (i := 8) (N := some 50) (v := ?_) (a' := ?_) #[true, true, true, true, true, true, true, false, true, false, false, false, false, false, false] rfl rfl (any_of HT_.out (by kernel_rfl)) (fun _ _ _ h => h) (Or.inl ⟨by rfl, ?_⟩) ?_ ?_
                rotate_left
                ·intro w'
                 go_simp
                 with_reducible rfl
                rotate_left
                ·simp only [Act.put, List.setIfInBounds_toArray, List.set_cons_zero, List.set_cons_succ, i64_w, i32_w]
                 rfl
                refine pure_ (i := 9) (N := some 51) (v := ?_) (a' := ?_) #[true, true, true, true, true, true, true, false, true, true, false, false, false, false, false] rfl rfl (any_of HT_.out (by kernel_rfl)) (fun _ _ _ h => h) (Or.inl ⟨by rfl, ?_⟩) ?_ ?_
                rotate_left
                ·intro w'
                 go_simp
                 with_reducible rfl
                rotate_left
                ·simp only [Act.put, List.setIfInBounds_toArray, List.set_cons_zero, List.set_cons_succ, i64_w, i32_w]
                 rfl
                refine pure_ (i := 10) (N := some 52) (v := ?_) (a' := ?_) #[true, true, true, true, true, true, true, false, true, true, true, false, false, false, false] rfl rfl (any_of HT_.out (by kernel_rfl)) (fun _ _ _ h => h) (Or.inl ⟨by rfl, ?_⟩) ?_ ?_
                rotate_left
                ·intro w'
                 go_simp
                 with_reducible rfl
                rotate_left
                ·simp only [Act.put, List.setIfInBounds_toArray, List.set_cons_zero, List.set_cons_succ, i64_w, i32_w]
                 rfl
                refine take_ (i := 7) (N := some 49) (v := ?_) (a' := ?_) #[true, true, true, true, true, true, true, true, true, true, true, false, false, false, false] rfl rfl (take_ofW HT_.out HW_.out (by kernel_rfl)) (fun _ _ _ h => h) (Or.inl ⟨by rfl, ?_⟩) hHeld ?_ ?_
                rotate_left
                ·rintro w' ⟨s0, s1⟩
                 go_simp
                 with_reducible rfl
                rotate_left
                ·simp only [Act.put, List.setIfInBounds_toArray, List.set_cons_zero, List.set_cons_succ, i64_w, i32_w]
                 rfl
                refine take_ (i := 11) (N := some 53) (v := ?_) (a' := ?_) #[true, true, true, true, true, true, true, true, true, true, true, true, false, false, false] rfl rfl (take_ofW HT_.out HW_.out (by kernel_rfl)) (fun _ _ _ h => h) (Or.inl ⟨by rfl, ?_⟩) hHeld ?_ ?_
                rotate_left
                ·rintro w' ⟨s0, s1⟩
                 go_simp
                 with_reducible rfl
                rotate_left
                ·simp only [Act.put, List.setIfInBounds_toArray, List.set_cons_zero, List.set_cons_succ, i64_w, i32_w]
                 rfl
                refine one_ (i := 12) (N := some 54) #[true, true, true, true, true, true, true, true, true, true, true, true, true, false, false] rfl rfl (one_of HT_.out (by kernel_rfl)) (by decide) (fun K hK => ?_)
                refine goes_ Try.func14 (by kernel_rfl) rfl #[.slice A276_0 (rd_L8 x8_2 0).length c276_0, .slice A277_0 (rd_L8 x8_2 x14_3).length c277_0] (by rfl) rfl rfl (by (try simp only [List.map_toArray, List.map_cons, List.map_nil]); first | done | rfl | (simp only [List.length_drop, List.length_take]; rfl)) ?_
                with_reducible refine (order_Compare.calls k3 _ _ (rd_L8 x8_2 0) _ _ (rd_L8 x8_2 x14_3) t278 _ ?side1 ?side2 ?side3 ?side4 A37.out).mono ?_
                (case side1 => repeat (first | exact (by repeat (first | (with_reducible exact HR276_0.out) | (with_reducible refine Kd.C_alloc ?_ _) | (with_reducible refine Kd.C_drewN ?_ _) | (with_reducible refine Kd.C_drew ?_) | exact HR276_0.out)) | (with_reducible refine Kd.C_alloc ?_ _) | (with_reducible refine Kd.C_drewN ?_ _) | (with_reducible refine Kd.C_drew ?_)))
                (case side2 => exact HC276_0.out)
                (case side3 => repeat (first | exact (by repeat (first | (with_reducible exact HR277_0.out) | (with_reducible refine Kd.C_alloc ?_ _) | (with_reducible refine Kd.C_drewN ?_ _) | (with_reducible refine Kd.C_drew ?_) | exact HR277_0.out)) | (with_reducible refine Kd.C_alloc ?_ _) | (with_reducible refine Kd.C_drewN ?_ _) | (with_reducible refine Kd.C_drew ?_)))
                (case side4 => exact HC277_0.out)
                rintro e w48 ⟨rfl, hb⟩
                have HS0_ := (hb.cell (World.block_lt_of_cell? _ _ (hHeld.1))).trans (hHeld.1)
                have HS1_ := (hb.cell (World.block_lt_of_cell? _ _ (hHeld.2))).trans (hHeld.2)
                refine ⟨_, rfl, ?_⟩
                have n0_ := Aside0.mk (Kd.V_below (by (with_reducible repeat (first | apply Kd.V_alloc | apply Kd.V_drewN | apply Kd.V_drew)); exact HO_8.out) hb)
                have n1_ := Aside0.mk (Kd.N_below (by (with_reducible repeat (first | apply Kd.N_alloc | apply Kd.N_drewN | apply Kd.N_drew)); exact HO_13.out) hb)
                have n2_ := Aside0.mk (Kd.V_below (by (with_reducible repeat (first | apply Kd.V_alloc | apply Kd.V_drewN | apply Kd.V_drew)); exact HL276_0.out) hb)
                have n3_ := Aside0.mk (Kd.V_below (by (with_reducible repeat (first | apply Kd.V_alloc | apply Kd.V_drewN | apply Kd.V_drew)); exact HL277_0.out) hb)
                have n4_ := Aside0.mk (blk_below (g := gb261) (o := .cells #[.string a0_0, .slice A0_1 l0_1.length c0_1] 24 (0, 0)) (bk7_ BK261) hb)
                have n5_ := Aside0.mk (blk_below (g := gb262) (o := .cells #[.string a1_0, .string a1_1, .int .i64 a1_2, .int .i64 a1_3, .slice A1_4 l1_4.length c1_4, .int .i64 a1_5, .int .i64 a1_6] 37 (0, 0)) (bk7_ BK262) hb)
                have n6_ := Aside0.mk (Kd.C_below (by repeat (first | (with_reducible exact HR276_0.out) | (with_reducible refine Kd.C_alloc ?_ _) | (with_reducible refine Kd.C_drewN ?_ _) | (with_reducible refine Kd.C_drew ?_) | exact HR276_0.out)) hb)
                have n7_ := Aside0.mk (Kd.C_below (by repeat (first | (with_reducible exact HR277_0.out) | (with_reducible refine Kd.C_alloc ?_ _) | (with_reducible refine Kd.C_drewN ?_ _) | (with_reducible refine Kd.C_drew ?_) | exact HR277_0.out)) hb)
                have n8_ := Aside0.mk (below_step (bh7_ HB) hb)
                clear HO_8
                clear HO_13
                clear HL276_0
                clear HL277_0
                clear BK261
                clear BK262
                clear HR276_0
                clear HR277_0
                clear HB
                have HO_8 := n0_
                have HO_13 := n1_
                have HL276_0 := n2_
                have HL277_0 := n3_
                have BK261 := n4_
                have BK262 := n5_
                have HR276_0 := n6_
                have HR277_0 := n7_
                have HB := n8_
                clear n0_ n1_ n2_ n3_ n4_ n5_ n6_ n7_ n8_
                (try clear hb)
                (try clear hb2)
                (try clear hk)
                (try clear hi)
                refine hK.out _ _ ⟨HS0_, HS1_⟩ (fun hHeld => ?_)
                clear hK K
                refine norm_ (a' := ?_) ?_ ?_
                rotate_left
                ·show Act.put _ (some 54) _ = _
                 simp only [Act.put, List.setIfInBounds_toArray, List.set_cons_zero, List.set_cons_succ, i64_w, i32_w]
                 rfl
                refine pure_ (i := 13) (N := some 55) (v := ?_) (a' := ?_) #[true, true, true, true, true, true, true, true, true, true, true, true, true, true, false] rfl rfl (any_of HT_.out (by kernel_rfl)) (fun _ _ _ h => h) (Or.inl ⟨by rfl, ?_⟩) ?_ ?_
                rotate_left
                ·intro w'
                 go_simp
                 with_reducible rfl
                rotate_left
                ·simp only [Act.put, List.setIfInBounds_toArray, List.set_cons_zero, List.set_cons_succ, i64_w, i32_w]
                 rfl
                refine pure_ (i := 14) (N := some 56) (v := ?_) (a' := ?_) #[true, true, true, true, true, true, true, true, true, true, true, true, true, true, true] rfl rfl (any_of HT_.out (by kernel_rfl)) (fun _ _ _ h => h) (Or.inl ⟨by rfl, ?_⟩) ?_ ?_
                rotate_left
                ·intro w'
                 go_simp
                 with_reducible rfl
                rotate_left
                ·simp only [Act.put, List.setIfInBounds_toArray, List.set_cons_zero, List.set_cons_succ, i64_w, i32_w]
                 rfl
                refine done_ (done_of HT_.out (by kernel_rfl)) ?_
                have hnb49 := NB262_261.out
                have hnc49 := NB261_262.out
                have hcz50_0 : w48.cell? ⟨gb262, 0, none⟩ = some (.string a1_0) := (blk_cell BK262.out 0).trans rfl
                have hcz50_1 : w48.cell? ⟨gb262, 1, none⟩ = some (.string a1_1) := (blk_cell BK262.out 1).trans rfl
                have hcz50_2 : w48.cell? ⟨gb262, 2, none⟩ = some (.int .i64 a1_2) := (blk_cell BK262.out 2).trans rfl
                have hcz50_3 : w48.cell? ⟨gb262, 3, none⟩ = some (.int .i64 a1_3) := (blk_cell BK262.out 3).trans rfl
                have hcz50_4 : w48.cell? ⟨gb262, 4, none⟩ = some (.slice A1_4 l1_4.length c1_4) := (blk_cell BK262.out 4).trans rfl
                have hcz50_5 : w48.cell? ⟨gb262, 5, none⟩ = some (.int .i64 a1_5) := (blk_cell BK262.out 5).trans rfl
                have hcz50_6 : w48.cell? ⟨gb262, 6, none⟩ = some (.int .i64 a1_6) := (blk_cell BK262.out 6).trans rfl
                have hfz50_0 := blk_frozen BK262.out 0
                have hfz50_1 := blk_frozen BK262.out 1
                have hfz50_2 := blk_frozen BK262.out 2
                have hfz50_3 := blk_frozen BK262.out 3
                have hfz50_4 := blk_frozen BK262.out 4
                have hfz50_5 := blk_frozen BK262.out 5
                have hfz50_6 := blk_frozen BK262.out 6
                have q51 : (x14_3 : Int) ≤ ((x8_2.length : Int) : Int) := of_decide_eq_true (by first | (with_reducible assumption) | assumption)
                obtain ⟨i051, hi051, _, hsz51, _⟩ := info_parts info41
                have hroom51 : x8_2.length ≤ co33 := (Kd.V_reads' HO_8.out).2.1
                have hC51 : Kd.F (Kd.slice 47 k47) _ _ (some ad276) x8_2.length x8_2 := (Kd.V_at (base := w.heap.size) HO_8.out).2.2
                have hcut51 := cut_to (P := Try.prog) 30 41 .i64 Try.underlying30 hi051 (some ad276) x8_2.length co33 x14_3 (of_decide_eq_true (by first | (with_reducible assumption) | assumption)) q51 hroom51
                have hr51 := Kd.F_take (m := (x14_3 : Int).toNat) hC51 (by omega)
                have hy51 : y279.length = (x14_3 : Int).toNat := (by rw [Ny279.out, List.length_take]; omega)
                rw [← Ny279.out] at hr51
                rw [← hy51] at hcut51
                have HO283 := Aside0.mk (show Kd.V (Kd.slice 47 k47) 41 _ w.heap.size _ (.slice (some ad276) y279.length co33) y279 from Kd.V_mk (by omega) hr51)
                have HC283 := Aside0.mk (show y279.length ≤ co33 from by omega)
                clear hr51 hC51 hroom51 hi051 hsz51
                have KY51 := Aside0.mk hy51
                clear hy51
                replace q51 := eq_true q51
                try go_wp2_with (first | ((with_reducible refine gate_builtin (b := .append) (xs := #[.tmp 63, .tmp 66]) rfl ?_); at_builtin; refine Kd.N_append_rows (Kd.slice 47 k47) (w0 := w) w.heap.size rfl (.tmp 63) (.tmp 66) 30 41 (.slice none 0 0) 24 rfl Try.underlying30 info41 rfl (by decide) (by omega) u13 x13_2 y279 _ _ _ (fun k_ => (w.heap.size ≤ k_) ∧ k_ ≠ gb261 ∧ k_ ≠ gb262) (fun k_ => ((fun k_ => (w.heap.size ≤ k_) ∧ k_ ≠ gb261 ∧ k_ ≠ gb262)) k_ ∧ some k_ ≠ (u13 : Value).ownBlock) rfl rfl ?aO ?aR (fun _ hk => hk) ?aF ?aB ?aS ?aL ?_; (case aR => exact (by skip; exact Kd.V_F (Kd.V_mono (ok' := (fun k_ => ((fun k_ => (w.heap.size ≤ k_) ∧ k_ ≠ gb261 ∧ k_ ≠ gb262)) k_ ∧ some k_ ≠ (u13 : Value).ownBlock)) (HO283.out) (fun k_ hk => ⟨⟨hk.1, ⟨hk.2.2.1, hk.2.2.2⟩⟩, hk.2.1⟩)))); (case aB => exact (bh7_ HB)); (case aF => exact (fun k_ hk => ⟨(Nat.le_trans (below_size (bh7_ HB)) hk), Kd.freshB (g := gb261) (o := .cells #[.string a0_0, .slice A0_1 l0_1.length c0_1] 24 (0, 0)) (bk7_ BK261) k_ hk, Kd.freshB (g := gb262) (o := .cells #[.string a1_0, .string a1_1, .int .i64 a1_2, .int .i64 a1_3, .slice A1_4 l1_4.length c1_4, .int .i64 a1_5, .int .i64 a1_6] 37 (0, 0)) (bk7_ BK262) k_ hk⟩)); (case aO => exact (by (with_reducible repeat (first | apply Kd.N_alloc | apply Kd.N_drewN | apply Kd.N_drew)); exact HO_13.out)); (case aS => exact (below_size (bh7_ HB))); (case aL => have := LMc44.out; omega); intro v285 w52 ho hb hg hat; rw [← Ny284.out] at ho; have n0_ := Aside0.mk (Kd.V_afterv (ok := (fun k_ => (w.heap.size ≤ k_) ∧ k_ ≠ gb261 ∧ k_ ≠ gb262)) (by (with_reducible repeat (first | apply Kd.V_alloc | apply Kd.V_drewN | apply Kd.V_drew)); exact Kd.V_mono HO_8.out (fun _ hk => ⟨⟨hk.1, ⟨hk.2.2.1, hk.2.2.2⟩⟩, hk.2.1⟩)) hg hat); have n1_ := Aside0.mk (blk_grown (g := gb261) (o := .cells #[.string a0_0, .slice A0_1 l0_1.length c0_1] 24 (0, 0)) (bk7_ BK261) hg (Kd.N_ne HO_13.out BK261.out (by decide))); have n2_ := Aside0.mk (blk_grown (g := gb262) (o := .cells #[.string a1_0, .string a1_1, .int .i64 a1_2, .int .i64 a1_3, .slice A1_4 l1_4.length c1_4, .int .i64 a1_5, .int .i64 a1_6] 37 (0, 0)) (bk7_ BK262) hg (Kd.N_ne HO_13.out BK262.out (by decide))); have n3_ := Aside0.mk (Kd.V_afterv (ok := (fun k_ => (w.heap.size ≤ k_) ∧ k_ ≠ gb261 ∧ k_ ≠ gb262)) (by (with_reducible repeat (first | apply Kd.V_alloc | apply Kd.V_drewN | apply Kd.V_drew)); exact Kd.V_mono HL276_0.out (fun _ hk => ⟨⟨hk.1, ⟨hk.2.2.1, hk.2.2.2⟩⟩, hk.2.1⟩)) hg hat); have n4_ := Aside0.mk (Kd.V_afterv (ok := (fun k_ => (w.heap.size ≤ k_) ∧ k_ ≠ gb261 ∧ k_ ≠ gb262)) (by (with_reducible repeat (first | apply Kd.V_alloc | apply Kd.V_drewN | apply Kd.V_drew)); exact Kd.V_mono HL277_0.out (fun _ hk => ⟨⟨hk.1, ⟨hk.2.2.1, hk.2.2.2⟩⟩, hk.2.1⟩)) hg hat); have n5_ := Aside0.mk (Kd.V_afterv (ok := (fun k_ => (w.heap.size ≤ k_) ∧ k_ ≠ gb261 ∧ k_ ≠ gb262)) (by (with_reducible repeat (first | apply Kd.V_alloc | apply Kd.V_drewN | apply Kd.V_drew)); exact Kd.V_mono HO283.out (fun _ hk => ⟨⟨hk.1, ⟨hk.2.2.1, hk.2.2.2⟩⟩, hk.2.1⟩)) hg hat); have n6_ := Aside0.mk (hb); have n7_ := Aside0.mk (ho); clear HO_8; clear BK261; clear BK262; clear HL276_0; clear HL277_0; clear HO283; clear HB; clear HO_13; have HO_8 := n0_; have BK261 := n1_; have BK262 := n2_; have HL276_0 := n3_; have HL277_0 := n4_; have HO283 := n5_; have HB := n6_; have HO286 := n7_; clear n0_ n1_ n2_ n3_ n4_ n5_ n6_ n7_; clear ho hb hg hat; have q53 : (x14_3 : Int) ≤ ((x8_2.length : Int) : Int) := of_decide_eq_true (by first | (with_reducible assumption) | assumption); obtain ⟨i053, hi053, _, hsz53, _⟩ := info_parts info41; have hroom53 : x8_2.length ≤ co33 := (Kd.V_reads' HO_8.out).2.1; have hC53 : Kd.F (Kd.slice 47 k47) _ _ (some ad276) x8_2.length x8_2 := (Kd.V_at (base := w.heap.size) HO_8.out).2.2; have q053 : (0 : Int) ≤ (x14_3 : Int) := of_decide_eq_true (by first | (with_reducible assumption) | assumption); have hcut53 := cut_from (P := Try.prog) 30 41 .i64 Try.underlying30 hi053 1 hsz53 (some ad276) x8_2.length co33 x14_3 q053 q53; have hr53 := Kd.F_cut (m := (x14_3 : Int).toNat) (c := co33) hC53 (by omega) hroom53; obtain ⟨A53, hA53⟩ : ∃ A1, A1 = (if co33 = (x14_3 : Int).toNat then (some ad276) else ((some ad276) : Option Addr).map (·.add ((x14_3 : Int).toNat * 1))) := ⟨_, rfl⟩; obtain ⟨c53, hc53⟩ : ∃ c1, c1 = co33 - (x14_3 : Int).toNat := ⟨_, rfl⟩; have hy53 : y287.length = x8_2.length - (x14_3 : Int).toNat := (by rw [Ny287.out, List.length_drop] <;> omega); rw [show (x8_2).drop (x14_3 : Int).toNat = y287 from Ny287.out.symm] at hr53; replace hr53 : Kd.F (Kd.slice 47 k47) _ _ A53 y287.length y287 := (by rw [hA53]; exact hr53); rw [← hy53, ← hA53, ← hc53] at hcut53; have HO291 := Aside0.mk (show Kd.V (Kd.slice 47 k47) 41 _ w.heap.size _ (.slice A53 y287.length c53) y287 from Kd.V_mk (by rw [hy53, hc53]; exact Nat.sub_le_sub_right hroom53 _) hr53); have HC291 := Aside0.mk (show y287.length ≤ c53 from by rw [hy53, hc53]; exact Nat.sub_le_sub_right hroom53 _); clear hr53 hC53 hroom53 hi053 hsz53 hc53; have KY53 := Aside0.mk hy53; have KA53 := Aside0.mk hA53; clear hy53 hA53; replace q53 := eq_true q53))
                go_roundg k3
                case measure => have := HK1.out; have := HK2.out; have := HK3.out; omega
                case rel => exact ⟨(y287), (y284), H', ⟨by have := HK1.out; have := HK2.out; have := HK3.out; omega⟩, ⟨by (with_reducible repeat (first | apply Kd.V_alloc | apply Kd.V_drewN | apply Kd.V_drew)); exact Kd.V_mono HO291.out (fun _ hk => ⟨hk.1.1, ⟨hk.2, ⟨hk.1.2.1, hk.1.2.2⟩⟩⟩)⟩, ⟨by (with_reducible repeat (first | apply Kd.N_alloc | apply Kd.N_drewN | apply Kd.N_drew)); exact HO286.out⟩, ⟨bk7_ BK261⟩, ⟨bk7_ BK262⟩, ⟨by repeat (first | (with_reducible first | exact HB.out | apply below_alloc | apply pw_below_drewN | apply below_drew1 | refine below_set ?_ GE261.out | refine below_set ?_ GE262.out) | exact HB.out | exact below_undrew HB.out)⟩⟩
               ·rw [if_neg c44] at H
                exact absurd H (by simp)
              ·rw [if_neg c43] at H
               exact absurd H (by simp)
             ·rw [if_neg c41] at H
              have c41b0 : decide (a1_5 ≤ x14_3) = false := decide_eq_false c41
              clear c41
              have c54b0 := eq_true (of_decide_eq_true (by first | (with_reducible assumption) | assumption) : 0 ≤ x14_3)
              by_cases c55 : x14_3 ≤ (x8_2.length : Int)
              ·rw [if_pos c55] at H
               have c55b0 := eq_true c55
               have c55b1 : decide (x14_3 ≤ (x8_2.length : Int)) = true := decide_eq_true c55
               clear c55
               obtain ⟨y292, hy292⟩ : ∃ y_ : List (List (S47)), y_ = (x8_2.drop (x14_3 : Int).toNat) := ⟨_, rfl⟩
               replace H : (guard_Release.l1 k3 y292 x13_2 a1_0 a1_1 a1_2 a1_3 l1_4 a1_5 a1_6) = some (r1, r2) := by first | (rw [hy292]; with_reducible exact H) | (have H2_ := (Option.bind_some _ _).symm.trans H; rw [hy292]; with_reducible exact H2_) | (have H2_ := (Option.bind_some _ _).symm.trans H; with_reducible exact H2_) | with_reducible exact H | (rw [hy292]; exact H) | exact H
               have Ny292 := Aside0.mk hy292
               clear hy292
               have H' := Aside0.mk H
               clear H
               try go_wp2
               have n0_ := Aside0.mk (Kd.V_drew HO_8.out)
               have n1_ := Aside0.mk (Kd.N_drew HO_13.out)
               have n2_ := Aside0.mk (blk_drew BK261.out)
               have n3_ := Aside0.mk (blk_drew BK262.out)
               have n4_ := Aside0.mk (below_drew1 HB.out)
               clear HO_8
               clear HO_13
               clear BK261
               clear BK262
               clear HB
               have HO_8 := n0_
               have HO_13 := n1_
               have BK261 := n2_
               have BK262 := n3_
               have HB := n4_
               clear n0_ n1_ n2_ n3_ n4_
               have p276 : 0 ≤ (0 : Int) := (by omega)
               have q276 : 0 < (x8_2.length : Int) := of_decide_eq_true (by first | (with_reducible assumption) | assumption)
               obtain ⟨ad276, A276_0, c276_0, e276, hx276_0, hl276_0, hi276_0⟩ := at_L8 (Kd.V_reads' HO_8.out).2.2 0 p276 q276
               cases e276
               obtain ⟨ce276, hce276, hMe276, hcc276⟩ := Kd.V_get HO_8.out [] 0 p276 (by first | exact q276 | exact of_decide_eq_true (by first | (with_reducible assumption) | assumption) | (have e_ := (Kd.V_reads' HO_8.out).1; omega))
               obtain ⟨ua276_0, uc276_0, rfl, ul276_0, ge276_0⟩ := Kd.FK_slice_open hMe276
               have hv276_0 := hcc276 0 _ rfl
               rw [Nat.add_zero, show ((Kd.slice 47 k47)).sz = 1 from rfl, Nat.mul_one] at hv276_0
               replace hv276_0 := Option.some.inj (hv276_0.symm.trans hx276_0)
               injection hv276_0 with hva_ hvn_ hvc_
               rw [hva_] at ge276_0
               rw [hvc_] at ul276_0
               have HL276_0 := Aside0.mk (show Kd.V k47 47 _ w.heap.size _ _ (rd_L8 x8_2 0) from Kd.V_mk ul276_0 ge276_0)
               clear hva_ hvn_ hvc_ ge276_0 ul276_0
               clear hcc276 hce276
               have qi276 : (0 < x8_2.length) = True := eq_true (by omega)
               (try rw [show ((0 : Int)).toNat = 0 from rfl] at hx276_0)
               (try rw [Addr.add_zero'] at hx276_0)
               have HR276_0 := Aside0.mk hi276_0
               have HC276_0 := Aside0.mk hl276_0
               clear hi276_0 hl276_0
               replace p276 := eq_true p276
               replace q276 := eq_true q276
               have p277 : 0 ≤ (x14_3 : Int) := of_decide_eq_true (by first | (with_reducible assumption) | assumption)
               have q277 : x14_3 < (x8_2.length : Int) := of_decide_eq_true (by first | (with_reducible assumption) | assumption)
               obtain ⟨ad277, A277_0, c277_0, e277, hx277_0, hl277_0, hi277_0⟩ := at_L8 (Kd.V_reads' HO_8.out).2.2 x14_3 p277 q277
               obtain rfl : ad276 = ad277 := (by injection e277)
               obtain ⟨ce277, hce277, hMe277, hcc277⟩ := Kd.V_get HO_8.out [] x14_3 p277 (by first | exact q277 | exact of_decide_eq_true (by first | (with_reducible assumption) | assumption) | (have e_ := (Kd.V_reads' HO_8.out).1; omega))
               obtain ⟨ua277_0, uc277_0, rfl, ul277_0, ge277_0⟩ := Kd.FK_slice_open hMe277
               have hv277_0 := hcc277 0 _ rfl
               rw [Nat.add_zero, show ((Kd.slice 47 k47)).sz = 1 from rfl, Nat.mul_one] at hv277_0
               replace hv277_0 := Option.some.inj (hv277_0.symm.trans hx277_0)
               injection hv277_0 with hva_ hvn_ hvc_
               rw [hva_] at ge277_0
               rw [hvc_] at ul277_0
               have HL277_0 := Aside0.mk (show Kd.V k47 47 _ w.heap.size _ _ (rd_L8 x8_2 x14_3) from Kd.V_mk ul277_0 ge277_0)
               clear hva_ hvn_ hvc_ ge277_0 ul277_0
               clear hcc277 hce277
               have HR277_0 := Aside0.mk hi277_0
               have HC277_0 := Aside0.mk hl277_0
               clear hi277_0 hl277_0
               replace p277 := eq_true p277
               replace q277 := eq_true q277
               refine start_ (n := 15) (S := fun w' => w'.cell? ad276 = some (.slice A276_0 (rd_L8 x8_2 0).length c276_0) ∧ w'.cell? (ad276.add (x14_3).toNat) = some (.slice A277_0 (rd_L8 x8_2 x14_3).length c277_0)) (ds := []) #[false, false, false, false, false, false, false, false, false, false, false, false, false, false, false] (by kernel_rfl) rfl rfl ⟨hx276_0, hx277_0⟩ (fun hHeld => ?_); refine with_tabW guard_Release.tab14 guard_Release.bits14 (fun HT_ HW_ => ?_)
               generalize wr.drew = w56 at HO_8 HO_13 BK261 BK262 HB HL276_0 HL277_0 HR276_0 HR277_0 hx276_0 hx277_0 hHeld ⊢
               refine pure_ (i := 0) (N := some 42) (v := ?_) (a' := ?_) #[true, false, false, false, false, false, false, false, false, false, false, false, false, false, false] rfl rfl (any_of HT_.out (by kernel_rfl)) (fun _ _ _ h => h) (Or.inl ⟨by rfl, ?_⟩) ?_ ?_
               rotate_left
               ·intro w'
                go_simp
                with_reducible rfl
               rotate_left
               ·simp only [Act.put, List.setIfInBounds_toArray, List.set_cons_zero, List.set_cons_succ, i64_w, i32_w]
                rfl
               refine pure_ (i := 1) (N := some 43) (v := ?_) (a' := ?_) #[true, true, false, false, false, false, false, false, false, false, false, false, false, false, false] rfl rfl (any_of HT_.out (by kernel_rfl)) (fun _ _ _ h => h) (Or.inl ⟨by rfl, ?_⟩) ?_ ?_
               rotate_left
               ·intro w'
                go_simp
                with_reducible rfl
               rotate_left
               ·simp only [Act.put, List.setIfInBounds_toArray, List.set_cons_zero, List.set_cons_succ, i64_w, i32_w]
                rfl
               refine pure_ (i := 2) (N := some 44) (v := ?_) (a' := ?_) #[true, true, true, false, false, false, false, false, false, false, false, false, false, false, false] rfl rfl (any_of HT_.out (by kernel_rfl)) (fun _ _ _ h => h) (Or.inl ⟨by rfl, ?_⟩) ?_ ?_
               rotate_left
               ·intro w'
                go_simp
                with_reducible rfl
               rotate_left
               ·simp only [Act.put, List.setIfInBounds_toArray, List.set_cons_zero, List.set_cons_succ, i64_w, i32_w]
                rfl
               refine pure_ (i := 3) (N := some 45) (v := ?_) (a' := ?_) #[true, true, true, true, false, false, false, false, false, false, false, false, false, false, false] rfl rfl (any_of HT_.out (by kernel_rfl)) (fun _ _ _ h => h) (Or.inl ⟨by rfl, ?_⟩) ?_ ?_
               rotate_left
               ·intro w'
                go_simp
                with_reducible rfl
               rotate_left
               ·simp only [Act.put, List.setIfInBounds_toArray, List.set_cons_zero, List.set_cons_succ, i64_w, i32_w]
                rfl
               refine pure_ (i := 4) (N := some 46) (v := ?_) (a' := ?_) #[true, true, true, true, true, false, false, false, false, false, false, false, false, false, false] rfl rfl (any_of HT_.out (by kernel_rfl)) (fun _ _ _ h => h) (Or.inl ⟨by rfl, ?_⟩) ?_ ?_
               rotate_left
               ·intro w'
                go_simp
                with_reducible rfl
               rotate_left
               ·simp only [Act.put, List.setIfInBounds_toArray, List.set_cons_zero, List.set_cons_succ, i64_w, i32_w]
                rfl
               refine pure_ (i := 5) (N := some 47) (v := ?_) (a' := ?_) #[true, true, true, true, true, true, false, false, false, false, false, false, false, false, false] rfl rfl (any_of HT_.out (by kernel_rfl)) (fun _ _ _ h => h) (Or.inl ⟨by rfl, ?_⟩) ?_ ?_
               rotate_left
               ·intro w'
                go_simp
                with_reducible rfl
               rotate_left
               ·simp only [Act.put, List.setIfInBounds_toArray, List.set_cons_zero, List.set_cons_succ, i64_w, i32_w]
                rfl
               refine pure_ (i := 6) (N := some 48) (v := ?_) (a' := ?_) #[true, true, true, true, true, true, true, false, false, false, false, false, false, false, false] rfl rfl (any_of HT_.out (by kernel_rfl)) (fun _ _ _ h => h) (Or.inl ⟨by rfl, ?_⟩) ?_ ?_
               rotate_left
               ·intro w'
                go_simp
                with_reducible rfl
               rotate_left
               ·simp only [Act.put, List.setIfInBounds_toArray, List.set_cons_zero, List.set_cons_succ, i64_w, i32_w]
                rfl
               refine pure_ (i := 8) (N := some 50) (v := ?_) (a' := ?_) #[true, true, true, true, true, true, true, false, true, false, false, false, false, false, false] rfl rfl (any_of HT_.out (by kernel_rfl)) (fun _ _ _ h => h) (Or.inl ⟨by rfl, ?_⟩) ?_ ?_
               rotate_left
               ·intro w'
                go_simp
                with_reducible rfl
               rotate_left
               ·simp only [Act.put, List.setIfInBounds_toArray, List.set_cons_zero, List.set_cons_succ, i64_w, i32_w]
                rfl
               refine pure_ (i := 9) (N := some 51) (v := ?_) (a' := ?_) #[true, true, true, true, true, true, true, false, true, true, false, false, false, false, false] rfl rfl (any_of HT_.out (by kernel_rfl)) (fun _ _ _ h => h) (Or.inl ⟨by rfl, ?_⟩) ?_ ?_
               rotate_left
               ·intro w'
                go_simp
                with_reducible rfl
               rotate_left
               ·simp only [Act.put, List.setIfInBounds_toArray, List.set_cons_zero, List.set_cons_succ, i64_w, i32_w]
                rfl
               refine pure_ (i := 10) (N := some 52) (v := ?_) (a' := ?_) #[true, true, true, true, true, true, true, false, true, true, true, false, false, false, false] rfl rfl (any_of HT_.out (by kernel_rfl)) (fun _ _ _ h => h) (Or.inl ⟨by rfl, ?_⟩) ?_ ?_
               rotate_left
               ·intro w'
                go_simp
                with_reducible rfl
               rotate_left
               ·simp only [Act.put, List.setIfInBounds_toArray, List.set_cons_zero, List.set_cons_succ, i64_w, i32_w]
                rfl
               refine take_ (i := 7) (N := some 49) (v := ?_) (a' := ?_) #[true, true, true, true, true, true, true, true, true, true, true, false, false, false, false] rfl rfl (take_ofW HT_.out HW_.out (by kernel_rfl)) (fun _ _ _ h => h) (Or.inl ⟨by rfl, ?_⟩) hHeld ?_ ?_
               rotate_left
               ·rintro w' ⟨s0, s1⟩
                go_simp
                with_reducible rfl
               rotate_left
               ·simp only [Act.put, List.setIfInBounds_toArray, List.set_cons_zero, List.set_cons_succ, i64_w, i32_w]
                rfl
               refine take_ (i := 11) (N := some 53) (v := ?_) (a' := ?_) #[true, true, true, true, true, true, true, true, true, true, true, true, false, false, false] rfl rfl (take_ofW HT_.out HW_.out (by kernel_rfl)) (fun _ _ _ h => h) (Or.inl ⟨by rfl, ?_⟩) hHeld ?_ ?_
               rotate_left
               ·rintro w' ⟨s0, s1⟩
                go_simp
                with_reducible rfl
               rotate_left
               ·simp only [Act.put, List.setIfInBounds_toArray, List.set_cons_zero, List.set_cons_succ, i64_w, i32_w]
                rfl
               refine one_ (i := 12) (N := some 54) #[true, true, true, true, true, true, true, true, true, true, true, true, true, false, false] rfl rfl (one_of HT_.out (by kernel_rfl)) (by decide) (fun K hK => ?_)
               refine goes_ Try.func14 (by kernel_rfl) rfl #[.slice A276_0 (rd_L8 x8_2 0).length c276_0, .slice A277_0 (rd_L8 x8_2 x14_3).length c277_0] (by rfl) rfl rfl (by (try simp only [List.map_toArray, List.map_cons, List.map_nil]); first | done | rfl | (simp only [List.length_drop, List.length_take]; rfl)) ?_
               with_reducible refine (order_Compare.calls k3 _ _ (rd_L8 x8_2 0) _ _ (rd_L8 x8_2 x14_3) t278 _ ?side1 ?side2 ?side3 ?side4 A37.out).mono ?_
               (case side1 => repeat (first | exact (by repeat (first | (with_reducible exact HR276_0.out) | (with_reducible refine Kd.C_alloc ?_ _) | (with_reducible refine Kd.C_drewN ?_ _) | (with_reducible refine Kd.C_drew ?_) | exact HR276_0.out)) | (with_reducible refine Kd.C_alloc ?_ _) | (with_reducible refine Kd.C_drewN ?_ _) | (with_reducible refine Kd.C_drew ?_)))
               (case side2 => exact HC276_0.out)
               (case side3 => repeat (first | exact (by repeat (first | (with_reducible exact HR277_0.out) | (with_reducible refine Kd.C_alloc ?_ _) | (with_reducible refine Kd.C_drewN ?_ _) | (with_reducible refine Kd.C_drew ?_) | exact HR277_0.out)) | (with_reducible refine Kd.C_alloc ?_ _) | (with_reducible refine Kd.C_drewN ?_ _) | (with_reducible refine Kd.C_drew ?_)))
               (case side4 => exact HC277_0.out)
               rintro e w57 ⟨rfl, hb⟩
               have HS0_ := (hb.cell (World.block_lt_of_cell? _ _ (hHeld.1))).trans (hHeld.1)
               have HS1_ := (hb.cell (World.block_lt_of_cell? _ _ (hHeld.2))).trans (hHeld.2)
               refine ⟨_, rfl, ?_⟩
               have n0_ := Aside0.mk (Kd.V_below (by (with_reducible repeat (first | apply Kd.V_alloc | apply Kd.V_drewN | apply Kd.V_drew)); exact HO_8.out) hb)
               have n1_ := Aside0.mk (Kd.N_below (by (with_reducible repeat (first | apply Kd.N_alloc | apply Kd.N_drewN | apply Kd.N_drew)); exact HO_13.out) hb)
               have n2_ := Aside0.mk (Kd.V_below (by (with_reducible repeat (first | apply Kd.V_alloc | apply Kd.V_drewN | apply Kd.V_drew)); exact HL276_0.out) hb)
               have n3_ := Aside0.mk (Kd.V_below (by (with_reducible repeat (first | apply Kd.V_alloc | apply Kd.V_drewN | apply Kd.V_drew)); exact HL277_0.out) hb)
               have n4_ := Aside0.mk (blk_below (g := gb261) (o := .cells #[.string a0_0, .slice A0_1 l0_1.length c0_1] 24 (0, 0)) (bk7_ BK261) hb)
               have n5_ := Aside0.mk (blk_below (g := gb262) (o := .cells #[.string a1_0, .string a1_1, .int .i64 a1_2, .int .i64 a1_3, .slice A1_4 l1_4.length c1_4, .int .i64 a1_5, .int .i64 a1_6] 37 (0, 0)) (bk7_ BK262) hb)
               have n6_ := Aside0.mk (Kd.C_below (by repeat (first | (with_reducible exact HR276_0.out) | (with_reducible refine Kd.C_alloc ?_ _) | (with_reducible refine Kd.C_drewN ?_ _) | (with_reducible refine Kd.C_drew ?_) | exact HR276_0.out)) hb)
               have n7_ := Aside0.mk (Kd.C_below (by repeat (first | (with_reducible exact HR277_0.out) | (with_reducible refine Kd.C_alloc ?_ _) | (with_reducible refine Kd.C_drewN ?_ _) | (with_reducible refine Kd.C_drew ?_) | exact HR277_0.out)) hb)
               have n8_ := Aside0.mk (below_step (bh7_ HB) hb)
               clear HO_8
               clear HO_13
               clear HL276_0
               clear HL277_0
               clear BK261
               clear BK262
               clear HR276_0
               clear HR277_0
               clear HB
               have HO_8 := n0_
               have HO_13 := n1_
               have HL276_0 := n2_
               have HL277_0 := n3_
               have BK261 := n4_
               have BK262 := n5_
               have HR276_0 := n6_
               have HR277_0 := n7_
               have HB := n8_
               clear n0_ n1_ n2_ n3_ n4_ n5_ n6_ n7_ n8_
               (try clear hb)
               (try clear hb2)
               (try clear hk)
               (try clear hi)
               refine hK.out _ _ ⟨HS0_, HS1_⟩ (fun hHeld => ?_)
               clear hK K
               refine norm_ (a' := ?_) ?_ ?_
               rotate_left
               ·show Act.put _ (some 54) _ = _
                simp only [Act.put, List.setIfInBounds_toArray, List.set_cons_zero, List.set_cons_succ, i64_w, i32_w]
                rfl
               refine pure_ (i := 13) (N := some 55) (v := ?_) (a' := ?_) #[true, true, true, true, true, true, true, true, true, true, true, true, true, true, false] rfl rfl (any_of HT_.out (by kernel_rfl)) (fun _ _ _ h => h) (Or.inl ⟨by rfl, ?_⟩) ?_ ?_
               rotate_left
               ·intro w'
                go_simp
                with_reducible rfl
               rotate_left
               ·simp only [Act.put, List.setIfInBounds_toArray, List.set_cons_zero, List.set_cons_succ, i64_w, i32_w]
                rfl
               refine pure_ (i := 14) (N := some 56) (v := ?_) (a' := ?_) #[true, true, true, true, true, true, true, true, true, true, true, true, true, true, true] rfl rfl (any_of HT_.out (by kernel_rfl)) (fun _ _ _ h => h) (Or.inl ⟨by rfl, ?_⟩) ?_ ?_
               rotate_left
               ·intro w'
                go_simp
                with_reducible rfl
               rotate_left
               ·simp only [Act.put, List.setIfInBounds_toArray, List.set_cons_zero, List.set_cons_succ, i64_w, i32_w]
                rfl
               refine done_ (done_of HT_.out (by kernel_rfl)) ?_
               have hnb58 := NB262_261.out
               have hnc58 := NB261_262.out
               have hcz59_0 : w57.cell? ⟨gb262, 0, none⟩ = some (.string a1_0) := (blk_cell BK262.out 0).trans rfl
               have hcz59_1 : w57.cell? ⟨gb262, 1, none⟩ = some (.string a1_1) := (blk_cell BK262.out 1).trans rfl
               have hcz59_2 : w57.cell? ⟨gb262, 2, none⟩ = some (.int .i64 a1_2) := (blk_cell BK262.out 2).trans rfl
               have hcz59_3 : w57.cell? ⟨gb262, 3, none⟩ = some (.int .i64 a1_3) := (blk_cell BK262.out 3).trans rfl
               have hcz59_4 : w57.cell? ⟨gb262, 4, none⟩ = some (.slice A1_4 l1_4.length c1_4) := (blk_cell BK262.out 4).trans rfl
               have hcz59_5 : w57.cell? ⟨gb262, 5, none⟩ = some (.int .i64 a1_5) := (blk_cell BK262.out 5).trans rfl
               have hcz59_6 : w57.cell? ⟨gb262, 6, none⟩ = some (.int .i64 a1_6) := (blk_cell BK262.out 6).trans rfl
               have hfz59_0 := blk_frozen BK262.out 0
               have hfz59_1 := blk_frozen BK262.out 1
               have hfz59_2 := blk_frozen BK262.out 2
               have hfz59_3 := blk_frozen BK262.out 3
               have hfz59_4 := blk_frozen BK262.out 4
               have hfz59_5 := blk_frozen BK262.out 5
               have hfz59_6 := blk_frozen BK262.out 6
               have q60 : (x14_3 : Int) ≤ ((x8_2.length : Int) : Int) := of_decide_eq_true (by first | (with_reducible assumption) | assumption)
               obtain ⟨i060, hi060, _, hsz60, _⟩ := info_parts info41
               have hroom60 : x8_2.length ≤ co33 := (Kd.V_reads' HO_8.out).2.1
               have hC60 : Kd.F (Kd.slice 47 k47) _ _ (some ad276) x8_2.length x8_2 := (Kd.V_at (base := w.heap.size) HO_8.out).2.2
               have q060 : (0 : Int) ≤ (x14_3 : Int) := of_decide_eq_true (by first | (with_reducible assumption) | assumption)
               have hcut60 := cut_from (P := Try.prog) 30 41 .i64 Try.underlying30 hi060 1 hsz60 (some ad276) x8_2.length co33 x14_3 q060 q60
               have hr60 := Kd.F_cut (m := (x14_3 : Int).toNat) (c := co33) hC60 (by omega) hroom60
               obtain ⟨A60, hA60⟩ : ∃ A1, A1 = (if co33 = (x14_3 : Int).toNat then (some ad276) else ((some ad276) : Option Addr).map (·.add ((x14_3 : Int).toNat * 1))) := ⟨_, rfl⟩
               obtain ⟨c60, hc60⟩ : ∃ c1, c1 = co33 - (x14_3 : Int).toNat := ⟨_, rfl⟩
               have hy60 : y292.length = x8_2.length - (x14_3 : Int).toNat := (by rw [Ny292.out, List.length_drop] <;> omega)
               rw [show (x8_2).drop (x14_3 : Int).toNat = y292 from Ny292.out.symm] at hr60
               replace hr60 : Kd.F (Kd.slice 47 k47) _ _ A60 y292.length y292 := (by rw [hA60]; exact hr60)
               rw [← hy60, ← hA60, ← hc60] at hcut60
               have HO296 := Aside0.mk (show Kd.V (Kd.slice 47 k47) 41 _ w.heap.size _ (.slice A60 y292.length c60) y292 from Kd.V_mk (by rw [hy60, hc60]; exact Nat.sub_le_sub_right hroom60 _) hr60)
               have HC296 := Aside0.mk (show y292.length ≤ c60 from by rw [hy60, hc60]; exact Nat.sub_le_sub_right hroom60 _)
               clear hr60 hC60 hroom60 hi060 hsz60 hc60
               have KY60 := Aside0.mk hy60
               have KA60 := Aside0.mk hA60
               clear hy60 hA60
               replace q60 := eq_true q60
               try go_wp2
               go_roundg k3
               case measure => have := HK1.out; have := HK2.out; have := HK3.out; omega
               case rel => exact ⟨(y292), (x13_2), H', ⟨by have := HK1.out; have := HK2.out; have := HK3.out; omega⟩, ⟨by (with_reducible repeat (first | apply Kd.V_alloc | apply Kd.V_drewN | apply Kd.V_drew)); exact HO296.out⟩, ⟨by (with_reducible repeat (first | apply Kd.N_alloc | apply Kd.N_drewN | apply Kd.N_drew)); exact HO_13.out⟩, ⟨bk7_ BK261⟩, ⟨bk7_ BK262⟩, ⟨by repeat (first | (with_reducible first | exact HB.out | apply below_alloc | apply pw_below_drewN | apply below_drew1 | refine below_set ?_ GE261.out | refine below_set ?_ GE262.out) | exact HB.out | exact below_undrew HB.out)⟩⟩
              ·rw [if_neg c55] at H
               exact absurd H (by simp)
           ·rw [if_neg c36] at H
            exact absurd H (by simp)
          ·rw [if_neg c35] at H
           exact absurd H (by simp)
         ·rw [if_neg c34] at H
          have c34b0 : decide (x14_3 < (x8_2.length : Int)) = false := decide_eq_false c34
          clear c34
          by_cases c61 : x14_3 ≥ a1_5
          ·rw [if_pos c61] at H
           have c61b0 : decide (a1_5 ≤ x14_3) = true := decide_eq_true c61
           clear c61
           by_cases c62 : 0 ≤ x14_3
           ·rw [if_pos c62] at H
            have c62b0 := eq_true c62
            have c62b1 : decide (0 ≤ x14_3) = true := decide_eq_true c62
            clear c62
            by_cases c63 : x14_3 ≤ (x8_2.length : Int)
            ·rw [if_pos c63] at H
             have c63b0 := eq_true c63
             have c63b1 : decide (x14_3 ≤ (x8_2.length : Int)) = true := decide_eq_true c63
             clear c63
             obtain ⟨y297, hy297⟩ : ∃ y_ : List (List (S47)), y_ = (x8_2.take (x14_3 : Int).toNat) := ⟨_, rfl⟩
             replace H : (if x13_2.length + y297.length < 5864062014805 then (guard_Release.l1 k3 (x8_2.drop (x14_3 : Int).toNat) (x13_2 ++ y297) a1_0 a1_1 a1_2 a1_3 l1_4 a1_5 a1_6) else (none)) = some (r1, r2) := by first | (rw [hy297]; with_reducible exact H) | (have H2_ := (Option.bind_some _ _).symm.trans H; rw [hy297]; with_reducible exact H2_) | (have H2_ := (Option.bind_some _ _).symm.trans H; with_reducible exact H2_) | with_reducible exact H | (rw [hy297]; exact H) | exact H
             have Ny297 := Aside0.mk hy297
             clear hy297
             by_cases c64 : x13_2.length + y297.length < 5864062014805
             ·rw [if_pos c64] at H
              have LMc64 := Aside0.mk c64
              clear c64
              obtain ⟨y302, hy302⟩ : ∃ y_ : List (List (S47)), y_ = (x13_2 ++ y297) := ⟨_, rfl⟩
              replace H : (guard_Release.l1 k3 (x8_2.drop (x14_3 : Int).toNat) y302 a1_0 a1_1 a1_2 a1_3 l1_4 a1_5 a1_6) = some (r1, r2) := by first | (rw [hy302]; with_reducible exact H) | (have H2_ := (Option.bind_some _ _).symm.trans H; rw [hy302]; with_reducible exact H2_) | (have H2_ := (Option.bind_some _ _).symm.trans H; with_reducible exact H2_) | with_reducible exact H | (rw [hy302]; exact H) | exact H
              have Ny302 := Aside0.mk hy302
              clear hy302
              have c65b0 := eq_true (of_decide_eq_true (by first | (with_reducible assumption) | assumption) : 0 ≤ x14_3)
              have c66b0 := eq_true (of_decide_eq_true (by first | (with_reducible assumption) | assumption) : x14_3 ≤ (x8_2.length : Int))
              obtain ⟨y305, hy305⟩ : ∃ y_ : List (List (S47)), y_ = (x8_2.drop (x14_3 : Int).toNat) := ⟨_, rfl⟩
              replace H : (guard_Release.l1 k3 y305 y302 a1_0 a1_1 a1_2 a1_3 l1_4 a1_5 a1_6) = some (r1, r2) := by first | (rw [hy305]; with_reducible exact H) | (have H2_ := (Option.bind_some _ _).symm.trans H; rw [hy305]; with_reducible exact H2_) | (have H2_ := (Option.bind_some _ _).symm.trans H; with_reducible exact H2_) | with_reducible exact H | (rw [hy305]; exact H) | exact H
              have Ny305 := Aside0.mk hy305
              clear hy305
              have H' := Aside0.mk H
              clear H
              try go_wp2
              have n0_ := Aside0.mk (Kd.V_drew HO_8.out)
              have n1_ := Aside0.mk (Kd.N_drew HO_13.out)
              have n2_ := Aside0.mk (blk_drew BK261.out)
              have n3_ := Aside0.mk (blk_drew BK262.out)
              have n4_ := Aside0.mk (below_drew1 HB.out)
              clear HO_8
              clear HO_13
              clear BK261
              clear BK262
              clear HB
              have HO_8 := n0_
              have HO_13 := n1_
              have BK261 := n2_
              have BK262 := n3_
              have HB := n4_
              clear n0_ n1_ n2_ n3_ n4_
              refine start_ (n := 15) (S := fun w' => True) (ds := []) #[false, false, false, false, false, false, false, false, false, false, false, false, false, false, false] (by kernel_rfl) rfl rfl trivial (fun hHeld => ?_); refine with_tabW guard_Release.tab14 guard_Release.bits14 (fun HT_ HW_ => ?_)
              generalize wr.drew = w67 at HO_8 HO_13 BK261 BK262 HB hHeld ⊢
              refine pure_ (i := 0) (N := some 42) (v := ?_) (a' := ?_) #[true, false, false, false, false, false, false, false, false, false, false, false, false, false, false] rfl rfl (any_of HT_.out (by kernel_rfl)) (fun _ _ _ h => h) (Or.inl ⟨by rfl, ?_⟩) ?_ ?_
              rotate_left
              ·intro w'
               go_simp
               with_reducible rfl
              rotate_left
              ·simp only [Act.put, List.setIfInBounds_toArray, List.set_cons_zero, List.set_cons_succ, i64_w, i32_w]
               rfl
              refine pure_ (i := 1) (N := some 43) (v := ?_) (a' := ?_) #[true, true, false, false, false, false, false, false, false, false, false, false, false, false, false] rfl rfl (any_of HT_.out (by kernel_rfl)) (fun _ _ _ h => h) (Or.inl ⟨by rfl, ?_⟩) ?_ ?_
              rotate_left
              ·intro w'
               go_simp
               with_reducible rfl
              rotate_left
              ·simp only [Act.put, List.setIfInBounds_toArray, List.set_cons_zero, List.set_cons_succ, i64_w, i32_w]
               rfl
              refine pure_ (i := 2) (N := some 44) (v := ?_) (a' := ?_) #[true, true, true, false, false, false, false, false, false, false, false, false, false, false, false] rfl rfl (any_of HT_.out (by kernel_rfl)) (fun _ _ _ h => h) (Or.inl ⟨by rfl, ?_⟩) ?_ ?_
              rotate_left
              ·intro w'
               go_simp
               with_reducible rfl
              rotate_left
              ·simp only [Act.put, List.setIfInBounds_toArray, List.set_cons_zero, List.set_cons_succ, i64_w, i32_w]
               rfl
              refine pure_ (i := 3) (N := some 45) (v := ?_) (a' := ?_) #[true, true, true, true, false, false, false, false, false, false, false, false, false, false, false] rfl rfl (any_of HT_.out (by kernel_rfl)) (fun _ _ _ h => h) (Or.inl ⟨by rfl, ?_⟩) ?_ ?_
              rotate_left
              ·intro w'
               go_simp
               with_reducible rfl
              rotate_left
              ·simp only [Act.put, List.setIfInBounds_toArray, List.set_cons_zero, List.set_cons_succ, i64_w, i32_w]
               rfl
              refine pure_ (i := 4) (N := some 46) (v := ?_) (a' := ?_) #[true, true, true, true, true, false, false, false, false, false, false, false, false, false, false] rfl rfl (any_of HT_.out (by kernel_rfl)) (fun _ _ _ h => h) (Or.inl ⟨by rfl, ?_⟩) ?_ ?_
              rotate_left
              ·intro w'
               go_simp
               with_reducible rfl
              rotate_left
              ·simp only [Act.put, List.setIfInBounds_toArray, List.set_cons_zero, List.set_cons_succ, i64_w, i32_w]
               rfl
              refine pure_ (i := 5) (N := some 47) (v := undef) (a' := ?_) #[true, true, true, true, true, true, false, false, false, false, false, false, false, false, false] rfl rfl (any_of HT_.out (by kernel_rfl)) (fun _ _ _ h => h) (Or.inr ⟨by rfl, rfl⟩) ?_ ?_
              rotate_left
              ·simp only [Act.put, List.setIfInBounds_toArray, List.set_cons_zero, List.set_cons_succ, i64_w, i32_w]
               rfl
              refine pure_ (i := 6) (N := some 48) (v := undef) (a' := ?_) #[true, true, true, true, true, true, true, false, false, false, false, false, false, false, false] rfl rfl (any_of HT_.out (by kernel_rfl)) (fun _ _ _ h => h) (Or.inr ⟨by rfl, rfl⟩) ?_ ?_
              rotate_left
              ·simp only [Act.put, List.setIfInBounds_toArray, List.set_cons_zero, List.set_cons_succ, i64_w, i32_w]
               rfl
              refine pure_ (i := 7) (N := some 49) (v := undef) (a' := ?_) #[true, true, true, true, true, true, true, true, false, false, false, false, false, false, false] rfl rfl (any_of HT_.out (by kernel_rfl)) (fun _ _ _ h => h) (Or.inr ⟨by rfl, rfl⟩) ?_ ?_
              rotate_left
              ·simp only [Act.put, List.setIfInBounds_toArray, List.set_cons_zero, List.set_cons_succ, i64_w, i32_w]
               rfl
              refine pure_ (i := 8) (N := some 50) (v := undef) (a' := ?_) #[true, true, true, true, true, true, true, true, true, false, false, false, false, false, false] rfl rfl (any_of HT_.out (by kernel_rfl)) (fun _ _ _ h => h) (Or.inr ⟨by rfl, rfl⟩) ?_ ?_
              rotate_left
              ·simp only [Act.put, List.setIfInBounds_toArray, List.set_cons_zero, List.set_cons_succ, i64_w, i32_w]
               rfl
              refine pure_ (i := 9) (N := some 51) (v := undef) (a' := ?_) #[true, true, true, true, true, true, true, true, true, true, false, false, false, false, false] rfl rfl (any_of HT_.out (by kernel_rfl)) (fun _ _ _ h => h) (Or.inr ⟨by rfl, rfl⟩) ?_ ?_
              rotate_left
              ·simp only [Act.put, List.setIfInBounds_toArray, List.set_cons_zero, List.set_cons_succ, i64_w, i32_w]
               rfl
              refine pure_ (i := 10) (N := some 52) (v := undef) (a' := ?_) #[true, true, true, true, true, true, true, true, true, true, true, false, false, false, false] rfl rfl (any_of HT_.out (by kernel_rfl)) (fun _ _ _ h => h) (Or.inr ⟨by rfl, rfl⟩) ?_ ?_
              rotate_left
              ·simp only [Act.put, List.setIfInBounds_toArray, List.set_cons_zero, List.set_cons_succ, i64_w, i32_w]
               rfl
              refine pure_ (i := 11) (N := some 53) (v := undef) (a' := ?_) #[true, true, true, true, true, true, true, true, true, true, true, true, false, false, false] rfl rfl (any_of HT_.out (by kernel_rfl)) (fun _ _ _ h => h) (Or.inr ⟨by rfl, rfl⟩) ?_ ?_
              rotate_left
              ·simp only [Act.put, List.setIfInBounds_toArray, List.set_cons_zero, List.set_cons_succ, i64_w, i32_w]
               rfl
              refine pure_ (i := 12) (N := some 54) (v := undef) (a' := ?_) #[true, true, true, true, true, true, true, true, true, true, true, true, true, false, false] rfl rfl (any_of HT_.out (by kernel_rfl)) (fun _ _ _ h => h) (Or.inr ⟨by rfl, rfl⟩) ?_ ?_
              rotate_left
              ·simp only [Act.put, List.setIfInBounds_toArray, List.set_cons_zero, List.set_cons_succ, i64_w, i32_w]
               rfl
              refine pure_ (i := 13) (N := some 55) (v := undef) (a' := ?_) #[true, true, true, true, true, true, true, true, true, true, true, true, true, true, false] rfl rfl (any_of HT_.out (by kernel_rfl)) (fun _ _ _ h => h) (Or.inr ⟨by rfl, rfl⟩) ?_ ?_
              rotate_left
              ·simp only [Act.put, List.setIfInBounds_toArray, List.set_cons_zero, List.set_cons_succ, i64_w, i32_w]
               rfl
              refine pure_ (i := 14) (N := some 56) (v := ?_) (a' := ?_) #[true, true, true, true, true, true, true, true, true, true, true, true, true, true, true] rfl rfl (any_of HT_.out (by kernel_rfl)) (fun _ _ _ h => h) (Or.inl ⟨by rfl, ?_⟩) ?_ ?_
              rotate_left
              ·intro w'
               go_simp
               with_reducible rfl
              rotate_left
              ·simp only [Act.put, List.setIfInBounds_toArray, List.set_cons_zero, List.set_cons_succ, i64_w, i32_w]
               rfl
              refine done_ (done_of HT_.out (by kernel_rfl)) ?_
              have hnb68 := NB262_261.out
              have hnc68 := NB261_262.out
              have hcz69_0 : w67.cell? ⟨gb262, 0, none⟩ = some (.string a1_0) := (blk_cell BK262.out 0).trans rfl
              have hcz69_1 : w67.cell? ⟨gb262, 1, none⟩ = some (.string a1_1) := (blk_cell BK262.out 1).trans rfl
              have hcz69_2 : w67.cell? ⟨gb262, 2, none⟩ = some (.int .i64 a1_2) := (blk_cell BK262.out 2).trans rfl
              have hcz69_3 : w67.cell? ⟨gb262, 3, none⟩ = some (.int .i64 a1_3) := (blk_cell BK262.out 3).trans rfl
              have hcz69_4 : w67.cell? ⟨gb262, 4, none⟩ = some (.slice A1_4 l1_4.length c1_4) := (blk_cell BK262.out 4).trans rfl
              have hcz69_5 : w67.cell? ⟨gb262, 5, none⟩ = some (.int .i64 a1_5) := (blk_cell BK262.out 5).trans rfl
              have hcz69_6 : w67.cell? ⟨gb262, 6, none⟩ = some (.int .i64 a1_6) := (blk_cell BK262.out 6).trans rfl
              have hfz69_0 := blk_frozen BK262.out 0
              have hfz69_1 := blk_frozen BK262.out 1
              have hfz69_2 := blk_frozen BK262.out 2
              have hfz69_3 := blk_frozen BK262.out 3
              have hfz69_4 := blk_frozen BK262.out 4
              have hfz69_5 := blk_frozen BK262.out 5
              have hfz69_6 := blk_frozen BK262.out 6
              have q70 : (x14_3 : Int) ≤ ((x8_2.length : Int) : Int) := of_decide_eq_true (by first | (with_reducible assumption) | assumption)
              obtain ⟨i070, hi070, _, hsz70, _⟩ := info_parts info41
              have hroom70 : x8_2.length ≤ co33 := (Kd.V_reads' HO_8.out).2.1
              have hC70 : Kd.F (Kd.slice 47 k47) _ _ Ao33 x8_2.length x8_2 := (Kd.V_at (base := w.heap.size) HO_8.out).2.2
              have hcut70 := cut_to (P := Try.prog) 30 41 .i64 Try.underlying30 hi070 Ao33 x8_2.length co33 x14_3 (of_decide_eq_true (by first | (with_reducible assumption) | assumption)) q70 hroom70
              have hr70 := Kd.F_take (m := (x14_3 : Int).toNat) hC70 (by omega)
              have hy70 : y297.length = (x14_3 : Int).toNat := (by rw [Ny297.out, List.length_take]; omega)
              rw [← Ny297.out] at hr70
              rw [← hy70] at hcut70
              have HO301 := Aside0.mk (show Kd.V (Kd.slice 47 k47) 41 _ w.heap.size _ (.slice Ao33 y297.length co33) y297 from Kd.V_mk (by omega) hr70)
              have HC301 := Aside0.mk (show y297.length ≤ co33 from by omega)
              clear hr70 hC70 hroom70 hi070 hsz70
              have KY70 := Aside0.mk hy70
              clear hy70
              replace q70 := eq_true q70
              try go_wp2_with (first | ((with_reducible refine gate_builtin (b := .append) (xs := #[.tmp 63, .tmp 66]) rfl ?_); at_builtin; refine Kd.N_append_rows (Kd.slice 47 k47) (w0 := w) w.heap.size rfl (.tmp 63) (.tmp 66) 30 41 (.slice none 0 0) 24 rfl Try.underlying30 info41 rfl (by decide) (by omega) u13 x13_2 y297 _ _ _ (fun k_ => (w.heap.size ≤ k_) ∧ k_ ≠ gb261 ∧ k_ ≠ gb262) (fun k_ => ((fun k_ => (w.heap.size ≤ k_) ∧ k_ ≠ gb261 ∧ k_ ≠ gb262)) k_ ∧ some k_ ≠ (u13 : Value).ownBlock) rfl rfl ?aO ?aR (fun _ hk => hk) ?aF ?aB ?aS ?aL ?_; (case aR => exact (by skip; exact Kd.V_F (Kd.V_mono (ok' := (fun k_ => ((fun k_ => (w.heap.size ≤ k_) ∧ k_ ≠ gb261 ∧ k_ ≠ gb262)) k_ ∧ some k_ ≠ (u13 : Value).ownBlock)) (HO301.out) (fun k_ hk => ⟨⟨hk.1, ⟨hk.2.2.1, hk.2.2.2⟩⟩, hk.2.1⟩)))); (case aB => exact (bh7_ HB)); (case aF => exact (fun k_ hk => ⟨(Nat.le_trans (below_size (bh7_ HB)) hk), Kd.freshB (g := gb261) (o := .cells #[.string a0_0, .slice A0_1 l0_1.length c0_1] 24 (0, 0)) (bk7_ BK261) k_ hk, Kd.freshB (g := gb262) (o := .cells #[.string a1_0, .string a1_1, .int .i64 a1_2, .int .i64 a1_3, .slice A1_4 l1_4.length c1_4, .int .i64 a1_5, .int .i64 a1_6] 37 (0, 0)) (bk7_ BK262) k_ hk⟩)); (case aO => exact (by (with_reducible repeat (first | apply Kd.N_alloc | apply Kd.N_drewN | apply Kd.N_drew)); exact HO_13.out)); (case aS => exact (below_size (bh7_ HB))); (case aL => have := LMc64.out; omega); intro v303 w71 ho hb hg hat; rw [← Ny302.out] at ho; have n0_ := Aside0.mk (Kd.V_afterv (ok := (fun k_ => (w.heap.size ≤ k_) ∧ k_ ≠ gb261 ∧ k_ ≠ gb262)) (by (with_reducible repeat (first | apply Kd.V_alloc | apply Kd.V_drewN | apply Kd.V_drew)); exact Kd.V_mono HO_8.out (fun _ hk => ⟨⟨hk.1, ⟨hk.2.2.1, hk.2.2.2⟩⟩, hk.2.1⟩)) hg hat); have n1_ := Aside0.mk (blk_grown (g := gb261) (o := .cells #[.string a0_0, .slice A0_1 l0_1.length c0_1] 24 (0, 0)) (bk7_ BK261) hg (Kd.N_ne HO_13.out BK261.out (by decide))); have n2_ := Aside0.mk (blk_grown (g := gb262) (o := .cells #[.string a1_0, .string a1_1, .int .i64 a1_2, .int .i64 a1_3, .slice A1_4 l1_4.length c1_4, .int .i64 a1_5, .int .i64 a1_6] 37 (0, 0)) (bk7_ BK262) hg (Kd.N_ne HO_13.out BK262.out (by decide))); have n3_ := Aside0.mk (Kd.V_afterv (ok := (fun k_ => (w.heap.size ≤ k_) ∧ k_ ≠ gb261 ∧ k_ ≠ gb262)) (by (with_reducible repeat (first | apply Kd.V_alloc | apply Kd.V_drewN | apply Kd.V_drew)); exact Kd.V_mono HO301.out (fun _ hk => ⟨⟨hk.1, ⟨hk.2.2.1, hk.2.2.2⟩⟩, hk.2.1⟩)) hg hat); have n4_ := Aside0.mk (hb); have n5_ := Aside0.mk (ho); clear HO_8; clear BK261; clear BK262; clear HO301; clear HB; clear HO_13; have HO_8 := n0_; have BK261 := n1_; have BK262 := n2_; have HO301 := n3_; have HB := n4_; have HO304 := n5_; clear n0_ n1_ n2_ n3_ n4_ n5_; clear ho hb hg hat; have q72 : (x14_3 : Int) ≤ ((x8_2.length : Int) : Int) := of_decide_eq_true (by first | (with_reducible assumption) | assumption); obtain ⟨i072, hi072, _, hsz72, _⟩ := info_parts info41; have hroom72 : x8_2.length ≤ co33 := (Kd.V_reads' HO_8.out).2.1; have hC72 : Kd.F (Kd.slice 47 k47) _ _ Ao33 x8_2.length x8_2 := (Kd.V_at (base := w.heap.size) HO_8.out).2.2; have q072 : (0 : Int) ≤ (x14_3 : Int) := of_decide_eq_true (by first | (with_reducible assumption) | assumption); have hcut72 := cut_from (P := Try.prog) 30 41 .i64 Try.underlying30 hi072 1 hsz72 Ao33 x8_2.length co33 x14_3 q072 q72; have hr72 := Kd.F_cut (m := (x14_3 : Int).toNat) (c := co33) hC72 (by omega) hroom72; obtain ⟨A72, hA72⟩ : ∃ A1, A1 = (if co33 = (x14_3 : Int).toNat then Ao33 else (Ao33 : Option Addr).map (·.add ((x14_3 : Int).toNat * 1))) := ⟨_, rfl⟩; obtain ⟨c72, hc72⟩ : ∃ c1, c1 = co33 - (x14_3 : Int).toNat := ⟨_, rfl⟩; have hy72 : y305.length = x8_2.length - (x14_3 : Int).toNat := (by rw [Ny305.out, List.length_drop] <;> omega); rw [show (x8_2).drop (x14_3 : Int).toNat = y305 from Ny305.out.symm] at hr72; replace hr72 : Kd.F (Kd.slice 47 k47) _ _ A72 y305.length y305 := (by rw [hA72]; exact hr72); rw [← hy72, ← hA72, ← hc72] at hcut72; have HO309 := Aside0.mk (show Kd.V (Kd.slice 47 k47) 41 _ w.heap.size _ (.slice A72 y305.length c72) y305 from Kd.V_mk (by rw [hy72, hc72]; exact Nat.sub_le_sub_right hroom72 _) hr72); have HC309 := Aside0.mk (show y305.length ≤ c72 from by rw [hy72, hc72]; exact Nat.sub_le_sub_right hroom72 _); clear hr72 hC72 hroom72 hi072 hsz72 hc72; have KY72 := Aside0.mk hy72; have KA72 := Aside0.mk hA72; clear hy72 hA72; replace q72 := eq_true q72))
              go_roundg k3
              case measure => have := HK1.out; have := HK2.out; have := HK3.out; omega
              case rel => exact ⟨(y305), (y302), H', ⟨by have := HK1.out; have := HK2.out; have := HK3.out; omega⟩, ⟨by (with_reducible repeat (first | apply Kd.V_alloc | apply Kd.V_drewN | apply Kd.V_drew)); exact Kd.V_mono HO309.out (fun _ hk => ⟨hk.1.1, ⟨hk.2, ⟨hk.1.2.1, hk.1.2.2⟩⟩⟩)⟩, ⟨by (with_reducible repeat (first | apply Kd.N_alloc | apply Kd.N_drewN | apply Kd.N_drew)); exact HO304.out⟩, ⟨bk7_ BK261⟩, ⟨bk7_ BK262⟩, ⟨by repeat (first | (with_reducible first | exact HB.out | apply below_alloc | apply pw_below_drewN | apply below_drew1 | refine below_set ?_ GE261.out | refine below_set ?_ GE262.out) | exact HB.out | exact below_undrew HB.out)⟩⟩
             ·rw [if_neg c64] at H
              exact absurd H (by simp)
            ·rw [if_neg c63] at H
             exact absurd H (by simp)
           ·rw [if_neg c62] at H
            exact absurd H (by simp)
          ·rw [if_neg c61] at H
           have c61b0 : decide (a1_5 ≤ x14_3) = false := decide_eq_false c61
           clear c61
           by_cases c73 : 0 ≤ x14_3
           ·rw [if_pos c73] at H
            have c73b0 := eq_true c73
            have c73b1 : decide (0 ≤ x14_3) = true := decide_eq_true c73
            clear c73
            by_cases c74 : x14_3 ≤ (x8_2.length : Int)
            ·rw [if_pos c74] at H
             have c74b0 := eq_true c74
             have c74b1 : decide (x14_3 ≤ (x8_2.length : Int)) = true := decide_eq_true c74
             clear c74
             obtain ⟨y310, hy310⟩ : ∃ y_ : List (List (S47)), y_ = (x8_2.drop (x14_3 : Int).toNat) := ⟨_, rfl⟩
             replace H : (guard_Release.l1 k3 y310 x13_2 a1_0 a1_1 a1_2 a1_3 l1_4 a1_5 a1_6) = some (r1, r2) := by first | (rw [hy310]; with_reducible exact H) | (have H2_ := (Option.bind_some _ _).symm.trans H; rw [hy310]; with_reducible exact H2_) | (have H2_ := (Option.bind_some _ _).symm.trans H; with_reducible exact H2_) | with_reducible exact H | (rw [hy310]; exact H) | exact H
             have Ny310 := Aside0.mk hy310
             clear hy310
             have H' := Aside0.mk H
             clear H
             try go_wp2
             have n0_ := Aside0.mk (Kd.V_drew HO_8.out)
             have n1_ := Aside0.mk (Kd.N_drew HO_13.out)
             have n2_ := Aside0.mk (blk_drew BK261.out)
             have n3_ := Aside0.mk (blk_drew BK262.out)
             have n4_ := Aside0.mk (below_drew1 HB.out)
             clear HO_8
             clear HO_13
             clear BK261
             clear BK262
             clear HB
             have HO_8 := n0_
             have HO_13 := n1_
             have BK261 := n2_
             have BK262 := n3_
             have HB := n4_
             clear n0_ n1_ n2_ n3_ n4_
             refine start_ (n := 15) (S := fun w' => True) (ds := []) #[false, false, false, false, false, false, false, false, false, false, false, false, false, false, false] (by kernel_rfl) rfl rfl trivial (fun hHeld => ?_); refine with_tabW guard_Release.tab14 guard_Release.bits14 (fun HT_ HW_ => ?_)
             generalize wr.drew = w75 at HO_8 HO_13 BK261 BK262 HB hHeld ⊢
             refine pure_ (i := 0) (N := some 42) (v := ?_) (a' := ?_) #[true, false, false, false, false, false, false, false, false, false, false, false, false, false, false] rfl rfl (any_of HT_.out (by kernel_rfl)) (fun _ _ _ h => h) (Or.inl ⟨by rfl, ?_⟩) ?_ ?_
             rotate_left
             ·intro w'
              go_simp
              with_reducible rfl
             rotate_left
             ·simp only [Act.put, List.setIfInBounds_toArray, List.set_cons_zero, List.set_cons_succ, i64_w, i32_w]
              rfl
             refine pure_ (i := 1) (N := some 43) (v := ?_) (a' := ?_) #[true, true, false, false, false, false, false, false, false, false, false, false, false, false, false] rfl rfl (any_of HT_.out (by kernel_rfl)) (fun _ _ _ h => h) (Or.inl ⟨by rfl, ?_⟩) ?_ ?_
             rotate_left
             ·intro w'
              go_simp
              with_reducible rfl
             rotate_left
             ·simp only [Act.put, List.setIfInBounds_toArray, List.set_cons_zero, List.set_cons_succ, i64_w, i32_w]
              rfl
             refine pure_ (i := 2) (N := some 44) (v := ?_) (a' := ?_) #[true, true, true, false, false, false, false, false, false, false, false, false, false, false, false] rfl rfl (any_of HT_.out (by kernel_rfl)) (fun _ _ _ h => h) (Or.inl ⟨by rfl, ?_⟩) ?_ ?_
             rotate_left
             ·intro w'
              go_simp
              with_reducible rfl
             rotate_left
             ·simp only [Act.put, List.setIfInBounds_toArray, List.set_cons_zero, List.set_cons_succ, i64_w, i32_w]
              rfl
             refine pure_ (i := 3) (N := some 45) (v := ?_) (a' := ?_) #[true, true, true, true, false, false, false, false, false, false, false, false, false, false, false] rfl rfl (any_of HT_.out (by kernel_rfl)) (fun _ _ _ h => h) (Or.inl ⟨by rfl, ?_⟩) ?_ ?_
             rotate_left
             ·intro w'
              go_simp
              with_reducible rfl
             rotate_left
             ·simp only [Act.put, List.setIfInBounds_toArray, List.set_cons_zero, List.set_cons_succ, i64_w, i32_w]
              rfl
             refine pure_ (i := 4) (N := some 46) (v := ?_) (a' := ?_) #[true, true, true, true, true, false, false, false, false, false, false, false, false, false, false] rfl rfl (any_of HT_.out (by kernel_rfl)) (fun _ _ _ h => h) (Or.inl ⟨by rfl, ?_⟩) ?_ ?_
             rotate_left
             ·intro w'
              go_simp
              with_reducible rfl
             rotate_left
             ·simp only [Act.put, List.setIfInBounds_toArray, List.set_cons_zero, List.set_cons_succ, i64_w, i32_w]
              rfl
             refine pure_ (i := 5) (N := some 47) (v := undef) (a' := ?_) #[true, true, true, true, true, true, false, false, false, false, false, false, false, false, false] rfl rfl (any_of HT_.out (by kernel_rfl)) (fun _ _ _ h => h) (Or.inr ⟨by rfl, rfl⟩) ?_ ?_
             rotate_left
             ·simp only [Act.put, List.setIfInBounds_toArray, List.set_cons_zero, List.set_cons_succ, i64_w, i32_w]
              rfl
             refine pure_ (i := 6) (N := some 48) (v := undef) (a' := ?_) #[true, true, true, true, true, true, true, false, false, false, false, false, false, false, false] rfl rfl (any_of HT_.out (by kernel_rfl)) (fun _ _ _ h => h) (Or.inr ⟨by rfl, rfl⟩) ?_ ?_
             rotate_left
             ·simp only [Act.put, List.setIfInBounds_toArray, List.set_cons_zero, List.set_cons_succ, i64_w, i32_w]
              rfl
             refine pure_ (i := 7) (N := some 49) (v := undef) (a' := ?_) #[true, true, true, true, true, true, true, true, false, false, false, false, false, false, false] rfl rfl (any_of HT_.out (by kernel_rfl)) (fun _ _ _ h => h) (Or.inr ⟨by rfl, rfl⟩) ?_ ?_
             rotate_left
             ·simp only [Act.put, List.setIfInBounds_toArray, List.set_cons_zero, List.set_cons_succ, i64_w, i32_w]
              rfl
             refine pure_ (i := 8) (N := some 50) (v := undef) (a' := ?_) #[true, true, true, true, true, true, true, true, true, false, false, false, false, false, false] rfl rfl (any_of HT_.out (by kernel_rfl)) (fun _ _ _ h => h) (Or.inr ⟨by rfl, rfl⟩) ?_ ?_
             rotate_left
             ·simp only [Act.put, List.setIfInBounds_toArray, List.set_cons_zero, List.set_cons_succ, i64_w, i32_w]
              rfl
             refine pure_ (i := 9) (N := some 51) (v := undef) (a' := ?_) #[true, true, true, true, true, true, true, true, true, true, false, false, false, false, false] rfl rfl (any_of HT_.out (by kernel_rfl)) (fun _ _ _ h => h) (Or.inr ⟨by rfl, rfl⟩) ?_ ?_
             rotate_left
             ·simp only [Act.put, List.setIfInBounds_toArray, List.set_cons_zero, List.set_cons_succ, i64_w, i32_w]
              rfl
             refine pure_ (i := 10) (N := some 52) (v := undef) (a' := ?_) #[true, true, true, true, true, true, true, true, true, true, true, false, false, false, false] rfl rfl (any_of HT_.out (by kernel_rfl)) (fun _ _ _ h => h) (Or.inr ⟨by rfl, rfl⟩) ?_ ?_
             rotate_left
             ·simp only [Act.put, List.setIfInBounds_toArray, List.set_cons_zero, List.set_cons_succ, i64_w, i32_w]
              rfl
             refine pure_ (i := 11) (N := some 53) (v := undef) (a' := ?_) #[true, true, true, true, true, true, true, true, true, true, true, true, false, false, false] rfl rfl (any_of HT_.out (by kernel_rfl)) (fun _ _ _ h => h) (Or.inr ⟨by rfl, rfl⟩) ?_ ?_
             rotate_left
             ·simp only [Act.put, List.setIfInBounds_toArray, List.set_cons_zero, List.set_cons_succ, i64_w, i32_w]
              rfl
             refine pure_ (i := 12) (N := some 54) (v := undef) (a' := ?_) #[true, true, true, true, true, true, true, true, true, true, true, true, true, false, false] rfl rfl (any_of HT_.out (by kernel_rfl)) (fun _ _ _ h => h) (Or.inr ⟨by rfl, rfl⟩) ?_ ?_
             rotate_left
             ·simp only [Act.put, List.setIfInBounds_toArray, List.set_cons_zero, List.set_cons_succ, i64_w, i32_w]
              rfl
             refine pure_ (i := 13) (N := some 55) (v := undef) (a' := ?_) #[true, true, true, true, true, true, true, true, true, true, true, true, true, true, false] rfl rfl (any_of HT_.out (by kernel_rfl)) (fun _ _ _ h => h) (Or.inr ⟨by rfl, rfl⟩) ?_ ?_
             rotate_left
             ·simp only [Act.put, List.setIfInBounds_toArray, List.set_cons_zero, List.set_cons_succ, i64_w, i32_w]
              rfl
             refine pure_ (i := 14) (N := some 56) (v := ?_) (a' := ?_) #[true, true, true, true, true, true, true, true, true, true, true, true, true, true, true] rfl rfl (any_of HT_.out (by kernel_rfl)) (fun _ _ _ h => h) (Or.inl ⟨by rfl, ?_⟩) ?_ ?_
             rotate_left
             ·intro w'
              go_simp
              with_reducible rfl
             rotate_left
             ·simp only [Act.put, List.setIfInBounds_toArray, List.set_cons_zero, List.set_cons_succ, i64_w, i32_w]
              rfl
             refine done_ (done_of HT_.out (by kernel_rfl)) ?_
             have hnb76 := NB262_261.out
             have hnc76 := NB261_262.out
             have hcz77_0 : w75.cell? ⟨gb262, 0, none⟩ = some (.string a1_0) := (blk_cell BK262.out 0).trans rfl
             have hcz77_1 : w75.cell? ⟨gb262, 1, none⟩ = some (.string a1_1) := (blk_cell BK262.out 1).trans rfl
             have hcz77_2 : w75.cell? ⟨gb262, 2, none⟩ = some (.int .i64 a1_2) := (blk_cell BK262.out 2).trans rfl
             have hcz77_3 : w75.cell? ⟨gb262, 3, none⟩ = some (.int .i64 a1_3) := (blk_cell BK262.out 3).trans rfl
             have hcz77_4 : w75.cell? ⟨gb262, 4, none⟩ = some (.slice A1_4 l1_4.length c1_4) := (blk_cell BK262.out 4).trans rfl
             have hcz77_5 : w75.cell? ⟨gb262, 5, none⟩ = some (.int .i64 a1_5) := (blk_cell BK262.out 5).trans rfl
             have hcz77_6 : w75.cell? ⟨gb262, 6, none⟩ = some (.int .i64 a1_6) := (blk_cell BK262.out 6).trans rfl
             have hfz77_0 := blk_frozen BK262.out 0
             have hfz77_1 := blk_frozen BK262.out 1
             have hfz77_2 := blk_frozen BK262.out 2
             have hfz77_3 := blk_frozen BK262.out 3
             have hfz77_4 := blk_frozen BK262.out 4
             have hfz77_5 := blk_frozen BK262.out 5
             have hfz77_6 := blk_frozen BK262.out 6
             have q78 : (x14_3 : Int) ≤ ((x8_2.length : Int) : Int) := of_decide_eq_true (by first | (with_reducible assumption) | assumption)
             obtain ⟨i078, hi078, _, hsz78, _⟩ := info_parts info41
             have hroom78 : x8_2.length ≤ co33 := (Kd.V_reads' HO_8.out).2.1
             have hC78 : Kd.F (Kd.slice 47 k47) _ _ Ao33 x8_2.length x8_2 := (Kd.V_at (base := w.heap.size) HO_8.out).2.2
             have q078 : (0 : Int) ≤ (x14_3 : Int) := of_decide_eq_true (by first | (with_reducible assumption) | assumption)
             have hcut78 := cut_from (P := Try.prog) 30 41 .i64 Try.underlying30 hi078 1 hsz78 Ao33 x8_2.length co33 x14_3 q078 q78
             have hr78 := Kd.F_cut (m := (x14_3 : Int).toNat) (c := co33) hC78 (by omega) hroom78
             obtain ⟨A78, hA78⟩ : ∃ A1, A1 = (if co33 = (x14_3 : Int).toNat then Ao33 else (Ao33 : Option Addr).map (·.add ((x14_3 : Int).toNat * 1))) := ⟨_, rfl⟩
             obtain ⟨c78, hc78⟩ : ∃ c1, c1 = co33 - (x14_3 : Int).toNat := ⟨_, rfl⟩
             have hy78 : y310.length = x8_2.length - (x14_3 : Int).toNat := (by rw [Ny310.out, List.length_drop] <;> omega)
             rw [show (x8_2).drop (x14_3 : Int).toNat = y310 from Ny310.out.symm] at hr78
             replace hr78 : Kd.F (Kd.slice 47 k47) _ _ A78 y310.length y310 := (by rw [hA78]; exact hr78)
             rw [← hy78, ← hA78, ← hc78] at hcut78
             have HO314 := Aside0.mk (show Kd.V (Kd.slice 47 k47) 41 _ w.heap.size _ (.slice A78 y310.length c78) y310 from Kd.V_mk (by rw [hy78, hc78]; exact Nat.sub_le_sub_right hroom78 _) hr78)
             have HC314 := Aside0.mk (show y310.length ≤ c78 from by rw [hy78, hc78]; exact Nat.sub_le_sub_right hroom78 _)
             clear hr78 hC78 hroom78 hi078 hsz78 hc78
             have KY78 := Aside0.mk hy78
             have KA78 := Aside0.mk hA78
             clear hy78 hA78
             replace q78 := eq_true q78
             try go_wp2
             go_roundg k3
             case measure => have := HK1.out; have := HK2.out; have := HK3.out; omega
             case rel => exact ⟨(y310), (x13_2), H', ⟨by have := HK1.out; have := HK2.out; have := HK3.out; omega⟩, ⟨by (with_reducible repeat (first | apply Kd.V_alloc | apply Kd.V_drewN | apply Kd.V_drew)); exact HO314.out⟩, ⟨by (with_reducible repeat (first | apply Kd.N_alloc | apply Kd.N_drewN | apply Kd.N_drew)); exact HO_13.out⟩, ⟨bk7_ BK261⟩, ⟨bk7_ BK262⟩, ⟨by repeat (first | (with_reducible first | exact HB.out | apply below_alloc | apply pw_below_drewN | apply below_drew1 | refine below_set ?_ GE261.out | refine below_set ?_ GE262.out) | exact HB.out | exact below_undrew HB.out)⟩⟩
            ·rw [if_neg c74] at H
             exact absurd H (by simp)
           ·rw [if_neg c73] at H
            exact absurd H (by simp)
      ·rw [if_neg c32] at H
       have c32b0 : decide (0 < (x8_2.length : Int)) = false := decide_eq_false c32
       have c32b1 : decide (0 < x8_2.length) = false := decide_eq_false (by omega)
       clear c32
       simp only [Option.some.injEq, Prod.mk.injEq] at H
       obtain ⟨rfl, rfl⟩ := H
       obtain ⟨Ao79, co79, eo79⟩ := Kd.V_slice HO_8.out
       subst eo79
       go_wp2
       go_ret2
       exact ⟨_, by first | rfl | (simp [errW_none, errW_some] <;> rfl) | (simp [*, errW_none, errW_some] <;> rfl), by (with_reducible repeat (first | apply Kd.N_alloc | apply Kd.N_drewN | apply Kd.N_drew)); exact Kd.N_mono HO_13.out (fun _ hk => hk.1), by repeat (first | (with_reducible first | exact HB.out | apply below_alloc | apply pw_below_drewN | apply below_drew1 | refine below_set ?_ GE261.out | refine below_set ?_ GE262.out) | exact HB.out | exact below_undrew HB.out)⟩

end Go.Proofs.Ytoiakgibckgfdaa.XGv
