/- Printed by this session's program (wip/print) out of the translation, for the statement named in the file's name. -/
import Derived.Test.YtoiakgibckgfdaaXGvx0
import Derived.Test.YtoiakgibckgfdaaXGvx4
import Derived.Test.YtoiakgibckgfdaaXGvx7
import Derived.Test.YtoiakgibckgfdaaXGvx8
namespace Go.Proofs.Ytoiakgibckgfdaa.XGv
open Go.RowKit Go.Proofs.YtoiakgibckgfdaaW.PrintWords Go.Proofs.YtoiakgibckgfdaaW.PrintLast Go.Proofs.YtoiakgibckgfdaaW.PrintMore
attribute [local go_sem] str_gtr str_leq str_geq max2_int min2_int max_two min_two max_three min_three max_four min_four   -- for this text's walks alone
set_option linter.unusedVariables false
set_option linter.unusedSimpArgs false
set_option linter.unnecessarySimpa false

/-! ### barbicanlaw24_GuardRare: function 3 -/
mutual
def barbicanlaw24_GuardRare.l0 : Nat → List (S44) → List (List (S47)) → Int → ByteArray → List (S81) → ByteArray → ByteArray → Int → Int → List (S56) → Int → Int → Option (Bool)
  | 0, _, _, _, _, _, _, _, _, _, _, _, _ => none
  | k + 1, x2, x7, x9, x336000, x336001, x337000, x337001, x337002, x337003, x337004, x337005, x337006 => if x9 < (x7.length : Int) then (barbicanlaw24_GuardRare.l1 k x2 x7 x9 0 0 x336000 x336001 x337000 x337001 x337002 x337003 x337004 x337005 x337006) else ((barbicanlaw24_view.f k x337000 x337001 x337002 x337003 x337004 x337005 x337006).bind fun bt358 => (if bt358.2.2.2.2.2.1 < 1048576 then ((barbicanlaw24_own.f k x2).bind fun t368 => ((guard_Release.f k x336000 x336001 bt358.1 bt358.2.1 bt358.2.2.1 bt358.2.2.2.1 bt358.2.2.2.2.1 (wrap64 (bt358.2.2.2.2.2.1 + 1)) bt358.2.2.2.2.2.2 t368).bind fun bt371 => (if bt371.2.isNone = true then (if (bt371.1.length : Int) ≤ (x7.length : Int) then (if (x7.length : Int) ≤ (x2.length : Int) then ((barbicanlaw24_sure.f k).bind fun t376 => (some t376)) else (some false)) else (some false)) else (some false)))) else ((barbicanlaw24_own.f k x2).bind fun t377 => ((guard_Release.f k x336000 x336001 bt358.1 bt358.2.1 bt358.2.2.1 bt358.2.2.2.1 bt358.2.2.2.2.1 bt358.2.2.2.2.2.1 bt358.2.2.2.2.2.2 t377).bind fun bt380 => (if bt380.2.isNone = true then (if (bt380.1.length : Int) ≤ (x7.length : Int) then (if (x7.length : Int) ≤ (x2.length : Int) then ((barbicanlaw24_sure.f k).bind fun t385 => (some t385)) else (some false)) else (some false)) else (some false))))))
def barbicanlaw24_GuardRare.l1 : Nat → List (S44) → List (List (S47)) → Int → Int → Int → ByteArray → List (S81) → ByteArray → ByteArray → Int → Int → List (S56) → Int → Int → Option (Bool)
  | 0, _, _, _, _, _, _, _, _, _, _, _, _, _, _ => none
  | k + 1, x2, x7, x9, x10, x11, x336000, x336001, x337000, x337001, x337002, x337003, x337004, x337005, x337006 => if x11 < (x7.length : Int) then (if 0 ≤ x9 then (if x9 < (x7.length : Int) then (if 0 ≤ x11 then ((barbicanlaw24_values.f k (rd_L8 x7 x9) (rd_L8 x7 x11)).bind fun t357 => (if t357 = true then (barbicanlaw24_GuardRare.l1 k x2 x7 x9 (wrap64 (x10 + 1)) (wrap64 (x11 + 1)) x336000 x336001 x337000 x337001 x337002 x337003 x337004 x337005 x337006) else (barbicanlaw24_GuardRare.l1 k x2 x7 x9 x10 (wrap64 (x11 + 1)) x336000 x336001 x337000 x337001 x337002 x337003 x337004 x337005 x337006))) else (none)) else (none)) else (none)) else (if x10 < x337005 then (some false) else (barbicanlaw24_GuardRare.l0 k x2 x7 (wrap64 (x9 + 1)) x336000 x336001 x337000 x337001 x337002 x337003 x337004 x337005 x337006))
end
def barbicanlaw24_GuardRare.f (k : Nat) (a0_0 : ByteArray) (l0_1 : List (S81)) (a1_0 : ByteArray) (a1_1 : ByteArray) (a1_2 : Int) (a1_3 : Int) (l1_4 : List (S56)) (a1_5 : Int) (a1_6 : Int) (l2 : List (S44)) : Option (Bool) := if (l2.length : Int) > 200 then ((barbicanlaw24_sure.f k).bind fun t337 => (some t337)) else ((barbicanlaw24_view.f k a1_0 a1_1 a1_2 a1_3 l1_4 a1_5 a1_6).bind fun bt338 => ((barbicanlaw24_own.f k l2).bind fun t347 => ((guard_Release.f k a0_0 l0_1 bt338.1 bt338.2.1 bt338.2.2.1 bt338.2.2.2.1 bt338.2.2.2.2.1 bt338.2.2.2.2.2.1 bt338.2.2.2.2.2.2 t347).bind fun bt350 => (if bt350.2.isNone = true then (barbicanlaw24_GuardRare.l0 k l2 bt350.1 0 a0_0 l0_1 a1_0 a1_1 a1_2 a1_3 l1_4 a1_5 a1_6) else (if (bt350.1.length : Int) = 0 then ((barbicanlaw24_sure.f k).bind fun t386 => (some t386)) else (some false))))))
theorem barbicanlaw24_GuardRare.mono_l : ∀ k, (∀ y0 y1 y2 y3 y4 y5 y6 y7 y8 y9 y10 y11, LeO (barbicanlaw24_GuardRare.l0 k y0 y1 y2 y3 y4 y5 y6 y7 y8 y9 y10 y11) (barbicanlaw24_GuardRare.l0 (k + 1) y0 y1 y2 y3 y4 y5 y6 y7 y8 y9 y10 y11)) ∧ (∀ y0 y1 y2 y3 y4 y5 y6 y7 y8 y9 y10 y11 y12 y13, LeO (barbicanlaw24_GuardRare.l1 k y0 y1 y2 y3 y4 y5 y6 y7 y8 y9 y10 y11 y12 y13) (barbicanlaw24_GuardRare.l1 (k + 1) y0 y1 y2 y3 y4 y5 y6 y7 y8 y9 y10 y11 y12 y13))
  | 0 => ⟨fun _ _ _ _ _ _ _ _ _ _ _ _ r h => by simp [barbicanlaw24_GuardRare.l0] at h, fun _ _ _ _ _ _ _ _ _ _ _ _ _ _ r h => by simp [barbicanlaw24_GuardRare.l1] at h⟩
  | k + 1 => by
    obtain ⟨ih0, ih1⟩ := barbicanlaw24_GuardRare.mono_l k
    refine ⟨?_, ?_⟩
    · intro y0 y1 y2 y3 y4 y5 y6 y7 y8 y9 y10 y11
      unfold barbicanlaw24_GuardRare.l0
      repeat' first
      | (with_reducible exact ih0 _ _ _ _ _ _ _ _ _ _ _ _)
      | (with_reducible exact ih1 _ _ _ _ _ _ _ _ _ _ _ _ _ _)
      | (with_reducible exact barbicanlaw24_own.mono _ _)
      | (with_reducible exact barbicanlaw24_sure.mono _)
      | (with_reducible exact barbicanlaw24_values.mono _ _ _)
      | (with_reducible exact barbicanlaw24_view.mono _ _ _ _ _ _ _ _)
      | (with_reducible exact guard_Release.mono _ _ _ _ _ _ _ _ _ _ _)
      | (with_reducible exact LeO.refl _)
      | (with_reducible exact LeO.none _)
      | (with_reducible refine LeO.ite ?_ ?_)
      | (with_reducible refine LeO.bind ?_ (fun _ => ?_))
      | exact ih0 _ _ _ _ _ _ _ _ _ _ _ _
      | exact ih1 _ _ _ _ _ _ _ _ _ _ _ _ _ _
      | exact barbicanlaw24_own.mono _ _
      | exact barbicanlaw24_sure.mono _
      | exact barbicanlaw24_values.mono _ _ _
      | exact barbicanlaw24_view.mono _ _ _ _ _ _ _ _
      | exact guard_Release.mono _ _ _ _ _ _ _ _ _ _ _
      | exact LeO.none _
      | refine LeO.ite ?_ ?_
      | refine LeO.bind ?_ (fun _ => ?_)
    · intro y0 y1 y2 y3 y4 y5 y6 y7 y8 y9 y10 y11 y12 y13
      unfold barbicanlaw24_GuardRare.l1
      repeat' first
      | (with_reducible exact ih0 _ _ _ _ _ _ _ _ _ _ _ _)
      | (with_reducible exact ih1 _ _ _ _ _ _ _ _ _ _ _ _ _ _)
      | (with_reducible exact barbicanlaw24_own.mono _ _)
      | (with_reducible exact barbicanlaw24_sure.mono _)
      | (with_reducible exact barbicanlaw24_values.mono _ _ _)
      | (with_reducible exact barbicanlaw24_view.mono _ _ _ _ _ _ _ _)
      | (with_reducible exact guard_Release.mono _ _ _ _ _ _ _ _ _ _ _)
      | (with_reducible exact LeO.refl _)
      | (with_reducible exact LeO.none _)
      | (with_reducible refine LeO.ite ?_ ?_)
      | (with_reducible refine LeO.bind ?_ (fun _ => ?_))
      | exact ih0 _ _ _ _ _ _ _ _ _ _ _ _
      | exact ih1 _ _ _ _ _ _ _ _ _ _ _ _ _ _
      | exact barbicanlaw24_own.mono _ _
      | exact barbicanlaw24_sure.mono _
      | exact barbicanlaw24_values.mono _ _ _
      | exact barbicanlaw24_view.mono _ _ _ _ _ _ _ _
      | exact guard_Release.mono _ _ _ _ _ _ _ _ _ _ _
      | exact LeO.none _
      | refine LeO.ite ?_ ?_
      | refine LeO.bind ?_ (fun _ => ?_)
theorem barbicanlaw24_GuardRare.mono : ∀ a0 a1 a2 a3 a4 a5 a6 a7 a8 a9 k, LeO (barbicanlaw24_GuardRare.f k a0 a1 a2 a3 a4 a5 a6 a7 a8 a9) (barbicanlaw24_GuardRare.f (k + 1) a0 a1 a2 a3 a4 a5 a6 a7 a8 a9) := by
  intro a0 a1 a2 a3 a4 a5 a6 a7 a8 a9 k
  obtain ⟨ih0, ih1⟩ := barbicanlaw24_GuardRare.mono_l k
  unfold barbicanlaw24_GuardRare.f
  repeat' first
      | (with_reducible exact ih0 _ _ _ _ _ _ _ _ _ _ _ _)
      | (with_reducible exact ih1 _ _ _ _ _ _ _ _ _ _ _ _ _ _)
      | (with_reducible exact barbicanlaw24_own.mono _ _)
      | (with_reducible exact barbicanlaw24_sure.mono _)
      | (with_reducible exact barbicanlaw24_values.mono _ _ _)
      | (with_reducible exact barbicanlaw24_view.mono _ _ _ _ _ _ _ _)
      | (with_reducible exact guard_Release.mono _ _ _ _ _ _ _ _ _ _ _)
      | (with_reducible exact LeO.refl _)
      | (with_reducible exact LeO.none _)
      | (with_reducible refine LeO.ite ?_ ?_)
      | (with_reducible refine LeO.bind ?_ (fun _ => ?_))
      | exact ih0 _ _ _ _ _ _ _ _ _ _ _ _
      | exact ih1 _ _ _ _ _ _ _ _ _ _ _ _ _ _
      | exact barbicanlaw24_own.mono _ _
      | exact barbicanlaw24_sure.mono _
      | exact barbicanlaw24_values.mono _ _ _
      | exact barbicanlaw24_view.mono _ _ _ _ _ _ _ _
      | exact guard_Release.mono _ _ _ _ _ _ _ _ _ _ _
      | exact LeO.none _
      | refine LeO.ite ?_ ?_
      | refine LeO.bind ?_ (fun _ => ?_)
def barbicanlaw24_GuardRare.T3 : Bool × List (List Nat × List Nat) := (true, [([], []), ([], []), ([1], [1]), ([], []), ([3, 2], [3]), ([0, 2, 4, 4], [0, 2, 4]), ([5], [5]), ([6], [6]), ([6], [6]), ([7, 5, 0, 1, 2, 3, 4, 5, 6, 7], [7]), ([8, 9, 0, 1, 2, 3, 4, 5, 6, 7, 8, 9], [8])])
def barbicanlaw24_GuardRare.B3 : List Nat := [0, 0, 2, 0, 14, 31, 63, 127, 127, 255, 1023]
theorem barbicanlaw24_GuardRare.tab3 : rtab .any (opsOf Try.f3 3) = barbicanlaw24_GuardRare.T3 := by kernel_rfl
theorem barbicanlaw24_GuardRare.bits3 : waitsOk barbicanlaw24_GuardRare.T3.2 barbicanlaw24_GuardRare.B3 = true := by kernel_rfl
def barbicanlaw24_GuardRare.T13 : Bool × List (List Nat × List Nat) := (true, [([], []), ([], []), ([0, 1], [0, 1]), ([2], [2]), ([], []), ([], []), ([4, 5], [4, 5]), ([6], [6]), ([3, 7], [3, 7])])
def barbicanlaw24_GuardRare.B13 : List Nat := [0, 0, 3, 7, 0, 0, 48, 112, 255]
theorem barbicanlaw24_GuardRare.tab13 : rtab .any (opsOf Try.f3 13) = barbicanlaw24_GuardRare.T13 := by kernel_rfl
theorem barbicanlaw24_GuardRare.bits13 : waitsOk barbicanlaw24_GuardRare.T13.2 barbicanlaw24_GuardRare.B13 = true := by kernel_rfl
def barbicanlaw24_GuardRare.T20 : Bool × List (List Nat × List Nat) := (true, [([], []), ([], []), ([], []), ([2], [2]), ([0, 1, 3, 3], [0, 1, 3]), ([4], [4]), ([5], [5]), ([5], [5]), ([6, 4, 0, 1, 2, 3, 4, 5, 6], [6]), ([7, 8, 0, 1, 2, 3, 4, 5, 6, 7, 8], [7])])
def barbicanlaw24_GuardRare.B20 : List Nat := [0, 0, 0, 4, 15, 31, 63, 63, 127, 511]
theorem barbicanlaw24_GuardRare.tab20 : rtab .any (opsOf Try.f3 20) = barbicanlaw24_GuardRare.T20 := by kernel_rfl
theorem barbicanlaw24_GuardRare.bits20 : waitsOk barbicanlaw24_GuardRare.T20.2 barbicanlaw24_GuardRare.B20 = true := by kernel_rfl
theorem bk9_ {w0 w : World} {g : Nat} {o : Obj} (b : Aside0 (w0.heap[g]? = some o)) (h : w0.heap[g]? = some o → w.heap[g]? = some o := by intro h_; (with_reducible repeat (first | refine blk_drewN ?_ _ | refine blk_drew ?_ | refine blk_alloc ?_ _)); exact h_) : w.heap[g]? = some o := h b.out
theorem bh9_ {w0 w1 w2 : World} {n : Nat} (b : Aside0 (Below n w0 w1)) (h : Below n w0 w1 → Below n w0 w2 := by intro h_; repeat (first | (with_reducible first | exact h_ | apply below_alloc | apply pw_below_drewN | apply below_drew1 | refine below_set ?_ (Aside0.out (by assumption))) | exact h_ | exact below_undrew h_)) : Below n w0 w2 := h b.out
set_option maxHeartbeats 40000000 in
set_option maxRecDepth 100000 in
theorem barbicanlaw24_GuardRare.calls (k : Nat) (a0_0 : ByteArray) (A0_1 : Option Addr) (c0_1 : Nat) (l0_1 : List (S81)) (a1_0 : ByteArray) (a1_1 : ByteArray) (a1_2 : Int) (a1_3 : Int) (A1_4 : Option Addr) (c1_4 : Nat) (l1_4 : List (S56)) (a1_5 : Int) (a1_6 : Int) (A2 : Option Addr) (c2 : Nat) (l2 : List (S44)) (r : Bool) (w : World) (hr0_1 : Kd.C k81 w A0_1 l0_1.length l0_1) (hc0_1 : l0_1.length ≤ c0_1) (hr1_4 : Kd.C k56 w A1_4 l1_4.length l1_4) (hc1_4 : l1_4.length ≤ c1_4) (hr2 : Kd.C k44 w A2 l2.length l2) (hc2 : l2.length ≤ c2) (h : barbicanlaw24_GuardRare.f k a0_0 l0_1 a1_0 a1_1 a1_2 a1_3 l1_4 a1_5 a1_6 l2 = some r) (hT : Aside0 (r = true)) :
  Calls Try.prog 3 #[.agg #[.string a0_0, .slice A0_1 l0_1.length c0_1], .agg #[.string a1_0, .string a1_1, .int .i64 a1_2, .int .i64 a1_3, .slice A1_4 l1_4.length c1_4, .int .i64 a1_5, .int .i64 a1_6], .slice A2 l2.length c2] w fun e w' => e = .returned (.bool r) ∧ Below w.heap.size w w' := by
 have hu24 := Try.underlying24
 have hu27 := Try.underlying27
 have hu37 := Try.underlying37
 have hu32 := Try.underlying32
 have hu65 := Try.underlying65
 have HR0_1 := Aside0.mk hr0_1
 have HC0_1 := Aside0.mk hc0_1
 clear hr0_1 hc0_1
 have HR1_4 := Aside0.mk hr1_4
 have HC1_4 := Aside0.mk hc1_4
 clear hr1_4 hc1_4
 have HR2 := Aside0.mk hr2
 have HC2 := Aside0.mk hc2
 clear hr2 hc2
 have HB := Aside0.mk (Below.refl w.heap.size w)
 have H : (if (l2.length : Int) > 200 then ((barbicanlaw24_sure.f k).bind fun t337 => (some t337)) else ((barbicanlaw24_view.f k a1_0 a1_1 a1_2 a1_3 l1_4 a1_5 a1_6).bind fun bt338 => ((barbicanlaw24_own.f k l2).bind fun t347 => ((guard_Release.f k a0_0 l0_1 bt338.1 bt338.2.1 bt338.2.2.1 bt338.2.2.2.1 bt338.2.2.2.2.1 bt338.2.2.2.2.2.1 bt338.2.2.2.2.2.2 t347).bind fun bt350 => (if bt350.2.isNone = true then (barbicanlaw24_GuardRare.l0 k l2 bt350.1 0 a0_0 l0_1 a1_0 a1_1 a1_2 a1_3 l1_4 a1_5 a1_6) else (if (bt350.1.length : Int) = 0 then ((barbicanlaw24_sure.f k).bind fun t386 => (some t386)) else (some false))))))) = some r := h
 clear h
 by_cases c4 : (l2.length : Int) > 200
 ·rw [if_pos c4] at H
  have c4b0 : decide (200 < (l2.length : Int)) = true := decide_eq_true c4
  have c4b1 : decide (200 < l2.length) = true := decide_eq_true (by omega)
  clear c4
  replace H := Option.bind_eq_some_iff.mp H
  obtain ⟨t337, A50, H⟩ := H
  replace H : (some t337) = some r := H
  have A5 := Aside0.mk A50
  clear A50
  obtain rfl := Option.some.inj H
  go_enter Try.func3, Try.ntmps3
  go_wp2_with (first | ((with_reducible refine gate_dst (N := 3) rfl ?_); (try (refine gate_guard (by rfl) ?_; dsimp only)); refine box_event ?hg (N := 3) ?hd (cs := #[.string a0_0, .slice A0_1 l0_1.length c0_1]) (t := 24) ?hr ?_; (case hd => rfl); (case hg => rfl); (case hr => first | (go_simp; done) | (go_simp; rfl)); intro gb335 hg w6 hbox hb; have n0_ := Aside0.mk (below_step (bh9_ HB) hb); have n1_ := Aside0.mk (hbox); have n2_ := Aside0.mk ((by rw [hg]; exact (below_size (bh9_ HB)) : w.heap.size ≤ gb335)); have n3_ := Aside0.mk ((by rw [hg]; exact (below_size (bh9_ HB)) : w.heap.size ≤ gb335)); clear HB; have HB := n0_; have BK335 := n1_; have GW335 := n2_; have GE335 := n3_; clear n0_ n1_ n2_ n3_; clear hb hbox hg) | ((with_reducible refine gate_dst (N := 4) rfl ?_); (try (refine gate_guard (by rfl) ?_; dsimp only)); refine box_event ?hg (N := 4) ?hd (cs := #[.string a1_0, .string a1_1, .int .i64 a1_2, .int .i64 a1_3, .slice A1_4 l1_4.length c1_4, .int .i64 a1_5, .int .i64 a1_6]) (t := 27) ?hr ?_; (case hd => rfl); (case hg => rfl); (case hr => first | (go_simp; done) | (go_simp; rfl)); intro gb336 hg w7 hbox hb; have n0_ := Aside0.mk (blk_below (g := gb335) (o := .cells #[.string a0_0, .slice A0_1 l0_1.length c0_1] 24 (0, 0)) (bk9_ BK335) hb); have n1_ := Aside0.mk (below_step (bh9_ HB) hb); have n2_ := Aside0.mk (hbox); have n3_ := Aside0.mk ((by rw [hg]; exact (below_size (bh9_ HB)) : w.heap.size ≤ gb336)); have n4_ := Aside0.mk ((by rw [hg]; exact (below_size (bh9_ HB)) : w.heap.size ≤ gb336)); have n5_ := Aside0.mk ((by rw [hg]; exact Nat.ne_of_lt (blk_lt (g := gb335) (o := .cells #[.string a0_0, .slice A0_1 l0_1.length c0_1] 24 (0, 0)) (bk9_ BK335)) : gb335 ≠ gb336)); have n6_ := Aside0.mk ((by rw [hg]; exact Nat.ne_of_gt (blk_lt (g := gb335) (o := .cells #[.string a0_0, .slice A0_1 l0_1.length c0_1] 24 (0, 0)) (bk9_ BK335)) : gb336 ≠ gb335)); clear BK335; clear HB; have BK335 := n0_; have HB := n1_; have BK336 := n2_; have GW336 := n3_; have GE336 := n4_; have NB335_336 := n5_; have NB336_335 := n6_; clear n0_ n1_ n2_ n3_ n4_ n5_ n6_; clear hb hbox hg) | ((with_reducible refine gate_callee (f := 5) rfl ?_); refine goesL_ (some 18) rfl rfl Try.func5 (by kernel_rfl) rfl #[] rfl (by (try simp only [List.map_toArray, List.map_cons, List.map_nil]); first | done | rfl | (simp only [List.length_drop, List.length_take]; rfl)) ?_; (with_reducible refine (barbicanlaw24_sure.calls k  t337 _ A5.out).mono ?_); rintro e w8 ⟨rfl, hb⟩; refine ⟨_, rfl, ?_⟩; have n0_ := Aside0.mk (blk_below (g := gb335) (o := .cells #[.string a0_0, .slice A0_1 l0_1.length c0_1] 24 (0, 0)) (bk9_ BK335) hb); have n1_ := Aside0.mk (blk_below (g := gb336) (o := .cells #[.string a1_0, .string a1_1, .int .i64 a1_2, .int .i64 a1_3, .slice A1_4 l1_4.length c1_4, .int .i64 a1_5, .int .i64 a1_6] 27 (0, 0)) (bk9_ BK336) hb); have n2_ := Aside0.mk (below_step (bh9_ HB) hb); clear BK335; clear BK336; clear HB; have BK335 := n0_; have BK336 := n1_; have HB := n2_; clear n0_ n1_ n2_; (try clear hb); (try clear hb2); (try clear hk); (try clear hi)))
  go_ret
  exact ⟨by first | rfl | (simp [errW_none, errW_some] <;> rfl) | (simp [*, errW_none, errW_some] <;> rfl), by repeat (first | (with_reducible first | exact HB.out | apply below_alloc | apply pw_below_drewN | apply below_drew1 | refine below_set ?_ GE335.out | refine below_set ?_ GE336.out) | exact HB.out | exact below_undrew HB.out)⟩
 ·rw [if_neg c4] at H
  have c4b0 : decide (200 < (l2.length : Int)) = false := decide_eq_false c4
  have c4b1 : decide (200 < l2.length) = false := decide_eq_false (by omega)
  clear c4
  replace H := Option.bind_eq_some_iff.mp H
  obtain ⟨⟨t338, t339, t340, t341, t342, t345, t346⟩, A90, H⟩ := H
  replace H : ((barbicanlaw24_own.f k l2).bind fun t347 => ((guard_Release.f k a0_0 l0_1 t338 t339 t340 t341 t342 t345 t346 t347).bind fun bt350 => (if bt350.2.isNone = true then (barbicanlaw24_GuardRare.l0 k l2 bt350.1 0 a0_0 l0_1 a1_0 a1_1 a1_2 a1_3 l1_4 a1_5 a1_6) else (if (bt350.1.length : Int) = 0 then ((barbicanlaw24_sure.f k).bind fun t386 => (some t386)) else (some false))))) = some r := H
  have A9 := Aside0.mk A90
  clear A90
  replace H := Option.bind_eq_some_iff.mp H
  obtain ⟨t347, A100, H⟩ := H
  replace H : ((guard_Release.f k a0_0 l0_1 t338 t339 t340 t341 t342 t345 t346 t347).bind fun bt350 => (if bt350.2.isNone = true then (barbicanlaw24_GuardRare.l0 k l2 bt350.1 0 a0_0 l0_1 a1_0 a1_1 a1_2 a1_3 l1_4 a1_5 a1_6) else (if (bt350.1.length : Int) = 0 then ((barbicanlaw24_sure.f k).bind fun t386 => (some t386)) else (some false)))) = some r := H
  have A10 := Aside0.mk A100
  clear A100
  replace H := Option.bind_eq_some_iff.mp H
  obtain ⟨⟨t350, t353⟩, A110, H⟩ := H
  replace H : (if t353.isNone = true then (barbicanlaw24_GuardRare.l0 k l2 t350 0 a0_0 l0_1 a1_0 a1_1 a1_2 a1_3 l1_4 a1_5 a1_6) else (if (t350.length : Int) = 0 then ((barbicanlaw24_sure.f k).bind fun t386 => (some t386)) else (some false))) = some r := H
  have A11 := Aside0.mk A110
  clear A110
  rcases t353 with _ | q354
  ·have H1 : (barbicanlaw24_GuardRare.l0 k l2 t350 0 a0_0 l0_1 a1_0 a1_1 a1_2 a1_3 l1_4 a1_5 a1_6) = some r := by rw [if_pos (show (none : Option Int).isNone = true by rfl)] at H; exact H
   clear H
   have H := H1
   clear H1
   try simp only [errW_none, errW_some]
   have H' := Aside0.mk H
   clear H
   go_enter Try.func3, Try.ntmps3
   try go_wp2_with (first | ((with_reducible refine gate_dst (N := 3) rfl ?_); (try (refine gate_guard (by rfl) ?_; dsimp only)); refine box_event ?hg (N := 3) ?hd (cs := #[.string a0_0, .slice A0_1 l0_1.length c0_1]) (t := 24) ?hr ?_; (case hd => rfl); (case hg => rfl); (case hr => first | (go_simp; done) | (go_simp; rfl)); intro gb335 hg w12 hbox hb; have n0_ := Aside0.mk (below_step (bh9_ HB) hb); have n1_ := Aside0.mk (hbox); have n2_ := Aside0.mk ((by rw [hg]; exact (below_size (bh9_ HB)) : w.heap.size ≤ gb335)); have n3_ := Aside0.mk ((by rw [hg]; exact (below_size (bh9_ HB)) : w.heap.size ≤ gb335)); clear HB; have HB := n0_; have BK335 := n1_; have GW335 := n2_; have GE335 := n3_; clear n0_ n1_ n2_ n3_; clear hb hbox hg) | ((with_reducible refine gate_dst (N := 4) rfl ?_); (try (refine gate_guard (by rfl) ?_; dsimp only)); refine box_event ?hg (N := 4) ?hd (cs := #[.string a1_0, .string a1_1, .int .i64 a1_2, .int .i64 a1_3, .slice A1_4 l1_4.length c1_4, .int .i64 a1_5, .int .i64 a1_6]) (t := 27) ?hr ?_; (case hd => rfl); (case hg => rfl); (case hr => first | (go_simp; done) | (go_simp; rfl)); intro gb336 hg w13 hbox hb; have n0_ := Aside0.mk (blk_below (g := gb335) (o := .cells #[.string a0_0, .slice A0_1 l0_1.length c0_1] 24 (0, 0)) (bk9_ BK335) hb); have n1_ := Aside0.mk (below_step (bh9_ HB) hb); have n2_ := Aside0.mk (hbox); have n3_ := Aside0.mk ((by rw [hg]; exact (below_size (bh9_ HB)) : w.heap.size ≤ gb336)); have n4_ := Aside0.mk ((by rw [hg]; exact (below_size (bh9_ HB)) : w.heap.size ≤ gb336)); have n5_ := Aside0.mk ((by rw [hg]; exact Nat.ne_of_lt (blk_lt (g := gb335) (o := .cells #[.string a0_0, .slice A0_1 l0_1.length c0_1] 24 (0, 0)) (bk9_ BK335)) : gb335 ≠ gb336)); have n6_ := Aside0.mk ((by rw [hg]; exact Nat.ne_of_gt (blk_lt (g := gb335) (o := .cells #[.string a0_0, .slice A0_1 l0_1.length c0_1] 24 (0, 0)) (bk9_ BK335)) : gb336 ≠ gb335)); clear BK335; clear HB; have BK335 := n0_; have HB := n1_; have BK336 := n2_; have GW336 := n3_; have GE336 := n4_; have NB335_336 := n5_; have NB336_335 := n6_; clear n0_ n1_ n2_ n3_ n4_ n5_ n6_; clear hb hbox hg))
   have n0_ := Aside0.mk (blk_drew BK335.out)
   have n1_ := Aside0.mk (blk_drew BK336.out)
   have n2_ := Aside0.mk (below_drew1 HB.out)
   clear BK335
   clear BK336
   clear HB
   have BK335 := n0_
   have BK336 := n1_
   have HB := n2_
   clear n0_ n1_ n2_
   refine start_ (n := 11) (S := fun w' => w'.cell? ⟨gb335, 0, none⟩ = some (.string a0_0) ∧ w'.cell? ⟨gb335, 1, none⟩ = some (.slice A0_1 l0_1.length c0_1) ∧ w'.cell? ⟨gb336, 0, none⟩ = some (.string a1_0) ∧ w'.cell? ⟨gb336, 1, none⟩ = some (.string a1_1) ∧ w'.cell? ⟨gb336, 2, none⟩ = some (.int .i64 a1_2) ∧ w'.cell? ⟨gb336, 3, none⟩ = some (.int .i64 a1_3) ∧ w'.cell? ⟨gb336, 4, none⟩ = some (.slice A1_4 l1_4.length c1_4) ∧ w'.cell? ⟨gb336, 5, none⟩ = some (.int .i64 a1_5) ∧ w'.cell? ⟨gb336, 6, none⟩ = some (.int .i64 a1_6)) (ds := []) #[false, false, false, false, false, false, false, false, false, false, false] (by kernel_rfl) rfl rfl ⟨(blk_cell BK335.out 0).trans rfl, (blk_cell BK335.out 1).trans rfl, (blk_cell BK336.out 0).trans rfl, (blk_cell BK336.out 1).trans rfl, (blk_cell BK336.out 2).trans rfl, (blk_cell BK336.out 3).trans rfl, (blk_cell BK336.out 4).trans rfl, (blk_cell BK336.out 5).trans rfl, (blk_cell BK336.out 6).trans rfl⟩ (fun hHeld => ?_); refine with_tabW barbicanlaw24_GuardRare.tab3 barbicanlaw24_GuardRare.bits3 (fun HT_ HW_ => ?_)
   generalize w13.drew = w14 at BK335 BK336 HB hHeld ⊢
   refine pure_ (i := 3) (N := some 23) (v := ?_) (a' := ?_) #[false, false, false, true, false, false, false, false, false, false, false] rfl rfl (any_of HT_.out (by kernel_rfl)) (fun _ _ _ h => h) (Or.inl ⟨by rfl, ?_⟩) ?_ ?_
   rotate_left
   ·intro w'
    go_simp
    with_reducible rfl
   rotate_left
   ·simp only [Act.put, List.setIfInBounds_toArray, List.set_cons_zero, List.set_cons_succ, i64_w, i32_w]
    rfl
   refine take_ (i := 0) (N := some 20) (v := ?_) (a' := ?_) #[true, false, false, true, false, false, false, false, false, false, false] rfl rfl (take_ofW HT_.out HW_.out (by kernel_rfl)) (fun _ _ _ h => h) (Or.inl ⟨by rfl, ?_⟩) hHeld ?_ ?_
   rotate_left
   ·rintro w' ⟨s0, s1, s2, s3, s4, s5, s6, s7, s8⟩
    go_simp
    with_reducible rfl
   rotate_left
   ·simp only [Act.put, List.setIfInBounds_toArray, List.set_cons_zero, List.set_cons_succ, i64_w, i32_w]
    rfl
   refine take_ (i := 1) (N := some 21) (v := ?_) (a' := ?_) #[true, true, false, true, false, false, false, false, false, false, false] rfl rfl (take_ofW HT_.out HW_.out (by kernel_rfl)) (fun _ _ _ h => h) (Or.inl ⟨by rfl, ?_⟩) hHeld ?_ ?_
   rotate_left
   ·rintro w' ⟨s0, s1, s2, s3, s4, s5, s6, s7, s8⟩
    go_simp
    with_reducible rfl
   rotate_left
   ·simp only [Act.put, List.setIfInBounds_toArray, List.set_cons_zero, List.set_cons_succ, i64_w, i32_w]
    rfl
   refine one_ (i := 2) (N := some 22) #[true, true, true, true, false, false, false, false, false, false, false] rfl rfl (one_of HT_.out (by kernel_rfl)) (by decide) (fun K hK => ?_)
   refine goes_ Try.func7 (by kernel_rfl) rfl #[.agg #[.string a1_0, .string a1_1, .int .i64 a1_2, .int .i64 a1_3, .slice A1_4 l1_4.length c1_4, .int .i64 a1_5, .int .i64 a1_6]] (by rfl) rfl rfl (by (try simp only [List.map_toArray, List.map_cons, List.map_nil]); first | done | rfl | (simp only [List.length_drop, List.length_take]; rfl)) ?_
   with_reducible refine (barbicanlaw24_view.calls k a1_0 a1_1 a1_2 a1_3 _ _ l1_4 a1_5 a1_6 t338 t339 t340 t341 t342 t345 t346 _ ?side1 ?side2 A9.out).mono ?_
   (case side1 => repeat (first | exact (Kd.C_below HR1_4.out HB.out) | (with_reducible refine Kd.C_alloc ?_ _) | (with_reducible refine Kd.C_drewN ?_ _) | (with_reducible refine Kd.C_drew ?_)))
   (case side2 => exact HC1_4.out)
   rintro e w15 ⟨v343, rfl, ho0, hb⟩
   refine ⟨_, rfl, ?_⟩
   have n0_ := Aside0.mk (Kd.R_lower ho0 (below_size (bh9_ HB)))
   have n1_ := Aside0.mk (blk_below (g := gb335) (o := .cells #[.string a0_0, .slice A0_1 l0_1.length c0_1] 24 (0, 0)) (bk9_ BK335) hb)
   have n2_ := Aside0.mk (blk_below (g := gb336) (o := .cells #[.string a1_0, .string a1_1, .int .i64 a1_2, .int .i64 a1_3, .slice A1_4 l1_4.length c1_4, .int .i64 a1_5, .int .i64 a1_6] 27 (0, 0)) (bk9_ BK336) hb)
   have n3_ := Aside0.mk (below_step (bh9_ HB) hb)
   clear BK335
   clear BK336
   clear HB
   have HO344 := n0_
   have BK335 := n1_
   have BK336 := n2_
   have HB := n3_
   clear n0_ n1_ n2_ n3_
   (try clear hb)
   (try clear hb2)
   (try clear hk)
   (try clear hi)
   (try clear ho0)
   refine hK.out _ _ ⟨(blk_cell BK335.out 0).trans rfl, (blk_cell BK335.out 1).trans rfl, (blk_cell BK336.out 0).trans rfl, (blk_cell BK336.out 1).trans rfl, (blk_cell BK336.out 2).trans rfl, (blk_cell BK336.out 3).trans rfl, (blk_cell BK336.out 4).trans rfl, (blk_cell BK336.out 5).trans rfl, (blk_cell BK336.out 6).trans rfl⟩ (fun hHeld => ?_)
   clear hK K
   refine norm_ (a' := ?_) ?_ ?_
   rotate_left
   ·show Act.put _ (some 22) _ = _
    simp only [Act.put, List.setIfInBounds_toArray, List.set_cons_zero, List.set_cons_succ, i64_w, i32_w]
    rfl
   refine one_ (i := 4) (N := some 24) #[true, true, true, true, true, false, false, false, false, false, false] rfl rfl (one_of HT_.out (by kernel_rfl)) (by decide) (fun K hK => ?_)
   refine goes_ Try.func8 (by kernel_rfl) rfl #[.slice A2 l2.length c2] (by rfl) rfl rfl (by (try simp only [List.map_toArray, List.map_cons, List.map_nil]); first | done | rfl | (simp only [List.length_drop, List.length_take]; rfl)) ?_
   with_reducible refine (barbicanlaw24_own.calls k _ _ l2 t347 _ ?side1 ?side2 A10.out).mono ?_
   (case side1 => repeat (first | exact (Kd.C_below HR2.out HB.out) | (with_reducible refine Kd.C_alloc ?_ _) | (with_reducible refine Kd.C_drewN ?_ _) | (with_reducible refine Kd.C_drew ?_)))
   (case side2 => exact HC2.out)
   rintro e w16 ⟨v348, rfl, ho0, hb⟩
   refine ⟨_, rfl, ?_⟩
   have n0_ := Aside0.mk (Kd.R_below (by (with_reducible repeat (first | apply Kd.R_alloc | apply Kd.R_drewN | apply Kd.R_drew)); exact HO344.out) hb)
   have n1_ := Aside0.mk (Kd.N_lower (Kd.N_mono (ok' := fun k_ => some k_ ≠ (v343 : Value).ownBlock ∧ k_ ≠ gb335 ∧ k_ ≠ gb336) (Kd.S_N (Kd.S_bound ho0)) (fun k_ hk_ => ⟨(Kd.fresh' (Kd.R_lt (by (with_reducible repeat (first | apply Kd.R_alloc | apply Kd.R_drewN | apply Kd.R_drew)); exact HO344.out)) k_ hk_.2.1), (Kd.freshB (g := gb335) (o := .cells #[.string a0_0, .slice A0_1 l0_1.length c0_1] 24 (0, 0)) (bk9_ BK335) k_ hk_.2.1), (Kd.freshB (g := gb336) (o := .cells #[.string a1_0, .string a1_1, .int .i64 a1_2, .int .i64 a1_3, .slice A1_4 l1_4.length c1_4, .int .i64 a1_5, .int .i64 a1_6] 27 (0, 0)) (bk9_ BK336) k_ hk_.2.1)⟩)) (below_size (bh9_ HB)))
   have n2_ := Aside0.mk (blk_below (g := gb335) (o := .cells #[.string a0_0, .slice A0_1 l0_1.length c0_1] 24 (0, 0)) (bk9_ BK335) hb)
   have n3_ := Aside0.mk (blk_below (g := gb336) (o := .cells #[.string a1_0, .string a1_1, .int .i64 a1_2, .int .i64 a1_3, .slice A1_4 l1_4.length c1_4, .int .i64 a1_5, .int .i64 a1_6] 27 (0, 0)) (bk9_ BK336) hb)
   have n4_ := Aside0.mk (below_step (bh9_ HB) hb)
   clear HO344
   clear BK335
   clear BK336
   clear HB
   have HO344 := n0_
   have HO349 := n1_
   have BK335 := n2_
   have BK336 := n3_
   have HB := n4_
   clear n0_ n1_ n2_ n3_ n4_
   (try clear hb)
   (try clear hb2)
   (try clear hk)
   (try clear hi)
   (try clear ho0)
   obtain ⟨Ao17, co17, eo17⟩ := Kd.R_slice HO344.out
   (first | subst eo17 | (injection eo17 with f1_ f2_ f3_; have f4_ := f1_.symm; have f5_ := f3_.symm; clear f1_ f2_ f3_; subst f4_; subst f5_))
   obtain ⟨Ao18, co18, eo18⟩ := Kd.N_slice HO349.out
   (first | subst eo18 | (injection eo18 with f1_ f2_ f3_; have f4_ := f1_.symm; have f5_ := f3_.symm; clear f1_ f2_ f3_; subst f4_; subst f5_))
   refine hK.out _ _ ⟨(blk_cell BK335.out 0).trans rfl, (blk_cell BK335.out 1).trans rfl, (blk_cell BK336.out 0).trans rfl, (blk_cell BK336.out 1).trans rfl, (blk_cell BK336.out 2).trans rfl, (blk_cell BK336.out 3).trans rfl, (blk_cell BK336.out 4).trans rfl, (blk_cell BK336.out 5).trans rfl, (blk_cell BK336.out 6).trans rfl⟩ (fun hHeld => ?_)
   clear hK K
   refine norm_ (a' := ?_) ?_ ?_
   rotate_left
   ·show Act.put _ (some 24) _ = _
    simp only [Act.put, List.setIfInBounds_toArray, List.set_cons_zero, List.set_cons_succ, i64_w, i32_w]
    rfl
   refine one_ (i := 5) (N := some 25) #[true, true, true, true, true, true, false, false, false, false, false] rfl rfl (one_of HT_.out (by kernel_rfl)) (by decide) (fun K hK => ?_)
   refine goes_ Try.func6 (by kernel_rfl) rfl #[.agg #[.string a0_0, .slice A0_1 l0_1.length c0_1], .agg #[.string t338, .string t339, .int .i64 t340, .int .i64 t341, .slice Ao17 t342.length co17, .int .i64 t345, .int .i64 t346], .slice Ao18 t347.length co18] (by rfl) rfl rfl (by (try simp only [List.map_toArray, List.map_cons, List.map_nil]); first | done | rfl | (simp only [List.length_drop, List.length_take]; rfl)) ?_
   with_reducible refine (guard_Release.calls k a0_0 _ _ l0_1 t338 t339 t340 t341 _ _ t342 t345 t346 _ _ t347 t350 none _ ?side1 ?side2 ?side3 ?side4 ?side5 ?side6 A11.out).mono ?_
   (case side1 => repeat (first | exact (Kd.C_below HR0_1.out HB.out) | (with_reducible refine Kd.C_alloc ?_ _) | (with_reducible refine Kd.C_drewN ?_ _) | (with_reducible refine Kd.C_drew ?_)))
   (case side2 => exact HC0_1.out)
   (case side3 => repeat (first | exact (Kd.R_reads' HO344.out).2.2 | (with_reducible refine Kd.C_alloc ?_ _) | (with_reducible refine Kd.C_drewN ?_ _) | (with_reducible refine Kd.C_drew ?_)))
   (case side4 => exact (Kd.R_reads' HO344.out).2.1)
   (case side5 => repeat (first | exact (Kd.N_reads' HO349.out).2.2 | (with_reducible refine Kd.C_alloc ?_ _) | (with_reducible refine Kd.C_drewN ?_ _) | (with_reducible refine Kd.C_drew ?_)))
   (case side6 => exact (Kd.N_reads' HO349.out).2.1)
   rintro e w19 ⟨v351, rfl, ho0, hb⟩
   refine ⟨_, rfl, ?_⟩
   have n0_ := Aside0.mk (Kd.R_below (by (with_reducible repeat (first | apply Kd.R_alloc | apply Kd.R_drewN | apply Kd.R_drew)); exact HO344.out) hb)
   have n1_ := Aside0.mk (Kd.N_elder' (by (with_reducible repeat (first | apply Kd.N_alloc | apply Kd.N_drewN | apply Kd.N_drew)); exact HO349.out) (by first | exact Kd.N_base ho0 | exact Kd.N_base (Kd.S_N ho0)) hb)
   have n2_ := Aside0.mk (Kd.N_lower (Kd.N_mono (ok' := fun k_ => some k_ ≠ (.slice Ao17 t342.length co17 : Value).ownBlock ∧ some k_ ≠ (.slice Ao18 t347.length co18 : Value).ownBlock ∧ k_ ≠ gb335 ∧ k_ ≠ gb336) ho0 (fun k_ hk_ => ⟨(Kd.fresh' (Kd.R_lt (by (with_reducible repeat (first | apply Kd.R_alloc | apply Kd.R_drewN | apply Kd.R_drew)); exact HO344.out)) k_ hk_), (Kd.fresh' (Kd.N_lt (by (with_reducible repeat (first | apply Kd.N_alloc | apply Kd.N_drewN | apply Kd.N_drew)); exact HO349.out)) k_ hk_), (Kd.freshB (g := gb335) (o := .cells #[.string a0_0, .slice A0_1 l0_1.length c0_1] 24 (0, 0)) (bk9_ BK335) k_ hk_), (Kd.freshB (g := gb336) (o := .cells #[.string a1_0, .string a1_1, .int .i64 a1_2, .int .i64 a1_3, .slice A1_4 l1_4.length c1_4, .int .i64 a1_5, .int .i64 a1_6] 27 (0, 0)) (bk9_ BK336) k_ hk_)⟩)) (below_size (bh9_ HB)))
   have n3_ := Aside0.mk (blk_below (g := gb335) (o := .cells #[.string a0_0, .slice A0_1 l0_1.length c0_1] 24 (0, 0)) (bk9_ BK335) hb)
   have n4_ := Aside0.mk (blk_below (g := gb336) (o := .cells #[.string a1_0, .string a1_1, .int .i64 a1_2, .int .i64 a1_3, .slice A1_4 l1_4.length c1_4, .int .i64 a1_5, .int .i64 a1_6] 27 (0, 0)) (bk9_ BK336) hb)
   have n5_ := Aside0.mk (below_step (bh9_ HB) hb)
   clear HO344
   clear HO349
   clear BK335
   clear BK336
   clear HB
   have HO344 := n0_
   have HO349 := n1_
   have HO352 := n2_
   have BK335 := n3_
   have BK336 := n4_
   have HB := n5_
   clear n0_ n1_ n2_ n3_ n4_ n5_
   (try clear hb)
   (try clear hb2)
   (try clear hk)
   (try clear hi)
   (try clear ho0)
   (try simp only [errW_none, errW_some])
   refine hK.out _ _ ⟨(blk_cell BK335.out 0).trans rfl, (blk_cell BK335.out 1).trans rfl, (blk_cell BK336.out 0).trans rfl, (blk_cell BK336.out 1).trans rfl, (blk_cell BK336.out 2).trans rfl, (blk_cell BK336.out 3).trans rfl, (blk_cell BK336.out 4).trans rfl, (blk_cell BK336.out 5).trans rfl, (blk_cell BK336.out 6).trans rfl⟩ (fun hHeld => ?_)
   clear hK K
   refine norm_ (a' := ?_) ?_ ?_
   rotate_left
   ·show Act.put _ (some 25) _ = _
    simp only [Act.put, List.setIfInBounds_toArray, List.set_cons_zero, List.set_cons_succ, i64_w, i32_w]
    rfl
   refine pure_ (i := 6) (N := some 19) (v := ?_) (a' := ?_) #[true, true, true, true, true, true, true, false, false, false, false] rfl rfl (any_of HT_.out (by kernel_rfl)) (fun _ _ _ h => h) (Or.inl ⟨by rfl, ?_⟩) ?_ ?_
   rotate_left
   ·intro w'
    go_simp
    with_reducible rfl
   rotate_left
   ·simp only [Act.put, List.setIfInBounds_toArray, List.set_cons_zero, List.set_cons_succ, i64_w, i32_w]
    rfl
   refine pure_ (i := 7) (N := some 26) (v := ?_) (a' := ?_) #[true, true, true, true, true, true, true, true, false, false, false] rfl rfl (any_of HT_.out (by kernel_rfl)) (fun _ _ _ h => h) (Or.inl ⟨by rfl, ?_⟩) ?_ ?_
   rotate_left
   ·intro w'
    go_simp
    with_reducible rfl
   rotate_left
   ·simp only [Act.put, List.setIfInBounds_toArray, List.set_cons_zero, List.set_cons_succ, i64_w, i32_w]
    rfl
   refine pure_ (i := 8) (N := some 27) (v := ?_) (a' := ?_) #[true, true, true, true, true, true, true, true, true, false, false] rfl rfl (any_of HT_.out (by kernel_rfl)) (fun _ _ _ h => h) (Or.inl ⟨by rfl, ?_⟩) ?_ ?_
   rotate_left
   ·intro w'
    go_simp
    with_reducible rfl
   rotate_left
   ·simp only [Act.put, List.setIfInBounds_toArray, List.set_cons_zero, List.set_cons_succ, i64_w, i32_w]
    rfl
   refine pure_ (i := 9) (N := some 7) (v := ?_) (a' := ?_) #[true, true, true, true, true, true, true, true, true, true, false] rfl rfl (any_of HT_.out (by kernel_rfl)) (fun _ _ _ h => h) (Or.inl ⟨by rfl, ?_⟩) ?_ ?_
   rotate_left
   ·intro w'
    go_simp
    with_reducible rfl
   rotate_left
   ·simp only [Act.put, List.setIfInBounds_toArray, List.set_cons_zero, List.set_cons_succ, i64_w, i32_w]
    rfl
   refine pure_ (i := 10) (N := some 8) (v := ?_) (a' := ?_) #[true, true, true, true, true, true, true, true, true, true, true] rfl rfl (any_of HT_.out (by kernel_rfl)) (fun _ _ _ h => h) (Or.inl ⟨by rfl, ?_⟩) ?_ ?_
   rotate_left
   ·intro w'
    go_simp
    with_reducible rfl
   rotate_left
   ·simp only [Act.put, List.setIfInBounds_toArray, List.set_cons_zero, List.set_cons_succ, i64_w, i32_w]
    rfl
   refine done_ (done_of HT_.out (by kernel_rfl)) ?_
   try go_wp2
   go_loopg [9] k (fun kq v9 w' => ∃ (x9_1 : Int), v9 = .int .i64 x9_1 ∧ Aside0 (barbicanlaw24_GuardRare.l0 kq l2 t350 x9_1 a0_0 l0_1 a1_0 a1_1 a1_2 a1_3 l1_4 a1_5 a1_6 = some r) ∧ Aside0 (kq ≤ k) ∧ Aside0 (Kd.N (Kd.slice 47 k47) 41 w' w.heap.size (fun k_ => k_ ≠ gb335 ∧ k_ ≠ gb336) v351 t350) ∧ Aside0 (w'.heap[gb335]? = some (.cells #[.string a0_0, (.slice A0_1 l0_1.length c0_1)] 24 (0, 0))) ∧ Aside0 (w'.heap[gb336]? = some (.cells #[.string a1_0, .string a1_1, .int .i64 a1_2, .int .i64 a1_3, (.slice A1_4 l1_4.length c1_4), .int .i64 a1_5, .int .i64 a1_6] 27 (0, 0))) ∧ Aside0 (Below w.heap.size w w'))
   case atStart => exact ⟨(0), (by first | rfl | (simp; done) | (simp [*]; done)), H', ⟨Nat.le_refl _⟩, ⟨by (with_reducible repeat (first | apply Kd.N_alloc | apply Kd.N_drewN | apply Kd.N_drew)); exact Kd.N_mono HO352.out (fun _ hk => ⟨hk.2.2.1, hk.2.2.2⟩)⟩, ⟨bk9_ BK335⟩, ⟨bk9_ BK336⟩, ⟨by repeat (first | (with_reducible first | exact HB.out | apply below_alloc | apply pw_below_drewN | apply below_drew1 | refine below_set ?_ GE335.out | refine below_set ?_ GE336.out) | exact HB.out | exact below_undrew HB.out)⟩⟩
   case round =>
    clear H'
    try clear c1
    try clear c2
    try clear p2
    try clear c3
    try clear q3
    try clear c4
    try clear c4b0
    try clear c4b1
    try clear c5
    try clear c6
    try clear c7
    try clear c8
    try clear q354
    obtain ⟨x9_1, rfl, HA, HK1, HO_7, BK335, BK336, HB⟩ := hrel
    cases gk with
    | zero => exact absurd HA.out (by simp [barbicanlaw24_GuardRare.l0])
    | succ k1 =>
     have H := HA.out
     clear HA
     simp only [barbicanlaw24_GuardRare.l0] at H
     by_cases c20 : x9_1 < (t350.length : Int)
     ·rw [if_pos c20] at H
      have c20b0 : decide (x9_1 < (t350.length : Int)) = true := decide_eq_true c20
      clear c20
      have H' := Aside0.mk H
      clear H
      obtain ⟨Ao21, co21, eo21⟩ := Kd.N_slice HO_7.out
      subst eo21
      go_wp2
      go_loopg [10, 11] k1 (fun kq v10 v11 w' => ∃ (x10_2 : Int) (x11_2 : Int), v10 = .int .i64 x10_2 ∧ v11 = .int .i64 x11_2 ∧ Aside0 (barbicanlaw24_GuardRare.l1 kq l2 t350 x9_1 x10_2 x11_2 a0_0 l0_1 a1_0 a1_1 a1_2 a1_3 l1_4 a1_5 a1_6 = some r) ∧ Aside0 (kq ≤ k1) ∧ Aside0 (Kd.N (Kd.slice 47 k47) 41 w' w.heap.size (fun k_ => k_ ≠ gb335 ∧ k_ ≠ gb336) (.slice Ao21 t350.length co21) t350) ∧ Aside0 (w'.heap[gb335]? = some (.cells #[.string a0_0, (.slice A0_1 l0_1.length c0_1)] 24 (0, 0))) ∧ Aside0 (w'.heap[gb336]? = some (.cells #[.string a1_0, .string a1_1, .int .i64 a1_2, .int .i64 a1_3, (.slice A1_4 l1_4.length c1_4), .int .i64 a1_5, .int .i64 a1_6] 27 (0, 0))) ∧ Aside0 (Below w.heap.size w w'))
      case atStart => exact ⟨(0), (0), (by first | rfl | (simp; done) | (simp [*]; done)), (by first | rfl | (simp; done) | (simp [*]; done)), H', ⟨Nat.le_refl _⟩, ⟨by (with_reducible repeat (first | apply Kd.N_alloc | apply Kd.N_drewN | apply Kd.N_drew)); exact HO_7.out⟩, ⟨bk9_ BK335⟩, ⟨bk9_ BK336⟩, ⟨by repeat (first | (with_reducible first | exact HB.out | apply below_alloc | apply pw_below_drewN | apply below_drew1 | refine below_set ?_ GE335.out | refine below_set ?_ GE336.out) | exact HB.out | exact below_undrew HB.out)⟩⟩
      case round =>
       clear H'
       try clear c1
       try clear c2
       try clear p2
       try clear c3
       try clear q3
       try clear c4
       try clear c4b0
       try clear c4b1
       try clear c5
       try clear c6
       try clear c7
       try clear c8
       try clear c20
       try clear c20b0
       try clear p2
       try clear q3
       try clear q354
       obtain ⟨x10_2, x11_2, rfl, rfl, HA, HK2, HO_7, BK335, BK336, HB⟩ := hrel
       cases gk with
       | zero => exact absurd HA.out (by simp [barbicanlaw24_GuardRare.l1])
       | succ k2 =>
        have H := HA.out
        clear HA
        simp only [barbicanlaw24_GuardRare.l1] at H
        by_cases c22 : x11_2 < (t350.length : Int)
        ·rw [if_pos c22] at H
         have c22b0 : decide (x11_2 < (t350.length : Int)) = true := decide_eq_true c22
         clear c22
         by_cases c23 : 0 ≤ x9_1
         ·rw [if_pos c23] at H
          have c23b0 : decide (0 ≤ x9_1) = true := decide_eq_true c23
          clear c23
          by_cases c24 : x9_1 < (t350.length : Int)
          ·rw [if_pos c24] at H
           have c24b0 : decide (x9_1 < (t350.length : Int)) = true := decide_eq_true c24
           clear c24
           by_cases c25 : 0 ≤ x11_2
           ·rw [if_pos c25] at H
            have c25b0 : decide (0 ≤ x11_2) = true := decide_eq_true c25
            clear c25
            replace H := Option.bind_eq_some_iff.mp H
            obtain ⟨t357, A260, H⟩ := H
            replace H : (if t357 = true then (barbicanlaw24_GuardRare.l1 k2 l2 t350 x9_1 (wrap64 (x10_2 + 1)) (wrap64 (x11_2 + 1)) a0_0 l0_1 a1_0 a1_1 a1_2 a1_3 l1_4 a1_5 a1_6) else (barbicanlaw24_GuardRare.l1 k2 l2 t350 x9_1 x10_2 (wrap64 (x11_2 + 1)) a0_0 l0_1 a1_0 a1_1 a1_2 a1_3 l1_4 a1_5 a1_6)) = some r := H
            have A26 := Aside0.mk A260
            clear A260
            by_cases c27 : t357 = true
            ·subst c27
             have H1 : (barbicanlaw24_GuardRare.l1 k2 l2 t350 x9_1 (wrap64 (x10_2 + 1)) (wrap64 (x11_2 + 1)) a0_0 l0_1 a1_0 a1_1 a1_2 a1_3 l1_4 a1_5 a1_6) = some r := by rw [if_pos rfl] at H; exact H
             clear H
             have H := H1
             clear H1
             have H' := Aside0.mk H
             clear H
             try go_wp2
             have n0_ := Aside0.mk (Kd.N_drew HO_7.out)
             have n1_ := Aside0.mk (blk_drew BK335.out)
             have n2_ := Aside0.mk (blk_drew BK336.out)
             have n3_ := Aside0.mk (below_drew1 HB.out)
             clear HO_7
             clear BK335
             clear BK336
             clear HB
             have HO_7 := n0_
             have BK335 := n1_
             have BK336 := n2_
             have HB := n3_
             clear n0_ n1_ n2_ n3_
             have p355 : 0 ≤ (x9_1 : Int) := of_decide_eq_true (by first | (with_reducible assumption) | assumption)
             have q355 : x9_1 < (t350.length : Int) := of_decide_eq_true (by first | (with_reducible assumption) | assumption)
             obtain ⟨ad355, A355_0, c355_0, e355, hx355_0, hl355_0, hi355_0⟩ := at_L8 (Kd.N_reads' HO_7.out).2.2 x9_1 p355 q355
             cases e355
             obtain ⟨ce355, hce355, hMe355, hcc355⟩ := Kd.N_get HO_7.out [] x9_1 p355 (by first | exact q355 | exact of_decide_eq_true (by first | (with_reducible assumption) | assumption) | (have e_ := (Kd.N_reads' HO_7.out).1; omega))
             obtain ⟨ua355_0, uc355_0, rfl, ul355_0, ge355_0⟩ := Kd.FK_slice_open hMe355
             have hv355_0 := hcc355 0 _ rfl
             rw [Nat.add_zero, show ((Kd.slice 47 k47)).sz = 1 from rfl, Nat.mul_one] at hv355_0
             replace hv355_0 := Option.some.inj (hv355_0.symm.trans hx355_0)
             injection hv355_0 with hva_ hvn_ hvc_
             rw [hva_] at ge355_0
             rw [hvc_] at ul355_0
             have HL355_0 := Aside0.mk (show Kd.V k47 47 _ w.heap.size _ _ (rd_L8 t350 x9_1) from Kd.V_mk ul355_0 ge355_0)
             clear hva_ hvn_ hvc_ ge355_0 ul355_0
             clear hcc355 hce355
             have HR355_0 := Aside0.mk hi355_0
             have HC355_0 := Aside0.mk hl355_0
             clear hi355_0 hl355_0
             replace p355 := eq_true p355
             replace q355 := eq_true q355
             have p356 : 0 ≤ (x11_2 : Int) := of_decide_eq_true (by first | (with_reducible assumption) | assumption)
             have q356 : x11_2 < (t350.length : Int) := of_decide_eq_true (by first | (with_reducible assumption) | assumption)
             obtain ⟨ad356, A356_0, c356_0, e356, hx356_0, hl356_0, hi356_0⟩ := at_L8 (Kd.N_reads' HO_7.out).2.2 x11_2 p356 q356
             obtain rfl : ad355 = ad356 := (by injection e356)
             obtain ⟨ce356, hce356, hMe356, hcc356⟩ := Kd.N_get HO_7.out [] x11_2 p356 (by first | exact q356 | exact of_decide_eq_true (by first | (with_reducible assumption) | assumption) | (have e_ := (Kd.N_reads' HO_7.out).1; omega))
             obtain ⟨ua356_0, uc356_0, rfl, ul356_0, ge356_0⟩ := Kd.FK_slice_open hMe356
             have hv356_0 := hcc356 0 _ rfl
             rw [Nat.add_zero, show ((Kd.slice 47 k47)).sz = 1 from rfl, Nat.mul_one] at hv356_0
             replace hv356_0 := Option.some.inj (hv356_0.symm.trans hx356_0)
             injection hv356_0 with hva_ hvn_ hvc_
             rw [hva_] at ge356_0
             rw [hvc_] at ul356_0
             have HL356_0 := Aside0.mk (show Kd.V k47 47 _ w.heap.size _ _ (rd_L8 t350 x11_2) from Kd.V_mk ul356_0 ge356_0)
             clear hva_ hvn_ hvc_ ge356_0 ul356_0
             clear hcc356 hce356
             have HR356_0 := Aside0.mk hi356_0
             have HC356_0 := Aside0.mk hl356_0
             clear hi356_0 hl356_0
             replace p356 := eq_true p356
             replace q356 := eq_true q356
             refine start_ (n := 9) (S := fun w' => w'.cell? (ad355.add (x9_1).toNat) = some (.slice A355_0 (rd_L8 t350 x9_1).length c355_0) ∧ w'.cell? (ad355.add (x11_2).toNat) = some (.slice A356_0 (rd_L8 t350 x11_2).length c356_0)) (ds := []) #[false, false, false, false, false, false, false, false, false] (by kernel_rfl) rfl rfl ⟨hx355_0, hx356_0⟩ (fun hHeld => ?_); refine with_tabW barbicanlaw24_GuardRare.tab13 barbicanlaw24_GuardRare.bits13 (fun HT_ HW_ => ?_)
             generalize wr.drew = w28 at HO_7 BK335 BK336 HB HL355_0 HL356_0 HR355_0 HR356_0 hx355_0 hx356_0 hHeld ⊢
             refine pure_ (i := 0) (N := some 48) (v := ?_) (a' := ?_) #[true, false, false, false, false, false, false, false, false] rfl rfl (any_of HT_.out (by kernel_rfl)) (fun _ _ _ h => h) (Or.inl ⟨by rfl, ?_⟩) ?_ ?_
             rotate_left
             ·intro w'
              go_simp
              with_reducible rfl
             rotate_left
             ·simp only [Act.put, List.setIfInBounds_toArray, List.set_cons_zero, List.set_cons_succ, i64_w, i32_w]
              rfl
             refine pure_ (i := 1) (N := some 49) (v := ?_) (a' := ?_) #[true, true, false, false, false, false, false, false, false] rfl rfl (any_of HT_.out (by kernel_rfl)) (fun _ _ _ h => h) (Or.inl ⟨by rfl, ?_⟩) ?_ ?_
             rotate_left
             ·intro w'
              go_simp
              with_reducible rfl
             rotate_left
             ·simp only [Act.put, List.setIfInBounds_toArray, List.set_cons_zero, List.set_cons_succ, i64_w, i32_w]
              rfl
             refine pure_ (i := 2) (N := some 50) (v := ?_) (a' := ?_) #[true, true, true, false, false, false, false, false, false] rfl rfl (any_of HT_.out (by kernel_rfl)) (fun _ _ _ h => h) (Or.inl ⟨by rfl, ?_⟩) ?_ ?_
             rotate_left
             ·intro w'
              go_simp
              with_reducible rfl
             rotate_left
             ·simp only [Act.put, List.setIfInBounds_toArray, List.set_cons_zero, List.set_cons_succ, i64_w, i32_w]
              rfl
             refine pure_ (i := 4) (N := some 52) (v := ?_) (a' := ?_) #[true, true, true, false, true, false, false, false, false] rfl rfl (any_of HT_.out (by kernel_rfl)) (fun _ _ _ h => h) (Or.inl ⟨by rfl, ?_⟩) ?_ ?_
             rotate_left
             ·intro w'
              go_simp
              with_reducible rfl
             rotate_left
             ·simp only [Act.put, List.setIfInBounds_toArray, List.set_cons_zero, List.set_cons_succ, i64_w, i32_w]
              rfl
             refine pure_ (i := 5) (N := some 53) (v := ?_) (a' := ?_) #[true, true, true, false, true, true, false, false, false] rfl rfl (any_of HT_.out (by kernel_rfl)) (fun _ _ _ h => h) (Or.inl ⟨by rfl, ?_⟩) ?_ ?_
             rotate_left
             ·intro w'
              go_simp
              with_reducible rfl
             rotate_left
             ·simp only [Act.put, List.setIfInBounds_toArray, List.set_cons_zero, List.set_cons_succ, i64_w, i32_w]
              rfl
             refine pure_ (i := 6) (N := some 54) (v := ?_) (a' := ?_) #[true, true, true, false, true, true, true, false, false] rfl rfl (any_of HT_.out (by kernel_rfl)) (fun _ _ _ h => h) (Or.inl ⟨by rfl, ?_⟩) ?_ ?_
             rotate_left
             ·intro w'
              go_simp
              with_reducible rfl
             rotate_left
             ·simp only [Act.put, List.setIfInBounds_toArray, List.set_cons_zero, List.set_cons_succ, i64_w, i32_w]
              rfl
             refine take_ (i := 3) (N := some 51) (v := ?_) (a' := ?_) #[true, true, true, true, true, true, true, false, false] rfl rfl (take_ofW HT_.out HW_.out (by kernel_rfl)) (fun _ _ _ h => h) (Or.inl ⟨by rfl, ?_⟩) hHeld ?_ ?_
             rotate_left
             ·rintro w' ⟨s0, s1⟩
              go_simp
              with_reducible rfl
             rotate_left
             ·simp only [Act.put, List.setIfInBounds_toArray, List.set_cons_zero, List.set_cons_succ, i64_w, i32_w]
              rfl
             refine take_ (i := 7) (N := some 55) (v := ?_) (a' := ?_) #[true, true, true, true, true, true, true, true, false] rfl rfl (take_ofW HT_.out HW_.out (by kernel_rfl)) (fun _ _ _ h => h) (Or.inl ⟨by rfl, ?_⟩) hHeld ?_ ?_
             rotate_left
             ·rintro w' ⟨s0, s1⟩
              go_simp
              with_reducible rfl
             rotate_left
             ·simp only [Act.put, List.setIfInBounds_toArray, List.set_cons_zero, List.set_cons_succ, i64_w, i32_w]
              rfl
             refine one_ (i := 8) (N := some 56) #[true, true, true, true, true, true, true, true, true] rfl rfl (one_of HT_.out (by kernel_rfl)) (by decide) (fun K hK => ?_)
             refine goes_ Try.func9 (by kernel_rfl) rfl #[.slice A355_0 (rd_L8 t350 x9_1).length c355_0, .slice A356_0 (rd_L8 t350 x11_2).length c356_0] (by rfl) rfl rfl (by (try simp only [List.map_toArray, List.map_cons, List.map_nil]); first | done | rfl | (simp only [List.length_drop, List.length_take]; rfl)) ?_
             with_reducible refine (barbicanlaw24_values.calls k2 _ _ (rd_L8 t350 x9_1) _ _ (rd_L8 t350 x11_2) true _ ?side1 ?side2 ?side3 ?side4 A26.out).mono ?_
             (case side1 => repeat (first | exact (by repeat (first | (with_reducible exact HR355_0.out) | (with_reducible refine Kd.C_alloc ?_ _) | (with_reducible refine Kd.C_drewN ?_ _) | (with_reducible refine Kd.C_drew ?_) | exact HR355_0.out)) | (with_reducible refine Kd.C_alloc ?_ _) | (with_reducible refine Kd.C_drewN ?_ _) | (with_reducible refine Kd.C_drew ?_)))
             (case side2 => exact HC355_0.out)
             (case side3 => repeat (first | exact (by repeat (first | (with_reducible exact HR356_0.out) | (with_reducible refine Kd.C_alloc ?_ _) | (with_reducible refine Kd.C_drewN ?_ _) | (with_reducible refine Kd.C_drew ?_) | exact HR356_0.out)) | (with_reducible refine Kd.C_alloc ?_ _) | (with_reducible refine Kd.C_drewN ?_ _) | (with_reducible refine Kd.C_drew ?_)))
             (case side4 => exact HC356_0.out)
             rintro e w' ⟨rfl, ⟨nd, rfl⟩⟩
             refine ⟨_, rfl, ?_⟩
             refine hK.out _ _ ⟨hHeld.1, hHeld.2⟩ (fun hHeld => ?_)
             clear hK K
             refine norm_ (a' := ?_) ?_ ?_
             rotate_left
             ·show Act.put _ (some 56) _ = _
              simp only [Act.put, List.setIfInBounds_toArray, List.set_cons_zero, List.set_cons_succ, i64_w, i32_w]
              rfl
             refine done_ (done_of HT_.out (by kernel_rfl)) ?_
             try go_wp2
             go_roundg k2
             case measure => have := HK1.out; have := HK2.out; omega
             case rel => exact ⟨(wrap64 (x10_2 + 1)), (wrap64 (x11_2 + 1)), (by first | rfl | (simp; done) | (simp [*]; done)), (by first | rfl | (simp; done) | (simp [*]; done)), H', ⟨by have := HK1.out; have := HK2.out; omega⟩, ⟨by (with_reducible repeat (first | apply Kd.N_alloc | apply Kd.N_drewN | apply Kd.N_drew)); exact HO_7.out⟩, ⟨bk9_ BK335⟩, ⟨bk9_ BK336⟩, ⟨by repeat (first | (with_reducible first | exact HB.out | apply below_alloc | apply pw_below_drewN | apply below_drew1 | refine below_set ?_ GE335.out | refine below_set ?_ GE336.out) | exact HB.out | exact below_undrew HB.out)⟩⟩
            ·replace c27 := Bool.eq_false_iff.mpr c27
             subst c27
             have H1 : (barbicanlaw24_GuardRare.l1 k2 l2 t350 x9_1 x10_2 (wrap64 (x11_2 + 1)) a0_0 l0_1 a1_0 a1_1 a1_2 a1_3 l1_4 a1_5 a1_6) = some r := by rw [if_neg (show ¬ (false = true) by decide)] at H; exact H
             clear H
             have H := H1
             clear H1
             have H' := Aside0.mk H
             clear H
             try go_wp2
             have n0_ := Aside0.mk (Kd.N_drew HO_7.out)
             have n1_ := Aside0.mk (blk_drew BK335.out)
             have n2_ := Aside0.mk (blk_drew BK336.out)
             have n3_ := Aside0.mk (below_drew1 HB.out)
             clear HO_7
             clear BK335
             clear BK336
             clear HB
             have HO_7 := n0_
             have BK335 := n1_
             have BK336 := n2_
             have HB := n3_
             clear n0_ n1_ n2_ n3_
             have p355 : 0 ≤ (x9_1 : Int) := of_decide_eq_true (by first | (with_reducible assumption) | assumption)
             have q355 : x9_1 < (t350.length : Int) := of_decide_eq_true (by first | (with_reducible assumption) | assumption)
             obtain ⟨ad355, A355_0, c355_0, e355, hx355_0, hl355_0, hi355_0⟩ := at_L8 (Kd.N_reads' HO_7.out).2.2 x9_1 p355 q355
             cases e355
             obtain ⟨ce355, hce355, hMe355, hcc355⟩ := Kd.N_get HO_7.out [] x9_1 p355 (by first | exact q355 | exact of_decide_eq_true (by first | (with_reducible assumption) | assumption) | (have e_ := (Kd.N_reads' HO_7.out).1; omega))
             obtain ⟨ua355_0, uc355_0, rfl, ul355_0, ge355_0⟩ := Kd.FK_slice_open hMe355
             have hv355_0 := hcc355 0 _ rfl
             rw [Nat.add_zero, show ((Kd.slice 47 k47)).sz = 1 from rfl, Nat.mul_one] at hv355_0
             replace hv355_0 := Option.some.inj (hv355_0.symm.trans hx355_0)
             injection hv355_0 with hva_ hvn_ hvc_
             rw [hva_] at ge355_0
             rw [hvc_] at ul355_0
             have HL355_0 := Aside0.mk (show Kd.V k47 47 _ w.heap.size _ _ (rd_L8 t350 x9_1) from Kd.V_mk ul355_0 ge355_0)
             clear hva_ hvn_ hvc_ ge355_0 ul355_0
             clear hcc355 hce355
             have HR355_0 := Aside0.mk hi355_0
             have HC355_0 := Aside0.mk hl355_0
             clear hi355_0 hl355_0
             replace p355 := eq_true p355
             replace q355 := eq_true q355
             have p356 : 0 ≤ (x11_2 : Int) := of_decide_eq_true (by first | (with_reducible assumption) | assumption)
             have q356 : x11_2 < (t350.length : Int) := of_decide_eq_true (by first | (with_reducible assumption) | assumption)
             obtain ⟨ad356, A356_0, c356_0, e356, hx356_0, hl356_0, hi356_0⟩ := at_L8 (Kd.N_reads' HO_7.out).2.2 x11_2 p356 q356
             obtain rfl : ad355 = ad356 := (by injection e356)
             obtain ⟨ce356, hce356, hMe356, hcc356⟩ := Kd.N_get HO_7.out [] x11_2 p356 (by first | exact q356 | exact of_decide_eq_true (by first | (with_reducible assumption) | assumption) | (have e_ := (Kd.N_reads' HO_7.out).1; omega))
             obtain ⟨ua356_0, uc356_0, rfl, ul356_0, ge356_0⟩ := Kd.FK_slice_open hMe356
             have hv356_0 := hcc356 0 _ rfl
             rw [Nat.add_zero, show ((Kd.slice 47 k47)).sz = 1 from rfl, Nat.mul_one] at hv356_0
             replace hv356_0 := Option.some.inj (hv356_0.symm.trans hx356_0)
             injection hv356_0 with hva_ hvn_ hvc_
             rw [hva_] at ge356_0
             rw [hvc_] at ul356_0
             have HL356_0 := Aside0.mk (show Kd.V k47 47 _ w.heap.size _ _ (rd_L8 t350 x11_2) from Kd.V_mk ul356_0 ge356_0)
             clear hva_ hvn_ hvc_ ge356_0 ul356_0
             clear hcc356 hce356
             have HR356_0 := Aside0.mk hi356_0
             have HC356_0 := Aside0.mk hl356_0
             clear hi356_0 hl356_0
             replace p356 := eq_true p356
             replace q356 := eq_true q356
             refine start_ (n := 9) (S := fun w' => w'.cell? (ad355.add (x9_1).toNat) = some (.slice A355_0 (rd_L8 t350 x9_1).length c355_0) ∧ w'.cell? (ad355.add (x11_2).toNat) = some (.slice A356_0 (rd_L8 t350 x11_2).length c356_0)) (ds := []) #[false, false, false, false, false, false, false, false, false] (by kernel_rfl) rfl rfl ⟨hx355_0, hx356_0⟩ (fun hHeld => ?_); refine with_tabW barbicanlaw24_GuardRare.tab13 barbicanlaw24_GuardRare.bits13 (fun HT_ HW_ => ?_)
             generalize wr.drew = w29 at HO_7 BK335 BK336 HB HL355_0 HL356_0 HR355_0 HR356_0 hx355_0 hx356_0 hHeld ⊢
             refine pure_ (i := 0) (N := some 48) (v := ?_) (a' := ?_) #[true, false, false, false, false, false, false, false, false] rfl rfl (any_of HT_.out (by kernel_rfl)) (fun _ _ _ h => h) (Or.inl ⟨by rfl, ?_⟩) ?_ ?_
             rotate_left
             ·intro w'
              go_simp
              with_reducible rfl
             rotate_left
             ·simp only [Act.put, List.setIfInBounds_toArray, List.set_cons_zero, List.set_cons_succ, i64_w, i32_w]
              rfl
             refine pure_ (i := 1) (N := some 49) (v := ?_) (a' := ?_) #[true, true, false, false, false, false, false, false, false] rfl rfl (any_of HT_.out (by kernel_rfl)) (fun _ _ _ h => h) (Or.inl ⟨by rfl, ?_⟩) ?_ ?_
             rotate_left
             ·intro w'
              go_simp
              with_reducible rfl
             rotate_left
             ·simp only [Act.put, List.setIfInBounds_toArray, List.set_cons_zero, List.set_cons_succ, i64_w, i32_w]
              rfl
             refine pure_ (i := 2) (N := some 50) (v := ?_) (a' := ?_) #[true, true, true, false, false, false, false, false, false] rfl rfl (any_of HT_.out (by kernel_rfl)) (fun _ _ _ h => h) (Or.inl ⟨by rfl, ?_⟩) ?_ ?_
             rotate_left
             ·intro w'
              go_simp
              with_reducible rfl
             rotate_left
             ·simp only [Act.put, List.setIfInBounds_toArray, List.set_cons_zero, List.set_cons_succ, i64_w, i32_w]
              rfl
             refine pure_ (i := 4) (N := some 52) (v := ?_) (a' := ?_) #[true, true, true, false, true, false, false, false, false] rfl rfl (any_of HT_.out (by kernel_rfl)) (fun _ _ _ h => h) (Or.inl ⟨by rfl, ?_⟩) ?_ ?_
             rotate_left
             ·intro w'
              go_simp
              with_reducible rfl
             rotate_left
             ·simp only [Act.put, List.setIfInBounds_toArray, List.set_cons_zero, List.set_cons_succ, i64_w, i32_w]
              rfl
             refine pure_ (i := 5) (N := some 53) (v := ?_) (a' := ?_) #[true, true, true, false, true, true, false, false, false] rfl rfl (any_of HT_.out (by kernel_rfl)) (fun _ _ _ h => h) (Or.inl ⟨by rfl, ?_⟩) ?_ ?_
             rotate_left
             ·intro w'
              go_simp
              with_reducible rfl
             rotate_left
             ·simp only [Act.put, List.setIfInBounds_toArray, List.set_cons_zero, List.set_cons_succ, i64_w, i32_w]
              rfl
             refine pure_ (i := 6) (N := some 54) (v := ?_) (a' := ?_) #[true, true, true, false, true, true, true, false, false] rfl rfl (any_of HT_.out (by kernel_rfl)) (fun _ _ _ h => h) (Or.inl ⟨by rfl, ?_⟩) ?_ ?_
             rotate_left
             ·intro w'
              go_simp
              with_reducible rfl
             rotate_left
             ·simp only [Act.put, List.setIfInBounds_toArray, List.set_cons_zero, List.set_cons_succ, i64_w, i32_w]
              rfl
             refine take_ (i := 3) (N := some 51) (v := ?_) (a' := ?_) #[true, true, true, true, true, true, true, false, false] rfl rfl (take_ofW HT_.out HW_.out (by kernel_rfl)) (fun _ _ _ h => h) (Or.inl ⟨by rfl, ?_⟩) hHeld ?_ ?_
             rotate_left
             ·rintro w' ⟨s0, s1⟩
              go_simp
              with_reducible rfl
             rotate_left
             ·simp only [Act.put, List.setIfInBounds_toArray, List.set_cons_zero, List.set_cons_succ, i64_w, i32_w]
              rfl
             refine take_ (i := 7) (N := some 55) (v := ?_) (a' := ?_) #[true, true, true, true, true, true, true, true, false] rfl rfl (take_ofW HT_.out HW_.out (by kernel_rfl)) (fun _ _ _ h => h) (Or.inl ⟨by rfl, ?_⟩) hHeld ?_ ?_
             rotate_left
             ·rintro w' ⟨s0, s1⟩
              go_simp
              with_reducible rfl
             rotate_left
             ·simp only [Act.put, List.setIfInBounds_toArray, List.set_cons_zero, List.set_cons_succ, i64_w, i32_w]
              rfl
             refine one_ (i := 8) (N := some 56) #[true, true, true, true, true, true, true, true, true] rfl rfl (one_of HT_.out (by kernel_rfl)) (by decide) (fun K hK => ?_)
             refine goes_ Try.func9 (by kernel_rfl) rfl #[.slice A355_0 (rd_L8 t350 x9_1).length c355_0, .slice A356_0 (rd_L8 t350 x11_2).length c356_0] (by rfl) rfl rfl (by (try simp only [List.map_toArray, List.map_cons, List.map_nil]); first | done | rfl | (simp only [List.length_drop, List.length_take]; rfl)) ?_
             with_reducible refine (barbicanlaw24_values.calls k2 _ _ (rd_L8 t350 x9_1) _ _ (rd_L8 t350 x11_2) false _ ?side1 ?side2 ?side3 ?side4 A26.out).mono ?_
             (case side1 => repeat (first | exact (by repeat (first | (with_reducible exact HR355_0.out) | (with_reducible refine Kd.C_alloc ?_ _) | (with_reducible refine Kd.C_drewN ?_ _) | (with_reducible refine Kd.C_drew ?_) | exact HR355_0.out)) | (with_reducible refine Kd.C_alloc ?_ _) | (with_reducible refine Kd.C_drewN ?_ _) | (with_reducible refine Kd.C_drew ?_)))
             (case side2 => exact HC355_0.out)
             (case side3 => repeat (first | exact (by repeat (first | (with_reducible exact HR356_0.out) | (with_reducible refine Kd.C_alloc ?_ _) | (with_reducible refine Kd.C_drewN ?_ _) | (with_reducible refine Kd.C_drew ?_) | exact HR356_0.out)) | (with_reducible refine Kd.C_alloc ?_ _) | (with_reducible refine Kd.C_drewN ?_ _) | (with_reducible refine Kd.C_drew ?_)))
             (case side4 => exact HC356_0.out)
             rintro e w' ⟨rfl, ⟨nd, rfl⟩⟩
             refine ⟨_, rfl, ?_⟩
             refine hK.out _ _ ⟨hHeld.1, hHeld.2⟩ (fun hHeld => ?_)
             clear hK K
             refine norm_ (a' := ?_) ?_ ?_
             rotate_left
             ·show Act.put _ (some 56) _ = _
              simp only [Act.put, List.setIfInBounds_toArray, List.set_cons_zero, List.set_cons_succ, i64_w, i32_w]
              rfl
             refine done_ (done_of HT_.out (by kernel_rfl)) ?_
             try go_wp2
             go_roundg k2
             case measure => have := HK1.out; have := HK2.out; omega
             case rel => exact ⟨(x10_2), (wrap64 (x11_2 + 1)), (by first | rfl | (simp; done) | (simp [*]; done)), (by first | rfl | (simp; done) | (simp [*]; done)), H', ⟨by have := HK1.out; have := HK2.out; omega⟩, ⟨by (with_reducible repeat (first | apply Kd.N_alloc | apply Kd.N_drewN | apply Kd.N_drew)); exact HO_7.out⟩, ⟨bk9_ BK335⟩, ⟨bk9_ BK336⟩, ⟨by repeat (first | (with_reducible first | exact HB.out | apply below_alloc | apply pw_below_drewN | apply below_drew1 | refine below_set ?_ GE335.out | refine below_set ?_ GE336.out) | exact HB.out | exact below_undrew HB.out)⟩⟩
           ·rw [if_neg c25] at H
            exact absurd H (by simp)
          ·rw [if_neg c24] at H
           exact absurd H (by simp)
         ·rw [if_neg c23] at H
          exact absurd H (by simp)
        ·rw [if_neg c22] at H
         have c22b0 : decide (x11_2 < (t350.length : Int)) = false := decide_eq_false c22
         clear c22
         by_cases c30 : x10_2 < a1_5
         ·rw [if_pos c30] at H
          have c30b0 : decide (x10_2 < a1_5) = true := decide_eq_true c30
          clear c30
          exact absurd (Option.some.inj H) (by rw [hT.out]; decide)
         ·rw [if_neg c30] at H
          have c30b0 : decide (x10_2 < a1_5) = false := decide_eq_false c30
          clear c30
          have H' := Aside0.mk H
          clear H
          have hnb31 := NB336_335.out
          have hnc31 := NB335_336.out
          have hcz32_0 : wr.cell? ⟨gb336, 0, none⟩ = some (.string a1_0) := (blk_cell BK336.out 0).trans rfl
          have hcz32_1 : wr.cell? ⟨gb336, 1, none⟩ = some (.string a1_1) := (blk_cell BK336.out 1).trans rfl
          have hcz32_2 : wr.cell? ⟨gb336, 2, none⟩ = some (.int .i64 a1_2) := (blk_cell BK336.out 2).trans rfl
          have hcz32_3 : wr.cell? ⟨gb336, 3, none⟩ = some (.int .i64 a1_3) := (blk_cell BK336.out 3).trans rfl
          have hcz32_4 : wr.cell? ⟨gb336, 4, none⟩ = some (.slice A1_4 l1_4.length c1_4) := (blk_cell BK336.out 4).trans rfl
          have hcz32_5 : wr.cell? ⟨gb336, 5, none⟩ = some (.int .i64 a1_5) := (blk_cell BK336.out 5).trans rfl
          have hcz32_6 : wr.cell? ⟨gb336, 6, none⟩ = some (.int .i64 a1_6) := (blk_cell BK336.out 6).trans rfl
          have hfz32_0 := blk_frozen BK336.out 0
          have hfz32_1 := blk_frozen BK336.out 1
          have hfz32_2 := blk_frozen BK336.out 2
          have hfz32_3 := blk_frozen BK336.out 3
          have hfz32_4 := blk_frozen BK336.out 4
          have hfz32_5 := blk_frozen BK336.out 5
          have hfz32_6 := blk_frozen BK336.out 6
          go_wp2
          go_roundg k2
          case measure => have := HK1.out; have := HK2.out; omega
          case rel => exact ⟨(wrap64 (x9_1 + 1)), (by first | rfl | (simp; done) | (simp [*]; done)), H', ⟨by have := HK1.out; have := HK2.out; omega⟩, ⟨by (with_reducible repeat (first | apply Kd.N_alloc | apply Kd.N_drewN | apply Kd.N_drew)); exact HO_7.out⟩, ⟨bk9_ BK335⟩, ⟨bk9_ BK336⟩, ⟨by repeat (first | (with_reducible first | exact HB.out | apply below_alloc | apply pw_below_drewN | apply below_drew1 | refine below_set ?_ GE335.out | refine below_set ?_ GE336.out) | exact HB.out | exact below_undrew HB.out)⟩⟩
     ·rw [if_neg c20] at H
      have c20b0 : decide (x9_1 < (t350.length : Int)) = false := decide_eq_false c20
      clear c20
      replace H := Option.bind_eq_some_iff.mp H
      obtain ⟨⟨t358, t359, t360, t361, t362, t365, t366⟩, A330, H⟩ := H
      replace H : (if t365 < 1048576 then ((barbicanlaw24_own.f k1 l2).bind fun t368 => ((guard_Release.f k1 a0_0 l0_1 t358 t359 t360 t361 t362 (wrap64 (t365 + 1)) t366 t368).bind fun bt371 => (if bt371.2.isNone = true then (if (bt371.1.length : Int) ≤ (t350.length : Int) then (if (t350.length : Int) ≤ (l2.length : Int) then ((barbicanlaw24_sure.f k1).bind fun t376 => (some t376)) else (some false)) else (some false)) else (some false)))) else ((barbicanlaw24_own.f k1 l2).bind fun t377 => ((guard_Release.f k1 a0_0 l0_1 t358 t359 t360 t361 t362 t365 t366 t377).bind fun bt380 => (if bt380.2.isNone = true then (if (bt380.1.length : Int) ≤ (t350.length : Int) then (if (t350.length : Int) ≤ (l2.length : Int) then ((barbicanlaw24_sure.f k1).bind fun t385 => (some t385)) else (some false)) else (some false)) else (some false))))) = some r := H
      have A33 := Aside0.mk A330
      clear A330
      by_cases c34 : t365 < 1048576
      ·rw [if_pos c34] at H
       have c34b0 : decide (t365 < 1048576) = true := decide_eq_true c34
       clear c34
       replace H := Option.bind_eq_some_iff.mp H
       obtain ⟨t368, A350, H⟩ := H
       replace H : ((guard_Release.f k1 a0_0 l0_1 t358 t359 t360 t361 t362 (wrap64 (t365 + 1)) t366 t368).bind fun bt371 => (if bt371.2.isNone = true then (if (bt371.1.length : Int) ≤ (t350.length : Int) then (if (t350.length : Int) ≤ (l2.length : Int) then ((barbicanlaw24_sure.f k1).bind fun t376 => (some t376)) else (some false)) else (some false)) else (some false))) = some r := H
       have A35 := Aside0.mk A350
       clear A350
       replace H := Option.bind_eq_some_iff.mp H
       obtain ⟨⟨t371, t374⟩, A360, H⟩ := H
       replace H : (if t374.isNone = true then (if (t371.length : Int) ≤ (t350.length : Int) then (if (t350.length : Int) ≤ (l2.length : Int) then ((barbicanlaw24_sure.f k1).bind fun t376 => (some t376)) else (some false)) else (some false)) else (some false)) = some r := H
       have A36 := Aside0.mk A360
       clear A360
       rcases t374 with _ | q375
       ·have H1 : (if (t371.length : Int) ≤ (t350.length : Int) then (if (t350.length : Int) ≤ (l2.length : Int) then ((barbicanlaw24_sure.f k1).bind fun t376 => (some t376)) else (some false)) else (some false)) = some r := by rw [if_pos (show (none : Option Int).isNone = true by rfl)] at H; exact H
        clear H
        have H := H1
        clear H1
        try simp only [errW_none, errW_some]
        by_cases c37 : (t371.length : Int) ≤ (t350.length : Int)
        ·rw [if_pos c37] at H
         have c37b0 : decide ((t371.length : Int) ≤ (t350.length : Int)) = true := decide_eq_true c37
         have c37b1 : decide (t371.length ≤ t350.length) = true := decide_eq_true (Int.ofNat_le.mp c37)
         clear c37
         by_cases c38 : (t350.length : Int) ≤ (l2.length : Int)
         ·rw [if_pos c38] at H
          have c38b0 : decide ((t350.length : Int) ≤ (l2.length : Int)) = true := decide_eq_true c38
          have c38b1 : decide (t350.length ≤ l2.length) = true := decide_eq_true (Int.ofNat_le.mp c38)
          clear c38
          replace H := Option.bind_eq_some_iff.mp H
          obtain ⟨t376, A390, H⟩ := H
          replace H : (some t376) = some r := H
          have A39 := Aside0.mk A390
          clear A390
          obtain rfl := Option.some.inj H
          obtain ⟨Ao40, co40, eo40⟩ := Kd.N_slice HO_7.out
          subst eo40
          have hnb41 := NB336_335.out
          have hnc41 := NB335_336.out
          have hcz42_0 : wr.cell? ⟨gb336, 0, none⟩ = some (.string a1_0) := (blk_cell BK336.out 0).trans rfl
          have hcz42_1 : wr.cell? ⟨gb336, 1, none⟩ = some (.string a1_1) := (blk_cell BK336.out 1).trans rfl
          have hcz42_2 : wr.cell? ⟨gb336, 2, none⟩ = some (.int .i64 a1_2) := (blk_cell BK336.out 2).trans rfl
          have hcz42_3 : wr.cell? ⟨gb336, 3, none⟩ = some (.int .i64 a1_3) := (blk_cell BK336.out 3).trans rfl
          have hcz42_4 : wr.cell? ⟨gb336, 4, none⟩ = some (.slice A1_4 l1_4.length c1_4) := (blk_cell BK336.out 4).trans rfl
          have hcz42_5 : wr.cell? ⟨gb336, 5, none⟩ = some (.int .i64 a1_5) := (blk_cell BK336.out 5).trans rfl
          have hcz42_6 : wr.cell? ⟨gb336, 6, none⟩ = some (.int .i64 a1_6) := (blk_cell BK336.out 6).trans rfl
          have hfz42_0 := blk_frozen BK336.out 0
          have hfz42_1 := blk_frozen BK336.out 1
          have hfz42_2 := blk_frozen BK336.out 2
          have hfz42_3 := blk_frozen BK336.out 3
          have hfz42_4 := blk_frozen BK336.out 4
          have hfz42_5 := blk_frozen BK336.out 5
          have hfz42_6 := blk_frozen BK336.out 6
          try go_wp2_with (first | ((with_reducible refine gate_callee (f := 7) rfl ?_); refine goesL_ (some 64) rfl rfl Try.func7 (by kernel_rfl) rfl #[.agg #[.string a1_0, .string a1_1, .int .i64 a1_2, .int .i64 a1_3, .slice A1_4 l1_4.length c1_4, .int .i64 a1_5, .int .i64 a1_6]] rfl (by (try simp only [List.map_toArray, List.map_cons, List.map_nil]); first | done | rfl | (simp only [List.length_drop, List.length_take]; rfl)) ?_; (with_reducible refine (barbicanlaw24_view.calls k1 a1_0 a1_1 a1_2 a1_3 _ _ l1_4 a1_5 a1_6 t358 t359 t360 t361 t362 t365 t366 _ ?side1 ?side2 A33.out).mono ?_); (case side1 => repeat (first | exact (Kd.C_below HR1_4.out HB.out) | (with_reducible refine Kd.C_alloc ?_ _) | (with_reducible refine Kd.C_drewN ?_ _) | (with_reducible refine Kd.C_drew ?_))); (case side2 => exact HC1_4.out); rintro e w43 ⟨v363, rfl, ho0, hb⟩; refine ⟨_, rfl, ?_⟩; have n0_ := Aside0.mk (Kd.N_elder' (by (with_reducible repeat (first | apply Kd.N_alloc | apply Kd.N_drewN | apply Kd.N_drew)); exact HO_7.out) (Kd.R_base ho0) hb); have n1_ := Aside0.mk (Kd.R_lower ho0 (below_size (bh9_ HB))); have n2_ := Aside0.mk (blk_below (g := gb335) (o := .cells #[.string a0_0, .slice A0_1 l0_1.length c0_1] 24 (0, 0)) (bk9_ BK335) hb); have n3_ := Aside0.mk (blk_below (g := gb336) (o := .cells #[.string a1_0, .string a1_1, .int .i64 a1_2, .int .i64 a1_3, .slice A1_4 l1_4.length c1_4, .int .i64 a1_5, .int .i64 a1_6] 27 (0, 0)) (bk9_ BK336) hb); have n4_ := Aside0.mk (below_step (bh9_ HB) hb); clear HO_7; clear BK335; clear BK336; clear HB; have HO_7 := n0_; have HO364 := n1_; have BK335 := n2_; have BK336 := n3_; have HB := n4_; clear n0_ n1_ n2_ n3_ n4_; (try clear hb); (try clear hb2); (try clear hk); (try clear hi); (try clear ho0)) | ((with_reducible refine gate_dst (N := 12) rfl ?_); (try (refine gate_guard (by rfl) ?_; dsimp only)); refine box_event ?hg (N := 12) ?hd (cs := #[.string (⟨#[]⟩ : ByteArray), .string (⟨#[]⟩ : ByteArray), .int .i64 0, .int .i64 0, .slice none 0 0, .int .i64 0, .int .i64 0]) (t := 37) ?hr ?_; (case hd => rfl); (case hg => rfl); (case hr => first | (go_simp; done) | (go_simp; rfl)); intro gb367 hg w44 hbox hb; have n0_ := Aside0.mk (Kd.N_below (Kd.N_elderB (by (with_reducible repeat (first | apply Kd.N_alloc | apply Kd.N_drewN | apply Kd.N_drew)); exact HO_7.out) gb367 (Nat.le_of_eq hg.symm)) hb); have n1_ := Aside0.mk (Kd.R_below (by (with_reducible repeat (first | apply Kd.R_alloc | apply Kd.R_drewN | apply Kd.R_drew)); exact HO364.out) hb); have n2_ := Aside0.mk (blk_below (g := gb335) (o := .cells #[.string a0_0, .slice A0_1 l0_1.length c0_1] 24 (0, 0)) (bk9_ BK335) hb); have n3_ := Aside0.mk (blk_below (g := gb336) (o := .cells #[.string a1_0, .string a1_1, .int .i64 a1_2, .int .i64 a1_3, .slice A1_4 l1_4.length c1_4, .int .i64 a1_5, .int .i64 a1_6] 27 (0, 0)) (bk9_ BK336) hb); have n4_ := Aside0.mk (below_step (bh9_ HB) hb); have n5_ := Aside0.mk (hbox); have n6_ := Aside0.mk ((by rw [hg]; exact (below_size (bh9_ HB)) : w.heap.size ≤ gb367)); have n7_ := Aside0.mk ((by rw [hg]; exact (below_size (bh9_ HB)) : w.heap.size ≤ gb367)); have n8_ := Aside0.mk ((by rw [hg]; exact Nat.ne_of_lt (blk_lt (g := gb335) (o := .cells #[.string a0_0, .slice A0_1 l0_1.length c0_1] 24 (0, 0)) (bk9_ BK335)) : gb335 ≠ gb367)); have n9_ := Aside0.mk ((by rw [hg]; exact Nat.ne_of_gt (blk_lt (g := gb335) (o := .cells #[.string a0_0, .slice A0_1 l0_1.length c0_1] 24 (0, 0)) (bk9_ BK335)) : gb367 ≠ gb335)); have n10_ := Aside0.mk ((by rw [hg]; exact Nat.ne_of_lt (blk_lt (g := gb336) (o := .cells #[.string a1_0, .string a1_1, .int .i64 a1_2, .int .i64 a1_3, .slice A1_4 l1_4.length c1_4, .int .i64 a1_5, .int .i64 a1_6] 27 (0, 0)) (bk9_ BK336)) : gb336 ≠ gb367)); have n11_ := Aside0.mk ((by rw [hg]; exact Nat.ne_of_gt (blk_lt (g := gb336) (o := .cells #[.string a1_0, .string a1_1, .int .i64 a1_2, .int .i64 a1_3, .slice A1_4 l1_4.length c1_4, .int .i64 a1_5, .int .i64 a1_6] 27 (0, 0)) (bk9_ BK336)) : gb367 ≠ gb336)); clear HO_7; clear HO364; clear BK335; clear BK336; clear HB; have HO_7 := n0_; have HO364 := n1_; have BK335 := n2_; have BK336 := n3_; have HB := n4_; have BK367 := n5_; have GW367 := n6_; have GE367 := n7_; have NB335_367 := n8_; have NB367_335 := n9_; have NB336_367 := n10_; have NB367_336 := n11_; clear n0_ n1_ n2_ n3_ n4_ n5_ n6_ n7_ n8_ n9_ n10_ n11_; clear hb hbox hg; have hnb45 := NB367_335.out; have hnc45 := NB335_367.out; have hnb46 := NB367_336.out; have hnc46 := NB336_367.out; have hcz47_0 : w44.cell? ⟨gb367, 0, none⟩ = some (.string (⟨#[]⟩ : ByteArray)) := (blk_cell BK367.out 0).trans rfl; have hcz47_1 : w44.cell? ⟨gb367, 1, none⟩ = some (.string (⟨#[]⟩ : ByteArray)) := (blk_cell BK367.out 1).trans rfl; have hcz47_2 : w44.cell? ⟨gb367, 2, none⟩ = some (.int .i64 0) := (blk_cell BK367.out 2).trans rfl; have hcz47_3 : w44.cell? ⟨gb367, 3, none⟩ = some (.int .i64 0) := (blk_cell BK367.out 3).trans rfl; have hcz47_4 : w44.cell? ⟨gb367, 4, none⟩ = some (.slice none 0 0) := (blk_cell BK367.out 4).trans rfl; have hcz47_5 : w44.cell? ⟨gb367, 5, none⟩ = some (.int .i64 0) := (blk_cell BK367.out 5).trans rfl; have hcz47_6 : w44.cell? ⟨gb367, 6, none⟩ = some (.int .i64 0) := (blk_cell BK367.out 6).trans rfl; have hfz47_0 := blk_frozen BK367.out 0; have hfz47_1 := blk_frozen BK367.out 1; have hfz47_2 := blk_frozen BK367.out 2; have hfz47_3 := blk_frozen BK367.out 3; have hfz47_4 := blk_frozen BK367.out 4; have hfz47_5 := blk_frozen BK367.out 5; have hfz47_6 := blk_frozen BK367.out 6; obtain ⟨Ao48, co48, eo48⟩ := Kd.R_slice HO364.out; subst eo48))
          have n0_ : Aside0 (Kd.N (Kd.slice 47 k47) 41 ((((((((w44.setCell ⟨gb367, 0, none⟩ (.string t358)).setCell ⟨gb367, 1, none⟩ (.string t359)).setCell ⟨gb367, 2, none⟩ (.int .i64 t360)).setCell ⟨gb367, 3, none⟩ (.int .i64 t361)).setCell ⟨gb367, 4, none⟩ (.slice Ao48 t362.length co48)).setCell ⟨gb367, 5, none⟩ (.int .i64 t365)).setCell ⟨gb367, 6, none⟩ (.int .i64 t366)).setCell ⟨gb367, 5, none⟩ (.int .i64 (wrap64 (t365 + 1)))) w.heap.size (fun k_ => some k_ ≠ (.slice Ao48 t362.length co48 : Value).ownBlock ∧ k_ ≠ gb335 ∧ k_ ≠ gb336 ∧ k_ ≠ gb367) (.slice Ao40 t350.length co40) t350) := ⟨by (with_reducible repeat (first | apply Kd.N_alloc | apply Kd.N_drewN | apply Kd.N_drew)); exact Kd.N_mono (Kd.N_far (p := ⟨gb367, 5, none⟩) (Kd.N_far (p := ⟨gb367, 6, none⟩) (Kd.N_far (p := ⟨gb367, 5, none⟩) (Kd.N_far (p := ⟨gb367, 4, none⟩) (Kd.N_far (p := ⟨gb367, 3, none⟩) (Kd.N_far (p := ⟨gb367, 2, none⟩) (Kd.N_far (p := ⟨gb367, 1, none⟩) (Kd.N_far (p := ⟨gb367, 0, none⟩) (Kd.N_mono HO_7.out (fun k_ hk => (⟨hk, hk.2⟩ : _ ∧ k_ ≠ gb367))) (fun _ hk => hk.2) (.string t358)) (fun _ hk => hk.2) (.string t359)) (fun _ hk => hk.2) (.int .i64 t360)) (fun _ hk => hk.2) (.int .i64 t361)) (fun _ hk => hk.2) (.slice Ao48 t362.length co48)) (fun _ hk => hk.2) (.int .i64 t365)) (fun _ hk => hk.2) (.int .i64 t366)) (fun _ hk => hk.2) (.int .i64 (wrap64 (t365 + 1)))) (fun _ hk => ⟨hk.1.1.2, ⟨hk.1.1.1.1, ⟨hk.1.1.1.2, hk.1.2⟩⟩⟩)⟩
          have n1_ : Aside0 (Kd.R k51 51 ((((((((w44.setCell ⟨gb367, 0, none⟩ (.string t358)).setCell ⟨gb367, 1, none⟩ (.string t359)).setCell ⟨gb367, 2, none⟩ (.int .i64 t360)).setCell ⟨gb367, 3, none⟩ (.int .i64 t361)).setCell ⟨gb367, 4, none⟩ (.slice Ao48 t362.length co48)).setCell ⟨gb367, 5, none⟩ (.int .i64 t365)).setCell ⟨gb367, 6, none⟩ (.int .i64 t366)).setCell ⟨gb367, 5, none⟩ (.int .i64 (wrap64 (t365 + 1)))) w.heap.size (fun _ => True) (.slice Ao48 t362.length co48) t362) := ⟨by (with_reducible repeat (first | apply Kd.R_alloc | apply Kd.R_drewN | apply Kd.R_drew)); exact Kd.R_mono (Kd.R_far (p := ⟨gb367, 5, none⟩) (Kd.R_far (p := ⟨gb367, 6, none⟩) (Kd.R_far (p := ⟨gb367, 5, none⟩) (Kd.R_far (p := ⟨gb367, 4, none⟩) (Kd.R_far (p := ⟨gb367, 3, none⟩) (Kd.R_far (p := ⟨gb367, 2, none⟩) (Kd.R_far (p := ⟨gb367, 1, none⟩) (Kd.R_far (p := ⟨gb367, 0, none⟩) (Kd.R_types HO364.out BK367.out (by decide)) (fun _ hk => hk.2) (.string t358)) (fun _ hk => hk.2) (.string t359)) (fun _ hk => hk.2) (.int .i64 t360)) (fun _ hk => hk.2) (.int .i64 t361)) (fun _ hk => hk.2) (.slice Ao48 t362.length co48)) (fun _ hk => hk.2) (.int .i64 t365)) (fun _ hk => hk.2) (.int .i64 t366)) (fun _ hk => hk.2) (.int .i64 (wrap64 (t365 + 1)))) (fun _ hk => trivial)⟩
          have n2_ : Aside0 (((((((((w44.setCell ⟨gb367, 0, none⟩ (.string t358)).setCell ⟨gb367, 1, none⟩ (.string t359)).setCell ⟨gb367, 2, none⟩ (.int .i64 t360)).setCell ⟨gb367, 3, none⟩ (.int .i64 t361)).setCell ⟨gb367, 4, none⟩ (.slice Ao48 t362.length co48)).setCell ⟨gb367, 5, none⟩ (.int .i64 t365)).setCell ⟨gb367, 6, none⟩ (.int .i64 t366)).setCell ⟨gb367, 5, none⟩ (.int .i64 (wrap64 (t365 + 1)))).heap[gb335]? = some (.cells #[.string a0_0, .slice A0_1 l0_1.length c0_1] 24 (0, 0))) := ⟨by (with_reducible repeat (first | refine blk_drewN ?_ _ | refine blk_drew ?_ | refine blk_alloc ?_ _)); refine blk_far ?_ NB335_367.out _; (with_reducible repeat (first | refine blk_drewN ?_ _ | refine blk_drew ?_ | refine blk_alloc ?_ _)); refine blk_far ?_ NB335_367.out _; (with_reducible repeat (first | refine blk_drewN ?_ _ | refine blk_drew ?_ | refine blk_alloc ?_ _)); refine blk_far ?_ NB335_367.out _; (with_reducible repeat (first | refine blk_drewN ?_ _ | refine blk_drew ?_ | refine blk_alloc ?_ _)); refine blk_far ?_ NB335_367.out _; (with_reducible repeat (first | refine blk_drewN ?_ _ | refine blk_drew ?_ | refine blk_alloc ?_ _)); refine blk_far ?_ NB335_367.out _; (with_reducible repeat (first | refine blk_drewN ?_ _ | refine blk_drew ?_ | refine blk_alloc ?_ _)); refine blk_far ?_ NB335_367.out _; (with_reducible repeat (first | refine blk_drewN ?_ _ | refine blk_drew ?_ | refine blk_alloc ?_ _)); refine blk_far ?_ NB335_367.out _; (with_reducible repeat (first | refine blk_drewN ?_ _ | refine blk_drew ?_ | refine blk_alloc ?_ _)); refine blk_far ?_ NB335_367.out _; (with_reducible repeat (first | refine blk_drewN ?_ _ | refine blk_drew ?_ | refine blk_alloc ?_ _)); exact BK335.out⟩
          have n3_ : Aside0 (((((((((w44.setCell ⟨gb367, 0, none⟩ (.string t358)).setCell ⟨gb367, 1, none⟩ (.string t359)).setCell ⟨gb367, 2, none⟩ (.int .i64 t360)).setCell ⟨gb367, 3, none⟩ (.int .i64 t361)).setCell ⟨gb367, 4, none⟩ (.slice Ao48 t362.length co48)).setCell ⟨gb367, 5, none⟩ (.int .i64 t365)).setCell ⟨gb367, 6, none⟩ (.int .i64 t366)).setCell ⟨gb367, 5, none⟩ (.int .i64 (wrap64 (t365 + 1)))).heap[gb336]? = some (.cells #[.string a1_0, .string a1_1, .int .i64 a1_2, .int .i64 a1_3, .slice A1_4 l1_4.length c1_4, .int .i64 a1_5, .int .i64 a1_6] 27 (0, 0))) := ⟨by (with_reducible repeat (first | refine blk_drewN ?_ _ | refine blk_drew ?_ | refine blk_alloc ?_ _)); refine blk_far ?_ NB336_367.out _; (with_reducible repeat (first | refine blk_drewN ?_ _ | refine blk_drew ?_ | refine blk_alloc ?_ _)); refine blk_far ?_ NB336_367.out _; (with_reducible repeat (first | refine blk_drewN ?_ _ | refine blk_drew ?_ | refine blk_alloc ?_ _)); refine blk_far ?_ NB336_367.out _; (with_reducible repeat (first | refine blk_drewN ?_ _ | refine blk_drew ?_ | refine blk_alloc ?_ _)); refine blk_far ?_ NB336_367.out _; (with_reducible repeat (first | refine blk_drewN ?_ _ | refine blk_drew ?_ | refine blk_alloc ?_ _)); refine blk_far ?_ NB336_367.out _; (with_reducible repeat (first | refine blk_drewN ?_ _ | refine blk_drew ?_ | refine blk_alloc ?_ _)); refine blk_far ?_ NB336_367.out _; (with_reducible repeat (first | refine blk_drewN ?_ _ | refine blk_drew ?_ | refine blk_alloc ?_ _)); refine blk_far ?_ NB336_367.out _; (with_reducible repeat (first | refine blk_drewN ?_ _ | refine blk_drew ?_ | refine blk_alloc ?_ _)); refine blk_far ?_ NB336_367.out _; (with_reducible repeat (first | refine blk_drewN ?_ _ | refine blk_drew ?_ | refine blk_alloc ?_ _)); exact BK336.out⟩
          have n4_ : Aside0 (((((((((w44.setCell ⟨gb367, 0, none⟩ (.string t358)).setCell ⟨gb367, 1, none⟩ (.string t359)).setCell ⟨gb367, 2, none⟩ (.int .i64 t360)).setCell ⟨gb367, 3, none⟩ (.int .i64 t361)).setCell ⟨gb367, 4, none⟩ (.slice Ao48 t362.length co48)).setCell ⟨gb367, 5, none⟩ (.int .i64 t365)).setCell ⟨gb367, 6, none⟩ (.int .i64 t366)).setCell ⟨gb367, 5, none⟩ (.int .i64 (wrap64 (t365 + 1)))).heap[gb367]? = some (.cells #[.string t358, .string t359, .int .i64 t360, .int .i64 t361, .slice Ao48 t362.length co48, .int .i64 (wrap64 (t365 + 1)), .int .i64 t366] 37 (0, 0))) := ⟨by (with_reducible repeat (first | refine blk_drewN ?_ _ | refine blk_drew ?_ | refine blk_alloc ?_ _)); refine blk_put (cs := #[.string t358, .string t359, .int .i64 t360, .int .i64 t361, .slice Ao48 t362.length co48, .int .i64 t365, .int .i64 t366]) ?_ 5 _ (by first | rfl | (simp only [w64_256, wu64_256]; rfl) | (subst_vars; simp only [w64_256, wu64_256, shl, wu32_mod, Int.one_mul]; rfl)); (with_reducible repeat (first | refine blk_drewN ?_ _ | refine blk_drew ?_ | refine blk_alloc ?_ _)); refine blk_put (cs := #[.string t358, .string t359, .int .i64 t360, .int .i64 t361, .slice Ao48 t362.length co48, .int .i64 t365, .int .i64 0]) ?_ 6 _ (by first | rfl | (simp only [w64_256, wu64_256]; rfl) | (subst_vars; simp only [w64_256, wu64_256, shl, wu32_mod, Int.one_mul]; rfl)); (with_reducible repeat (first | refine blk_drewN ?_ _ | refine blk_drew ?_ | refine blk_alloc ?_ _)); refine blk_put (cs := #[.string t358, .string t359, .int .i64 t360, .int .i64 t361, .slice Ao48 t362.length co48, .int .i64 0, .int .i64 0]) ?_ 5 _ (by first | rfl | (simp only [w64_256, wu64_256]; rfl) | (subst_vars; simp only [w64_256, wu64_256, shl, wu32_mod, Int.one_mul]; rfl)); (with_reducible repeat (first | refine blk_drewN ?_ _ | refine blk_drew ?_ | refine blk_alloc ?_ _)); refine blk_put (cs := #[.string t358, .string t359, .int .i64 t360, .int .i64 t361, .slice none 0 0, .int .i64 0, .int .i64 0]) ?_ 4 _ (by first | rfl | (simp only [w64_256, wu64_256]; rfl) | (subst_vars; simp only [w64_256, wu64_256, shl, wu32_mod, Int.one_mul]; rfl)); (with_reducible repeat (first | refine blk_drewN ?_ _ | refine blk_drew ?_ | refine blk_alloc ?_ _)); refine blk_put (cs := #[.string t358, .string t359, .int .i64 t360, .int .i64 0, .slice none 0 0, .int .i64 0, .int .i64 0]) ?_ 3 _ (by first | rfl | (simp only [w64_256, wu64_256]; rfl) | (subst_vars; simp only [w64_256, wu64_256, shl, wu32_mod, Int.one_mul]; rfl)); (with_reducible repeat (first | refine blk_drewN ?_ _ | refine blk_drew ?_ | refine blk_alloc ?_ _)); refine blk_put (cs := #[.string t358, .string t359, .int .i64 0, .int .i64 0, .slice none 0 0, .int .i64 0, .int .i64 0]) ?_ 2 _ (by first | rfl | (simp only [w64_256, wu64_256]; rfl) | (subst_vars; simp only [w64_256, wu64_256, shl, wu32_mod, Int.one_mul]; rfl)); (with_reducible repeat (first | refine blk_drewN ?_ _ | refine blk_drew ?_ | refine blk_alloc ?_ _)); refine blk_put (cs := #[.string t358, .string (⟨#[]⟩ : ByteArray), .int .i64 0, .int .i64 0, .slice none 0 0, .int .i64 0, .int .i64 0]) ?_ 1 _ (by first | rfl | (simp only [w64_256, wu64_256]; rfl) | (subst_vars; simp only [w64_256, wu64_256, shl, wu32_mod, Int.one_mul]; rfl)); (with_reducible repeat (first | refine blk_drewN ?_ _ | refine blk_drew ?_ | refine blk_alloc ?_ _)); refine blk_put (cs := #[.string (⟨#[]⟩ : ByteArray), .string (⟨#[]⟩ : ByteArray), .int .i64 0, .int .i64 0, .slice none 0 0, .int .i64 0, .int .i64 0]) ?_ 0 _ (by first | rfl | (simp only [w64_256, wu64_256]; rfl) | (subst_vars; simp only [w64_256, wu64_256, shl, wu32_mod, Int.one_mul]; rfl)); (with_reducible repeat (first | refine blk_drewN ?_ _ | refine blk_drew ?_ | refine blk_alloc ?_ _)); exact BK367.out⟩
          have n5_ : Aside0 (Below w.heap.size w ((((((((w44.setCell ⟨gb367, 0, none⟩ (.string t358)).setCell ⟨gb367, 1, none⟩ (.string t359)).setCell ⟨gb367, 2, none⟩ (.int .i64 t360)).setCell ⟨gb367, 3, none⟩ (.int .i64 t361)).setCell ⟨gb367, 4, none⟩ (.slice Ao48 t362.length co48)).setCell ⟨gb367, 5, none⟩ (.int .i64 t365)).setCell ⟨gb367, 6, none⟩ (.int .i64 t366)).setCell ⟨gb367, 5, none⟩ (.int .i64 (wrap64 (t365 + 1))))) := ⟨by repeat (first | (with_reducible first | exact HB.out | apply below_alloc | apply pw_below_drewN | apply below_drew1 | refine below_set ?_ GE335.out | refine below_set ?_ GE336.out | refine below_set ?_ GE367.out) | exact HB.out | exact below_undrew HB.out)⟩
          (try clear HO_7)
          (try clear HO364)
          (try clear BK335)
          (try clear BK336)
          (try clear BK367)
          (try clear HB)
          generalize ((((((((w44.setCell ⟨gb367, 0, none⟩ (.string t358)).setCell ⟨gb367, 1, none⟩ (.string t359)).setCell ⟨gb367, 2, none⟩ (.int .i64 t360)).setCell ⟨gb367, 3, none⟩ (.int .i64 t361)).setCell ⟨gb367, 4, none⟩ (.slice Ao48 t362.length co48)).setCell ⟨gb367, 5, none⟩ (.int .i64 t365)).setCell ⟨gb367, 6, none⟩ (.int .i64 t366)).setCell ⟨gb367, 5, none⟩ (.int .i64 (wrap64 (t365 + 1)))) = w49 at n0_ n1_ n2_ n3_ n4_ n5_ ⊢
          have HO_7 := n0_
          have HO364 := n1_
          have BK335 := n2_
          have BK336 := n3_
          have BK367 := n4_
          have HB := n5_
          clear n0_ n1_ n2_ n3_ n4_ n5_
          have n0_ := Aside0.mk (Kd.N_drew HO_7.out)
          have n1_ := Aside0.mk (Kd.R_drew HO364.out)
          have n2_ := Aside0.mk (blk_drew BK335.out)
          have n3_ := Aside0.mk (blk_drew BK336.out)
          have n4_ := Aside0.mk (blk_drew BK367.out)
          have n5_ := Aside0.mk (below_drew1 HB.out)
          clear HO_7
          clear HO364
          clear BK335
          clear BK336
          clear BK367
          clear HB
          have HO_7 := n0_
          have HO364 := n1_
          have BK335 := n2_
          have BK336 := n3_
          have BK367 := n4_
          have HB := n5_
          clear n0_ n1_ n2_ n3_ n4_ n5_
          refine start_ (n := 10) (S := fun w' => w'.cell? ⟨gb335, 0, none⟩ = some (.string a0_0) ∧ w'.cell? ⟨gb335, 1, none⟩ = some (.slice A0_1 l0_1.length c0_1) ∧ w'.cell? ⟨gb367, 0, none⟩ = some (.string t358) ∧ w'.cell? ⟨gb367, 1, none⟩ = some (.string t359) ∧ w'.cell? ⟨gb367, 2, none⟩ = some (.int .i64 t360) ∧ w'.cell? ⟨gb367, 3, none⟩ = some (.int .i64 t361) ∧ w'.cell? ⟨gb367, 4, none⟩ = some (.slice Ao48 t362.length co48) ∧ w'.cell? ⟨gb367, 5, none⟩ = some (.int .i64 (wrap64 (t365 + 1))) ∧ w'.cell? ⟨gb367, 6, none⟩ = some (.int .i64 t366)) (ds := []) #[false, false, false, false, false, false, false, false, false, false] (by kernel_rfl) rfl rfl ⟨(blk_cell BK335.out 0).trans rfl, (blk_cell BK335.out 1).trans rfl, (blk_cell BK367.out 0).trans rfl, (blk_cell BK367.out 1).trans rfl, (blk_cell BK367.out 2).trans rfl, (blk_cell BK367.out 3).trans rfl, (blk_cell BK367.out 4).trans rfl, (blk_cell BK367.out 5).trans rfl, (blk_cell BK367.out 6).trans rfl⟩ (fun hHeld => ?_); refine with_tabW barbicanlaw24_GuardRare.tab20 barbicanlaw24_GuardRare.bits20 (fun HT_ HW_ => ?_)
          generalize w49.drew = w50 at HO_7 HO364 BK335 BK336 BK367 HB hHeld ⊢
          refine pure_ (i := 2) (N := some 75) (v := ?_) (a' := ?_) #[false, false, true, false, false, false, false, false, false, false] rfl rfl (any_of HT_.out (by kernel_rfl)) (fun _ _ _ h => h) (Or.inl ⟨by rfl, ?_⟩) ?_ ?_
          rotate_left
          ·intro w'
           go_simp
           with_reducible rfl
          rotate_left
          ·simp only [Act.put, List.setIfInBounds_toArray, List.set_cons_zero, List.set_cons_succ, i64_w, i32_w]
           rfl
          refine take_ (i := 0) (N := some 73) (v := ?_) (a' := ?_) #[true, false, true, false, false, false, false, false, false, false] rfl rfl (take_ofW HT_.out HW_.out (by kernel_rfl)) (fun _ _ _ h => h) (Or.inl ⟨by rfl, ?_⟩) hHeld ?_ ?_
          rotate_left
          ·rintro w' ⟨s0, s1, s2, s3, s4, s5, s6, s7, s8⟩
           go_simp
           with_reducible rfl
          rotate_left
          ·simp only [Act.put, List.setIfInBounds_toArray, List.set_cons_zero, List.set_cons_succ, i64_w, i32_w]
           rfl
          refine take_ (i := 1) (N := some 74) (v := ?_) (a' := ?_) #[true, true, true, false, false, false, false, false, false, false] rfl rfl (take_ofW HT_.out HW_.out (by kernel_rfl)) (fun _ _ _ h => h) (Or.inl ⟨by rfl, ?_⟩) hHeld ?_ ?_
          rotate_left
          ·rintro w' ⟨s0, s1, s2, s3, s4, s5, s6, s7, s8⟩
           go_simp
           with_reducible rfl
          rotate_left
          ·simp only [Act.put, List.setIfInBounds_toArray, List.set_cons_zero, List.set_cons_succ, i64_w, i32_w]
           rfl
          refine one_ (i := 3) (N := some 76) #[true, true, true, true, false, false, false, false, false, false] rfl rfl (one_of HT_.out (by kernel_rfl)) (by decide) (fun K hK => ?_)
          refine goes_ Try.func8 (by kernel_rfl) rfl #[.slice A2 l2.length c2] (by rfl) rfl rfl (by (try simp only [List.map_toArray, List.map_cons, List.map_nil]); first | done | rfl | (simp only [List.length_drop, List.length_take]; rfl)) ?_
          with_reducible refine (barbicanlaw24_own.calls k1 _ _ l2 t368 _ ?side1 ?side2 A35.out).mono ?_
          (case side1 => repeat (first | exact (Kd.C_below HR2.out HB.out) | (with_reducible refine Kd.C_alloc ?_ _) | (with_reducible refine Kd.C_drewN ?_ _) | (with_reducible refine Kd.C_drew ?_)))
          (case side2 => exact HC2.out)
          rintro e w51 ⟨v369, rfl, ho0, hb⟩
          refine ⟨_, rfl, ?_⟩
          have n0_ := Aside0.mk (Kd.N_elder' (by (with_reducible repeat (first | apply Kd.N_alloc | apply Kd.N_drewN | apply Kd.N_drew)); exact HO_7.out) (by first | exact Kd.N_base ho0 | exact Kd.N_base (Kd.S_N ho0)) hb)
          have n1_ := Aside0.mk (Kd.R_below (by (with_reducible repeat (first | apply Kd.R_alloc | apply Kd.R_drewN | apply Kd.R_drew)); exact HO364.out) hb)
          have n2_ := Aside0.mk (Kd.N_lower (Kd.N_mono (ok' := fun k_ => some k_ ≠ (.slice Ao40 t350.length co40 : Value).ownBlock ∧ some k_ ≠ (.slice Ao48 t362.length co48 : Value).ownBlock ∧ k_ ≠ gb335 ∧ k_ ≠ gb336 ∧ k_ ≠ gb367) (Kd.S_N (Kd.S_bound ho0)) (fun k_ hk_ => ⟨(Kd.fresh' (Kd.N_lt (by (with_reducible repeat (first | apply Kd.N_alloc | apply Kd.N_drewN | apply Kd.N_drew)); exact HO_7.out)) k_ hk_.2.1), (Kd.fresh' (Kd.R_lt (by (with_reducible repeat (first | apply Kd.R_alloc | apply Kd.R_drewN | apply Kd.R_drew)); exact HO364.out)) k_ hk_.2.1), (Kd.freshB (g := gb335) (o := .cells #[.string a0_0, .slice A0_1 l0_1.length c0_1] 24 (0, 0)) (bk9_ BK335) k_ hk_.2.1), (Kd.freshB (g := gb336) (o := .cells #[.string a1_0, .string a1_1, .int .i64 a1_2, .int .i64 a1_3, .slice A1_4 l1_4.length c1_4, .int .i64 a1_5, .int .i64 a1_6] 27 (0, 0)) (bk9_ BK336) k_ hk_.2.1), (Kd.freshB (g := gb367) (o := .cells #[.string t358, .string t359, .int .i64 t360, .int .i64 t361, .slice Ao48 t362.length co48, .int .i64 (wrap64 (t365 + 1)), .int .i64 t366] 37 (0, 0)) (bk9_ BK367) k_ hk_.2.1)⟩)) (below_size (bh9_ HB)))
          have n3_ := Aside0.mk (blk_below (g := gb335) (o := .cells #[.string a0_0, .slice A0_1 l0_1.length c0_1] 24 (0, 0)) (bk9_ BK335) hb)
          have n4_ := Aside0.mk (blk_below (g := gb336) (o := .cells #[.string a1_0, .string a1_1, .int .i64 a1_2, .int .i64 a1_3, .slice A1_4 l1_4.length c1_4, .int .i64 a1_5, .int .i64 a1_6] 27 (0, 0)) (bk9_ BK336) hb)
          have n5_ := Aside0.mk (blk_below (g := gb367) (o := .cells #[.string t358, .string t359, .int .i64 t360, .int .i64 t361, .slice Ao48 t362.length co48, .int .i64 (wrap64 (t365 + 1)), .int .i64 t366] 37 (0, 0)) (bk9_ BK367) hb)
          have n6_ := Aside0.mk (below_step (bh9_ HB) hb)
          clear HO_7
          clear HO364
          clear BK335
          clear BK336
          clear BK367
          clear HB
          have HO_7 := n0_
          have HO364 := n1_
          have HO370 := n2_
          have BK335 := n3_
          have BK336 := n4_
          have BK367 := n5_
          have HB := n6_
          clear n0_ n1_ n2_ n3_ n4_ n5_ n6_
          (try clear hb)
          (try clear hb2)
          (try clear hk)
          (try clear hi)
          (try clear ho0)
          obtain ⟨Ao52, co52, eo52⟩ := Kd.N_slice HO370.out
          (first | subst eo52 | (injection eo52 with f1_ f2_ f3_; have f4_ := f1_.symm; have f5_ := f3_.symm; clear f1_ f2_ f3_; subst f4_; subst f5_))
          refine hK.out _ _ ⟨(blk_cell BK335.out 0).trans rfl, (blk_cell BK335.out 1).trans rfl, (blk_cell BK367.out 0).trans rfl, (blk_cell BK367.out 1).trans rfl, (blk_cell BK367.out 2).trans rfl, (blk_cell BK367.out 3).trans rfl, (blk_cell BK367.out 4).trans rfl, (blk_cell BK367.out 5).trans rfl, (blk_cell BK367.out 6).trans rfl⟩ (fun hHeld => ?_)
          clear hK K
          refine norm_ (a' := ?_) ?_ ?_
          rotate_left
          ·show Act.put _ (some 76) _ = _
           simp only [Act.put, List.setIfInBounds_toArray, List.set_cons_zero, List.set_cons_succ, i64_w, i32_w]
           rfl
          refine one_ (i := 4) (N := some 77) #[true, true, true, true, true, false, false, false, false, false] rfl rfl (one_of HT_.out (by kernel_rfl)) (by decide) (fun K hK => ?_)
          refine goes_ Try.func6 (by kernel_rfl) rfl #[.agg #[.string a0_0, .slice A0_1 l0_1.length c0_1], .agg #[.string t358, .string t359, .int .i64 t360, .int .i64 t361, .slice Ao48 t362.length co48, .int .i64 (wrap64 (t365 + 1)), .int .i64 t366], .slice Ao52 t368.length co52] (by rfl) rfl rfl (by (try simp only [List.map_toArray, List.map_cons, List.map_nil]); first | done | rfl | (simp only [List.length_drop, List.length_take]; rfl)) ?_
          with_reducible refine (guard_Release.calls k1 a0_0 _ _ l0_1 t358 t359 t360 t361 _ _ t362 (wrap64 (t365 + 1)) t366 _ _ t368 t371 none _ ?side1 ?side2 ?side3 ?side4 ?side5 ?side6 A36.out).mono ?_
          (case side1 => repeat (first | exact (Kd.C_below HR0_1.out HB.out) | (with_reducible refine Kd.C_alloc ?_ _) | (with_reducible refine Kd.C_drewN ?_ _) | (with_reducible refine Kd.C_drew ?_)))
          (case side2 => exact HC0_1.out)
          (case side3 => repeat (first | exact (Kd.R_reads' HO364.out).2.2 | (with_reducible refine Kd.C_alloc ?_ _) | (with_reducible refine Kd.C_drewN ?_ _) | (with_reducible refine Kd.C_drew ?_)))
          (case side4 => exact (Kd.R_reads' HO364.out).2.1)
          (case side5 => repeat (first | exact (Kd.N_reads' HO370.out).2.2 | (with_reducible refine Kd.C_alloc ?_ _) | (with_reducible refine Kd.C_drewN ?_ _) | (with_reducible refine Kd.C_drew ?_)))
          (case side6 => exact (Kd.N_reads' HO370.out).2.1)
          rintro e w53 ⟨v372, rfl, ho0, hb⟩
          refine ⟨_, rfl, ?_⟩
          have n0_ := Aside0.mk (Kd.N_elder' (by (with_reducible repeat (first | apply Kd.N_alloc | apply Kd.N_drewN | apply Kd.N_drew)); exact HO_7.out) (by first | exact Kd.N_base ho0 | exact Kd.N_base (Kd.S_N ho0)) hb)
          have n1_ := Aside0.mk (Kd.R_below (by (with_reducible repeat (first | apply Kd.R_alloc | apply Kd.R_drewN | apply Kd.R_drew)); exact HO364.out) hb)
          have n2_ := Aside0.mk (Kd.N_elder' (by (with_reducible repeat (first | apply Kd.N_alloc | apply Kd.N_drewN | apply Kd.N_drew)); exact HO370.out) (by first | exact Kd.N_base ho0 | exact Kd.N_base (Kd.S_N ho0)) hb)
          have n3_ := Aside0.mk (Kd.N_lower (Kd.N_mono (ok' := fun k_ => some k_ ≠ (.slice Ao40 t350.length co40 : Value).ownBlock ∧ some k_ ≠ (.slice Ao48 t362.length co48 : Value).ownBlock ∧ some k_ ≠ (.slice Ao52 t368.length co52 : Value).ownBlock ∧ k_ ≠ gb335 ∧ k_ ≠ gb336 ∧ k_ ≠ gb367) ho0 (fun k_ hk_ => ⟨(Kd.fresh' (Kd.N_lt (by (with_reducible repeat (first | apply Kd.N_alloc | apply Kd.N_drewN | apply Kd.N_drew)); exact HO_7.out)) k_ hk_), (Kd.fresh' (Kd.R_lt (by (with_reducible repeat (first | apply Kd.R_alloc | apply Kd.R_drewN | apply Kd.R_drew)); exact HO364.out)) k_ hk_), (Kd.fresh' (Kd.N_lt (by (with_reducible repeat (first | apply Kd.N_alloc | apply Kd.N_drewN | apply Kd.N_drew)); exact HO370.out)) k_ hk_), (Kd.freshB (g := gb335) (o := .cells #[.string a0_0, .slice A0_1 l0_1.length c0_1] 24 (0, 0)) (bk9_ BK335) k_ hk_), (Kd.freshB (g := gb336) (o := .cells #[.string a1_0, .string a1_1, .int .i64 a1_2, .int .i64 a1_3, .slice A1_4 l1_4.length c1_4, .int .i64 a1_5, .int .i64 a1_6] 27 (0, 0)) (bk9_ BK336) k_ hk_), (Kd.freshB (g := gb367) (o := .cells #[.string t358, .string t359, .int .i64 t360, .int .i64 t361, .slice Ao48 t362.length co48, .int .i64 (wrap64 (t365 + 1)), .int .i64 t366] 37 (0, 0)) (bk9_ BK367) k_ hk_)⟩)) (below_size (bh9_ HB)))
          have n4_ := Aside0.mk (blk_below (g := gb335) (o := .cells #[.string a0_0, .slice A0_1 l0_1.length c0_1] 24 (0, 0)) (bk9_ BK335) hb)
          have n5_ := Aside0.mk (blk_below (g := gb336) (o := .cells #[.string a1_0, .string a1_1, .int .i64 a1_2, .int .i64 a1_3, .slice A1_4 l1_4.length c1_4, .int .i64 a1_5, .int .i64 a1_6] 27 (0, 0)) (bk9_ BK336) hb)
          have n6_ := Aside0.mk (blk_below (g := gb367) (o := .cells #[.string t358, .string t359, .int .i64 t360, .int .i64 t361, .slice Ao48 t362.length co48, .int .i64 (wrap64 (t365 + 1)), .int .i64 t366] 37 (0, 0)) (bk9_ BK367) hb)
          have n7_ := Aside0.mk (below_step (bh9_ HB) hb)
          clear HO_7
          clear HO364
          clear HO370
          clear BK335
          clear BK336
          clear BK367
          clear HB
          have HO_7 := n0_
          have HO364 := n1_
          have HO370 := n2_
          have HO373 := n3_
          have BK335 := n4_
          have BK336 := n5_
          have BK367 := n6_
          have HB := n7_
          clear n0_ n1_ n2_ n3_ n4_ n5_ n6_ n7_
          (try clear hb)
          (try clear hb2)
          (try clear hk)
          (try clear hi)
          (try clear ho0)
          (try simp only [errW_none, errW_some])
          refine hK.out _ _ ⟨(blk_cell BK335.out 0).trans rfl, (blk_cell BK335.out 1).trans rfl, (blk_cell BK367.out 0).trans rfl, (blk_cell BK367.out 1).trans rfl, (blk_cell BK367.out 2).trans rfl, (blk_cell BK367.out 3).trans rfl, (blk_cell BK367.out 4).trans rfl, (blk_cell BK367.out 5).trans rfl, (blk_cell BK367.out 6).trans rfl⟩ (fun hHeld => ?_)
          clear hK K
          refine norm_ (a' := ?_) ?_ ?_
          rotate_left
          ·show Act.put _ (some 77) _ = _
           simp only [Act.put, List.setIfInBounds_toArray, List.set_cons_zero, List.set_cons_succ, i64_w, i32_w]
           rfl
          refine pure_ (i := 5) (N := some 72) (v := ?_) (a' := ?_) #[true, true, true, true, true, true, false, false, false, false] rfl rfl (any_of HT_.out (by kernel_rfl)) (fun _ _ _ h => h) (Or.inl ⟨by rfl, ?_⟩) ?_ ?_
          rotate_left
          ·intro w'
           go_simp
           with_reducible rfl
          rotate_left
          ·simp only [Act.put, List.setIfInBounds_toArray, List.set_cons_zero, List.set_cons_succ, i64_w, i32_w]
           rfl
          refine pure_ (i := 6) (N := some 78) (v := ?_) (a' := ?_) #[true, true, true, true, true, true, true, false, false, false] rfl rfl (any_of HT_.out (by kernel_rfl)) (fun _ _ _ h => h) (Or.inl ⟨by rfl, ?_⟩) ?_ ?_
          rotate_left
          ·intro w'
           go_simp
           with_reducible rfl
          rotate_left
          ·simp only [Act.put, List.setIfInBounds_toArray, List.set_cons_zero, List.set_cons_succ, i64_w, i32_w]
           rfl
          refine pure_ (i := 7) (N := some 79) (v := ?_) (a' := ?_) #[true, true, true, true, true, true, true, true, false, false] rfl rfl (any_of HT_.out (by kernel_rfl)) (fun _ _ _ h => h) (Or.inl ⟨by rfl, ?_⟩) ?_ ?_
          rotate_left
          ·intro w'
           go_simp
           with_reducible rfl
          rotate_left
          ·simp only [Act.put, List.setIfInBounds_toArray, List.set_cons_zero, List.set_cons_succ, i64_w, i32_w]
           rfl
          refine pure_ (i := 8) (N := some 13) (v := ?_) (a' := ?_) #[true, true, true, true, true, true, true, true, true, false] rfl rfl (any_of HT_.out (by kernel_rfl)) (fun _ _ _ h => h) (Or.inl ⟨by rfl, ?_⟩) ?_ ?_
          rotate_left
          ·intro w'
           go_simp
           with_reducible rfl
          rotate_left
          ·simp only [Act.put, List.setIfInBounds_toArray, List.set_cons_zero, List.set_cons_succ, i64_w, i32_w]
           rfl
          refine pure_ (i := 9) (N := some 14) (v := ?_) (a' := ?_) #[true, true, true, true, true, true, true, true, true, true] rfl rfl (any_of HT_.out (by kernel_rfl)) (fun _ _ _ h => h) (Or.inl ⟨by rfl, ?_⟩) ?_ ?_
          rotate_left
          ·intro w'
           go_simp
           with_reducible rfl
          rotate_left
          ·simp only [Act.put, List.setIfInBounds_toArray, List.set_cons_zero, List.set_cons_succ, i64_w, i32_w]
           rfl
          refine done_ (done_of HT_.out (by kernel_rfl)) ?_
          obtain ⟨Ao54, co54, eo54⟩ := Kd.N_slice HO373.out
          subst eo54
          try go_wp2_with (first | (go_at_call 5; (with_reducible refine (barbicanlaw24_sure.calls k1  t376 _ A39.out).mono ?_); rintro e w55 ⟨rfl, hb⟩; have n0_ := Aside0.mk (Kd.N_below (by (with_reducible repeat (first | apply Kd.N_alloc | apply Kd.N_drewN | apply Kd.N_drew)); exact HO_7.out) hb); have n1_ := Aside0.mk (Kd.R_below (by (with_reducible repeat (first | apply Kd.R_alloc | apply Kd.R_drewN | apply Kd.R_drew)); exact HO364.out) hb); have n2_ := Aside0.mk (Kd.N_below (by (with_reducible repeat (first | apply Kd.N_alloc | apply Kd.N_drewN | apply Kd.N_drew)); exact HO370.out) hb); have n3_ := Aside0.mk (Kd.N_below (by (with_reducible repeat (first | apply Kd.N_alloc | apply Kd.N_drewN | apply Kd.N_drew)); exact HO373.out) hb); have n4_ := Aside0.mk (blk_below (g := gb335) (o := .cells #[.string a0_0, .slice A0_1 l0_1.length c0_1] 24 (0, 0)) (bk9_ BK335) hb); have n5_ := Aside0.mk (blk_below (g := gb336) (o := .cells #[.string a1_0, .string a1_1, .int .i64 a1_2, .int .i64 a1_3, .slice A1_4 l1_4.length c1_4, .int .i64 a1_5, .int .i64 a1_6] 27 (0, 0)) (bk9_ BK336) hb); have n6_ := Aside0.mk (blk_below (g := gb367) (o := .cells #[.string t358, .string t359, .int .i64 t360, .int .i64 t361, .slice Ao48 t362.length co48, .int .i64 (wrap64 (t365 + 1)), .int .i64 t366] 37 (0, 0)) (bk9_ BK367) hb); have n7_ := Aside0.mk (below_step (bh9_ HB) hb); clear HO_7; clear HO364; clear HO370; clear HO373; clear BK335; clear BK336; clear BK367; clear HB; have HO_7 := n0_; have HO364 := n1_; have HO370 := n2_; have HO373 := n3_; have BK335 := n4_; have BK336 := n5_; have BK367 := n6_; have HB := n7_; clear n0_ n1_ n2_ n3_ n4_ n5_ n6_ n7_; (try clear hb); (try clear hb2); (try clear hk); (try clear hi)))
          go_ret
          exact ⟨by first | rfl | (simp [errW_none, errW_some] <;> rfl) | (simp [*, errW_none, errW_some] <;> rfl), by repeat (first | (with_reducible first | exact HB.out | apply below_alloc | apply pw_below_drewN | apply below_drew1 | refine below_set ?_ GE335.out | refine below_set ?_ GE336.out | refine below_set ?_ GE367.out) | exact HB.out | exact below_undrew HB.out)⟩
         ·rw [if_neg c38] at H
          have c38b0 : decide ((t350.length : Int) ≤ (l2.length : Int)) = false := decide_eq_false c38
          have c38b1 : decide (t350.length ≤ l2.length) = false := decide_eq_false (fun h => c38 (Int.ofNat_le.mpr h))
          clear c38
          exact absurd (Option.some.inj H) (by rw [hT.out]; decide)
        ·rw [if_neg c37] at H
         have c37b0 : decide ((t371.length : Int) ≤ (t350.length : Int)) = false := decide_eq_false c37
         have c37b1 : decide (t371.length ≤ t350.length) = false := decide_eq_false (fun h => c37 (Int.ofNat_le.mpr h))
         clear c37
         exact absurd (Option.some.inj H) (by rw [hT.out]; decide)
       ·have H1 : (some false) = some r := by rw [if_neg (show ¬ (some q375).isNone = true by simp)] at H; exact H
        clear H
        have H := H1
        clear H1
        try simp only [errW_none, errW_some]
        exact absurd (Option.some.inj H) (by rw [hT.out]; decide)
      ·rw [if_neg c34] at H
       have c34b0 : decide (t365 < 1048576) = false := decide_eq_false c34
       clear c34
       replace H := Option.bind_eq_some_iff.mp H
       obtain ⟨t377, A560, H⟩ := H
       replace H : ((guard_Release.f k1 a0_0 l0_1 t358 t359 t360 t361 t362 t365 t366 t377).bind fun bt380 => (if bt380.2.isNone = true then (if (bt380.1.length : Int) ≤ (t350.length : Int) then (if (t350.length : Int) ≤ (l2.length : Int) then ((barbicanlaw24_sure.f k1).bind fun t385 => (some t385)) else (some false)) else (some false)) else (some false))) = some r := H
       have A56 := Aside0.mk A560
       clear A560
       replace H := Option.bind_eq_some_iff.mp H
       obtain ⟨⟨t380, t383⟩, A570, H⟩ := H
       replace H : (if t383.isNone = true then (if (t380.length : Int) ≤ (t350.length : Int) then (if (t350.length : Int) ≤ (l2.length : Int) then ((barbicanlaw24_sure.f k1).bind fun t385 => (some t385)) else (some false)) else (some false)) else (some false)) = some r := H
       have A57 := Aside0.mk A570
       clear A570
       rcases t383 with _ | q384
       ·have H1 : (if (t380.length : Int) ≤ (t350.length : Int) then (if (t350.length : Int) ≤ (l2.length : Int) then ((barbicanlaw24_sure.f k1).bind fun t385 => (some t385)) else (some false)) else (some false)) = some r := by rw [if_pos (show (none : Option Int).isNone = true by rfl)] at H; exact H
        clear H
        have H := H1
        clear H1
        try simp only [errW_none, errW_some]
        by_cases c58 : (t380.length : Int) ≤ (t350.length : Int)
        ·rw [if_pos c58] at H
         have c58b0 : decide ((t380.length : Int) ≤ (t350.length : Int)) = true := decide_eq_true c58
         have c58b1 : decide (t380.length ≤ t350.length) = true := decide_eq_true (Int.ofNat_le.mp c58)
         clear c58
         by_cases c59 : (t350.length : Int) ≤ (l2.length : Int)
         ·rw [if_pos c59] at H
          have c59b0 : decide ((t350.length : Int) ≤ (l2.length : Int)) = true := decide_eq_true c59
          have c59b1 : decide (t350.length ≤ l2.length) = true := decide_eq_true (Int.ofNat_le.mp c59)
          clear c59
          replace H := Option.bind_eq_some_iff.mp H
          obtain ⟨t385, A600, H⟩ := H
          replace H : (some t385) = some r := H
          have A60 := Aside0.mk A600
          clear A600
          obtain rfl := Option.some.inj H
          obtain ⟨Ao61, co61, eo61⟩ := Kd.N_slice HO_7.out
          subst eo61
          have hnb62 := NB336_335.out
          have hnc62 := NB335_336.out
          have hcz63_0 : wr.cell? ⟨gb336, 0, none⟩ = some (.string a1_0) := (blk_cell BK336.out 0).trans rfl
          have hcz63_1 : wr.cell? ⟨gb336, 1, none⟩ = some (.string a1_1) := (blk_cell BK336.out 1).trans rfl
          have hcz63_2 : wr.cell? ⟨gb336, 2, none⟩ = some (.int .i64 a1_2) := (blk_cell BK336.out 2).trans rfl
          have hcz63_3 : wr.cell? ⟨gb336, 3, none⟩ = some (.int .i64 a1_3) := (blk_cell BK336.out 3).trans rfl
          have hcz63_4 : wr.cell? ⟨gb336, 4, none⟩ = some (.slice A1_4 l1_4.length c1_4) := (blk_cell BK336.out 4).trans rfl
          have hcz63_5 : wr.cell? ⟨gb336, 5, none⟩ = some (.int .i64 a1_5) := (blk_cell BK336.out 5).trans rfl
          have hcz63_6 : wr.cell? ⟨gb336, 6, none⟩ = some (.int .i64 a1_6) := (blk_cell BK336.out 6).trans rfl
          have hfz63_0 := blk_frozen BK336.out 0
          have hfz63_1 := blk_frozen BK336.out 1
          have hfz63_2 := blk_frozen BK336.out 2
          have hfz63_3 := blk_frozen BK336.out 3
          have hfz63_4 := blk_frozen BK336.out 4
          have hfz63_5 := blk_frozen BK336.out 5
          have hfz63_6 := blk_frozen BK336.out 6
          try go_wp2_with (first | ((with_reducible refine gate_callee (f := 7) rfl ?_); refine goesL_ (some 64) rfl rfl Try.func7 (by kernel_rfl) rfl #[.agg #[.string a1_0, .string a1_1, .int .i64 a1_2, .int .i64 a1_3, .slice A1_4 l1_4.length c1_4, .int .i64 a1_5, .int .i64 a1_6]] rfl (by (try simp only [List.map_toArray, List.map_cons, List.map_nil]); first | done | rfl | (simp only [List.length_drop, List.length_take]; rfl)) ?_; (with_reducible refine (barbicanlaw24_view.calls k1 a1_0 a1_1 a1_2 a1_3 _ _ l1_4 a1_5 a1_6 t358 t359 t360 t361 t362 t365 t366 _ ?side1 ?side2 A33.out).mono ?_); (case side1 => repeat (first | exact (Kd.C_below HR1_4.out HB.out) | (with_reducible refine Kd.C_alloc ?_ _) | (with_reducible refine Kd.C_drewN ?_ _) | (with_reducible refine Kd.C_drew ?_))); (case side2 => exact HC1_4.out); rintro e w64 ⟨v363, rfl, ho0, hb⟩; refine ⟨_, rfl, ?_⟩; have n0_ := Aside0.mk (Kd.N_elder' (by (with_reducible repeat (first | apply Kd.N_alloc | apply Kd.N_drewN | apply Kd.N_drew)); exact HO_7.out) (Kd.R_base ho0) hb); have n1_ := Aside0.mk (Kd.R_lower ho0 (below_size (bh9_ HB))); have n2_ := Aside0.mk (blk_below (g := gb335) (o := .cells #[.string a0_0, .slice A0_1 l0_1.length c0_1] 24 (0, 0)) (bk9_ BK335) hb); have n3_ := Aside0.mk (blk_below (g := gb336) (o := .cells #[.string a1_0, .string a1_1, .int .i64 a1_2, .int .i64 a1_3, .slice A1_4 l1_4.length c1_4, .int .i64 a1_5, .int .i64 a1_6] 27 (0, 0)) (bk9_ BK336) hb); have n4_ := Aside0.mk (below_step (bh9_ HB) hb); clear HO_7; clear BK335; clear BK336; clear HB; have HO_7 := n0_; have HO364 := n1_; have BK335 := n2_; have BK336 := n3_; have HB := n4_; clear n0_ n1_ n2_ n3_ n4_; (try clear hb); (try clear hb2); (try clear hk); (try clear hi); (try clear ho0)) | ((with_reducible refine gate_dst (N := 12) rfl ?_); (try (refine gate_guard (by rfl) ?_; dsimp only)); refine box_event ?hg (N := 12) ?hd (cs := #[.string (⟨#[]⟩ : ByteArray), .string (⟨#[]⟩ : ByteArray), .int .i64 0, .int .i64 0, .slice none 0 0, .int .i64 0, .int .i64 0]) (t := 37) ?hr ?_; (case hd => rfl); (case hg => rfl); (case hr => first | (go_simp; done) | (go_simp; rfl)); intro gb367 hg w65 hbox hb; have n0_ := Aside0.mk (Kd.N_below (Kd.N_elderB (by (with_reducible repeat (first | apply Kd.N_alloc | apply Kd.N_drewN | apply Kd.N_drew)); exact HO_7.out) gb367 (Nat.le_of_eq hg.symm)) hb); have n1_ := Aside0.mk (Kd.R_below (by (with_reducible repeat (first | apply Kd.R_alloc | apply Kd.R_drewN | apply Kd.R_drew)); exact HO364.out) hb); have n2_ := Aside0.mk (blk_below (g := gb335) (o := .cells #[.string a0_0, .slice A0_1 l0_1.length c0_1] 24 (0, 0)) (bk9_ BK335) hb); have n3_ := Aside0.mk (blk_below (g := gb336) (o := .cells #[.string a1_0, .string a1_1, .int .i64 a1_2, .int .i64 a1_3, .slice A1_4 l1_4.length c1_4, .int .i64 a1_5, .int .i64 a1_6] 27 (0, 0)) (bk9_ BK336) hb); have n4_ := Aside0.mk (below_step (bh9_ HB) hb); have n5_ := Aside0.mk (hbox); have n6_ := Aside0.mk ((by rw [hg]; exact (below_size (bh9_ HB)) : w.heap.size ≤ gb367)); have n7_ := Aside0.mk ((by rw [hg]; exact (below_size (bh9_ HB)) : w.heap.size ≤ gb367)); have n8_ := Aside0.mk ((by rw [hg]; exact Nat.ne_of_lt (blk_lt (g := gb335) (o := .cells #[.string a0_0, .slice A0_1 l0_1.length c0_1] 24 (0, 0)) (bk9_ BK335)) : gb335 ≠ gb367)); have n9_ := Aside0.mk ((by rw [hg]; exact Nat.ne_of_gt (blk_lt (g := gb335) (o := .cells #[.string a0_0, .slice A0_1 l0_1.length c0_1] 24 (0, 0)) (bk9_ BK335)) : gb367 ≠ gb335)); have n10_ := Aside0.mk ((by rw [hg]; exact Nat.ne_of_lt (blk_lt (g := gb336) (o := .cells #[.string a1_0, .string a1_1, .int .i64 a1_2, .int .i64 a1_3, .slice A1_4 l1_4.length c1_4, .int .i64 a1_5, .int .i64 a1_6] 27 (0, 0)) (bk9_ BK336)) : gb336 ≠ gb367)); have n11_ := Aside0.mk ((by rw [hg]; exact Nat.ne_of_gt (blk_lt (g := gb336) (o := .cells #[.string a1_0, .string a1_1, .int .i64 a1_2, .int .i64 a1_3, .slice A1_4 l1_4.length c1_4, .int .i64 a1_5, .int .i64 a1_6] 27 (0, 0)) (bk9_ BK336)) : gb367 ≠ gb336)); clear HO_7; clear HO364; clear BK335; clear BK336; clear HB; have HO_7 := n0_; have HO364 := n1_; have BK335 := n2_; have BK336 := n3_; have HB := n4_; have BK367 := n5_; have GW367 := n6_; have GE367 := n7_; have NB335_367 := n8_; have NB367_335 := n9_; have NB336_367 := n10_; have NB367_336 := n11_; clear n0_ n1_ n2_ n3_ n4_ n5_ n6_ n7_ n8_ n9_ n10_ n11_; clear hb hbox hg; have hnb66 := NB367_335.out; have hnc66 := NB335_367.out; have hnb67 := NB367_336.out; have hnc67 := NB336_367.out; have hcz68_0 : w65.cell? ⟨gb367, 0, none⟩ = some (.string (⟨#[]⟩ : ByteArray)) := (blk_cell BK367.out 0).trans rfl; have hcz68_1 : w65.cell? ⟨gb367, 1, none⟩ = some (.string (⟨#[]⟩ : ByteArray)) := (blk_cell BK367.out 1).trans rfl; have hcz68_2 : w65.cell? ⟨gb367, 2, none⟩ = some (.int .i64 0) := (blk_cell BK367.out 2).trans rfl; have hcz68_3 : w65.cell? ⟨gb367, 3, none⟩ = some (.int .i64 0) := (blk_cell BK367.out 3).trans rfl; have hcz68_4 : w65.cell? ⟨gb367, 4, none⟩ = some (.slice none 0 0) := (blk_cell BK367.out 4).trans rfl; have hcz68_5 : w65.cell? ⟨gb367, 5, none⟩ = some (.int .i64 0) := (blk_cell BK367.out 5).trans rfl; have hcz68_6 : w65.cell? ⟨gb367, 6, none⟩ = some (.int .i64 0) := (blk_cell BK367.out 6).trans rfl; have hfz68_0 := blk_frozen BK367.out 0; have hfz68_1 := blk_frozen BK367.out 1; have hfz68_2 := blk_frozen BK367.out 2; have hfz68_3 := blk_frozen BK367.out 3; have hfz68_4 := blk_frozen BK367.out 4; have hfz68_5 := blk_frozen BK367.out 5; have hfz68_6 := blk_frozen BK367.out 6; obtain ⟨Ao69, co69, eo69⟩ := Kd.R_slice HO364.out; subst eo69))
          have n0_ : Aside0 (Kd.N (Kd.slice 47 k47) 41 (((((((w65.setCell ⟨gb367, 0, none⟩ (.string t358)).setCell ⟨gb367, 1, none⟩ (.string t359)).setCell ⟨gb367, 2, none⟩ (.int .i64 t360)).setCell ⟨gb367, 3, none⟩ (.int .i64 t361)).setCell ⟨gb367, 4, none⟩ (.slice Ao69 t362.length co69)).setCell ⟨gb367, 5, none⟩ (.int .i64 t365)).setCell ⟨gb367, 6, none⟩ (.int .i64 t366)) w.heap.size (fun k_ => some k_ ≠ (.slice Ao69 t362.length co69 : Value).ownBlock ∧ k_ ≠ gb335 ∧ k_ ≠ gb336 ∧ k_ ≠ gb367) (.slice Ao61 t350.length co61) t350) := ⟨by (with_reducible repeat (first | apply Kd.N_alloc | apply Kd.N_drewN | apply Kd.N_drew)); exact Kd.N_mono (Kd.N_far (p := ⟨gb367, 6, none⟩) (Kd.N_far (p := ⟨gb367, 5, none⟩) (Kd.N_far (p := ⟨gb367, 4, none⟩) (Kd.N_far (p := ⟨gb367, 3, none⟩) (Kd.N_far (p := ⟨gb367, 2, none⟩) (Kd.N_far (p := ⟨gb367, 1, none⟩) (Kd.N_far (p := ⟨gb367, 0, none⟩) (Kd.N_mono HO_7.out (fun k_ hk => (⟨hk, hk.2⟩ : _ ∧ k_ ≠ gb367))) (fun _ hk => hk.2) (.string t358)) (fun _ hk => hk.2) (.string t359)) (fun _ hk => hk.2) (.int .i64 t360)) (fun _ hk => hk.2) (.int .i64 t361)) (fun _ hk => hk.2) (.slice Ao69 t362.length co69)) (fun _ hk => hk.2) (.int .i64 t365)) (fun _ hk => hk.2) (.int .i64 t366)) (fun _ hk => ⟨hk.1.1.2, ⟨hk.1.1.1.1, ⟨hk.1.1.1.2, hk.1.2⟩⟩⟩)⟩
          have n1_ : Aside0 (Kd.R k51 51 (((((((w65.setCell ⟨gb367, 0, none⟩ (.string t358)).setCell ⟨gb367, 1, none⟩ (.string t359)).setCell ⟨gb367, 2, none⟩ (.int .i64 t360)).setCell ⟨gb367, 3, none⟩ (.int .i64 t361)).setCell ⟨gb367, 4, none⟩ (.slice Ao69 t362.length co69)).setCell ⟨gb367, 5, none⟩ (.int .i64 t365)).setCell ⟨gb367, 6, none⟩ (.int .i64 t366)) w.heap.size (fun _ => True) (.slice Ao69 t362.length co69) t362) := ⟨by (with_reducible repeat (first | apply Kd.R_alloc | apply Kd.R_drewN | apply Kd.R_drew)); exact Kd.R_mono (Kd.R_far (p := ⟨gb367, 6, none⟩) (Kd.R_far (p := ⟨gb367, 5, none⟩) (Kd.R_far (p := ⟨gb367, 4, none⟩) (Kd.R_far (p := ⟨gb367, 3, none⟩) (Kd.R_far (p := ⟨gb367, 2, none⟩) (Kd.R_far (p := ⟨gb367, 1, none⟩) (Kd.R_far (p := ⟨gb367, 0, none⟩) (Kd.R_types HO364.out BK367.out (by decide)) (fun _ hk => hk.2) (.string t358)) (fun _ hk => hk.2) (.string t359)) (fun _ hk => hk.2) (.int .i64 t360)) (fun _ hk => hk.2) (.int .i64 t361)) (fun _ hk => hk.2) (.slice Ao69 t362.length co69)) (fun _ hk => hk.2) (.int .i64 t365)) (fun _ hk => hk.2) (.int .i64 t366)) (fun _ hk => trivial)⟩
          have n2_ : Aside0 ((((((((w65.setCell ⟨gb367, 0, none⟩ (.string t358)).setCell ⟨gb367, 1, none⟩ (.string t359)).setCell ⟨gb367, 2, none⟩ (.int .i64 t360)).setCell ⟨gb367, 3, none⟩ (.int .i64 t361)).setCell ⟨gb367, 4, none⟩ (.slice Ao69 t362.length co69)).setCell ⟨gb367, 5, none⟩ (.int .i64 t365)).setCell ⟨gb367, 6, none⟩ (.int .i64 t366)).heap[gb335]? = some (.cells #[.string a0_0, .slice A0_1 l0_1.length c0_1] 24 (0, 0))) := ⟨by (with_reducible repeat (first | refine blk_drewN ?_ _ | refine blk_drew ?_ | refine blk_alloc ?_ _)); refine blk_far ?_ NB335_367.out _; (with_reducible repeat (first | refine blk_drewN ?_ _ | refine blk_drew ?_ | refine blk_alloc ?_ _)); refine blk_far ?_ NB335_367.out _; (with_reducible repeat (first | refine blk_drewN ?_ _ | refine blk_drew ?_ | refine blk_alloc ?_ _)); refine blk_far ?_ NB335_367.out _; (with_reducible repeat (first | refine blk_drewN ?_ _ | refine blk_drew ?_ | refine blk_alloc ?_ _)); refine blk_far ?_ NB335_367.out _; (with_reducible repeat (first | refine blk_drewN ?_ _ | refine blk_drew ?_ | refine blk_alloc ?_ _)); refine blk_far ?_ NB335_367.out _; (with_reducible repeat (first | refine blk_drewN ?_ _ | refine blk_drew ?_ | refine blk_alloc ?_ _)); refine blk_far ?_ NB335_367.out _; (with_reducible repeat (first | refine blk_drewN ?_ _ | refine blk_drew ?_ | refine blk_alloc ?_ _)); refine blk_far ?_ NB335_367.out _; (with_reducible repeat (first | refine blk_drewN ?_ _ | refine blk_drew ?_ | refine blk_alloc ?_ _)); exact BK335.out⟩
          have n3_ : Aside0 ((((((((w65.setCell ⟨gb367, 0, none⟩ (.string t358)).setCell ⟨gb367, 1, none⟩ (.string t359)).setCell ⟨gb367, 2, none⟩ (.int .i64 t360)).setCell ⟨gb367, 3, none⟩ (.int .i64 t361)).setCell ⟨gb367, 4, none⟩ (.slice Ao69 t362.length co69)).setCell ⟨gb367, 5, none⟩ (.int .i64 t365)).setCell ⟨gb367, 6, none⟩ (.int .i64 t366)).heap[gb336]? = some (.cells #[.string a1_0, .string a1_1, .int .i64 a1_2, .int .i64 a1_3, .slice A1_4 l1_4.length c1_4, .int .i64 a1_5, .int .i64 a1_6] 27 (0, 0))) := ⟨by (with_reducible repeat (first | refine blk_drewN ?_ _ | refine blk_drew ?_ | refine blk_alloc ?_ _)); refine blk_far ?_ NB336_367.out _; (with_reducible repeat (first | refine blk_drewN ?_ _ | refine blk_drew ?_ | refine blk_alloc ?_ _)); refine blk_far ?_ NB336_367.out _; (with_reducible repeat (first | refine blk_drewN ?_ _ | refine blk_drew ?_ | refine blk_alloc ?_ _)); refine blk_far ?_ NB336_367.out _; (with_reducible repeat (first | refine blk_drewN ?_ _ | refine blk_drew ?_ | refine blk_alloc ?_ _)); refine blk_far ?_ NB336_367.out _; (with_reducible repeat (first | refine blk_drewN ?_ _ | refine blk_drew ?_ | refine blk_alloc ?_ _)); refine blk_far ?_ NB336_367.out _; (with_reducible repeat (first | refine blk_drewN ?_ _ | refine blk_drew ?_ | refine blk_alloc ?_ _)); refine blk_far ?_ NB336_367.out _; (with_reducible repeat (first | refine blk_drewN ?_ _ | refine blk_drew ?_ | refine blk_alloc ?_ _)); refine blk_far ?_ NB336_367.out _; (with_reducible repeat (first | refine blk_drewN ?_ _ | refine blk_drew ?_ | refine blk_alloc ?_ _)); exact BK336.out⟩
          have n4_ : Aside0 ((((((((w65.setCell ⟨gb367, 0, none⟩ (.string t358)).setCell ⟨gb367, 1, none⟩ (.string t359)).setCell ⟨gb367, 2, none⟩ (.int .i64 t360)).setCell ⟨gb367, 3, none⟩ (.int .i64 t361)).setCell ⟨gb367, 4, none⟩ (.slice Ao69 t362.length co69)).setCell ⟨gb367, 5, none⟩ (.int .i64 t365)).setCell ⟨gb367, 6, none⟩ (.int .i64 t366)).heap[gb367]? = some (.cells #[.string t358, .string t359, .int .i64 t360, .int .i64 t361, .slice Ao69 t362.length co69, .int .i64 t365, .int .i64 t366] 37 (0, 0))) := ⟨by (with_reducible repeat (first | refine blk_drewN ?_ _ | refine blk_drew ?_ | refine blk_alloc ?_ _)); refine blk_put (cs := #[.string t358, .string t359, .int .i64 t360, .int .i64 t361, .slice Ao69 t362.length co69, .int .i64 t365, .int .i64 0]) ?_ 6 _ (by first | rfl | (simp only [w64_256, wu64_256]; rfl) | (subst_vars; simp only [w64_256, wu64_256, shl, wu32_mod, Int.one_mul]; rfl)); (with_reducible repeat (first | refine blk_drewN ?_ _ | refine blk_drew ?_ | refine blk_alloc ?_ _)); refine blk_put (cs := #[.string t358, .string t359, .int .i64 t360, .int .i64 t361, .slice Ao69 t362.length co69, .int .i64 0, .int .i64 0]) ?_ 5 _ (by first | rfl | (simp only [w64_256, wu64_256]; rfl) | (subst_vars; simp only [w64_256, wu64_256, shl, wu32_mod, Int.one_mul]; rfl)); (with_reducible repeat (first | refine blk_drewN ?_ _ | refine blk_drew ?_ | refine blk_alloc ?_ _)); refine blk_put (cs := #[.string t358, .string t359, .int .i64 t360, .int .i64 t361, .slice none 0 0, .int .i64 0, .int .i64 0]) ?_ 4 _ (by first | rfl | (simp only [w64_256, wu64_256]; rfl) | (subst_vars; simp only [w64_256, wu64_256, shl, wu32_mod, Int.one_mul]; rfl)); (with_reducible repeat (first | refine blk_drewN ?_ _ | refine blk_drew ?_ | refine blk_alloc ?_ _)); refine blk_put (cs := #[.string t358, .string t359, .int .i64 t360, .int .i64 0, .slice none 0 0, .int .i64 0, .int .i64 0]) ?_ 3 _ (by first | rfl | (simp only [w64_256, wu64_256]; rfl) | (subst_vars; simp only [w64_256, wu64_256, shl, wu32_mod, Int.one_mul]; rfl)); (with_reducible repeat (first | refine blk_drewN ?_ _ | refine blk_drew ?_ | refine blk_alloc ?_ _)); refine blk_put (cs := #[.string t358, .string t359, .int .i64 0, .int .i64 0, .slice none 0 0, .int .i64 0, .int .i64 0]) ?_ 2 _ (by first | rfl | (simp only [w64_256, wu64_256]; rfl) | (subst_vars; simp only [w64_256, wu64_256, shl, wu32_mod, Int.one_mul]; rfl)); (with_reducible repeat (first | refine blk_drewN ?_ _ | refine blk_drew ?_ | refine blk_alloc ?_ _)); refine blk_put (cs := #[.string t358, .string (⟨#[]⟩ : ByteArray), .int .i64 0, .int .i64 0, .slice none 0 0, .int .i64 0, .int .i64 0]) ?_ 1 _ (by first | rfl | (simp only [w64_256, wu64_256]; rfl) | (subst_vars; simp only [w64_256, wu64_256, shl, wu32_mod, Int.one_mul]; rfl)); (with_reducible repeat (first | refine blk_drewN ?_ _ | refine blk_drew ?_ | refine blk_alloc ?_ _)); refine blk_put (cs := #[.string (⟨#[]⟩ : ByteArray), .string (⟨#[]⟩ : ByteArray), .int .i64 0, .int .i64 0, .slice none 0 0, .int .i64 0, .int .i64 0]) ?_ 0 _ (by first | rfl | (simp only [w64_256, wu64_256]; rfl) | (subst_vars; simp only [w64_256, wu64_256, shl, wu32_mod, Int.one_mul]; rfl)); (with_reducible repeat (first | refine blk_drewN ?_ _ | refine blk_drew ?_ | refine blk_alloc ?_ _)); exact BK367.out⟩
          have n5_ : Aside0 (Below w.heap.size w (((((((w65.setCell ⟨gb367, 0, none⟩ (.string t358)).setCell ⟨gb367, 1, none⟩ (.string t359)).setCell ⟨gb367, 2, none⟩ (.int .i64 t360)).setCell ⟨gb367, 3, none⟩ (.int .i64 t361)).setCell ⟨gb367, 4, none⟩ (.slice Ao69 t362.length co69)).setCell ⟨gb367, 5, none⟩ (.int .i64 t365)).setCell ⟨gb367, 6, none⟩ (.int .i64 t366))) := ⟨by repeat (first | (with_reducible first | exact HB.out | apply below_alloc | apply pw_below_drewN | apply below_drew1 | refine below_set ?_ GE335.out | refine below_set ?_ GE336.out | refine below_set ?_ GE367.out) | exact HB.out | exact below_undrew HB.out)⟩
          (try clear HO_7)
          (try clear HO364)
          (try clear BK335)
          (try clear BK336)
          (try clear BK367)
          (try clear HB)
          generalize (((((((w65.setCell ⟨gb367, 0, none⟩ (.string t358)).setCell ⟨gb367, 1, none⟩ (.string t359)).setCell ⟨gb367, 2, none⟩ (.int .i64 t360)).setCell ⟨gb367, 3, none⟩ (.int .i64 t361)).setCell ⟨gb367, 4, none⟩ (.slice Ao69 t362.length co69)).setCell ⟨gb367, 5, none⟩ (.int .i64 t365)).setCell ⟨gb367, 6, none⟩ (.int .i64 t366)) = w70 at n0_ n1_ n2_ n3_ n4_ n5_ ⊢
          have HO_7 := n0_
          have HO364 := n1_
          have BK335 := n2_
          have BK336 := n3_
          have BK367 := n4_
          have HB := n5_
          clear n0_ n1_ n2_ n3_ n4_ n5_
          have n0_ := Aside0.mk (Kd.N_drew HO_7.out)
          have n1_ := Aside0.mk (Kd.R_drew HO364.out)
          have n2_ := Aside0.mk (blk_drew BK335.out)
          have n3_ := Aside0.mk (blk_drew BK336.out)
          have n4_ := Aside0.mk (blk_drew BK367.out)
          have n5_ := Aside0.mk (below_drew1 HB.out)
          clear HO_7
          clear HO364
          clear BK335
          clear BK336
          clear BK367
          clear HB
          have HO_7 := n0_
          have HO364 := n1_
          have BK335 := n2_
          have BK336 := n3_
          have BK367 := n4_
          have HB := n5_
          clear n0_ n1_ n2_ n3_ n4_ n5_
          refine start_ (n := 10) (S := fun w' => w'.cell? ⟨gb335, 0, none⟩ = some (.string a0_0) ∧ w'.cell? ⟨gb335, 1, none⟩ = some (.slice A0_1 l0_1.length c0_1) ∧ w'.cell? ⟨gb367, 0, none⟩ = some (.string t358) ∧ w'.cell? ⟨gb367, 1, none⟩ = some (.string t359) ∧ w'.cell? ⟨gb367, 2, none⟩ = some (.int .i64 t360) ∧ w'.cell? ⟨gb367, 3, none⟩ = some (.int .i64 t361) ∧ w'.cell? ⟨gb367, 4, none⟩ = some (.slice Ao69 t362.length co69) ∧ w'.cell? ⟨gb367, 5, none⟩ = some (.int .i64 t365) ∧ w'.cell? ⟨gb367, 6, none⟩ = some (.int .i64 t366)) (ds := []) #[false, false, false, false, false, false, false, false, false, false] (by kernel_rfl) rfl rfl ⟨(blk_cell BK335.out 0).trans rfl, (blk_cell BK335.out 1).trans rfl, (blk_cell BK367.out 0).trans rfl, (blk_cell BK367.out 1).trans rfl, (blk_cell BK367.out 2).trans rfl, (blk_cell BK367.out 3).trans rfl, (blk_cell BK367.out 4).trans rfl, (blk_cell BK367.out 5).trans rfl, (blk_cell BK367.out 6).trans rfl⟩ (fun hHeld => ?_); refine with_tabW barbicanlaw24_GuardRare.tab20 barbicanlaw24_GuardRare.bits20 (fun HT_ HW_ => ?_)
          generalize w70.drew = w71 at HO_7 HO364 BK335 BK336 BK367 HB hHeld ⊢
          refine pure_ (i := 2) (N := some 75) (v := ?_) (a' := ?_) #[false, false, true, false, false, false, false, false, false, false] rfl rfl (any_of HT_.out (by kernel_rfl)) (fun _ _ _ h => h) (Or.inl ⟨by rfl, ?_⟩) ?_ ?_
          rotate_left
          ·intro w'
           go_simp
           with_reducible rfl
          rotate_left
          ·simp only [Act.put, List.setIfInBounds_toArray, List.set_cons_zero, List.set_cons_succ, i64_w, i32_w]
           rfl
          refine take_ (i := 0) (N := some 73) (v := ?_) (a' := ?_) #[true, false, true, false, false, false, false, false, false, false] rfl rfl (take_ofW HT_.out HW_.out (by kernel_rfl)) (fun _ _ _ h => h) (Or.inl ⟨by rfl, ?_⟩) hHeld ?_ ?_
          rotate_left
          ·rintro w' ⟨s0, s1, s2, s3, s4, s5, s6, s7, s8⟩
           go_simp
           with_reducible rfl
          rotate_left
          ·simp only [Act.put, List.setIfInBounds_toArray, List.set_cons_zero, List.set_cons_succ, i64_w, i32_w]
           rfl
          refine take_ (i := 1) (N := some 74) (v := ?_) (a' := ?_) #[true, true, true, false, false, false, false, false, false, false] rfl rfl (take_ofW HT_.out HW_.out (by kernel_rfl)) (fun _ _ _ h => h) (Or.inl ⟨by rfl, ?_⟩) hHeld ?_ ?_
          rotate_left
          ·rintro w' ⟨s0, s1, s2, s3, s4, s5, s6, s7, s8⟩
           go_simp
           with_reducible rfl
          rotate_left
          ·simp only [Act.put, List.setIfInBounds_toArray, List.set_cons_zero, List.set_cons_succ, i64_w, i32_w]
           rfl
          refine one_ (i := 3) (N := some 76) #[true, true, true, true, false, false, false, false, false, false] rfl rfl (one_of HT_.out (by kernel_rfl)) (by decide) (fun K hK => ?_)
          refine goes_ Try.func8 (by kernel_rfl) rfl #[.slice A2 l2.length c2] (by rfl) rfl rfl (by (try simp only [List.map_toArray, List.map_cons, List.map_nil]); first | done | rfl | (simp only [List.length_drop, List.length_take]; rfl)) ?_
          with_reducible refine (barbicanlaw24_own.calls k1 _ _ l2 t377 _ ?side1 ?side2 A56.out).mono ?_
          (case side1 => repeat (first | exact (Kd.C_below HR2.out HB.out) | (with_reducible refine Kd.C_alloc ?_ _) | (with_reducible refine Kd.C_drewN ?_ _) | (with_reducible refine Kd.C_drew ?_)))
          (case side2 => exact HC2.out)
          rintro e w72 ⟨v378, rfl, ho0, hb⟩
          refine ⟨_, rfl, ?_⟩
          have n0_ := Aside0.mk (Kd.N_elder' (by (with_reducible repeat (first | apply Kd.N_alloc | apply Kd.N_drewN | apply Kd.N_drew)); exact HO_7.out) (by first | exact Kd.N_base ho0 | exact Kd.N_base (Kd.S_N ho0)) hb)
          have n1_ := Aside0.mk (Kd.R_below (by (with_reducible repeat (first | apply Kd.R_alloc | apply Kd.R_drewN | apply Kd.R_drew)); exact HO364.out) hb)
          have n2_ := Aside0.mk (Kd.N_lower (Kd.N_mono (ok' := fun k_ => some k_ ≠ (.slice Ao61 t350.length co61 : Value).ownBlock ∧ some k_ ≠ (.slice Ao69 t362.length co69 : Value).ownBlock ∧ k_ ≠ gb335 ∧ k_ ≠ gb336 ∧ k_ ≠ gb367) (Kd.S_N (Kd.S_bound ho0)) (fun k_ hk_ => ⟨(Kd.fresh' (Kd.N_lt (by (with_reducible repeat (first | apply Kd.N_alloc | apply Kd.N_drewN | apply Kd.N_drew)); exact HO_7.out)) k_ hk_.2.1), (Kd.fresh' (Kd.R_lt (by (with_reducible repeat (first | apply Kd.R_alloc | apply Kd.R_drewN | apply Kd.R_drew)); exact HO364.out)) k_ hk_.2.1), (Kd.freshB (g := gb335) (o := .cells #[.string a0_0, .slice A0_1 l0_1.length c0_1] 24 (0, 0)) (bk9_ BK335) k_ hk_.2.1), (Kd.freshB (g := gb336) (o := .cells #[.string a1_0, .string a1_1, .int .i64 a1_2, .int .i64 a1_3, .slice A1_4 l1_4.length c1_4, .int .i64 a1_5, .int .i64 a1_6] 27 (0, 0)) (bk9_ BK336) k_ hk_.2.1), (Kd.freshB (g := gb367) (o := .cells #[.string t358, .string t359, .int .i64 t360, .int .i64 t361, .slice Ao69 t362.length co69, .int .i64 t365, .int .i64 t366] 37 (0, 0)) (bk9_ BK367) k_ hk_.2.1)⟩)) (below_size (bh9_ HB)))
          have n3_ := Aside0.mk (blk_below (g := gb335) (o := .cells #[.string a0_0, .slice A0_1 l0_1.length c0_1] 24 (0, 0)) (bk9_ BK335) hb)
          have n4_ := Aside0.mk (blk_below (g := gb336) (o := .cells #[.string a1_0, .string a1_1, .int .i64 a1_2, .int .i64 a1_3, .slice A1_4 l1_4.length c1_4, .int .i64 a1_5, .int .i64 a1_6] 27 (0, 0)) (bk9_ BK336) hb)
          have n5_ := Aside0.mk (blk_below (g := gb367) (o := .cells #[.string t358, .string t359, .int .i64 t360, .int .i64 t361, .slice Ao69 t362.length co69, .int .i64 t365, .int .i64 t366] 37 (0, 0)) (bk9_ BK367) hb)
          have n6_ := Aside0.mk (below_step (bh9_ HB) hb)
          clear HO_7
          clear HO364
          clear BK335
          clear BK336
          clear BK367
          clear HB
          have HO_7 := n0_
          have HO364 := n1_
          have HO379 := n2_
          have BK335 := n3_
          have BK336 := n4_
          have BK367 := n5_
          have HB := n6_
          clear n0_ n1_ n2_ n3_ n4_ n5_ n6_
          (try clear hb)
          (try clear hb2)
          (try clear hk)
          (try clear hi)
          (try clear ho0)
          obtain ⟨Ao73, co73, eo73⟩ := Kd.N_slice HO379.out
          (first | subst eo73 | (injection eo73 with f1_ f2_ f3_; have f4_ := f1_.symm; have f5_ := f3_.symm; clear f1_ f2_ f3_; subst f4_; subst f5_))
          refine hK.out _ _ ⟨(blk_cell BK335.out 0).trans rfl, (blk_cell BK335.out 1).trans rfl, (blk_cell BK367.out 0).trans rfl, (blk_cell BK367.out 1).trans rfl, (blk_cell BK367.out 2).trans rfl, (blk_cell BK367.out 3).trans rfl, (blk_cell BK367.out 4).trans rfl, (blk_cell BK367.out 5).trans rfl, (blk_cell BK367.out 6).trans rfl⟩ (fun hHeld => ?_)
          clear hK K
          refine norm_ (a' := ?_) ?_ ?_
          rotate_left
          ·show Act.put _ (some 76) _ = _
           simp only [Act.put, List.setIfInBounds_toArray, List.set_cons_zero, List.set_cons_succ, i64_w, i32_w]
           rfl
          refine one_ (i := 4) (N := some 77) #[true, true, true, true, true, false, false, false, false, false] rfl rfl (one_of HT_.out (by kernel_rfl)) (by decide) (fun K hK => ?_)
          refine goes_ Try.func6 (by kernel_rfl) rfl #[.agg #[.string a0_0, .slice A0_1 l0_1.length c0_1], .agg #[.string t358, .string t359, .int .i64 t360, .int .i64 t361, .slice Ao69 t362.length co69, .int .i64 t365, .int .i64 t366], .slice Ao73 t377.length co73] (by rfl) rfl rfl (by (try simp only [List.map_toArray, List.map_cons, List.map_nil]); first | done | rfl | (simp only [List.length_drop, List.length_take]; rfl)) ?_
          with_reducible refine (guard_Release.calls k1 a0_0 _ _ l0_1 t358 t359 t360 t361 _ _ t362 t365 t366 _ _ t377 t380 none _ ?side1 ?side2 ?side3 ?side4 ?side5 ?side6 A57.out).mono ?_
          (case side1 => repeat (first | exact (Kd.C_below HR0_1.out HB.out) | (with_reducible refine Kd.C_alloc ?_ _) | (with_reducible refine Kd.C_drewN ?_ _) | (with_reducible refine Kd.C_drew ?_)))
          (case side2 => exact HC0_1.out)
          (case side3 => repeat (first | exact (Kd.R_reads' HO364.out).2.2 | (with_reducible refine Kd.C_alloc ?_ _) | (with_reducible refine Kd.C_drewN ?_ _) | (with_reducible refine Kd.C_drew ?_)))
          (case side4 => exact (Kd.R_reads' HO364.out).2.1)
          (case side5 => repeat (first | exact (Kd.N_reads' HO379.out).2.2 | (with_reducible refine Kd.C_alloc ?_ _) | (with_reducible refine Kd.C_drewN ?_ _) | (with_reducible refine Kd.C_drew ?_)))
          (case side6 => exact (Kd.N_reads' HO379.out).2.1)
          rintro e w74 ⟨v381, rfl, ho0, hb⟩
          refine ⟨_, rfl, ?_⟩
          have n0_ := Aside0.mk (Kd.N_elder' (by (with_reducible repeat (first | apply Kd.N_alloc | apply Kd.N_drewN | apply Kd.N_drew)); exact HO_7.out) (by first | exact Kd.N_base ho0 | exact Kd.N_base (Kd.S_N ho0)) hb)
          have n1_ := Aside0.mk (Kd.R_below (by (with_reducible repeat (first | apply Kd.R_alloc | apply Kd.R_drewN | apply Kd.R_drew)); exact HO364.out) hb)
          have n2_ := Aside0.mk (Kd.N_elder' (by (with_reducible repeat (first | apply Kd.N_alloc | apply Kd.N_drewN | apply Kd.N_drew)); exact HO379.out) (by first | exact Kd.N_base ho0 | exact Kd.N_base (Kd.S_N ho0)) hb)
          have n3_ := Aside0.mk (Kd.N_lower (Kd.N_mono (ok' := fun k_ => some k_ ≠ (.slice Ao61 t350.length co61 : Value).ownBlock ∧ some k_ ≠ (.slice Ao69 t362.length co69 : Value).ownBlock ∧ some k_ ≠ (.slice Ao73 t377.length co73 : Value).ownBlock ∧ k_ ≠ gb335 ∧ k_ ≠ gb336 ∧ k_ ≠ gb367) ho0 (fun k_ hk_ => ⟨(Kd.fresh' (Kd.N_lt (by (with_reducible repeat (first | apply Kd.N_alloc | apply Kd.N_drewN | apply Kd.N_drew)); exact HO_7.out)) k_ hk_), (Kd.fresh' (Kd.R_lt (by (with_reducible repeat (first | apply Kd.R_alloc | apply Kd.R_drewN | apply Kd.R_drew)); exact HO364.out)) k_ hk_), (Kd.fresh' (Kd.N_lt (by (with_reducible repeat (first | apply Kd.N_alloc | apply Kd.N_drewN | apply Kd.N_drew)); exact HO379.out)) k_ hk_), (Kd.freshB (g := gb335) (o := .cells #[.string a0_0, .slice A0_1 l0_1.length c0_1] 24 (0, 0)) (bk9_ BK335) k_ hk_), (Kd.freshB (g := gb336) (o := .cells #[.string a1_0, .string a1_1, .int .i64 a1_2, .int .i64 a1_3, .slice A1_4 l1_4.length c1_4, .int .i64 a1_5, .int .i64 a1_6] 27 (0, 0)) (bk9_ BK336) k_ hk_), (Kd.freshB (g := gb367) (o := .cells #[.string t358, .string t359, .int .i64 t360, .int .i64 t361, .slice Ao69 t362.length co69, .int .i64 t365, .int .i64 t366] 37 (0, 0)) (bk9_ BK367) k_ hk_)⟩)) (below_size (bh9_ HB)))
          have n4_ := Aside0.mk (blk_below (g := gb335) (o := .cells #[.string a0_0, .slice A0_1 l0_1.length c0_1] 24 (0, 0)) (bk9_ BK335) hb)
          have n5_ := Aside0.mk (blk_below (g := gb336) (o := .cells #[.string a1_0, .string a1_1, .int .i64 a1_2, .int .i64 a1_3, .slice A1_4 l1_4.length c1_4, .int .i64 a1_5, .int .i64 a1_6] 27 (0, 0)) (bk9_ BK336) hb)
          have n6_ := Aside0.mk (blk_below (g := gb367) (o := .cells #[.string t358, .string t359, .int .i64 t360, .int .i64 t361, .slice Ao69 t362.length co69, .int .i64 t365, .int .i64 t366] 37 (0, 0)) (bk9_ BK367) hb)
          have n7_ := Aside0.mk (below_step (bh9_ HB) hb)
          clear HO_7
          clear HO364
          clear HO379
          clear BK335
          clear BK336
          clear BK367
          clear HB
          have HO_7 := n0_
          have HO364 := n1_
          have HO379 := n2_
          have HO382 := n3_
          have BK335 := n4_
          have BK336 := n5_
          have BK367 := n6_
          have HB := n7_
          clear n0_ n1_ n2_ n3_ n4_ n5_ n6_ n7_
          (try clear hb)
          (try clear hb2)
          (try clear hk)
          (try clear hi)
          (try clear ho0)
          (try simp only [errW_none, errW_some])
          refine hK.out _ _ ⟨(blk_cell BK335.out 0).trans rfl, (blk_cell BK335.out 1).trans rfl, (blk_cell BK367.out 0).trans rfl, (blk_cell BK367.out 1).trans rfl, (blk_cell BK367.out 2).trans rfl, (blk_cell BK367.out 3).trans rfl, (blk_cell BK367.out 4).trans rfl, (blk_cell BK367.out 5).trans rfl, (blk_cell BK367.out 6).trans rfl⟩ (fun hHeld => ?_)
          clear hK K
          refine norm_ (a' := ?_) ?_ ?_
          rotate_left
          ·show Act.put _ (some 77) _ = _
           simp only [Act.put, List.setIfInBounds_toArray, List.set_cons_zero, List.set_cons_succ, i64_w, i32_w]
           rfl
          refine pure_ (i := 5) (N := some 72) (v := ?_) (a' := ?_) #[true, true, true, true, true, true, false, false, false, false] rfl rfl (any_of HT_.out (by kernel_rfl)) (fun _ _ _ h => h) (Or.inl ⟨by rfl, ?_⟩) ?_ ?_
          rotate_left
          ·intro w'
           go_simp
           with_reducible rfl
          rotate_left
          ·simp only [Act.put, List.setIfInBounds_toArray, List.set_cons_zero, List.set_cons_succ, i64_w, i32_w]
           rfl
          refine pure_ (i := 6) (N := some 78) (v := ?_) (a' := ?_) #[true, true, true, true, true, true, true, false, false, false] rfl rfl (any_of HT_.out (by kernel_rfl)) (fun _ _ _ h => h) (Or.inl ⟨by rfl, ?_⟩) ?_ ?_
          rotate_left
          ·intro w'
           go_simp
           with_reducible rfl
          rotate_left
          ·simp only [Act.put, List.setIfInBounds_toArray, List.set_cons_zero, List.set_cons_succ, i64_w, i32_w]
           rfl
          refine pure_ (i := 7) (N := some 79) (v := ?_) (a' := ?_) #[true, true, true, true, true, true, true, true, false, false] rfl rfl (any_of HT_.out (by kernel_rfl)) (fun _ _ _ h => h) (Or.inl ⟨by rfl, ?_⟩) ?_ ?_
          rotate_left
          ·intro w'
           go_simp
           with_reducible rfl
          rotate_left
          ·simp only [Act.put, List.setIfInBounds_toArray, List.set_cons_zero, List.set_cons_succ, i64_w, i32_w]
           rfl
          refine pure_ (i := 8) (N := some 13) (v := ?_) (a' := ?_) #[true, true, true, true, true, true, true, true, true, false] rfl rfl (any_of HT_.out (by kernel_rfl)) (fun _ _ _ h => h) (Or.inl ⟨by rfl, ?_⟩) ?_ ?_
          rotate_left
          ·intro w'
           go_simp
           with_reducible rfl
          rotate_left
          ·simp only [Act.put, List.setIfInBounds_toArray, List.set_cons_zero, List.set_cons_succ, i64_w, i32_w]
           rfl
          refine pure_ (i := 9) (N := some 14) (v := ?_) (a' := ?_) #[true, true, true, true, true, true, true, true, true, true] rfl rfl (any_of HT_.out (by kernel_rfl)) (fun _ _ _ h => h) (Or.inl ⟨by rfl, ?_⟩) ?_ ?_
          rotate_left
          ·intro w'
           go_simp
           with_reducible rfl
          rotate_left
          ·simp only [Act.put, List.setIfInBounds_toArray, List.set_cons_zero, List.set_cons_succ, i64_w, i32_w]
           rfl
          refine done_ (done_of HT_.out (by kernel_rfl)) ?_
          obtain ⟨Ao75, co75, eo75⟩ := Kd.N_slice HO382.out
          subst eo75
          try go_wp2_with (first | (go_at_call 5; (with_reducible refine (barbicanlaw24_sure.calls k1  t385 _ A60.out).mono ?_); rintro e w76 ⟨rfl, hb⟩; have n0_ := Aside0.mk (Kd.N_below (by (with_reducible repeat (first | apply Kd.N_alloc | apply Kd.N_drewN | apply Kd.N_drew)); exact HO_7.out) hb); have n1_ := Aside0.mk (Kd.R_below (by (with_reducible repeat (first | apply Kd.R_alloc | apply Kd.R_drewN | apply Kd.R_drew)); exact HO364.out) hb); have n2_ := Aside0.mk (Kd.N_below (by (with_reducible repeat (first | apply Kd.N_alloc | apply Kd.N_drewN | apply Kd.N_drew)); exact HO379.out) hb); have n3_ := Aside0.mk (Kd.N_below (by (with_reducible repeat (first | apply Kd.N_alloc | apply Kd.N_drewN | apply Kd.N_drew)); exact HO382.out) hb); have n4_ := Aside0.mk (blk_below (g := gb335) (o := .cells #[.string a0_0, .slice A0_1 l0_1.length c0_1] 24 (0, 0)) (bk9_ BK335) hb); have n5_ := Aside0.mk (blk_below (g := gb336) (o := .cells #[.string a1_0, .string a1_1, .int .i64 a1_2, .int .i64 a1_3, .slice A1_4 l1_4.length c1_4, .int .i64 a1_5, .int .i64 a1_6] 27 (0, 0)) (bk9_ BK336) hb); have n6_ := Aside0.mk (blk_below (g := gb367) (o := .cells #[.string t358, .string t359, .int .i64 t360, .int .i64 t361, .slice Ao69 t362.length co69, .int .i64 t365, .int .i64 t366] 37 (0, 0)) (bk9_ BK367) hb); have n7_ := Aside0.mk (below_step (bh9_ HB) hb); clear HO_7; clear HO364; clear HO379; clear HO382; clear BK335; clear BK336; clear BK367; clear HB; have HO_7 := n0_; have HO364 := n1_; have HO379 := n2_; have HO382 := n3_; have BK335 := n4_; have BK336 := n5_; have BK367 := n6_; have HB := n7_; clear n0_ n1_ n2_ n3_ n4_ n5_ n6_ n7_; (try clear hb); (try clear hb2); (try clear hk); (try clear hi)))
          go_ret
          exact ⟨by first | rfl | (simp [errW_none, errW_some] <;> rfl) | (simp [*, errW_none, errW_some] <;> rfl), by repeat (first | (with_reducible first | exact HB.out | apply below_alloc | apply pw_below_drewN | apply below_drew1 | refine below_set ?_ GE335.out | refine below_set ?_ GE336.out | refine below_set ?_ GE367.out) | exact HB.out | exact below_undrew HB.out)⟩
         ·rw [if_neg c59] at H
          have c59b0 : decide ((t350.length : Int) ≤ (l2.length : Int)) = false := decide_eq_false c59
          have c59b1 : decide (t350.length ≤ l2.length) = false := decide_eq_false (fun h => c59 (Int.ofNat_le.mpr h))
          clear c59
          exact absurd (Option.some.inj H) (by rw [hT.out]; decide)
        ·rw [if_neg c58] at H
         have c58b0 : decide ((t380.length : Int) ≤ (t350.length : Int)) = false := decide_eq_false c58
         have c58b1 : decide (t380.length ≤ t350.length) = false := decide_eq_false (fun h => c58 (Int.ofNat_le.mpr h))
         clear c58
         exact absurd (Option.some.inj H) (by rw [hT.out]; decide)
       ·have H1 : (some false) = some r := by rw [if_neg (show ¬ (some q384).isNone = true by simp)] at H; exact H
        clear H
        have H := H1
        clear H1
        try simp only [errW_none, errW_some]
        exact absurd (Option.some.inj H) (by rw [hT.out]; decide)
  ·have H1 : (if (t350.length : Int) = 0 then ((barbicanlaw24_sure.f k).bind fun t386 => (some t386)) else (some false)) = some r := by rw [if_neg (show ¬ (some q354).isNone = true by simp)] at H; exact H
   clear H
   have H := H1
   clear H1
   try simp only [errW_none, errW_some]
   by_cases c77 : (t350.length : Int) = 0
   ·rw [if_pos c77] at H
    have c77b0 : ((t350.length : Int) == 0) = true := beq_iff_eq.mpr c77
    have c77b1 : ((t350.length : Int) != 0) = false := bne_eq_false_iff_eq.mpr c77
    clear c77
    replace H := Option.bind_eq_some_iff.mp H
    obtain ⟨t386, A780, H⟩ := H
    replace H : (some t386) = some r := H
    have A78 := Aside0.mk A780
    clear A780
    obtain rfl := Option.some.inj H
    go_enter Try.func3, Try.ntmps3
    try go_wp2_with (first | ((with_reducible refine gate_dst (N := 3) rfl ?_); (try (refine gate_guard (by rfl) ?_; dsimp only)); refine box_event ?hg (N := 3) ?hd (cs := #[.string a0_0, .slice A0_1 l0_1.length c0_1]) (t := 24) ?hr ?_; (case hd => rfl); (case hg => rfl); (case hr => first | (go_simp; done) | (go_simp; rfl)); intro gb335 hg w79 hbox hb; have n0_ := Aside0.mk (below_step (bh9_ HB) hb); have n1_ := Aside0.mk (hbox); have n2_ := Aside0.mk ((by rw [hg]; exact (below_size (bh9_ HB)) : w.heap.size ≤ gb335)); have n3_ := Aside0.mk ((by rw [hg]; exact (below_size (bh9_ HB)) : w.heap.size ≤ gb335)); clear HB; have HB := n0_; have BK335 := n1_; have GW335 := n2_; have GE335 := n3_; clear n0_ n1_ n2_ n3_; clear hb hbox hg) | ((with_reducible refine gate_dst (N := 4) rfl ?_); (try (refine gate_guard (by rfl) ?_; dsimp only)); refine box_event ?hg (N := 4) ?hd (cs := #[.string a1_0, .string a1_1, .int .i64 a1_2, .int .i64 a1_3, .slice A1_4 l1_4.length c1_4, .int .i64 a1_5, .int .i64 a1_6]) (t := 27) ?hr ?_; (case hd => rfl); (case hg => rfl); (case hr => first | (go_simp; done) | (go_simp; rfl)); intro gb336 hg w80 hbox hb; have n0_ := Aside0.mk (blk_below (g := gb335) (o := .cells #[.string a0_0, .slice A0_1 l0_1.length c0_1] 24 (0, 0)) (bk9_ BK335) hb); have n1_ := Aside0.mk (below_step (bh9_ HB) hb); have n2_ := Aside0.mk (hbox); have n3_ := Aside0.mk ((by rw [hg]; exact (below_size (bh9_ HB)) : w.heap.size ≤ gb336)); have n4_ := Aside0.mk ((by rw [hg]; exact (below_size (bh9_ HB)) : w.heap.size ≤ gb336)); have n5_ := Aside0.mk ((by rw [hg]; exact Nat.ne_of_lt (blk_lt (g := gb335) (o := .cells #[.string a0_0, .slice A0_1 l0_1.length c0_1] 24 (0, 0)) (bk9_ BK335)) : gb335 ≠ gb336)); have n6_ := Aside0.mk ((by rw [hg]; exact Nat.ne_of_gt (blk_lt (g := gb335) (o := .cells #[.string a0_0, .slice A0_1 l0_1.length c0_1] 24 (0, 0)) (bk9_ BK335)) : gb336 ≠ gb335)); clear BK335; clear HB; have BK335 := n0_; have HB := n1_; have BK336 := n2_; have GW336 := n3_; have GE336 := n4_; have NB335_336 := n5_; have NB336_335 := n6_; clear n0_ n1_ n2_ n3_ n4_ n5_ n6_; clear hb hbox hg))
    have n0_ := Aside0.mk (blk_drew BK335.out)
    have n1_ := Aside0.mk (blk_drew BK336.out)
    have n2_ := Aside0.mk (below_drew1 HB.out)
    clear BK335
    clear BK336
    clear HB
    have BK335 := n0_
    have BK336 := n1_
    have HB := n2_
    clear n0_ n1_ n2_
    refine start_ (n := 11) (S := fun w' => w'.cell? ⟨gb335, 0, none⟩ = some (.string a0_0) ∧ w'.cell? ⟨gb335, 1, none⟩ = some (.slice A0_1 l0_1.length c0_1) ∧ w'.cell? ⟨gb336, 0, none⟩ = some (.string a1_0) ∧ w'.cell? ⟨gb336, 1, none⟩ = some (.string a1_1) ∧ w'.cell? ⟨gb336, 2, none⟩ = some (.int .i64 a1_2) ∧ w'.cell? ⟨gb336, 3, none⟩ = some (.int .i64 a1_3) ∧ w'.cell? ⟨gb336, 4, none⟩ = some (.slice A1_4 l1_4.length c1_4) ∧ w'.cell? ⟨gb336, 5, none⟩ = some (.int .i64 a1_5) ∧ w'.cell? ⟨gb336, 6, none⟩ = some (.int .i64 a1_6)) (ds := []) #[false, false, false, false, false, false, false, false, false, false, false] (by kernel_rfl) rfl rfl ⟨(blk_cell BK335.out 0).trans rfl, (blk_cell BK335.out 1).trans rfl, (blk_cell BK336.out 0).trans rfl, (blk_cell BK336.out 1).trans rfl, (blk_cell BK336.out 2).trans rfl, (blk_cell BK336.out 3).trans rfl, (blk_cell BK336.out 4).trans rfl, (blk_cell BK336.out 5).trans rfl, (blk_cell BK336.out 6).trans rfl⟩ (fun hHeld => ?_); refine with_tabW barbicanlaw24_GuardRare.tab3 barbicanlaw24_GuardRare.bits3 (fun HT_ HW_ => ?_)
    generalize w80.drew = w81 at BK335 BK336 HB hHeld ⊢
    refine pure_ (i := 3) (N := some 23) (v := ?_) (a' := ?_) #[false, false, false, true, false, false, false, false, false, false, false] rfl rfl (any_of HT_.out (by kernel_rfl)) (fun _ _ _ h => h) (Or.inl ⟨by rfl, ?_⟩) ?_ ?_
    rotate_left
    ·intro w'
     go_simp
     with_reducible rfl
    rotate_left
    ·simp only [Act.put, List.setIfInBounds_toArray, List.set_cons_zero, List.set_cons_succ, i64_w, i32_w]
     rfl
    refine take_ (i := 0) (N := some 20) (v := ?_) (a' := ?_) #[true, false, false, true, false, false, false, false, false, false, false] rfl rfl (take_ofW HT_.out HW_.out (by kernel_rfl)) (fun _ _ _ h => h) (Or.inl ⟨by rfl, ?_⟩) hHeld ?_ ?_
    rotate_left
    ·rintro w' ⟨s0, s1, s2, s3, s4, s5, s6, s7, s8⟩
     go_simp
     with_reducible rfl
    rotate_left
    ·simp only [Act.put, List.setIfInBounds_toArray, List.set_cons_zero, List.set_cons_succ, i64_w, i32_w]
     rfl
    refine take_ (i := 1) (N := some 21) (v := ?_) (a' := ?_) #[true, true, false, true, false, false, false, false, false, false, false] rfl rfl (take_ofW HT_.out HW_.out (by kernel_rfl)) (fun _ _ _ h => h) (Or.inl ⟨by rfl, ?_⟩) hHeld ?_ ?_
    rotate_left
    ·rintro w' ⟨s0, s1, s2, s3, s4, s5, s6, s7, s8⟩
     go_simp
     with_reducible rfl
    rotate_left
    ·simp only [Act.put, List.setIfInBounds_toArray, List.set_cons_zero, List.set_cons_succ, i64_w, i32_w]
     rfl
    refine one_ (i := 2) (N := some 22) #[true, true, true, true, false, false, false, false, false, false, false] rfl rfl (one_of HT_.out (by kernel_rfl)) (by decide) (fun K hK => ?_)
    refine goes_ Try.func7 (by kernel_rfl) rfl #[.agg #[.string a1_0, .string a1_1, .int .i64 a1_2, .int .i64 a1_3, .slice A1_4 l1_4.length c1_4, .int .i64 a1_5, .int .i64 a1_6]] (by rfl) rfl rfl (by (try simp only [List.map_toArray, List.map_cons, List.map_nil]); first | done | rfl | (simp only [List.length_drop, List.length_take]; rfl)) ?_
    with_reducible refine (barbicanlaw24_view.calls k a1_0 a1_1 a1_2 a1_3 _ _ l1_4 a1_5 a1_6 t338 t339 t340 t341 t342 t345 t346 _ ?side1 ?side2 A9.out).mono ?_
    (case side1 => repeat (first | exact (Kd.C_below HR1_4.out HB.out) | (with_reducible refine Kd.C_alloc ?_ _) | (with_reducible refine Kd.C_drewN ?_ _) | (with_reducible refine Kd.C_drew ?_)))
    (case side2 => exact HC1_4.out)
    rintro e w82 ⟨v343, rfl, ho0, hb⟩
    refine ⟨_, rfl, ?_⟩
    have n0_ := Aside0.mk (Kd.R_lower ho0 (below_size (bh9_ HB)))
    have n1_ := Aside0.mk (blk_below (g := gb335) (o := .cells #[.string a0_0, .slice A0_1 l0_1.length c0_1] 24 (0, 0)) (bk9_ BK335) hb)
    have n2_ := Aside0.mk (blk_below (g := gb336) (o := .cells #[.string a1_0, .string a1_1, .int .i64 a1_2, .int .i64 a1_3, .slice A1_4 l1_4.length c1_4, .int .i64 a1_5, .int .i64 a1_6] 27 (0, 0)) (bk9_ BK336) hb)
    have n3_ := Aside0.mk (below_step (bh9_ HB) hb)
    clear BK335
    clear BK336
    clear HB
    have HO344 := n0_
    have BK335 := n1_
    have BK336 := n2_
    have HB := n3_
    clear n0_ n1_ n2_ n3_
    (try clear hb)
    (try clear hb2)
    (try clear hk)
    (try clear hi)
    (try clear ho0)
    refine hK.out _ _ ⟨(blk_cell BK335.out 0).trans rfl, (blk_cell BK335.out 1).trans rfl, (blk_cell BK336.out 0).trans rfl, (blk_cell BK336.out 1).trans rfl, (blk_cell BK336.out 2).trans rfl, (blk_cell BK336.out 3).trans rfl, (blk_cell BK336.out 4).trans rfl, (blk_cell BK336.out 5).trans rfl, (blk_cell BK336.out 6).trans rfl⟩ (fun hHeld => ?_)
    clear hK K
    refine norm_ (a' := ?_) ?_ ?_
    rotate_left
    ·show Act.put _ (some 22) _ = _
     simp only [Act.put, List.setIfInBounds_toArray, List.set_cons_zero, List.set_cons_succ, i64_w, i32_w]
     rfl
    refine one_ (i := 4) (N := some 24) #[true, true, true, true, true, false, false, false, false, false, false] rfl rfl (one_of HT_.out (by kernel_rfl)) (by decide) (fun K hK => ?_)
    refine goes_ Try.func8 (by kernel_rfl) rfl #[.slice A2 l2.length c2] (by rfl) rfl rfl (by (try simp only [List.map_toArray, List.map_cons, List.map_nil]); first | done | rfl | (simp only [List.length_drop, List.length_take]; rfl)) ?_
    with_reducible refine (barbicanlaw24_own.calls k _ _ l2 t347 _ ?side1 ?side2 A10.out).mono ?_
    (case side1 => repeat (first | exact (Kd.C_below HR2.out HB.out) | (with_reducible refine Kd.C_alloc ?_ _) | (with_reducible refine Kd.C_drewN ?_ _) | (with_reducible refine Kd.C_drew ?_)))
    (case side2 => exact HC2.out)
    rintro e w83 ⟨v348, rfl, ho0, hb⟩
    refine ⟨_, rfl, ?_⟩
    have n0_ := Aside0.mk (Kd.R_below (by (with_reducible repeat (first | apply Kd.R_alloc | apply Kd.R_drewN | apply Kd.R_drew)); exact HO344.out) hb)
    have n1_ := Aside0.mk (Kd.N_lower (Kd.N_mono (ok' := fun k_ => some k_ ≠ (v343 : Value).ownBlock ∧ k_ ≠ gb335 ∧ k_ ≠ gb336) (Kd.S_N (Kd.S_bound ho0)) (fun k_ hk_ => ⟨(Kd.fresh' (Kd.R_lt (by (with_reducible repeat (first | apply Kd.R_alloc | apply Kd.R_drewN | apply Kd.R_drew)); exact HO344.out)) k_ hk_.2.1), (Kd.freshB (g := gb335) (o := .cells #[.string a0_0, .slice A0_1 l0_1.length c0_1] 24 (0, 0)) (bk9_ BK335) k_ hk_.2.1), (Kd.freshB (g := gb336) (o := .cells #[.string a1_0, .string a1_1, .int .i64 a1_2, .int .i64 a1_3, .slice A1_4 l1_4.length c1_4, .int .i64 a1_5, .int .i64 a1_6] 27 (0, 0)) (bk9_ BK336) k_ hk_.2.1)⟩)) (below_size (bh9_ HB)))
    have n2_ := Aside0.mk (blk_below (g := gb335) (o := .cells #[.string a0_0, .slice A0_1 l0_1.length c0_1] 24 (0, 0)) (bk9_ BK335) hb)
    have n3_ := Aside0.mk (blk_below (g := gb336) (o := .cells #[.string a1_0, .string a1_1, .int .i64 a1_2, .int .i64 a1_3, .slice A1_4 l1_4.length c1_4, .int .i64 a1_5, .int .i64 a1_6] 27 (0, 0)) (bk9_ BK336) hb)
    have n4_ := Aside0.mk (below_step (bh9_ HB) hb)
    clear HO344
    clear BK335
    clear BK336
    clear HB
    have HO344 := n0_
    have HO349 := n1_
    have BK335 := n2_
    have BK336 := n3_
    have HB := n4_
    clear n0_ n1_ n2_ n3_ n4_
    (try clear hb)
    (try clear hb2)
    (try clear hk)
    (try clear hi)
    (try clear ho0)
    obtain ⟨Ao84, co84, eo84⟩ := Kd.R_slice HO344.out
    (first | subst eo84 | (injection eo84 with f1_ f2_ f3_; have f4_ := f1_.symm; have f5_ := f3_.symm; clear f1_ f2_ f3_; subst f4_; subst f5_))
    obtain ⟨Ao85, co85, eo85⟩ := Kd.N_slice HO349.out
    (first | subst eo85 | (injection eo85 with f1_ f2_ f3_; have f4_ := f1_.symm; have f5_ := f3_.symm; clear f1_ f2_ f3_; subst f4_; subst f5_))
    refine hK.out _ _ ⟨(blk_cell BK335.out 0).trans rfl, (blk_cell BK335.out 1).trans rfl, (blk_cell BK336.out 0).trans rfl, (blk_cell BK336.out 1).trans rfl, (blk_cell BK336.out 2).trans rfl, (blk_cell BK336.out 3).trans rfl, (blk_cell BK336.out 4).trans rfl, (blk_cell BK336.out 5).trans rfl, (blk_cell BK336.out 6).trans rfl⟩ (fun hHeld => ?_)
    clear hK K
    refine norm_ (a' := ?_) ?_ ?_
    rotate_left
    ·show Act.put _ (some 24) _ = _
     simp only [Act.put, List.setIfInBounds_toArray, List.set_cons_zero, List.set_cons_succ, i64_w, i32_w]
     rfl
    refine one_ (i := 5) (N := some 25) #[true, true, true, true, true, true, false, false, false, false, false] rfl rfl (one_of HT_.out (by kernel_rfl)) (by decide) (fun K hK => ?_)
    refine goes_ Try.func6 (by kernel_rfl) rfl #[.agg #[.string a0_0, .slice A0_1 l0_1.length c0_1], .agg #[.string t338, .string t339, .int .i64 t340, .int .i64 t341, .slice Ao84 t342.length co84, .int .i64 t345, .int .i64 t346], .slice Ao85 t347.length co85] (by rfl) rfl rfl (by (try simp only [List.map_toArray, List.map_cons, List.map_nil]); first | done | rfl | (simp only [List.length_drop, List.length_take]; rfl)) ?_
    with_reducible refine (guard_Release.calls k a0_0 _ _ l0_1 t338 t339 t340 t341 _ _ t342 t345 t346 _ _ t347 t350 (some q354) _ ?side1 ?side2 ?side3 ?side4 ?side5 ?side6 A11.out).mono ?_
    (case side1 => repeat (first | exact (Kd.C_below HR0_1.out HB.out) | (with_reducible refine Kd.C_alloc ?_ _) | (with_reducible refine Kd.C_drewN ?_ _) | (with_reducible refine Kd.C_drew ?_)))
    (case side2 => exact HC0_1.out)
    (case side3 => repeat (first | exact (Kd.R_reads' HO344.out).2.2 | (with_reducible refine Kd.C_alloc ?_ _) | (with_reducible refine Kd.C_drewN ?_ _) | (with_reducible refine Kd.C_drew ?_)))
    (case side4 => exact (Kd.R_reads' HO344.out).2.1)
    (case side5 => repeat (first | exact (Kd.N_reads' HO349.out).2.2 | (with_reducible refine Kd.C_alloc ?_ _) | (with_reducible refine Kd.C_drewN ?_ _) | (with_reducible refine Kd.C_drew ?_)))
    (case side6 => exact (Kd.N_reads' HO349.out).2.1)
    rintro e w86 ⟨v351, rfl, ho0, hb⟩
    refine ⟨_, rfl, ?_⟩
    have n0_ := Aside0.mk (Kd.R_below (by (with_reducible repeat (first | apply Kd.R_alloc | apply Kd.R_drewN | apply Kd.R_drew)); exact HO344.out) hb)
    have n1_ := Aside0.mk (Kd.N_elder' (by (with_reducible repeat (first | apply Kd.N_alloc | apply Kd.N_drewN | apply Kd.N_drew)); exact HO349.out) (by first | exact Kd.N_base ho0 | exact Kd.N_base (Kd.S_N ho0)) hb)
    have n2_ := Aside0.mk (Kd.N_lower (Kd.N_mono (ok' := fun k_ => some k_ ≠ (.slice Ao84 t342.length co84 : Value).ownBlock ∧ some k_ ≠ (.slice Ao85 t347.length co85 : Value).ownBlock ∧ k_ ≠ gb335 ∧ k_ ≠ gb336) ho0 (fun k_ hk_ => ⟨(Kd.fresh' (Kd.R_lt (by (with_reducible repeat (first | apply Kd.R_alloc | apply Kd.R_drewN | apply Kd.R_drew)); exact HO344.out)) k_ hk_), (Kd.fresh' (Kd.N_lt (by (with_reducible repeat (first | apply Kd.N_alloc | apply Kd.N_drewN | apply Kd.N_drew)); exact HO349.out)) k_ hk_), (Kd.freshB (g := gb335) (o := .cells #[.string a0_0, .slice A0_1 l0_1.length c0_1] 24 (0, 0)) (bk9_ BK335) k_ hk_), (Kd.freshB (g := gb336) (o := .cells #[.string a1_0, .string a1_1, .int .i64 a1_2, .int .i64 a1_3, .slice A1_4 l1_4.length c1_4, .int .i64 a1_5, .int .i64 a1_6] 27 (0, 0)) (bk9_ BK336) k_ hk_)⟩)) (below_size (bh9_ HB)))
    have n3_ := Aside0.mk (blk_below (g := gb335) (o := .cells #[.string a0_0, .slice A0_1 l0_1.length c0_1] 24 (0, 0)) (bk9_ BK335) hb)
    have n4_ := Aside0.mk (blk_below (g := gb336) (o := .cells #[.string a1_0, .string a1_1, .int .i64 a1_2, .int .i64 a1_3, .slice A1_4 l1_4.length c1_4, .int .i64 a1_5, .int .i64 a1_6] 27 (0, 0)) (bk9_ BK336) hb)
    have n5_ := Aside0.mk (below_step (bh9_ HB) hb)
    clear HO344
    clear HO349
    clear BK335
    clear BK336
    clear HB
    have HO344 := n0_
    have HO349 := n1_
    have HO352 := n2_
    have BK335 := n3_
    have BK336 := n4_
    have HB := n5_
    clear n0_ n1_ n2_ n3_ n4_ n5_
    (try clear hb)
    (try clear hb2)
    (try clear hk)
    (try clear hi)
    (try clear ho0)
    (try simp only [errW_none, errW_some])
    refine hK.out _ _ ⟨(blk_cell BK335.out 0).trans rfl, (blk_cell BK335.out 1).trans rfl, (blk_cell BK336.out 0).trans rfl, (blk_cell BK336.out 1).trans rfl, (blk_cell BK336.out 2).trans rfl, (blk_cell BK336.out 3).trans rfl, (blk_cell BK336.out 4).trans rfl, (blk_cell BK336.out 5).trans rfl, (blk_cell BK336.out 6).trans rfl⟩ (fun hHeld => ?_)
    clear hK K
    refine norm_ (a' := ?_) ?_ ?_
    rotate_left
    ·show Act.put _ (some 25) _ = _
     simp only [Act.put, List.setIfInBounds_toArray, List.set_cons_zero, List.set_cons_succ, i64_w, i32_w]
     rfl
    refine pure_ (i := 6) (N := some 19) (v := ?_) (a' := ?_) #[true, true, true, true, true, true, true, false, false, false, false] rfl rfl (any_of HT_.out (by kernel_rfl)) (fun _ _ _ h => h) (Or.inl ⟨by rfl, ?_⟩) ?_ ?_
    rotate_left
    ·intro w'
     go_simp
     with_reducible rfl
    rotate_left
    ·simp only [Act.put, List.setIfInBounds_toArray, List.set_cons_zero, List.set_cons_succ, i64_w, i32_w]
     rfl
    refine pure_ (i := 7) (N := some 26) (v := ?_) (a' := ?_) #[true, true, true, true, true, true, true, true, false, false, false] rfl rfl (any_of HT_.out (by kernel_rfl)) (fun _ _ _ h => h) (Or.inl ⟨by rfl, ?_⟩) ?_ ?_
    rotate_left
    ·intro w'
     go_simp
     with_reducible rfl
    rotate_left
    ·simp only [Act.put, List.setIfInBounds_toArray, List.set_cons_zero, List.set_cons_succ, i64_w, i32_w]
     rfl
    refine pure_ (i := 8) (N := some 27) (v := ?_) (a' := ?_) #[true, true, true, true, true, true, true, true, true, false, false] rfl rfl (any_of HT_.out (by kernel_rfl)) (fun _ _ _ h => h) (Or.inl ⟨by rfl, ?_⟩) ?_ ?_
    rotate_left
    ·intro w'
     go_simp
     with_reducible rfl
    rotate_left
    ·simp only [Act.put, List.setIfInBounds_toArray, List.set_cons_zero, List.set_cons_succ, i64_w, i32_w]
     rfl
    refine pure_ (i := 9) (N := some 7) (v := ?_) (a' := ?_) #[true, true, true, true, true, true, true, true, true, true, false] rfl rfl (any_of HT_.out (by kernel_rfl)) (fun _ _ _ h => h) (Or.inl ⟨by rfl, ?_⟩) ?_ ?_
    rotate_left
    ·intro w'
     go_simp
     with_reducible rfl
    rotate_left
    ·simp only [Act.put, List.setIfInBounds_toArray, List.set_cons_zero, List.set_cons_succ, i64_w, i32_w]
     rfl
    refine pure_ (i := 10) (N := some 8) (v := ?_) (a' := ?_) #[true, true, true, true, true, true, true, true, true, true, true] rfl rfl (any_of HT_.out (by kernel_rfl)) (fun _ _ _ h => h) (Or.inl ⟨by rfl, ?_⟩) ?_ ?_
    rotate_left
    ·intro w'
     go_simp
     with_reducible rfl
    rotate_left
    ·simp only [Act.put, List.setIfInBounds_toArray, List.set_cons_zero, List.set_cons_succ, i64_w, i32_w]
     rfl
    refine done_ (done_of HT_.out (by kernel_rfl)) ?_
    obtain ⟨Ao87, co87, eo87⟩ := Kd.N_slice HO352.out
    subst eo87
    try go_wp2_with (first | (go_at_call 5; (with_reducible refine (barbicanlaw24_sure.calls k  t386 _ A78.out).mono ?_); rintro e w88 ⟨rfl, hb⟩; have n0_ := Aside0.mk (Kd.R_below (by (with_reducible repeat (first | apply Kd.R_alloc | apply Kd.R_drewN | apply Kd.R_drew)); exact HO344.out) hb); have n1_ := Aside0.mk (Kd.N_below (by (with_reducible repeat (first | apply Kd.N_alloc | apply Kd.N_drewN | apply Kd.N_drew)); exact HO349.out) hb); have n2_ := Aside0.mk (Kd.N_below (by (with_reducible repeat (first | apply Kd.N_alloc | apply Kd.N_drewN | apply Kd.N_drew)); exact HO352.out) hb); have n3_ := Aside0.mk (blk_below (g := gb335) (o := .cells #[.string a0_0, .slice A0_1 l0_1.length c0_1] 24 (0, 0)) (bk9_ BK335) hb); have n4_ := Aside0.mk (blk_below (g := gb336) (o := .cells #[.string a1_0, .string a1_1, .int .i64 a1_2, .int .i64 a1_3, .slice A1_4 l1_4.length c1_4, .int .i64 a1_5, .int .i64 a1_6] 27 (0, 0)) (bk9_ BK336) hb); have n5_ := Aside0.mk (below_step (bh9_ HB) hb); clear HO344; clear HO349; clear HO352; clear BK335; clear BK336; clear HB; have HO344 := n0_; have HO349 := n1_; have HO352 := n2_; have BK335 := n3_; have BK336 := n4_; have HB := n5_; clear n0_ n1_ n2_ n3_ n4_ n5_; (try clear hb); (try clear hb2); (try clear hk); (try clear hi)))
    go_ret
    exact ⟨by first | rfl | (simp [errW_none, errW_some] <;> rfl) | (simp [*, errW_none, errW_some] <;> rfl), by repeat (first | (with_reducible first | exact HB.out | apply below_alloc | apply pw_below_drewN | apply below_drew1 | refine below_set ?_ GE335.out | refine below_set ?_ GE336.out) | exact HB.out | exact below_undrew HB.out)⟩
   ·rw [if_neg c77] at H
    have c77b0 : ((t350.length : Int) == 0) = false := beq_eq_false_iff_ne.mpr c77
    have c77b1 : ((t350.length : Int) != 0) = true := bne_iff_ne.mpr c77
    have c77b2 : ¬ (t350 = []) := fun h_ => c77 (by rw [h_]; rfl)
    exact absurd (Option.some.inj H) (by rw [hT.out]; decide)

end Go.Proofs.Ytoiakgibckgfdaa.XGv
