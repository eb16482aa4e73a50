/- Printed by this session's program (wip/print) out of the translation, for the statement named in the file's name. -/
import Derived.Test.YtgcaalgaellciaaGreatDoorXLamx0
import Derived.Test.YtgcaalgaellciaaGreatDoorXLamx1
import Derived.Test.YtgcaalgaellciaaGreatDoorXLamx3
import Derived.Test.YtgcaalgaellciaaGreatDoorXLamx7
import Derived.Test.YtgcaalgaellciaaGreatDoorXLamx8
namespace Go.Proofs.YtgcaalgaellciaaGreatDoor.XLam
open Go.RowKit Go.Proofs.YtgcaalgaellciaaGreatDoorW.PrintWords Go.Proofs.YtgcaalgaellciaaGreatDoorW.PrintLast Go.Proofs.YtgcaalgaellciaaGreatDoorW.PrintMore Go.Proofs.YtgcaalgaellciaaGreatDoor.Both
attribute [local go_sem] str_gtr str_leq str_geq max2_int min2_int max_two min_two max_three min_three max_four min_four   -- for this text's walks alone
set_option linter.unusedVariables false
set_option linter.unusedSimpArgs false
set_option linter.unnecessarySimpa false

attribute [local go_sem high] eqA37
/-! ### barbicanref02_Find: function 15 -/
def barbicanref02_Find.l0 : Nat → List (S37) → Int → Int → Int → Option (Int × Int)
  | 0, _, _, _, _ => none
  | k + 1, x0, x6, x139000, x139001 => if x6 < (x0.length : Int) then (if 0 ≤ x6 then (if (((rd_T37 x0 x6).f0) == x139000 && (((rd_T37 x0 x6).f1) == x139001)) = true then (some (x6, 0)) else (barbicanref02_Find.l0 k x0 (wrap64 (x6 + 1)) x139000 x139001)) else (none)) else (some (0, 8))
def barbicanref02_Find.f (k : Nat) (l0 : List (S37)) (a1_0 : Int) (a1_1 : Int) : Option (Int × Int) := barbicanref02_Find.l0 k l0 0 a1_0 a1_1
theorem barbicanref02_Find.mono_l : ∀ k, (∀ y0 y1 y2 y3, LeO (barbicanref02_Find.l0 k y0 y1 y2 y3) (barbicanref02_Find.l0 (k + 1) y0 y1 y2 y3))
  | 0 => fun _ _ _ _ r h => by simp [barbicanref02_Find.l0] at h
  | k + 1 => by
    have ih0 := barbicanref02_Find.mono_l k
    · intro y0 y1 y2 y3
      unfold barbicanref02_Find.l0
      repeat' first
      | (with_reducible exact ih0 _ _ _ _)
      | (with_reducible exact LeO.refl _)
      | (with_reducible exact LeO.none _)
      | (with_reducible refine LeO.ite ?_ ?_)
      | (with_reducible refine LeO.bind ?_ (fun _ => ?_))
      | exact ih0 _ _ _ _
      | exact LeO.none _
      | refine LeO.ite ?_ ?_
      | refine LeO.bind ?_ (fun _ => ?_)
theorem barbicanref02_Find.mono : ∀ a0 a1 a2 k, LeO (barbicanref02_Find.f k a0 a1 a2) (barbicanref02_Find.f (k + 1) a0 a1 a2) := by
  intro a0 a1 a2 k
  have ih0 := barbicanref02_Find.mono_l k
  unfold barbicanref02_Find.f
  repeat' first
      | (with_reducible exact ih0 _ _ _ _)
      | (with_reducible exact LeO.refl _)
      | (with_reducible exact LeO.none _)
      | (with_reducible refine LeO.ite ?_ ?_)
      | (with_reducible refine LeO.bind ?_ (fun _ => ?_))
      | exact ih0 _ _ _ _
      | exact LeO.none _
      | refine LeO.ite ?_ ?_
      | refine LeO.bind ?_ (fun _ => ?_)
set_option maxHeartbeats 8000000 in
set_option maxRecDepth 100000 in
theorem barbicanref02_Find.calls (k : Nat) (A0 : Option Addr) (c0 : Nat) (l0 : List (S37)) (a1_0 : Int) (a1_1 : Int) (r1 : Int) (r2 : Int) (w : World) (hr0 : Kd.C k37 w A0 l0.length l0) (hc0 : l0.length ≤ c0) (h : barbicanref02_Find.f k l0 a1_0 a1_1 = some (r1, r2)) :
    Calls Tryz.prog 15 #[.slice A0 l0.length c0, .agg #[.int .i64 a1_0, .int .u32 a1_1]] w fun e w' => e = .returned (.tuple #[.int .i64 r1, .int .i64 r2]) ∧ Below w.heap.size w w' := by
  have hu37 := Tryz.underlying37
  have HR0 := Aside0.mk hr0
  have HC0 := Aside0.mk hc0
  clear hr0 hc0
  have HB := Aside0.mk (Below.refl w.heap.size w)
  have H : (barbicanref02_Find.l0 k l0 0 a1_0 a1_1) = some (r1, r2) := h
  clear h
  have H' := Aside0.mk H
  clear H
  go_enter Tryz.func15, Tryz.ntmps15
  go_wp2_with (first | ((with_reducible refine gate_dst (N := 3) rfl ?_); refine box_event ?hg (N := 3) ?hd (cs := #[.int .i64 a1_0, .int .u32 a1_1]) (t := 37) ?hr ?_; (case hd => rfl); (case hg => rfl); (case hr => first | (go_simp; done) | (go_simp; rfl)); intro gb138 hg w3 hbox hb; have n0_ := Aside0.mk (below_step (by repeat (first | (with_reducible first | exact HB.out | apply below_alloc | apply pw_below_drewN | apply below_drew1) | exact HB.out | exact below_undrew HB.out)) hb); have n1_ := Aside0.mk (hbox); have n2_ := Aside0.mk ((by rw [hg]; exact (below_size (by repeat (first | (with_reducible first | exact HB.out | apply below_alloc | apply pw_below_drewN | apply below_drew1) | exact HB.out | exact below_undrew HB.out))) : w.heap.size ≤ gb138)); have n3_ := Aside0.mk ((by rw [hg]; exact (below_size (by repeat (first | (with_reducible first | exact HB.out | apply below_alloc | apply pw_below_drewN | apply below_drew1) | exact HB.out | exact below_undrew HB.out))) : w.heap.size ≤ gb138)); clear HB; have HB := n0_; have BK138 := n1_; have GW138 := n2_; have GE138 := n3_; clear n0_ n1_ n2_ n3_; clear hb hbox hg))
  repeat (go_quiet (first | ((with_reducible refine gate_dst (N := 3) rfl ?_); refine box_event ?hg (N := 3) ?hd (cs := #[.int .i64 a1_0, .int .u32 a1_1]) (t := 37) ?hr ?_; (case hd => rfl); (case hg => rfl); (case hr => first | (go_simp; done) | (go_simp; rfl)); intro gb138 hg w3 hbox hb; have n0_ := Aside0.mk (below_step (by repeat (first | (with_reducible first | exact HB.out | apply below_alloc | apply pw_below_drewN | apply below_drew1) | exact HB.out | exact below_undrew HB.out)) hb); have n1_ := Aside0.mk (hbox); have n2_ := Aside0.mk ((by rw [hg]; exact (below_size (by repeat (first | (with_reducible first | exact HB.out | apply below_alloc | apply pw_below_drewN | apply below_drew1) | exact HB.out | exact below_undrew HB.out))) : w.heap.size ≤ gb138)); have n3_ := Aside0.mk ((by rw [hg]; exact (below_size (by repeat (first | (with_reducible first | exact HB.out | apply below_alloc | apply pw_below_drewN | apply below_drew1) | exact HB.out | exact below_undrew HB.out))) : w.heap.size ≤ gb138)); clear HB; have HB := n0_; have BK138 := n1_; have GW138 := n2_; have GE138 := n3_; clear n0_ n1_ n2_ n3_; clear hb hbox hg)); try go_wp2_with (first | ((with_reducible refine gate_dst (N := 3) rfl ?_); refine box_event ?hg (N := 3) ?hd (cs := #[.int .i64 a1_0, .int .u32 a1_1]) (t := 37) ?hr ?_; (case hd => rfl); (case hg => rfl); (case hr => first | (go_simp; done) | (go_simp; rfl)); intro gb138 hg w3 hbox hb; have n0_ := Aside0.mk (below_step (by repeat (first | (with_reducible first | exact HB.out | apply below_alloc | apply pw_below_drewN | apply below_drew1) | exact HB.out | exact below_undrew HB.out)) hb); have n1_ := Aside0.mk (hbox); have n2_ := Aside0.mk ((by rw [hg]; exact (below_size (by repeat (first | (with_reducible first | exact HB.out | apply below_alloc | apply pw_below_drewN | apply below_drew1) | exact HB.out | exact below_undrew HB.out))) : w.heap.size ≤ gb138)); have n3_ := Aside0.mk ((by rw [hg]; exact (below_size (by repeat (first | (with_reducible first | exact HB.out | apply below_alloc | apply pw_below_drewN | apply below_drew1) | exact HB.out | exact below_undrew HB.out))) : w.heap.size ≤ gb138)); clear HB; have HB := n0_; have BK138 := n1_; have GW138 := n2_; have GE138 := n3_; clear n0_ n1_ n2_ n3_; clear hb hbox hg)))
  go_loopg [6] k (fun kq v6 w' => ∃ (x6_1 : Int), v6 = .int .i64 x6_1 ∧ Aside0 (barbicanref02_Find.l0 kq l0 x6_1 a1_0 a1_1 = some (r1, r2)) ∧ Aside0 (kq ≤ k) ∧ Aside0 (w'.heap[gb138]? = some (.cells #[.int .i64 a1_0, .int .u32 a1_1] 37 (0, 0))) ∧ Aside0 (Below w.heap.size w w'))
  case atStart => exact ⟨(0), (by first | rfl | (simp; done) | (simp [*]; done)), H', ⟨Nat.le_refl _⟩, ⟨by (with_reducible repeat (first | refine blk_drewN ?_ _ | refine blk_drew ?_ | refine blk_alloc ?_ _)); exact BK138.out⟩, ⟨by repeat (first | (with_reducible first | exact HB.out | apply below_alloc | apply pw_below_drewN | apply below_drew1 | refine below_set ?_ GE138.out) | exact HB.out | exact below_undrew HB.out)⟩⟩
  case round =>
    clear H'
    try clear c1
    try clear p2
    obtain ⟨x6_1, rfl, HA, HK1, BK138, HB⟩ := hrel
    cases gk with
    | zero => exact absurd HA.out (by simp [barbicanref02_Find.l0])
    | succ k1 =>
      have H := HA.out
      clear HA
      simp only [barbicanref02_Find.l0] at H
      by_cases c4 : x6_1 < (l0.length : Int)
      · rw [if_pos c4] at H
        have c4b0 : decide (x6_1 < (l0.length : Int)) = true := decide_eq_true c4
        clear c4
        by_cases c5 : 0 ≤ x6_1
        · rw [if_pos c5] at H
          have c5b0 : decide (0 ≤ x6_1) = true := decide_eq_true c5
          clear c5
          by_cases c6 : (((rd_T37 l0 x6_1).f0) == a1_0 && (((rd_T37 l0 x6_1).f1) == a1_1)) = true
          · rw [if_pos c6] at H
            have c6b0 : (((rd_T37 l0 x6_1).f0) == a1_0 && (((rd_T37 l0 x6_1).f1) == a1_1)) = true := c6
            (try (have c6b1 : decide (((rd_T37 l0 x6_1).f0) = a1_0 && (((rd_T37 l0 x6_1).f1) == a1_1)) = true := by simpa using c6))
            (try (have c6b2 : (((rd_T37 l0 x6_1).f0) == a1_0 && (((rd_T37 l0 x6_1).f1) == a1_1)) = true := by simpa using c6))
            clear c6
            simp only [Option.some.injEq, Prod.mk.injEq] at H
            obtain ⟨rfl, rfl⟩ := H
            have p139 : 0 ≤ (x6_1 : Int) := of_decide_eq_true (by first | (with_reducible assumption) | assumption)
            have q139 : x6_1 < (l0.length : Int) := of_decide_eq_true (by first | (with_reducible assumption) | assumption)
            obtain ⟨ad139, e139, hx139_0, hx139_1⟩ := at_T37 HR0.out x6_1 p139 q139
            cases e139
            replace hx139_0 := (HB.out.cell (World.block_lt_of_cell? w _ hx139_0)).trans hx139_0
            replace hx139_1 := (HB.out.cell (World.block_lt_of_cell? w _ hx139_1)).trans hx139_1
            replace p139 := eq_true p139
            replace q139 := eq_true q139
            have hcz7_0 : wr.cell? ⟨gb138, 0, none⟩ = some (.int .i64 a1_0) := (blk_cell BK138.out 0).trans rfl
            have hcz7_1 : wr.cell? ⟨gb138, 1, none⟩ = some (.int .u32 a1_1) := (blk_cell BK138.out 1).trans rfl
            have hfz7_0 := blk_frozen BK138.out 0
            have hfz7_1 := blk_frozen BK138.out 1
            go_wp2
            repeat (go_quiet (fail); try go_wp2)
            go_ret2
            exact ⟨by first | rfl | (simp [errW_none, errW_some] <;> rfl) | (simp [*, errW_none, errW_some] <;> rfl), by repeat (first | (with_reducible first | exact HB.out | apply below_alloc | apply pw_below_drewN | apply below_drew1 | refine below_set ?_ GE138.out) | exact HB.out | exact below_undrew HB.out)⟩
          · rw [if_neg c6] at H
            have c6b0 : (((rd_T37 l0 x6_1).f0) == a1_0 && (((rd_T37 l0 x6_1).f1) == a1_1)) = false := by simpa using c6
            (try (have c6b1 : decide (((rd_T37 l0 x6_1).f0) = a1_0 && (((rd_T37 l0 x6_1).f1) == a1_1)) = false := by simpa using c6))
            (try (have c6b2 : (((rd_T37 l0 x6_1).f0) == a1_0 && (((rd_T37 l0 x6_1).f1) == a1_1)) = false := by simpa using c6))
            (try (have c6b3 : ¬ (((rd_T37 l0 x6_1).f0) = a1_0 && (((rd_T37 l0 x6_1).f1) == a1_1)) := by simpa using c6))
            clear c6
            have H' := Aside0.mk H
            clear H
            have p139 : 0 ≤ (x6_1 : Int) := of_decide_eq_true (by first | (with_reducible assumption) | assumption)
            have q139 : x6_1 < (l0.length : Int) := of_decide_eq_true (by first | (with_reducible assumption) | assumption)
            obtain ⟨ad139, e139, hx139_0, hx139_1⟩ := at_T37 HR0.out x6_1 p139 q139
            cases e139
            replace hx139_0 := (HB.out.cell (World.block_lt_of_cell? w _ hx139_0)).trans hx139_0
            replace hx139_1 := (HB.out.cell (World.block_lt_of_cell? w _ hx139_1)).trans hx139_1
            replace p139 := eq_true p139
            replace q139 := eq_true q139
            have hcz8_0 : wr.cell? ⟨gb138, 0, none⟩ = some (.int .i64 a1_0) := (blk_cell BK138.out 0).trans rfl
            have hcz8_1 : wr.cell? ⟨gb138, 1, none⟩ = some (.int .u32 a1_1) := (blk_cell BK138.out 1).trans rfl
            have hfz8_0 := blk_frozen BK138.out 0
            have hfz8_1 := blk_frozen BK138.out 1
            go_wp2
            repeat (go_quiet (fail); try go_wp2)
            go_roundg k1
            case measure => have := HK1.out; omega
            case rel => exact ⟨(wrap64 (x6_1 + 1)), (by first | rfl | (simp; done) | (simp [*]; done)), H', ⟨by have := HK1.out; omega⟩, ⟨by (with_reducible repeat (first | refine blk_drewN ?_ _ | refine blk_drew ?_ | refine blk_alloc ?_ _)); exact BK138.out⟩, ⟨by repeat (first | (with_reducible first | exact HB.out | apply below_alloc | apply pw_below_drewN | apply below_drew1 | refine below_set ?_ GE138.out) | exact HB.out | exact below_undrew HB.out)⟩⟩
        · rw [if_neg c5] at H
          exact absurd H (by simp)
      · rw [if_neg c4] at H
        have c4b0 : decide (x6_1 < (l0.length : Int)) = false := decide_eq_false c4
        clear c4
        simp only [Option.some.injEq, Prod.mk.injEq] at H
        obtain ⟨rfl, rfl⟩ := H
        go_wp2
        repeat (go_quiet (fail); try go_wp2)
        go_ret2
        exact ⟨by first | rfl | (simp [errW_none, errW_some] <;> rfl) | (simp [*, errW_none, errW_some] <;> rfl), by repeat (first | (with_reducible first | exact HB.out | apply below_alloc | apply pw_below_drewN | apply below_drew1 | refine below_set ?_ GE138.out) | exact HB.out | exact below_undrew HB.out)⟩

/-! ### lattice_Lattice_Label: function 16 (by hand) -/
/- behind lattice_New.f, lattice_Lattice_Dominates.f -/
def lattice_Lattice_Label.f (l0 : List S37) (i : Int) : Option (Int × Int × Option Int) := if 0 ≤ i ∧ i < l0.length then some ((rd_T37 l0 i).f0, (rd_T37 l0 i).f1, none) else some (0, 0, some 1)
theorem lat_is (A : Option Addr) (xs : List S37) (i : Int) (W : World) (h : LatC W A xs) : Calls Tryz.prog 30 #[.pointer A, .int .i64 i] W fun e w' => e = .returned (.bool (decide (0 ≤ i ∧ i < (xs.length : Int)))) ∧ w' = W := by
  rcases h with ⟨rfl, rfl⟩ | ⟨g, A1, c, m, n, rfl, hne, h16, hwf, hc0, _⟩
  · exact lat_is_none i W
  · exact lat_is_some g A1 _ c i W hc0
theorem latC_old {W W1 : World} {A : Option Addr} {xs : List S37} (h : LatC W A xs) (hb : Below W.heap.size W W1) : LatC W1 A xs := by
  rcases h with ⟨rfl, rfl⟩ | ⟨g, A1, c, m, n, rfl, hne, h16, hwf, hc0, hc1, hlc, hC, es, clock, hm, r⟩
  · exact .inl ⟨rfl, rfl⟩
  · exact .inr ⟨g, A1, c, m, n, rfl, hne, h16, hwf, (hb.cell (World.block_lt_of_cell? W _ hc0)).trans hc0, (hb.cell (World.block_lt_of_cell? W _ hc1)).trans hc1, hlc, Kd.C_below hC hb, es, clock, (hb.block m (blk_lt hm)).trans hm, r⟩
set_option maxHeartbeats 8000000 in
set_option maxRecDepth 100000 in
theorem lattice_Lattice_Label.calls (A0 : Option Addr) (l0 : List S37) (a1 : Int) (r1 : Int) (r2 : Int) (r3 : Option Int) (w : World) (hr0 : Kd.OC w A0 l0) (hc0 : True) (h : lattice_Lattice_Label.f l0 a1 = some (r1, r2, r3)) :
    Calls Tryz.prog 16 #[.pointer A0, .int .i64 a1] w fun e w' => e = .returned (.tuple #[.agg #[.int .i64 r1, .int .u32 r2], errW r3]) ∧ Below w.heap.size w w' := by
  have hu := Tryz.underlying66
  have hul := Tryz.underlying37
  unfold lattice_Lattice_Label.f at h
  clear hc0
  have hO : LatC w A0 l0 := hr0
  have HO := Aside0.mk hO
  have HI := Aside0.mk (fun W (hb : Below w.heap.size w W) => lat_is A0 l0 a1 W (latC_old hO hb))
  by_cases hi : 0 ≤ a1 ∧ a1 < (l0.length : Int)
  · rw [if_pos hi] at h
    injection h with h
    injection h with h1 h2
    injection h2 with h2 h3
    subst h1 h2 h3
    rw [errW_none]
    have hd : decide (0 ≤ a1 ∧ a1 < (l0.length : Int)) = true := decide_eq_true hi
    rcases hO with ⟨rfl, rfl⟩ | ⟨g, A1, c, m, n, rfl, hne, h16, hwf, hc0, hc1, hlc, hC, hown⟩
    · exact absurd hi (by first | (simp; done) | (simp; omega))
    obtain ⟨ad, rfl, hx0, hx1⟩ := at_T37 hC a1 hi.1 hi.2
    have p1 := eq_true hi.1
    have p2 := eq_true hi.2
    clear hr0 hwf hne h16 hc1 hlc hC hown hi
    rw [hd] at HI
    go_enter Tryz.func16, Tryz.ntmps16
    go_wp2_with (first | ((with_reducible refine gate_dst (N := 4) rfl ?_); refine box_event ?hg (N := 4) ?hd (cs := #[.int .i64 0, .int .u32 0]) (t := 37) ?hr ?_; (case hd => rfl); (case hg => rfl); (case hr => first | (go_simp; done) | (go_simp; rfl)); intro gb hg w1 hbox hb; have GE_ := Aside0.mk ((by rw [hg]; exact Nat.le_refl _) : w.heap.size ≤ gb); have HB := Aside0.mk hb; have BK := Aside0.mk hbox; replace hc0 := (hb.cell (World.block_lt_of_cell? w _ hc0)).trans hc0; replace hx0 := (hb.cell (World.block_lt_of_cell? w _ hx0)).trans hx0; replace hx1 := (hb.cell (World.block_lt_of_cell? w _ hx1)).trans hx1; clear hb hbox hg; have z0 : w1.cell? ⟨gb, 0, none⟩ = some (.int .i64 0) := (blk_cell BK.out 0).trans rfl; have z1 : w1.cell? ⟨gb, 1, none⟩ = some (.int .u32 0) := (blk_cell BK.out 1).trans rfl; have y0 := blk_frozen BK.out 0; have y1 := blk_frozen BK.out 1) | (go_at_call 30; refine (HI.out _ HB.out).mono ?_; rintro e w' ⟨rfl, hw⟩; rw [hw]; clear hw))
    refine bodyPost_ret (results_ct rfl _ _ gb 37 #[.int .i64 (rd_T37 l0 a1).f0, .int .u32 (rd_T37 l0 a1).f1] (0, 0) _ rfl (by refine blk_put (cs := #[.int .i64 (rd_T37 l0 a1).f0, .int .u32 0]) ?_ 1 _ rfl; refine blk_put (cs := #[.int .i64 0, .int .u32 0]) ?_ 0 _ rfl; exact BK.out) hul rfl (by kernel_rfl)) rfl ?_
    exact ⟨rfl, below_set (below_set HB.out GE_.out) GE_.out⟩
  · rw [if_neg hi] at h
    injection h with h
    injection h with h1 h2
    injection h2 with h2 h3
    subst h1 h2 h3
    rw [errW_some]
    have hd : decide (0 ≤ a1 ∧ a1 < (l0.length : Int)) = false := decide_eq_false hi
    rw [hd] at HI
    clear hr0 hO hi
    go_enter Tryz.func16, Tryz.ntmps16
    go_wp2_with (first | ((with_reducible refine gate_dst (N := 4) rfl ?_); refine box_event ?hg (N := 4) ?hd (cs := #[.int .i64 0, .int .u32 0]) (t := 37) ?hr ?_; (case hd => rfl); (case hg => rfl); (case hr => first | (go_simp; done) | (go_simp; rfl)); intro gb hg w1 hbox hb; have GE_ := Aside0.mk ((by rw [hg]; exact Nat.le_refl _) : w.heap.size ≤ gb); have HB := Aside0.mk hb; have BK := Aside0.mk hbox; clear hb hbox hg; have z0 : w1.cell? ⟨gb, 0, none⟩ = some (.int .i64 0) := (blk_cell BK.out 0).trans rfl; have z1 : w1.cell? ⟨gb, 1, none⟩ = some (.int .u32 0) := (blk_cell BK.out 1).trans rfl; have y0 := blk_frozen BK.out 0; have y1 := blk_frozen BK.out 1) | (go_at_call 30; refine (HI.out _ HB.out).mono ?_; rintro e w' ⟨rfl, hw⟩; rw [hw]; clear hw))
    refine bodyPost_ret (results_ct rfl _ _ gb 37 #[.int .i64 0, .int .u32 0] (0, 0) _ rfl (by refine blk_put (cs := #[.int .i64 0, .int .u32 0]) ?_ 1 _ rfl; refine blk_put (cs := #[.int .i64 0, .int .u32 0]) ?_ 0 _ rfl; exact BK.out) hul rfl (by kernel_rfl)) rfl ?_
    exact ⟨rfl, below_set (below_set HB.out GE_.out) GE_.out⟩

/-! ### lattice_Lattice_Len: function 17 (by hand) -/
/- behind lattice_Lattice_Below.f, lattice_New.f -/
def lattice_Lattice_Len.f (l0 : List S37) : Option Int := some l0.length
theorem lattice_Lattice_Len.calls (A0 : Option Addr) (l0 : List S37) (r : Int) (w : World) (hr0 : Kd.OC w A0 l0) (hc0 : True) (h : lattice_Lattice_Len.f l0 = some r) :
    Calls Tryz.prog 17 #[.pointer A0] w fun e w' => e = .returned (.int .i64 r) ∧ Below w.heap.size w w' := by
  obtain rfl := Option.some.inj h
  refine (lat_len A0 l0 w hr0).mono ?_
  rintro e w' ⟨rfl, rfl⟩
  exact ⟨rfl, Below.refl _ _⟩

end Go.Proofs.YtgcaalgaellciaaGreatDoor.XLam
