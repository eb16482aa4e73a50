/- Printed by this session's program (wip/print) out of the translation, for the statement named in the file's name. -/
import Derived.Test.YtnflmaonilabgaaDoorXTcsx0
import Derived.Test.YtnflmaonilabgaaDoorXTcsx4
namespace Go.Proofs.YtnflmaonilabgaaDoor.XTcs
open Go.RowKit Go.Proofs.YtnflmaonilabgaaDoorW.PrintWords Go.Proofs.YtnflmaonilabgaaDoorW.PrintLast Go.Proofs.YtnflmaonilabgaaDoorW.PrintMore Go.Proofs.YtnflmaonilabgaaDoor.Str
attribute [local go_sem] str_gtr str_leq str_geq max2_int min2_int max_two min_two max_three min_three max_four min_four   -- for this text's walks alone
set_option linter.unusedVariables false
set_option linter.unusedSimpArgs false
set_option linter.unnecessarySimpa false

/-! ### table_Column: function 16 (by hand) -/
theorem Column1_at (s : ByteArray) (b : Nat) (w : World) (hc : w.cell? ⟨b, 0, none⟩ = some (.string s)) : PredBelow Tryd.prog 39 #[.pointer (some ⟨b, 0, none⟩)] (fun o => .agg (colCells o).toArray) (sameName s) w := by
  intro W o hW
  have hu := Tryd.underlying55
  have hb := World.block_lt_of_cell? w _ hc
  have h1 : W.cell? ⟨b, 0, none⟩ = some (.string s) := (hW.cell (p := ⟨b, 0, none⟩) hb).trans hc
  have hz : b < W.heap.size := Nat.lt_of_lt_of_le hb hW.size
  have hne : b ≠ W.heap.size := Nat.ne_of_lt hz
  have HW := Aside0.mk hW.size
  have HB := Aside0.mk hW
  clear hc hW
  show Calls Tryd.prog 39 #[.agg #[.string o.f0, .int .i64 o.f1, .bool o.f2, .bool o.f3], .pointer (some ⟨b, 0, none⟩)] W _
  unfold sameName
  go_enter Tryd.func39, Tryd.ntmps39
  go_wp2
  go_ret
  exact ⟨rfl, HB.out.alloc HW.out _⟩
theorem index_none (A : Option Addr) (c : Nat) (lb : Array Value) (g : Nat) (w : World) :
    Calls Tryd.prog 38 #[.slice A 0 c, .func (.func g) #[] lb] w fun e w' => e = .returned (.int .i64 (-1)) ∧ Below w.heap.size w w' := by
  go_enter Tryd.func38, Tryd.ntmps38
  go_wp2
  refine wp_loop_rounds 1 ?_
  rw [rounds_succ]
  go_wp2
  go_ret
  exact ⟨rfl, Below.refl _ _⟩
/-- The place of the first column of a name, or -1. -/
def placeOf (s : ByteArray) (l : List S55) : Int := Lib.idxBy (fun _ y => sameName s y) l default
theorem index_any (A : Option Addr) (c : Nat) (l : List S55) (s : ByteArray) (b : Nat) (w : World) (hr : Kd.C k55 w A l.length l) (hc : l.length ≤ c) (hm : l.length ≤ 9223372036854775807) (hs : w.cell? ⟨b, 0, none⟩ = some (.string s)) :
    Calls Tryd.prog 38 #[.slice A l.length c, .func (.func 39) #[] #[.pointer (some ⟨b, 0, none⟩)]] w fun e w' => e = .returned (.int .i64 (placeOf s l)) ∧ Below w.heap.size w w' := by
  by_cases h0 : l = []
  · subst h0
    exact index_none A c _ _ w
  · obtain ⟨bk, o, rfl, hlt, hcell⟩ := cols_read hr h0
    have h := AnyQ.slices_IndexFunc Str.colSlLaysH06 4 Tryd.isAgg55 Tryd.sizeOf55 colCells (fun _ => rfl) (sameName s) 39 #[.pointer (some ⟨b, 0, none⟩)] (enters_of Tryd.func39 (by kernel_rfl) rfl) bk o l.length c l w (Column1_at s b w hs) (Nat.le_refl _) hm hlt hcell
    rwa [List.take_length] at h
def table_Column.f (a0_0 : ByteArray) (l0_1 : List S55) (a1 : ByteArray) : Option (Int × Option Int) :=
  if l0_1.length ≤ 9223372036854775807 then (if placeOf a1 l0_1 ≥ 0 then some (placeOf a1 l0_1, none) else some (0, some 30)) else none
set_option maxHeartbeats 8000000 in
set_option maxRecDepth 100000 in
theorem table_Column.calls (a0_0 : ByteArray) (A0_1 : Option Addr) (c0_1 : Nat) (l0_1 : List S55) (a1 : ByteArray) (r1 : Int) (r2 : Option Int) (w : World) (hr0_1 : Kd.C k55 w A0_1 l0_1.length l0_1) (hc0_1 : l0_1.length ≤ c0_1) (h : table_Column.f a0_0 l0_1 a1 = some (r1, r2)) :
    Calls Tryd.prog 16 #[.agg #[.string a0_0, .slice A0_1 l0_1.length c0_1], .string a1] w fun e w' => e = .returned (.tuple #[.int .i64 r1, errW r2]) ∧ Below w.heap.size w w' := by
  have hu := Tryd.underlying55
  have hu2 := Tryd.underlying24
  unfold table_Column.f at h
  by_cases hm : l0_1.length ≤ 9223372036854775807
  case neg => rw [if_neg hm] at h; cases h
  rw [if_pos hm] at h
  have HR := Aside0.mk hr0_1
  have HC := Aside0.mk hc0_1
  have HM := Aside0.mk hm
  clear hr0_1 hc0_1 hm
  have HBR := Aside0.mk (Below.refl w.heap.size w)
  obtain ⟨q, hq⟩ : ∃ q, q = placeOf a1 l0_1 := ⟨_, rfl⟩
  rw [← hq] at h
  have HQ := Aside0.mk hq
  clear hq
  by_cases hp : q ≥ 0
  · rw [if_pos hp] at h
    obtain ⟨rfl, rfl⟩ : q = r1 ∧ none = r2 := by injection h with h; injection h with h1 h2; exact ⟨h1, h2⟩
    clear h
    rw [errW_none]
    go_enter Tryd.func16, Tryd.ntmps16
    go_wp2_with (first | ((with_reducible refine gate_dst (N := 2) rfl ?_); refine box_event ?hg (N := 2) ?hd (cs := #[.string a0_0, .slice A0_1 l0_1.length c0_1]) (t := 24) ?hr ?_; (case hd => rfl); (case hg => rfl); (case hr => first | (go_simp; done) | (go_simp; rfl)); intro gb hg w1 hbox hb; have HB := Aside0.mk (below_step HBR.out hb); have BK := Aside0.mk hbox; clear hb hbox hg; have zw1_1 : w1.cell? ⟨gb, 1, none⟩ = some (.slice A0_1 l0_1.length c0_1) := (blk_cell BK.out 1).trans rfl; have yw1_1 := blk_frozen BK.out 1) | ((with_reducible refine gate_dst (N := 3) rfl ?_); refine box_event ?hg (N := 3) ?hd (cs := #[.string a1]) (t := 9) ?hr ?_; (case hd => rfl); (case hg => rfl); (case hr => first | (go_simp; done) | (go_simp; rfl)); intro gc hgc w2 hbox hb; have n0_ := Aside0.mk (blk_below (g := gb) (o := .cells #[.string a0_0, .slice A0_1 l0_1.length c0_1] 24 (0, 0)) (by (with_reducible repeat (first | refine blk_drewN ?_ _ | refine blk_drew ?_ | refine blk_alloc ?_ _)); exact BK.out) hb); have n1_ := Aside0.mk (below_step (by repeat (first | (with_reducible first | exact HB.out | apply below_alloc | apply pw_below_drewN | apply below_drew1) | exact HB.out | exact below_undrew HB.out)) hb); have BC := Aside0.mk hbox; clear BK HB hb hbox hgc; have BK := n0_; have HB := n1_; clear n0_ n1_; have zw2_1 : w2.cell? ⟨gb, 1, none⟩ = some (.slice A0_1 l0_1.length c0_1) := (blk_cell BK.out 1).trans rfl; have yw2_1 := blk_frozen BK.out 1; have zw2_0 : w2.cell? ⟨gc, 0, none⟩ = some (.string a1) := (blk_cell BC.out 0).trans rfl; have yw2_0 := blk_frozen BC.out 0) | (go_at_call 38; refine (index_any A0_1 c0_1 l0_1 a1 gc _ (Kd.C_below HR.out (by repeat (first | (with_reducible first | exact HB.out | apply below_alloc | apply pw_below_drewN | apply below_drew1) | exact HB.out | exact below_undrew HB.out))) HC.out HM.out ((blk_cell (by (with_reducible repeat (first | refine blk_drewN ?_ _ | refine blk_drew ?_ | refine blk_alloc ?_ _)); exact BC.out) 0).trans rfl)).mono ?_; rw [← HQ.out]; rintro e w3 ⟨rfl, hb⟩; have n1_ := Aside0.mk (below_step (by repeat (first | (with_reducible first | exact HB.out | apply below_alloc | apply pw_below_drewN | apply below_drew1) | exact HB.out | exact below_undrew HB.out)) hb); clear HB hb; have HB := n1_; clear n1_))
    go_ret2
    exact ⟨rfl, by repeat (first | (with_reducible first | exact HB.out | apply below_alloc | apply pw_below_drewN | apply below_drew1) | exact HB.out | exact below_undrew HB.out)⟩
  · rw [if_neg hp] at h
    obtain ⟨rfl, rfl⟩ : 0 = r1 ∧ some 30 = r2 := by injection h with h; injection h with h1 h2; exact ⟨h1, h2⟩
    clear h
    have hp2 : q < 0 := by omega
    clear hp
    rw [errW_some]
    go_enter Tryd.func16, Tryd.ntmps16
    go_wp2_with (first | ((with_reducible refine gate_dst (N := 2) rfl ?_); refine box_event ?hg (N := 2) ?hd (cs := #[.string a0_0, .slice A0_1 l0_1.length c0_1]) (t := 24) ?hr ?_; (case hd => rfl); (case hg => rfl); (case hr => first | (go_simp; done) | (go_simp; rfl)); intro gb hg w1 hbox hb; have HB := Aside0.mk (below_step HBR.out hb); have BK := Aside0.mk hbox; clear hb hbox hg; have zw1_1 : w1.cell? ⟨gb, 1, none⟩ = some (.slice A0_1 l0_1.length c0_1) := (blk_cell BK.out 1).trans rfl; have yw1_1 := blk_frozen BK.out 1) | ((with_reducible refine gate_dst (N := 3) rfl ?_); refine box_event ?hg (N := 3) ?hd (cs := #[.string a1]) (t := 9) ?hr ?_; (case hd => rfl); (case hg => rfl); (case hr => first | (go_simp; done) | (go_simp; rfl)); intro gc hgc w2 hbox hb; have n0_ := Aside0.mk (blk_below (g := gb) (o := .cells #[.string a0_0, .slice A0_1 l0_1.length c0_1] 24 (0, 0)) (by (with_reducible repeat (first | refine blk_drewN ?_ _ | refine blk_drew ?_ | refine blk_alloc ?_ _)); exact BK.out) hb); have n1_ := Aside0.mk (below_step (by repeat (first | (with_reducible first | exact HB.out | apply below_alloc | apply pw_below_drewN | apply below_drew1) | exact HB.out | exact below_undrew HB.out)) hb); have BC := Aside0.mk hbox; clear BK HB hb hbox hgc; have BK := n0_; have HB := n1_; clear n0_ n1_; have zw2_1 : w2.cell? ⟨gb, 1, none⟩ = some (.slice A0_1 l0_1.length c0_1) := (blk_cell BK.out 1).trans rfl; have yw2_1 := blk_frozen BK.out 1; have zw2_0 : w2.cell? ⟨gc, 0, none⟩ = some (.string a1) := (blk_cell BC.out 0).trans rfl; have yw2_0 := blk_frozen BC.out 0) | (go_at_call 38; refine (index_any A0_1 c0_1 l0_1 a1 gc _ (Kd.C_below HR.out (by repeat (first | (with_reducible first | exact HB.out | apply below_alloc | apply pw_below_drewN | apply below_drew1) | exact HB.out | exact below_undrew HB.out))) HC.out HM.out ((blk_cell (by (with_reducible repeat (first | refine blk_drewN ?_ _ | refine blk_drew ?_ | refine blk_alloc ?_ _)); exact BC.out) 0).trans rfl)).mono ?_; rw [← HQ.out]; rintro e w3 ⟨rfl, hb⟩; have n1_ := Aside0.mk (below_step (by repeat (first | (with_reducible first | exact HB.out | apply below_alloc | apply pw_below_drewN | apply below_drew1) | exact HB.out | exact below_undrew HB.out)) hb); clear HB hb; have HB := n1_; clear n1_))
    go_ret2
    exact ⟨rfl, by repeat (first | (with_reducible first | exact HB.out | apply below_alloc | apply pw_below_drewN | apply below_drew1) | exact HB.out | exact below_undrew HB.out)⟩

/-! ### barbicanref15_Column: function 17 -/
def barbicanref15_Column.l0 : Nat → ByteArray → Int → ByteArray → List (S55) → Option (Int × Int)
  | 0, _, _, _, _ => none
  | k + 1, x1, x6, x211000, x211001 => if x6 < (x211001.length : Int) then (if 0 ≤ x6 then (if ((rd_T55 x211001 x6).f0).toList = x1.toList then (some (x6, 0)) else (barbicanref15_Column.l0 k x1 (wrap64 (x6 + 1)) x211000 x211001)) else (none)) else (some (0, 30))
def barbicanref15_Column.f (k : Nat) (a0_0 : ByteArray) (l0_1 : List (S55)) (a1 : ByteArray) : Option (Int × Int) := barbicanref15_Column.l0 k a1 0 a0_0 l0_1
theorem barbicanref15_Column.mono_l : ∀ k, (∀ y0 y1 y2 y3, LeO (barbicanref15_Column.l0 k y0 y1 y2 y3) (barbicanref15_Column.l0 (k + 1) y0 y1 y2 y3))
  | 0 => fun _ _ _ _ r h => by simp [barbicanref15_Column.l0] at h
  | k + 1 => by
    have ih0 := barbicanref15_Column.mono_l k
    · intro y0 y1 y2 y3
      unfold barbicanref15_Column.l0
      repeat' first
      | (with_reducible exact ih0 _ _ _ _)
      | (with_reducible exact LeO.refl _)
      | (with_reducible exact LeO.none _)
      | (with_reducible refine LeO.ite ?_ ?_)
      | (with_reducible refine LeO.bind ?_ (fun _ => ?_))
      | exact ih0 _ _ _ _
      | exact LeO.none _
      | refine LeO.ite ?_ ?_
      | refine LeO.bind ?_ (fun _ => ?_)
theorem barbicanref15_Column.mono : ∀ a0 a1 a2 k, LeO (barbicanref15_Column.f k a0 a1 a2) (barbicanref15_Column.f (k + 1) a0 a1 a2) := by
  intro a0 a1 a2 k
  have ih0 := barbicanref15_Column.mono_l k
  unfold barbicanref15_Column.f
  repeat' first
      | (with_reducible exact ih0 _ _ _ _)
      | (with_reducible exact LeO.refl _)
      | (with_reducible exact LeO.none _)
      | (with_reducible refine LeO.ite ?_ ?_)
      | (with_reducible refine LeO.bind ?_ (fun _ => ?_))
      | exact ih0 _ _ _ _
      | exact LeO.none _
      | refine LeO.ite ?_ ?_
      | refine LeO.bind ?_ (fun _ => ?_)
set_option maxHeartbeats 8000000 in
set_option maxRecDepth 100000 in
theorem barbicanref15_Column.calls (k : Nat) (a0_0 : ByteArray) (A0_1 : Option Addr) (c0_1 : Nat) (l0_1 : List (S55)) (a1 : ByteArray) (r1 : Int) (r2 : Int) (w : World) (hr0_1 : Kd.C k55 w A0_1 l0_1.length l0_1) (hc0_1 : l0_1.length ≤ c0_1) (h : barbicanref15_Column.f k a0_0 l0_1 a1 = some (r1, r2)) :
    Calls Tryd.prog 17 #[.agg #[.string a0_0, .slice A0_1 l0_1.length c0_1], .string a1] w fun e w' => e = .returned (.tuple #[.int .i64 r1, .int .i64 r2]) ∧ Below w.heap.size w w' := by
  have hu24 := Tryd.underlying24
  have HR0_1 := Aside0.mk hr0_1
  have HC0_1 := Aside0.mk hc0_1
  clear hr0_1 hc0_1
  have HB := Aside0.mk (Below.refl w.heap.size w)
  have H : (barbicanref15_Column.l0 k a1 0 a0_0 l0_1) = some (r1, r2) := h
  clear h
  have H' := Aside0.mk H
  clear H
  go_enter Tryd.func17, Tryd.ntmps17
  go_wp2_with (first | ((with_reducible refine gate_dst (N := 2) rfl ?_); refine box_event ?hg (N := 2) ?hd (cs := #[.string a0_0, .slice A0_1 l0_1.length c0_1]) (t := 24) ?hr ?_; (case hd => rfl); (case hg => rfl); (case hr => first | (go_simp; done) | (go_simp; rfl)); intro gb210 hg w3 hbox hb; have n0_ := Aside0.mk (below_step (by repeat (first | (with_reducible first | exact HB.out | apply below_alloc | apply pw_below_drewN | apply below_drew1) | exact HB.out | exact below_undrew HB.out)) hb); have n1_ := Aside0.mk (hbox); have n2_ := Aside0.mk ((by rw [hg]; exact (below_size (by repeat (first | (with_reducible first | exact HB.out | apply below_alloc | apply pw_below_drewN | apply below_drew1) | exact HB.out | exact below_undrew HB.out))) : w.heap.size ≤ gb210)); have n3_ := Aside0.mk ((by rw [hg]; exact (below_size (by repeat (first | (with_reducible first | exact HB.out | apply below_alloc | apply pw_below_drewN | apply below_drew1) | exact HB.out | exact below_undrew HB.out))) : w.heap.size ≤ gb210)); clear HB; have HB := n0_; have BK210 := n1_; have GW210 := n2_; have GE210 := n3_; clear n0_ n1_ n2_ n3_; clear hb hbox hg))
  go_loopg [6] k (fun kq v6 w' => ∃ (x6_1 : Int), v6 = .int .i64 x6_1 ∧ Aside0 (barbicanref15_Column.l0 kq a1 x6_1 a0_0 l0_1 = some (r1, r2)) ∧ Aside0 (kq ≤ k) ∧ Aside0 (w'.heap[gb210]? = some (.cells #[.string a0_0, (.slice A0_1 l0_1.length c0_1)] 24 (0, 0))) ∧ Aside0 (Below w.heap.size w w'))
  case atStart => exact ⟨(0), (by first | rfl | (simp; done) | (simp [*]; done)), H', ⟨Nat.le_refl _⟩, ⟨by (with_reducible repeat (first | refine blk_drewN ?_ _ | refine blk_drew ?_ | refine blk_alloc ?_ _)); exact BK210.out⟩, ⟨by repeat (first | (with_reducible first | exact HB.out | apply below_alloc | apply pw_below_drewN | apply below_drew1 | refine below_set ?_ GE210.out) | exact HB.out | exact below_undrew HB.out)⟩⟩
  case round =>
    clear H'
    try clear c1
    try clear p2
    obtain ⟨x6_1, rfl, HA, HK1, BK210, HB⟩ := hrel
    cases gk with
    | zero => exact absurd HA.out (by simp [barbicanref15_Column.l0])
    | succ k1 =>
      have H := HA.out
      clear HA
      simp only [barbicanref15_Column.l0] at H
      by_cases c4 : x6_1 < (l0_1.length : Int)
      · rw [if_pos c4] at H
        have c4b0 : decide (x6_1 < (l0_1.length : Int)) = true := decide_eq_true c4
        clear c4
        by_cases c5 : 0 ≤ x6_1
        · rw [if_pos c5] at H
          have c5b0 : decide (0 ≤ x6_1) = true := decide_eq_true c5
          clear c5
          by_cases c6 : ((rd_T55 l0_1 x6_1).f0).toList = a1.toList
          · rw [if_pos c6] at H
            have c6b0 : (((rd_T55 l0_1 x6_1).f0).toList == a1.toList) = true := beq_iff_eq.mpr c6
            have c6b1 : (((rd_T55 l0_1 x6_1).f0).toList != a1.toList) = false := bne_eq_false_iff_eq.mpr c6
            clear c6
            simp only [Option.some.injEq, Prod.mk.injEq] at H
            obtain ⟨rfl, rfl⟩ := H
            have hcz7_0 : wr.cell? ⟨gb210, 0, none⟩ = some (.string a0_0) := (blk_cell BK210.out 0).trans rfl
            have hcz7_1 : wr.cell? ⟨gb210, 1, none⟩ = some (.slice A0_1 l0_1.length c0_1) := (blk_cell BK210.out 1).trans rfl
            have hfz7_0 := blk_frozen BK210.out 0
            have hfz7_1 := blk_frozen BK210.out 1
            have p211 : 0 ≤ (x6_1 : Int) := of_decide_eq_true (by first | (with_reducible assumption) | assumption)
            have q211 : x6_1 < (l0_1.length : Int) := of_decide_eq_true (by first | (with_reducible assumption) | assumption)
            obtain ⟨ad211, e211, hx211_0, hx211_1, hx211_2, hx211_3⟩ := at_T55 HR0_1.out x6_1 p211 q211
            cases e211
            replace hx211_0 := (HB.out.cell (World.block_lt_of_cell? w _ hx211_0)).trans hx211_0
            replace hx211_1 := (HB.out.cell (World.block_lt_of_cell? w _ hx211_1)).trans hx211_1
            replace hx211_2 := (HB.out.cell (World.block_lt_of_cell? w _ hx211_2)).trans hx211_2
            replace hx211_3 := (HB.out.cell (World.block_lt_of_cell? w _ hx211_3)).trans hx211_3
            replace p211 := eq_true p211
            replace q211 := eq_true q211
            go_wp2
            go_ret2
            exact ⟨by first | rfl | (simp [errW_none, errW_some] <;> rfl) | (simp [*, errW_none, errW_some] <;> rfl), by repeat (first | (with_reducible first | exact HB.out | apply below_alloc | apply pw_below_drewN | apply below_drew1 | refine below_set ?_ GE210.out) | exact HB.out | exact below_undrew HB.out)⟩
          · rw [if_neg c6] at H
            have c6b0 : (((rd_T55 l0_1 x6_1).f0).toList == a1.toList) = false := beq_eq_false_iff_ne.mpr c6
            have c6b1 : (((rd_T55 l0_1 x6_1).f0).toList != a1.toList) = true := bne_iff_ne.mpr c6
            have H' := Aside0.mk H
            clear H
            have hcz8_0 : wr.cell? ⟨gb210, 0, none⟩ = some (.string a0_0) := (blk_cell BK210.out 0).trans rfl
            have hcz8_1 : wr.cell? ⟨gb210, 1, none⟩ = some (.slice A0_1 l0_1.length c0_1) := (blk_cell BK210.out 1).trans rfl
            have hfz8_0 := blk_frozen BK210.out 0
            have hfz8_1 := blk_frozen BK210.out 1
            have p211 : 0 ≤ (x6_1 : Int) := of_decide_eq_true (by first | (with_reducible assumption) | assumption)
            have q211 : x6_1 < (l0_1.length : Int) := of_decide_eq_true (by first | (with_reducible assumption) | assumption)
            obtain ⟨ad211, e211, hx211_0, hx211_1, hx211_2, hx211_3⟩ := at_T55 HR0_1.out x6_1 p211 q211
            cases e211
            replace hx211_0 := (HB.out.cell (World.block_lt_of_cell? w _ hx211_0)).trans hx211_0
            replace hx211_1 := (HB.out.cell (World.block_lt_of_cell? w _ hx211_1)).trans hx211_1
            replace hx211_2 := (HB.out.cell (World.block_lt_of_cell? w _ hx211_2)).trans hx211_2
            replace hx211_3 := (HB.out.cell (World.block_lt_of_cell? w _ hx211_3)).trans hx211_3
            replace p211 := eq_true p211
            replace q211 := eq_true q211
            go_wp2
            go_roundg k1
            case measure => have := HK1.out; omega
            case rel => exact ⟨(wrap64 (x6_1 + 1)), (by first | rfl | (simp; done) | (simp [*]; done)), H', ⟨by have := HK1.out; omega⟩, ⟨by (with_reducible repeat (first | refine blk_drewN ?_ _ | refine blk_drew ?_ | refine blk_alloc ?_ _)); exact BK210.out⟩, ⟨by repeat (first | (with_reducible first | exact HB.out | apply below_alloc | apply pw_below_drewN | apply below_drew1 | refine below_set ?_ GE210.out) | exact HB.out | exact below_undrew HB.out)⟩⟩
        · rw [if_neg c5] at H
          exact absurd H (by simp)
      · rw [if_neg c4] at H
        have c4b0 : decide (x6_1 < (l0_1.length : Int)) = false := decide_eq_false c4
        clear c4
        simp only [Option.some.injEq, Prod.mk.injEq] at H
        obtain ⟨rfl, rfl⟩ := H
        have hcz9_0 : wr.cell? ⟨gb210, 0, none⟩ = some (.string a0_0) := (blk_cell BK210.out 0).trans rfl
        have hcz9_1 : wr.cell? ⟨gb210, 1, none⟩ = some (.slice A0_1 l0_1.length c0_1) := (blk_cell BK210.out 1).trans rfl
        have hfz9_0 := blk_frozen BK210.out 0
        have hfz9_1 := blk_frozen BK210.out 1
        go_wp2
        go_ret2
        exact ⟨by first | rfl | (simp [errW_none, errW_some] <;> rfl) | (simp [*, errW_none, errW_some] <;> rfl), by repeat (first | (with_reducible first | exact HB.out | apply below_alloc | apply pw_below_drewN | apply below_drew1 | refine below_set ?_ GE210.out) | exact HB.out | exact below_undrew HB.out)⟩

end Go.Proofs.YtnflmaonilabgaaDoor.XTcs
