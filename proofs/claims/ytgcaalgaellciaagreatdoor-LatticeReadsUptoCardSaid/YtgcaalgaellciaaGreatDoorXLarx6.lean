/- Printed by this session's program (wip/print) out of the translation, for the statement named in the file's name. -/
import Derived.Test.YtgcaalgaellciaaGreatDoorXLarx0
import Derived.Test.YtgcaalgaellciaaGreatDoorXLarx3
import Derived.Test.YtgcaalgaellciaaGreatDoorXLarx4
import Derived.Test.YtgcaalgaellciaaGreatDoorXLarx5
namespace Go.Proofs.YtgcaalgaellciaaGreatDoor.XLar
open Go.RowKit Go.Proofs.YtgcaalgaellciaaGreatDoorW.PrintWords Go.Proofs.YtgcaalgaellciaaGreatDoorW.PrintLast Go.Proofs.YtgcaalgaellciaaGreatDoorW.PrintMore Go.Proofs.YtgcaalgaellciaaGreatDoor.Both
attribute [local go_sem] str_gtr str_leq str_geq max2_int min2_int max_two min_two max_three min_three max_four min_four   -- for this text's walks alone
set_option linter.unusedVariables false
set_option linter.unusedSimpArgs false
set_option linter.unnecessarySimpa false

/-! ### lattice_Parse: function 5 (by hand) -/
/- behind lattice_New.f, label_Parse.f, stringslite_Index.f -/
/-- What label.Parse says of a part; of what is too long: nothing. -/
def latPf (t : ByteArray) : Int × Int × Option Int := (label_Parse.f t).getD (0, 0, none)
def latErr (t : ByteArray) : Bool := (latPf t).2.2.isSome
def latRead (a0 : ByteArray) : List S37 := (Rng.parts a0).map fun t => ⟨(latPf t).1, (latPf t).2.1⟩
def lattice_Parse.f (a0 : ByteArray) : Option (List S37 × Option Int) := if a0.size ≤ 1048576 then (if (Rng.parts a0).all (fun t => (label_Parse.f t).isSome) = true then (if (Rng.parts a0).any latErr = true then some ([], some 3) else lattice_New.f (latRead a0)) else none) else none
theorem lat_finds : Rng.Finds := fun s W hs => by
  refine (stringslite_Index.calls s ⟨#[32]⟩ (Lib.indexByte s.data.toList 32) W rfl).mono ?_
  rintro e w' ⟨rfl, n, rfl⟩
  exact ⟨rfl, n, rfl⟩
theorem lat_cells_len (pf : ByteArray → Int × Int × Option Int) : ∀ l : List ByteArray, (Rng.labCells pf l).length = l.length * 2
  | [] => rfl
  | x :: l => by
    have h := lat_cells_len pf l
    unfold Rng.labCells at h ⊢
    rw [List.flatMap_cons, List.length_append, h, List.length_cons]
    simp only [List.length_cons, List.length_nil]
    omega
theorem lat_cells_seg (pf : ByteArray → Int × Int × Option Int) : ∀ (l : List ByteArray) (j : Nat) (h : j < l.length), ((Rng.labCells pf l).drop (j * 2)).take 2 = [.int .i64 (pf l[j]).1, .int .u32 (pf l[j]).2.1]
  | [], j, h => by simp at h
  | x :: l, 0, h => by
    unfold Rng.labCells
    rw [List.flatMap_cons]
    rfl
  | x :: l, j + 1, h => by
    have h2 := lat_cells_seg pf l j (by simpa using h)
    unfold Rng.labCells at h2 ⊢
    rw [List.flatMap_cons, show (j + 1) * 2 = 2 + j * 2 by omega, ← List.drop_drop]
    exact h2
theorem lattice_Parse.calls (a0 : ByteArray) (r1 : List S37) (r2 : Option Int) (w : World) (hG : GE w) (h : lattice_Parse.f a0 = some (r1, r2)) :
    Calls Tryz.prog 5 #[.string a0] w fun e w' => ∃ v0_ : Value, e = .returned (.tuple #[v0_, errW r2]) ∧ Kd.O k37 9022 w' w.heap.size (fun k_ => w.heap.size ≤ k_) v0_ r1 ∧ Below w.heap.size w w' := by
  unfold lattice_Parse.f at h
  by_cases hs : a0.size ≤ 1048576
  case neg => rw [if_neg hs] at h; cases h
  rw [if_pos hs] at h
  by_cases hall : (Rng.parts a0).all (fun t => (label_Parse.f t).isSome) = true
  case neg => rw [if_neg hall] at h; cases h
  rw [if_pos hall] at h
  have hP : ∀ (t : ByteArray) (W : World), t ∈ Rng.parts a0 → Below w.heap.size w W → Calls Tryz.prog 19 #[.string t] W fun e w' => e = .returned (.tuple #[.agg #[.int .i64 (latPf t).1, .int .u32 (latPf t).2.1], errW (latPf t).2.2]) ∧ Below W.heap.size W w' := fun t W ht hb => by
    obtain ⟨p, hp⟩ := Option.isSome_iff_exists.1 (List.all_eq_true.1 hall t ht)
    have e1 : latPf t = p := by unfold latPf; rw [hp]; rfl
    rw [e1]
    exact label_Parse.calls t p.1 p.2.1 p.2.2 W (GE.below hG hb) hp
  have hE0 : ∀ t, (latPf t).2.2 = none → errW (latPf t).2.2 = .nilIface := fun t ht => by rw [ht, errW_none]
  have hE1 : ∀ t, (latPf t).2.2 ≠ none → ∃ c, errW (latPf t).2.2 = .iface 53 (.int .i64 c) := fun t ht => by
    cases hc : (latPf t).2.2 with
    | none => exact absurd hc ht
    | some c => exact ⟨c, by rw [errW_some]⟩
  by_cases hbad : (Rng.parts a0).any latErr = true
  · rw [if_pos hbad] at h
    injection h with h
    injection h with h1 h2
    subst h1
    subst h2
    obtain ⟨t, ht, hte⟩ := List.any_eq_true.1 hbad
    refine (Rng.parse_in lat_finds latPf (fun t => errW (latPf t).2.2) hE0 hE1 a0 hs w hP (fun _ _ => True) .nilIface (.inl rfl) (fun v W hno _ _ _ => ?_) (fun _ _ _ _ _ _ _ => trivial)).mono ?_
    · have := hno t ht
      unfold latErr at hte
      rw [this] at hte
      cases hte
    · rintro e w' ⟨hb, (⟨hno, _⟩ | ⟨_, rfl⟩)⟩
      · have := hno t ht
        unfold latErr at hte
        rw [this] at hte
        cases hte
      · rw [errW_some]
        exact ⟨_, rfl, ⟨⟨rfl, rfl, rfl⟩, none, rfl, fun _ _ => .inl ⟨rfl, rfl⟩⟩, hb⟩
  · rw [if_neg hbad] at h
    have hlen : (latRead a0).length = (Rng.parts a0).length := by unfold latRead; rw [List.length_map]
    refine (Rng.parse_in lat_finds latPf (fun t => errW (latPf t).2.2) hE0 hE1 a0 hs w hP (fun v W => Kd.O k37 9022 W w.heap.size (fun k_ => w.heap.size + 8 ≤ k_) v r1) (errW r2) ?_ (fun v W _ hb h8 hrow => ?_) (fun v A B k hR hk hg => Kd.O_grown hR hg (fun j hj e => by have := Option.some.inj e; omega))).mono ?_
    · cases r2 with
      | none => exact .inl errW_none
      | some c => exact .inr ⟨c, by rw [errW_some]⟩
    · rw [← hlen] at hrow
      have hRr : Kd.R k37 37 W (w.heap.size + 8) (fun _ => True) v (latRead a0) := by
        refine ⟨fun _ _ => trivial, Rng.labCells latPf (Rng.parts a0), hrow, ?_, fun j p hj => ?_⟩
        · rw [lat_cells_len, hlen]
          rfl
        · unfold latRead at hj
          rw [List.getElem?_map] at hj
          obtain ⟨t, ht, rfl⟩ := Option.map_eq_some_iff.1 hj
          obtain ⟨hjl, rfl⟩ := List.getElem?_eq_some_iff.1 ht
          show Kd.M k37 _ _ _ _ (((Rng.labCells latPf (Rng.parts a0)).drop (j * 2)).take 2)
          rw [lat_cells_seg latPf _ j hjl]
          exact k37_mkM _ _ _ _
      obtain ⟨Ao, co, eo⟩ := Kd.R_slice hRr
      subst eo
      refine (lattice_New.calls Ao co (latRead a0) r1 r2 W (Kd.R_reads' hRr).2.2 (Kd.R_reads' hRr).2.1 h).mono ?_
      rintro e w' ⟨v0, rfl, hO, hb2⟩
      obtain ⟨A, _, rfl⟩ := Kd.O_slice hO
      exact ⟨A, rfl, Kd.O_lower (Kd.O_mono hO (fun k hk => Nat.le_trans h8 hk)) hb.size, hb2⟩
    · rintro e w' ⟨hb, (⟨_, A, rfl, hR⟩ | ⟨⟨t, ht, hte⟩, _⟩)⟩
      · exact ⟨_, rfl, Kd.O_mono hR (fun k hk => Nat.le_trans (Nat.le_add_right _ _) hk), hb⟩
      · exfalso
        refine hbad (List.any_eq_true.2 ⟨t, ht, ?_⟩)
        unfold latErr
        cases hc : (latPf t).2.2 with
        | none => exact absurd hc hte
        | some c => rfl

/-! ### barbicanref01_Has: function 51 -/
def barbicanref01_Has.f (a0_0 : Int) (a0_1 : Int) (a1 : Int) : Option (Bool) := if 0 ≤ (IntKind.u64.wrap (a1)) then (some ((Go.bits .and .u32 (shr .u32 a0_1 (IntKind.u64.wrap (a1))) 1) == 1)) else (none)
set_option maxHeartbeats 8000000 in
set_option maxRecDepth 100000 in
theorem barbicanref01_Has.calls (a0_0 : Int) (a0_1 : Int) (a1 : Int) (r : Bool) (w : World) (h : barbicanref01_Has.f a0_0 a0_1 a1 = some r) :
    Calls Tryz.prog 51 #[.agg #[.int .i64 a0_0, .int .u32 a0_1], .int .i64 a1] w fun e w' => e = .returned (.bool r) ∧ Below w.heap.size w w' := by
  have hu37 := Tryz.underlying37
  have HB := Aside0.mk (Below.refl w.heap.size w)
  have H : (if 0 ≤ (IntKind.u64.wrap (a1)) then (some ((Go.bits .and .u32 (shr .u32 a0_1 (IntKind.u64.wrap (a1))) 1) == 1)) else (none)) = some r := h
  clear h
  obtain ⟨ji3, hji3⟩ : ∃ j_ : Int, (IntKind.u64.wrap (a1)) = j_ := ⟨_, rfl⟩
  replace H : (if 0 ≤ (ji3) then (some ((Go.bits .and .u32 (shr .u32 a0_1 (ji3)) 1) == 1)) else (none)) = some r := by first | (rw [hji3] at H; exact H) | (simp only [hji3] at H ⊢; exact H)
  by_cases c4 : 0 ≤ (ji3)
  · rw [if_pos c4] at H
    have c4b0 := eq_true c4
    have c4b1 : decide (0 ≤ (ji3)) = true := decide_eq_true c4
    clear c4
    obtain ⟨ji5, hji5⟩ : ∃ j_ : Int, (shr .u32 a0_1 (ji3)) = j_ := ⟨_, rfl⟩
    replace H : (some ((Go.bits .and .u32 (ji5) 1) == 1)) = some r := by first | (rw [hji5] at H; exact H) | (simp only [hji5] at H ⊢; exact H)
    have hji5_ : (a0_1 / 2 ^ min (ji3).toNat 32) = ji5 := hji5
    have hji5z : (ji3) ≤ 32 → (a0_1 / 2 ^ (ji3).toNat) = ji5 := shr_small hji5
    obtain rfl := Option.some.inj H
    go_enter Tryz.func51, Tryz.ntmps51
    go_wp2_with (first | ((with_reducible refine gate_dst (N := 2) rfl ?_); refine box_event ?hg (N := 2) ?hd (cs := #[.int .i64 a0_0, .int .u32 a0_1]) (t := 37) ?hr ?_; (case hd => rfl); (case hg => rfl); (case hr => first | (go_simp; done) | (go_simp; rfl)); intro gb106 hg w6 hbox hb; have n0_ := Aside0.mk (below_step (by repeat (first | (with_reducible first | exact HB.out | apply below_alloc | apply pw_below_drewN | apply below_drew1) | exact HB.out | exact below_undrew HB.out)) hb); have n1_ := Aside0.mk (hbox); have n2_ := Aside0.mk ((by rw [hg]; exact (below_size (by repeat (first | (with_reducible first | exact HB.out | apply below_alloc | apply pw_below_drewN | apply below_drew1) | exact HB.out | exact below_undrew HB.out))) : w.heap.size ≤ gb106)); have n3_ := Aside0.mk ((by rw [hg]; exact (below_size (by repeat (first | (with_reducible first | exact HB.out | apply below_alloc | apply pw_below_drewN | apply below_drew1) | exact HB.out | exact below_undrew HB.out))) : w.heap.size ≤ gb106)); clear HB; have HB := n0_; have BK106 := n1_; have GW106 := n2_; have GE106 := n3_; clear n0_ n1_ n2_ n3_; clear hb hbox hg; have hcz7_0 : w6.cell? ⟨gb106, 0, none⟩ = some (.int .i64 a0_0) := (blk_cell BK106.out 0).trans rfl; have hcz7_1 : w6.cell? ⟨gb106, 1, none⟩ = some (.int .u32 a0_1) := (blk_cell BK106.out 1).trans rfl; have hfz7_0 := blk_frozen BK106.out 0; have hfz7_1 := blk_frozen BK106.out 1))
    go_ret
    exact ⟨by first | rfl | (simp [errW_none, errW_some] <;> rfl) | (simp only [← hji3, ← hji5]; first | rfl | (simp [errW_none, errW_some] <;> rfl)) | (simp [*, errW_none, errW_some] <;> rfl), by repeat (first | (with_reducible first | exact HB.out | apply below_alloc | apply pw_below_drewN | apply below_drew1 | refine below_set ?_ GE106.out) | exact HB.out | exact below_undrew HB.out)⟩
  · rw [if_neg c4] at H
    exact absurd H (by simp)

/-! ### barbicanref01_Valid: function 29 -/
def barbicanref01_Valid.l0 : Nat → Int → Int → Int → Option (Int)
  | 0, _, _, _ => none
  | k + 1, x3, x108000, x108001 => if x3 < 32 then ((barbicanref01_Has.f x108000 x108001 x3).bind fun t108 => (if t108 = true then (some 20) else (barbicanref01_Valid.l0 k (wrap64 (x3 + 1)) x108000 x108001))) else (if x108000 < 0 then (some 20) else (if x108000 > 15 then (some 20) else (some 0)))
def barbicanref01_Valid.f (k : Nat) (a0_0 : Int) (a0_1 : Int) : Option (Int) := barbicanref01_Valid.l0 k 26 a0_0 a0_1
theorem barbicanref01_Valid.mono_l : ∀ k, (∀ y0 y1 y2, LeO (barbicanref01_Valid.l0 k y0 y1 y2) (barbicanref01_Valid.l0 (k + 1) y0 y1 y2))
  | 0 => fun _ _ _ r h => by simp [barbicanref01_Valid.l0] at h
  | k + 1 => by
    have ih0 := barbicanref01_Valid.mono_l k
    · intro y0 y1 y2
      unfold barbicanref01_Valid.l0
      repeat' first
      | (with_reducible exact ih0 _ _ _)
      | (with_reducible exact LeO.refl _)
      | (with_reducible exact LeO.none _)
      | (with_reducible refine LeO.ite ?_ ?_)
      | (with_reducible refine LeO.bind ?_ (fun _ => ?_))
      | exact ih0 _ _ _
      | exact LeO.none _
      | refine LeO.ite ?_ ?_
      | refine LeO.bind ?_ (fun _ => ?_)
theorem barbicanref01_Valid.mono : ∀ a0 a1 k, LeO (barbicanref01_Valid.f k a0 a1) (barbicanref01_Valid.f (k + 1) a0 a1) := by
  intro a0 a1 k
  have ih0 := barbicanref01_Valid.mono_l k
  unfold barbicanref01_Valid.f
  repeat' first
      | (with_reducible exact ih0 _ _ _)
      | (with_reducible exact LeO.refl _)
      | (with_reducible exact LeO.none _)
      | (with_reducible refine LeO.ite ?_ ?_)
      | (with_reducible refine LeO.bind ?_ (fun _ => ?_))
      | exact ih0 _ _ _
      | exact LeO.none _
      | refine LeO.ite ?_ ?_
      | refine LeO.bind ?_ (fun _ => ?_)
set_option maxHeartbeats 8000000 in
set_option maxRecDepth 100000 in
theorem barbicanref01_Valid.calls (k : Nat) (a0_0 : Int) (a0_1 : Int) (r : Int) (w : World) (h : barbicanref01_Valid.f k a0_0 a0_1 = some r) :
    Calls Tryz.prog 29 #[.agg #[.int .i64 a0_0, .int .u32 a0_1]] w fun e w' => e = .returned (.int .i64 r) ∧ Below w.heap.size w w' := by
  have hu37 := Tryz.underlying37
  have HB := Aside0.mk (Below.refl w.heap.size w)
  have H : (barbicanref01_Valid.l0 k 26 a0_0 a0_1) = some r := h
  clear h
  have H' := Aside0.mk H
  clear H
  go_enter Tryz.func29, Tryz.ntmps29
  go_wp2_with (first | ((with_reducible refine gate_dst (N := 1) rfl ?_); refine box_event ?hg (N := 1) ?hd (cs := #[.int .i64 a0_0, .int .u32 a0_1]) (t := 37) ?hr ?_; (case hd => rfl); (case hg => rfl); (case hr => first | (go_simp; done) | (go_simp; rfl)); intro gb107 hg w2 hbox hb; have n0_ := Aside0.mk (below_step (by repeat (first | (with_reducible first | exact HB.out | apply below_alloc | apply pw_below_drewN | apply below_drew1) | exact HB.out | exact below_undrew HB.out)) hb); have n1_ := Aside0.mk (hbox); have n2_ := Aside0.mk ((by rw [hg]; exact (below_size (by repeat (first | (with_reducible first | exact HB.out | apply below_alloc | apply pw_below_drewN | apply below_drew1) | exact HB.out | exact below_undrew HB.out))) : w.heap.size ≤ gb107)); have n3_ := Aside0.mk ((by rw [hg]; exact (below_size (by repeat (first | (with_reducible first | exact HB.out | apply below_alloc | apply pw_below_drewN | apply below_drew1) | exact HB.out | exact below_undrew HB.out))) : w.heap.size ≤ gb107)); clear HB; have HB := n0_; have BK107 := n1_; have GW107 := n2_; have GE107 := n3_; clear n0_ n1_ n2_ n3_; clear hb hbox hg))
  go_loopg [3] k (fun kq v3 w' => ∃ (x3_1 : Int), v3 = .int .i64 x3_1 ∧ Aside0 (barbicanref01_Valid.l0 kq x3_1 a0_0 a0_1 = some r) ∧ Aside0 (kq ≤ k) ∧ Aside0 (w'.heap[gb107]? = some (.cells #[.int .i64 a0_0, .int .u32 a0_1] 37 (0, 0))) ∧ Aside0 (Below w.heap.size w w'))
  case atStart => exact ⟨(26), (by first | rfl | (simp; done) | (simp [*]; done)), H', ⟨Nat.le_refl _⟩, ⟨by (with_reducible repeat (first | refine blk_drewN ?_ _ | refine blk_drew ?_ | refine blk_alloc ?_ _)); exact BK107.out⟩, ⟨by repeat (first | (with_reducible first | exact HB.out | apply below_alloc | apply pw_below_drewN | apply below_drew1 | refine below_set ?_ GE107.out) | exact HB.out | exact below_undrew HB.out)⟩⟩
  case round =>
    clear H'
    try clear c2
    try clear p2
    obtain ⟨x3_1, rfl, HA, HK1, BK107, HB⟩ := hrel
    cases gk with
    | zero => exact absurd HA.out (by simp [barbicanref01_Valid.l0])
    | succ k1 =>
      have H := HA.out
      clear HA
      simp only [barbicanref01_Valid.l0] at H
      by_cases c3 : x3_1 < 32
      · rw [if_pos c3] at H
        have c3b0 : decide (x3_1 < 32) = true := decide_eq_true c3
        clear c3
        replace H := Option.bind_eq_some_iff.mp H
        obtain ⟨t108, A40, H⟩ := H
        replace H : (if t108 = true then (some 20) else (barbicanref01_Valid.l0 k1 (wrap64 (x3_1 + 1)) a0_0 a0_1)) = some r := H
        have A4 := Aside0.mk A40
        clear A40
        by_cases c5 : t108 = true
        · subst c5
          have H1 : (some 20) = some r := by rw [if_pos rfl] at H; exact H
          clear H
          have H := H1
          clear H1
          obtain rfl := Option.some.inj H
          have hcz6_0 : wr.cell? ⟨gb107, 0, none⟩ = some (.int .i64 a0_0) := (blk_cell BK107.out 0).trans rfl
          have hcz6_1 : wr.cell? ⟨gb107, 1, none⟩ = some (.int .u32 a0_1) := (blk_cell BK107.out 1).trans rfl
          have hfz6_0 := blk_frozen BK107.out 0
          have hfz6_1 := blk_frozen BK107.out 1
          go_wp2_with (first | ((with_reducible refine gate_callee (f := 51) rfl ?_); refine goesL_ (some 10) rfl rfl Tryz.func51 (by kernel_rfl) rfl #[.agg #[.int .i64 a0_0, .int .u32 a0_1], .int .i64 x3_1] rfl (by (try simp only [List.map_toArray, List.map_cons, List.map_nil]); first | done | rfl | (simp only [List.length_drop, List.length_take]; rfl)) ?_; (with_reducible refine (barbicanref01_Has.calls a0_0 a0_1 x3_1 true _ A4.out).mono ?_); rintro e w7 ⟨rfl, hb⟩; refine ⟨_, rfl, ?_⟩; have n0_ := Aside0.mk (blk_below (g := gb107) (o := .cells #[.int .i64 a0_0, .int .u32 a0_1] 37 (0, 0)) (by (with_reducible repeat (first | refine blk_drewN ?_ _ | refine blk_drew ?_ | refine blk_alloc ?_ _)); exact BK107.out) hb); have n1_ := Aside0.mk (below_step (by repeat (first | (with_reducible first | exact HB.out | apply below_alloc | apply pw_below_drewN | apply below_drew1 | refine below_set ?_ GE107.out) | exact HB.out | exact below_undrew HB.out)) hb); clear BK107; clear HB; have BK107 := n0_; have HB := n1_; clear n0_ n1_; (try clear hb); (try clear hb2); (try clear hk); (try clear hi)))
          go_ret
          exact ⟨by first | rfl | (simp [errW_none, errW_some] <;> rfl) | (simp [*, errW_none, errW_some] <;> rfl), by repeat (first | (with_reducible first | exact HB.out | apply below_alloc | apply pw_below_drewN | apply below_drew1 | refine below_set ?_ GE107.out) | exact HB.out | exact below_undrew HB.out)⟩
        · replace c5 := Bool.eq_false_iff.mpr c5
          subst c5
          have H1 : (barbicanref01_Valid.l0 k1 (wrap64 (x3_1 + 1)) a0_0 a0_1) = some r := by rw [if_neg (show ¬ (false = true) by decide)] at H; exact H
          clear H
          have H := H1
          clear H1
          have H' := Aside0.mk H
          clear H
          have hcz8_0 : wr.cell? ⟨gb107, 0, none⟩ = some (.int .i64 a0_0) := (blk_cell BK107.out 0).trans rfl
          have hcz8_1 : wr.cell? ⟨gb107, 1, none⟩ = some (.int .u32 a0_1) := (blk_cell BK107.out 1).trans rfl
          have hfz8_0 := blk_frozen BK107.out 0
          have hfz8_1 := blk_frozen BK107.out 1
          go_wp2_with (first | ((with_reducible refine gate_callee (f := 51) rfl ?_); refine goesL_ (some 10) rfl rfl Tryz.func51 (by kernel_rfl) rfl #[.agg #[.int .i64 a0_0, .int .u32 a0_1], .int .i64 x3_1] rfl (by (try simp only [List.map_toArray, List.map_cons, List.map_nil]); first | done | rfl | (simp only [List.length_drop, List.length_take]; rfl)) ?_; (with_reducible refine (barbicanref01_Has.calls a0_0 a0_1 x3_1 false _ A4.out).mono ?_); rintro e w9 ⟨rfl, hb⟩; refine ⟨_, rfl, ?_⟩; have n0_ := Aside0.mk (blk_below (g := gb107) (o := .cells #[.int .i64 a0_0, .int .u32 a0_1] 37 (0, 0)) (by (with_reducible repeat (first | refine blk_drewN ?_ _ | refine blk_drew ?_ | refine blk_alloc ?_ _)); exact BK107.out) hb); have n1_ := Aside0.mk (below_step (by repeat (first | (with_reducible first | exact HB.out | apply below_alloc | apply pw_below_drewN | apply below_drew1 | refine below_set ?_ GE107.out) | exact HB.out | exact below_undrew HB.out)) hb); clear BK107; clear HB; have BK107 := n0_; have HB := n1_; clear n0_ n1_; (try clear hb); (try clear hb2); (try clear hk); (try clear hi)))
          go_roundg k1
          case measure => have := HK1.out; omega
          case rel => exact ⟨(wrap64 (x3_1 + 1)), (by first | rfl | (simp; done) | (simp [*]; done)), H', ⟨by have := HK1.out; omega⟩, ⟨by (with_reducible repeat (first | refine blk_drewN ?_ _ | refine blk_drew ?_ | refine blk_alloc ?_ _)); exact BK107.out⟩, ⟨by repeat (first | (with_reducible first | exact HB.out | apply below_alloc | apply pw_below_drewN | apply below_drew1 | refine below_set ?_ GE107.out) | exact HB.out | exact below_undrew HB.out)⟩⟩
      · rw [if_neg c3] at H
        have c3b0 : decide (x3_1 < 32) = false := decide_eq_false c3
        clear c3
        by_cases c10 : a0_0 < 0
        · rw [if_pos c10] at H
          have c10b0 : decide (a0_0 < 0) = true := decide_eq_true c10
          clear c10
          obtain rfl := Option.some.inj H
          have hcz11_0 : wr.cell? ⟨gb107, 0, none⟩ = some (.int .i64 a0_0) := (blk_cell BK107.out 0).trans rfl
          have hcz11_1 : wr.cell? ⟨gb107, 1, none⟩ = some (.int .u32 a0_1) := (blk_cell BK107.out 1).trans rfl
          have hfz11_0 := blk_frozen BK107.out 0
          have hfz11_1 := blk_frozen BK107.out 1
          go_wp2
          go_ret
          exact ⟨by first | rfl | (simp [errW_none, errW_some] <;> rfl) | (simp [*, errW_none, errW_some] <;> rfl), by repeat (first | (with_reducible first | exact HB.out | apply below_alloc | apply pw_below_drewN | apply below_drew1 | refine below_set ?_ GE107.out) | exact HB.out | exact below_undrew HB.out)⟩
        · rw [if_neg c10] at H
          have c10b0 : decide (a0_0 < 0) = false := decide_eq_false c10
          clear c10
          by_cases c12 : a0_0 > 15
          · rw [if_pos c12] at H
            have c12b0 : decide (15 < a0_0) = true := decide_eq_true c12
            clear c12
            obtain rfl := Option.some.inj H
            have hcz13_0 : wr.cell? ⟨gb107, 0, none⟩ = some (.int .i64 a0_0) := (blk_cell BK107.out 0).trans rfl
            have hcz13_1 : wr.cell? ⟨gb107, 1, none⟩ = some (.int .u32 a0_1) := (blk_cell BK107.out 1).trans rfl
            have hfz13_0 := blk_frozen BK107.out 0
            have hfz13_1 := blk_frozen BK107.out 1
            go_wp2
            go_ret
            exact ⟨by first | rfl | (simp [errW_none, errW_some] <;> rfl) | (simp [*, errW_none, errW_some] <;> rfl), by repeat (first | (with_reducible first | exact HB.out | apply below_alloc | apply pw_below_drewN | apply below_drew1 | refine below_set ?_ GE107.out) | exact HB.out | exact below_undrew HB.out)⟩
          · rw [if_neg c12] at H
            have c12b0 : decide (15 < a0_0) = false := decide_eq_false c12
            clear c12
            obtain rfl := Option.some.inj H
            have hcz14_0 : wr.cell? ⟨gb107, 0, none⟩ = some (.int .i64 a0_0) := (blk_cell BK107.out 0).trans rfl
            have hcz14_1 : wr.cell? ⟨gb107, 1, none⟩ = some (.int .u32 a0_1) := (blk_cell BK107.out 1).trans rfl
            have hfz14_0 := blk_frozen BK107.out 0
            have hfz14_1 := blk_frozen BK107.out 1
            go_wp2
            go_ret
            exact ⟨by first | rfl | (simp [errW_none, errW_some] <;> rfl) | (simp [*, errW_none, errW_some] <;> rfl), by repeat (first | (with_reducible first | exact HB.out | apply below_alloc | apply pw_below_drewN | apply below_drew1 | refine below_set ?_ GE107.out) | exact HB.out | exact below_undrew HB.out)⟩

end Go.Proofs.YtgcaalgaellciaaGreatDoor.XLar
