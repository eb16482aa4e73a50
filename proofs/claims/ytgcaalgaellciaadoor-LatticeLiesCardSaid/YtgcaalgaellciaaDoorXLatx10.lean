/- Printed by this session's program (wip/print) out of the translation, for the statement named in the file's name. -/
import Derived.Test.YtgcaalgaellciaaDoorXLatx0
import Derived.Test.YtgcaalgaellciaaDoorXLatx2
import Derived.Test.YtgcaalgaellciaaDoorXLatx4
import Derived.Test.YtgcaalgaellciaaDoorXLatx5
import Derived.Test.YtgcaalgaellciaaDoorXLatx6
import Derived.Test.YtgcaalgaellciaaDoorXLatx7
import Derived.Test.YtgcaalgaellciaaDoorXLatx8
import Derived.Test.YtgcaalgaellciaaDoorXLatx9
namespace Go.Proofs.YtgcaalgaellciaaDoor.XLat
open Go.RowKit Go.Proofs.YtgcaalgaellciaaDoorW.PrintWords Go.Proofs.YtgcaalgaellciaaDoorW.PrintLast Go.Proofs.YtgcaalgaellciaaDoorW.PrintMore Go.Proofs.YtgcaalgaellciaaDoor.Lab
attribute [local go_sem] eqGuard_ptr str_gtr str_leq str_geq max2_int min2_int max_two min_two max_three min_three max_four min_four   -- for this text's walks alone
set_option linter.unusedVariables false
set_option linter.unusedSimpArgs false
set_option linter.unnecessarySimpa false

/-! ### lattice_Parse: function 22 (by hand) -/
/- behind lattice_New.f, label_Parse.f, stringslite_Index.f -/
/-- What label.Parse says of a part; of what is too long: nothing. -/
def latPf (t : ByteArray) : Int × Int × Option Int := (label_Parse.f t).getD (0, 0, none)
def latErr (t : ByteArray) : Bool := (latPf t).2.2.isSome
def latRead (a0 : ByteArray) : List S35 := (Rng.parts a0).map fun t => ⟨(latPf t).1, (latPf t).2.1⟩
def lattice_Parse.f (a0 : ByteArray) : Option (List S35 × Option Int) := if a0.size ≤ 1048576 then (if (Rng.parts a0).all (fun t => (label_Parse.f t).isSome) = true then (if (Rng.parts a0).any latErr = true then some ([], some 3) else lattice_New.f (latRead a0)) else none) else none
theorem lat_finds : Rng.Finds := fun s W hs => by
  refine (stringslite_Index.calls s ⟨#[32]⟩ (Lib.indexByte s.data.toList 32) W rfl).mono ?_
  rintro e w' ⟨rfl, n, rfl⟩
  exact ⟨rfl, n, rfl⟩
theorem lat_cells_len (pf : ByteArray → Int × Int × Option Int) : ∀ l : List ByteArray, (Rng.labCells pf l).length = l.length * 2
  | [] => rfl
  | x :: l => by
    have h := lat_cells_len pf l
    unfold Rng.labCells at h ⊢
    rw [List.flatMap_cons, List.length_append, h, List.length_cons]
    simp only [List.length_cons, List.length_nil]
    omega
theorem lat_cells_seg (pf : ByteArray → Int × Int × Option Int) : ∀ (l : List ByteArray) (j : Nat) (h : j < l.length), ((Rng.labCells pf l).drop (j * 2)).take 2 = [.int .i64 (pf l[j]).1, .int .u32 (pf l[j]).2.1]
  | [], j, h => by simp at h
  | x :: l, 0, h => by
    unfold Rng.labCells
    rw [List.flatMap_cons]
    rfl
  | x :: l, j + 1, h => by
    have h2 := lat_cells_seg pf l j (by simpa using h)
    unfold Rng.labCells at h2 ⊢
    rw [List.flatMap_cons, show (j + 1) * 2 = 2 + j * 2 by omega, ← List.drop_drop]
    exact h2
theorem lattice_Parse.calls (a0 : ByteArray) (r1 : List S35) (r2 : Option Int) (w : World) (hG : GE w) (h : lattice_Parse.f a0 = some (r1, r2)) :
    Calls Tryd.prog 22 #[.string a0] w fun e w' => ∃ v0_ : Value, e = .returned (.tuple #[v0_, errW r2]) ∧ Kd.O k35 9023 w' w.heap.size (fun k_ => w.heap.size ≤ k_) v0_ r1 ∧ Below w.heap.size w w' := by
  unfold lattice_Parse.f at h
  by_cases hs : a0.size ≤ 1048576
  case neg => rw [if_neg hs] at h; cases h
  rw [if_pos hs] at h
  by_cases hall : (Rng.parts a0).all (fun t => (label_Parse.f t).isSome) = true
  case neg => rw [if_neg hall] at h; cases h
  rw [if_pos hall] at h
  have hP : ∀ (t : ByteArray) (W : World), t ∈ Rng.parts a0 → Below w.heap.size w W → Calls Tryd.prog 37 #[.string t] W fun e w' => e = .returned (.tuple #[.agg #[.int .i64 (latPf t).1, .int .u32 (latPf t).2.1], errW (latPf t).2.2]) ∧ Below W.heap.size W w' := fun t W ht hb => by
    obtain ⟨p, hp⟩ := Option.isSome_iff_exists.1 (List.all_eq_true.1 hall t ht)
    have e1 : latPf t = p := by unfold latPf; rw [hp]; rfl
    rw [e1]
    exact label_Parse.calls t p.1 p.2.1 p.2.2 W (GE.below hG hb) hp
  have hE0 : ∀ t, (latPf t).2.2 = none → errW (latPf t).2.2 = .nilIface := fun t ht => by rw [ht, errW_none]
  have hE1 : ∀ t, (latPf t).2.2 ≠ none → ∃ c, errW (latPf t).2.2 = .iface 45 (.int .i64 c) := fun t ht => by
    cases hc : (latPf t).2.2 with
    | none => exact absurd hc ht
    | some c => exact ⟨c, by rw [errW_some]⟩
  by_cases hbad : (Rng.parts a0).any latErr = true
  · rw [if_pos hbad] at h
    injection h with h
    injection h with h1 h2
    subst h1
    subst h2
    obtain ⟨t, ht, hte⟩ := List.any_eq_true.1 hbad
    refine (Rng.parse_in lat_finds latPf (fun t => errW (latPf t).2.2) hE0 hE1 a0 hs w hP (fun _ _ => True) .nilIface (.inl rfl) (fun v W hno _ _ _ => ?_) (fun _ _ _ _ _ _ _ => trivial)).mono ?_
    · have := hno t ht
      unfold latErr at hte
      rw [this] at hte
      cases hte
    · rintro e w' ⟨hb, (⟨hno, _⟩ | ⟨_, rfl⟩)⟩
      · have := hno t ht
        unfold latErr at hte
        rw [this] at hte
        cases hte
      · rw [errW_some]
        exact ⟨_, rfl, ⟨⟨rfl, rfl, rfl⟩, none, rfl, fun _ _ => .inl ⟨rfl, rfl⟩⟩, hb⟩
  · rw [if_neg hbad] at h
    have hlen : (latRead a0).length = (Rng.parts a0).length := by unfold latRead; rw [List.length_map]
    refine (Rng.parse_in lat_finds latPf (fun t => errW (latPf t).2.2) hE0 hE1 a0 hs w hP (fun v W => Kd.O k35 9023 W w.heap.size (fun k_ => w.heap.size + 8 ≤ k_) v r1) (errW r2) ?_ (fun v W _ hb h8 hrow => ?_) (fun v A B k hR hk hg => Kd.O_grown hR hg (fun j hj e => by have := Option.some.inj e; omega))).mono ?_
    · cases r2 with
      | none => exact .inl errW_none
      | some c => exact .inr ⟨c, by rw [errW_some]⟩
    · rw [← hlen] at hrow
      have hRr : Kd.R k35 35 W (w.heap.size + 8) (fun _ => True) v (latRead a0) := by
        refine ⟨fun _ _ => trivial, Rng.labCells latPf (Rng.parts a0), hrow, ?_, fun j p hj => ?_⟩
        · rw [lat_cells_len, hlen]
          rfl
        · unfold latRead at hj
          rw [List.getElem?_map] at hj
          obtain ⟨t, ht, rfl⟩ := Option.map_eq_some_iff.1 hj
          obtain ⟨hjl, rfl⟩ := List.getElem?_eq_some_iff.1 ht
          show Kd.M k35 _ _ _ _ (((Rng.labCells latPf (Rng.parts a0)).drop (j * 2)).take 2)
          rw [lat_cells_seg latPf _ j hjl]
          exact k35_mkM _ _ _ _
      obtain ⟨Ao, co, eo⟩ := Kd.R_slice hRr
      subst eo
      refine (lattice_New.calls Ao co (latRead a0) r1 r2 W (Kd.R_reads' hRr).2.2 (Kd.R_reads' hRr).2.1 h).mono ?_
      rintro e w' ⟨v0, rfl, hO, hb2⟩
      obtain ⟨A, _, rfl⟩ := Kd.O_slice hO
      exact ⟨A, rfl, Kd.O_lower (Kd.O_mono hO (fun k hk => Nat.le_trans h8 hk)) hb.size, hb2⟩
    · rintro e w' ⟨hb, (⟨_, A, rfl, hR⟩ | ⟨⟨t, ht, hte⟩, _⟩)⟩
      · exact ⟨_, rfl, Kd.O_mono hR (fun k hk => Nat.le_trans (Nat.le_add_right _ _) hk), hb⟩
      · exfalso
        refine hbad (List.any_eq_true.2 ⟨t, ht, ?_⟩)
        unfold latErr
        cases hc : (latPf t).2.2 with
        | none => exact absurd hc hte
        | some c => rfl

/-! ### barbicanlaw02_sure: function 7 -/
def barbicanlaw02_sure.f (k : Nat)  : Option (Bool) := (lattice_Parse.f (⟨#[50, 58, 97, 98, 32, 48]⟩ : ByteArray)).bind fun bt113 => (if bt113.2.isNone = true then (if bt113.1.isEmpty = true then (some false) else ((lattice_Lattice_Order.f bt113.1).bind fun t118 => ((barbicanlaw02_ints.f k t118 (([1, 0] : List Int))).bind fun t124 => (some t124)))) else (some false))
theorem barbicanlaw02_sure.mono : ∀ k, LeO (barbicanlaw02_sure.f k ) (barbicanlaw02_sure.f (k + 1) ) := by
  intro  k
  unfold barbicanlaw02_sure.f
  repeat' first
      | (with_reducible exact barbicanlaw02_ints.mono _ _ _)
      | (with_reducible exact LeO.refl _)
      | (with_reducible exact LeO.none _)
      | (with_reducible refine LeO.ite ?_ ?_)
      | (with_reducible refine LeO.bind ?_ (fun _ => ?_))
      | exact barbicanlaw02_ints.mono _ _ _
      | exact LeO.none _
      | refine LeO.ite ?_ ?_
      | refine LeO.bind ?_ (fun _ => ?_)
set_option maxHeartbeats 8000000 in
set_option maxRecDepth 100000 in
theorem barbicanlaw02_sure.calls (k : Nat)  (r : Bool) (w : World) (hG : GE w) (h : barbicanlaw02_sure.f k  = some r) :
    Calls Tryd.prog 7 #[] w fun e w' => e = .returned (.bool r) ∧ Below w.heap.size w w' := by
  have hu25 := Tryd.underlying25
  have hu45 := Tryd.underlying45
  have HG := Aside0.mk hG
  clear hG
  have HB := Aside0.mk (Below.refl w.heap.size w)
  have H : ((lattice_Parse.f (⟨#[50, 58, 97, 98, 32, 48]⟩ : ByteArray)).bind fun bt113 => (if bt113.2.isNone = true then (if bt113.1.isEmpty = true then (some false) else ((lattice_Lattice_Order.f bt113.1).bind fun t118 => ((barbicanlaw02_ints.f k t118 (([1, 0] : List Int))).bind fun t124 => (some t124)))) else (some false))) = some r := h
  clear h
  replace H := Option.bind_eq_some_iff.mp H
  obtain ⟨⟨t113, t114⟩, A10, H⟩ := H
  replace H : (if t114.isNone = true then (if t113.isEmpty = true then (some false) else ((lattice_Lattice_Order.f t113).bind fun t118 => ((barbicanlaw02_ints.f k t118 (([1, 0] : List Int))).bind fun t124 => (some t124)))) else (some false)) = some r := H
  have A1 := Aside0.mk A10
  clear A10
  rcases t114 with _ | q117
  · have H1 : (if t113.isEmpty = true then (some false) else ((lattice_Lattice_Order.f t113).bind fun t118 => ((barbicanlaw02_ints.f k t118 (([1, 0] : List Int))).bind fun t124 => (some t124)))) = some r := by rw [if_pos (show (none : Option Int).isNone = true by rfl)] at H; exact H
    clear H
    have H := H1
    clear H1
    try simp only [errW_none, errW_some]
    by_cases c2 : t113.isEmpty = true
    · rw [if_pos c2] at H
      have c2b0 : t113.isEmpty = true := c2
      clear c2
      obtain rfl := Option.some.inj H
      go_enter Tryd.func7, Tryd.ntmps7
      go_wp2_with (first | ((with_reducible refine gate_callee (f := 22) rfl ?_); refine goesL_ (some 4) rfl rfl Tryd.func22 (by kernel_rfl) rfl #[.string (⟨#[50, 58, 97, 98, 32, 48]⟩ : ByteArray)] rfl (by (try simp only [List.map_toArray, List.map_cons, List.map_nil]); first | done | rfl | (simp only [List.length_drop, List.length_take]; rfl)) ?_; (with_reducible refine (lattice_Parse.calls (⟨#[50, 58, 97, 98, 32, 48]⟩ : ByteArray) t113 none _ ?side1 A1.out).mono ?_); (case side1 => exact GE.below HG.out (by repeat (first | (with_reducible first | exact HB.out | apply below_alloc | apply pw_below_drewN | apply below_drew1) | exact HB.out | exact below_undrew HB.out))); rintro e w3 ⟨v115, rfl, ho0, hb⟩; refine ⟨_, rfl, ?_⟩; have n0_ := Aside0.mk (Kd.O_lower (Kd.O_mono (ok' := fun k_ => True) (Kd.O_new ho0) (fun k_ hk_ => trivial)) (below_size (by repeat (first | (with_reducible first | exact HB.out | apply below_alloc | apply pw_below_drewN | apply below_drew1) | exact HB.out | exact below_undrew HB.out)))); have n1_ := Aside0.mk (below_step (by repeat (first | (with_reducible first | exact HB.out | apply below_alloc | apply pw_below_drewN | apply below_drew1) | exact HB.out | exact below_undrew HB.out)) hb); clear HB; have HO116 := n0_; have hnHO116 := fun w_ : World => Kd.O_eql (P := Tryd.prog) HO116.out 23 (by kernel_rfl) w_; have hmHO116 := fun w_ : World => Kd.O_neq (P := Tryd.prog) HO116.out 23 (by kernel_rfl) w_; have HB := n1_; clear n0_ n1_; (try clear hb); (try clear hb2); (try clear hk); (try clear hi); (try clear ho0); (try simp only [errW_none, errW_some])))
      go_ret
      exact ⟨by first | rfl | (simp [errW_none, errW_some] <;> rfl) | (simp [*, errW_none, errW_some] <;> rfl), by repeat (first | (with_reducible first | exact HB.out | apply below_alloc | apply pw_below_drewN | apply below_drew1) | exact HB.out | exact below_undrew HB.out)⟩
    · rw [if_neg c2] at H
      have c2b0 : t113.isEmpty = false := by simpa using c2
      clear c2
      replace H := Option.bind_eq_some_iff.mp H
      obtain ⟨t118, A40, H⟩ := H
      replace H : ((barbicanlaw02_ints.f k t118 (([1, 0] : List Int))).bind fun t124 => (some t124)) = some r := H
      have A4 := Aside0.mk A40
      clear A40
      obtain ⟨y121, hy121⟩ : ∃ y_ : List Int, y_ = (([1, 0] : List Int)) := ⟨_, rfl⟩
      replace H : ((barbicanlaw02_ints.f k t118 y121).bind fun t124 => (some t124)) = some r := by first | (rw [hy121]; with_reducible exact H) | (have H2_ := (Option.bind_some _ _).symm.trans H; rw [hy121]; with_reducible exact H2_) | (have H2_ := (Option.bind_some _ _).symm.trans H; with_reducible exact H2_) | with_reducible exact H | (rw [hy121]; exact H) | exact H
      have Ny121 := Aside0.mk hy121
      clear hy121
      replace H := Option.bind_eq_some_iff.mp H
      obtain ⟨t124, A50, H⟩ := H
      replace H : (some t124) = some r := H
      have A5 := Aside0.mk A50
      clear A50
      obtain rfl := Option.some.inj H
      go_enter Tryd.func7, Tryd.ntmps7
      go_wp2_with (first | ((with_reducible refine gate_callee (f := 22) rfl ?_); refine goesL_ (some 4) rfl rfl Tryd.func22 (by kernel_rfl) rfl #[.string (⟨#[50, 58, 97, 98, 32, 48]⟩ : ByteArray)] rfl (by (try simp only [List.map_toArray, List.map_cons, List.map_nil]); first | done | rfl | (simp only [List.length_drop, List.length_take]; rfl)) ?_; (with_reducible refine (lattice_Parse.calls (⟨#[50, 58, 97, 98, 32, 48]⟩ : ByteArray) t113 none _ ?side1 A1.out).mono ?_); (case side1 => exact GE.below HG.out (by repeat (first | (with_reducible first | exact HB.out | apply below_alloc | apply pw_below_drewN | apply below_drew1) | exact HB.out | exact below_undrew HB.out))); rintro e w6 ⟨v115, rfl, ho0, hb⟩; refine ⟨_, rfl, ?_⟩; have n0_ := Aside0.mk (Kd.O_lower (Kd.O_mono (ok' := fun k_ => True) (Kd.O_new ho0) (fun k_ hk_ => trivial)) (below_size (by repeat (first | (with_reducible first | exact HB.out | apply below_alloc | apply pw_below_drewN | apply below_drew1) | exact HB.out | exact below_undrew HB.out)))); have n1_ := Aside0.mk (below_step (by repeat (first | (with_reducible first | exact HB.out | apply below_alloc | apply pw_below_drewN | apply below_drew1) | exact HB.out | exact below_undrew HB.out)) hb); clear HB; have HO116 := n0_; have hnHO116 := fun w_ : World => Kd.O_eql (P := Tryd.prog) HO116.out 23 (by kernel_rfl) w_; have hmHO116 := fun w_ : World => Kd.O_neq (P := Tryd.prog) HO116.out 23 (by kernel_rfl) w_; have HB := n1_; clear n0_ n1_; (try clear hb); (try clear hb2); (try clear hk); (try clear hi); (try clear ho0); (try simp only [errW_none, errW_some]); obtain ⟨Ao7, co7, eo7⟩ := Kd.O_slice HO116.out; subst eo7; have hiAo7 := Kd.O_isN HO116.out) | (go_at_call 8; (with_reducible refine (lattice_Lattice_Order.calls _ t113 t118 _ ?side1 ?side2 A4.out).mono ?_); (case side1 => exact (Kd.O_reads' (by (with_reducible repeat (first | apply Kd.O_alloc | apply Kd.O_drewN | apply Kd.O_drew)); exact HO116.out)).2.2); (case side2 => exact (Kd.O_reads' HO116.out).2.1); rintro e w8 ⟨v119, rfl, ho0, hb⟩; have n0_ := Aside0.mk (Kd.O_elder' (by (with_reducible repeat (first | apply Kd.O_alloc | apply Kd.O_drewN | apply Kd.O_drew)); exact HO116.out) (Kd.R_base ho0) hb); have n1_ := Aside0.mk (Kd.R_lower ho0 (below_size (by repeat (first | (with_reducible first | exact HB.out | apply below_alloc | apply pw_below_drewN | apply below_drew1) | exact HB.out | exact below_undrew HB.out)))); have n2_ := Aside0.mk (below_step (by repeat (first | (with_reducible first | exact HB.out | apply below_alloc | apply pw_below_drewN | apply below_drew1) | exact HB.out | exact below_undrew HB.out)) hb); clear HO116; clear HB; have HO116 := n0_; have hnHO116 := fun w_ : World => Kd.O_eql (P := Tryd.prog) HO116.out 23 (by kernel_rfl) w_; have hmHO116 := fun w_ : World => Kd.O_neq (P := Tryd.prog) HO116.out 23 (by kernel_rfl) w_; have HO120 := n1_; have HB := n2_; clear n0_ n1_ n2_; (try clear hb); (try clear hb2); (try clear hk); (try clear hi); (try clear ho0)) | ((with_reducible refine gate_dst (N := 16) rfl ?_); (try (refine gate_guard (by rfl) ?_; dsimp only)); refine Kd.R_lit (Kd.int .i64) _ 3 ?hg (N := 16) ?hd (xs := ([1, 0] : List Int)) (inner := [.int .i64 1, .int .i64 0]) (ok := fun _ => True) (okp := fun _ => True) ?hr ?hp (fun _ hk => hk) trivial (Below.refl _ _) (Nat.le_refl _) (by simp) ?_; (case hd => rfl); (case hg => rfl); (case hr => first | (go_simp; done) | (go_simp; rfl)); (case hp => exact (Reps.one (show Kd.M (Kd.int .i64) _ _ _ 1 [.int .i64 1] from rfl) (Reps.one (show Kd.M (Kd.int .i64) _ _ _ 0 [.int .i64 0] from rfl) (Reps.none _ _)))); intro v122 w9 ho10 hb hg_ hnew_; clear hg_ hnew_; (first | rw [← Ny121.out] at ho10 | (simp only [Int.reduceToNat] at ho10; rw [← Ny121.out] at ho10)); have n0_ := Aside0.mk (Kd.O_elder' (by (with_reducible repeat (first | apply Kd.O_alloc | apply Kd.O_drewN | apply Kd.O_drew)); exact HO116.out) (Kd.R_base ho10) hb); have n1_ := Aside0.mk (Kd.R_elder' (by (with_reducible repeat (first | apply Kd.R_alloc | apply Kd.R_drewN | apply Kd.R_drew)); exact HO120.out) (Kd.R_base ho10) hb); have n2_ := Aside0.mk (Kd.R_lower (Kd.R_new' ho10 (Kd.R_lt (by (with_reducible repeat (first | apply Kd.R_alloc | apply Kd.R_drewN | apply Kd.R_drew)); exact HO120.out))) (below_size (by repeat (first | (with_reducible first | exact HB.out | apply below_alloc | apply pw_below_drewN | apply below_drew1) | exact HB.out | exact below_undrew HB.out)))); have n3_ := Aside0.mk (below_step (by repeat (first | (with_reducible first | exact HB.out | apply below_alloc | apply pw_below_drewN | apply below_drew1) | exact HB.out | exact below_undrew HB.out)) hb); clear HO116; clear HO120; clear HB; have HO116 := n0_; have hnHO116 := fun w_ : World => Kd.O_eql (P := Tryd.prog) HO116.out 23 (by kernel_rfl) w_; have hmHO116 := fun w_ : World => Kd.O_neq (P := Tryd.prog) HO116.out 23 (by kernel_rfl) w_; have HO120 := n1_; have HO123 := n2_; have HB := n3_; clear n0_ n1_ n2_ n3_; clear hb ho10; obtain ⟨Ao11, co11, eo11⟩ := Kd.R_slice HO120.out; subst eo11; obtain ⟨Ao12, co12, eo12⟩ := Kd.R_slice HO123.out; subst eo12) | (go_at_call 14; (with_reducible refine (barbicanlaw02_ints.calls k _ _ t118 _ _ y121 t124 _ ?side1 ?side2 ?side3 ?side4 A5.out).mono ?_); (case side1 => repeat (first | exact (Kd.R_reads' HO120.out).2.2 | (with_reducible refine Kd.C_alloc ?_ _) | (with_reducible refine Kd.C_drewN ?_ _) | (with_reducible refine Kd.C_drew ?_))); (case side2 => exact (Kd.R_reads' HO120.out).2.1); (case side3 => repeat (first | exact (Kd.R_reads' HO123.out).2.2 | (with_reducible refine Kd.C_alloc ?_ _) | (with_reducible refine Kd.C_drewN ?_ _) | (with_reducible refine Kd.C_drew ?_))); (case side4 => exact (Kd.R_reads' HO123.out).2.1); rintro e w' ⟨rfl, ⟨nd, rfl⟩⟩))
      go_ret
      exact ⟨by first | rfl | (simp [errW_none, errW_some] <;> rfl) | (simp [*, errW_none, errW_some] <;> rfl), by repeat (first | (with_reducible first | exact HB.out | apply below_alloc | apply pw_below_drewN | apply below_drew1) | exact HB.out | exact below_undrew HB.out)⟩
  · have H1 : (some false) = some r := by rw [if_neg (show ¬ (some q117).isNone = true by simp)] at H; exact H
    clear H
    have H := H1
    clear H1
    try simp only [errW_none, errW_some]
    obtain rfl := Option.some.inj H
    go_enter Tryd.func7, Tryd.ntmps7
    go_wp2_with (first | ((with_reducible refine gate_callee (f := 22) rfl ?_); refine goesL_ (some 4) rfl rfl Tryd.func22 (by kernel_rfl) rfl #[.string (⟨#[50, 58, 97, 98, 32, 48]⟩ : ByteArray)] rfl (by (try simp only [List.map_toArray, List.map_cons, List.map_nil]); first | done | rfl | (simp only [List.length_drop, List.length_take]; rfl)) ?_; (with_reducible refine (lattice_Parse.calls (⟨#[50, 58, 97, 98, 32, 48]⟩ : ByteArray) t113 (some q117) _ ?side1 A1.out).mono ?_); (case side1 => exact GE.below HG.out (by repeat (first | (with_reducible first | exact HB.out | apply below_alloc | apply pw_below_drewN | apply below_drew1) | exact HB.out | exact below_undrew HB.out))); rintro e w13 ⟨v115, rfl, ho0, hb⟩; refine ⟨_, rfl, ?_⟩; have n0_ := Aside0.mk (Kd.O_lower (Kd.O_mono (ok' := fun k_ => True) (Kd.O_new ho0) (fun k_ hk_ => trivial)) (below_size (by repeat (first | (with_reducible first | exact HB.out | apply below_alloc | apply pw_below_drewN | apply below_drew1) | exact HB.out | exact below_undrew HB.out)))); have n1_ := Aside0.mk (below_step (by repeat (first | (with_reducible first | exact HB.out | apply below_alloc | apply pw_below_drewN | apply below_drew1) | exact HB.out | exact below_undrew HB.out)) hb); clear HB; have HO116 := n0_; have hnHO116 := fun w_ : World => Kd.O_eql (P := Tryd.prog) HO116.out 23 (by kernel_rfl) w_; have hmHO116 := fun w_ : World => Kd.O_neq (P := Tryd.prog) HO116.out 23 (by kernel_rfl) w_; have HB := n1_; clear n0_ n1_; (try clear hb); (try clear hb2); (try clear hk); (try clear hi); (try clear ho0); (try simp only [errW_none, errW_some])))
    go_ret
    exact ⟨by first | rfl | (simp [errW_none, errW_some] <;> rfl) | (simp [*, errW_none, errW_some] <;> rfl), by repeat (first | (with_reducible first | exact HB.out | apply below_alloc | apply pw_below_drewN | apply below_drew1) | exact HB.out | exact below_undrew HB.out)⟩

/-! ### lattice_Lattice_Above: function 11 (by hand) -/
/- behind lattice_Lattice_Below.f, lattice_New.f -/
/-- A closure that asks Dominates: the places of the two captured variables. -/
theorem lat_above1 (A0 : Option Addr) (l0 : List S35) (a : Int) (j : Nat) (r : Bool) (b1 b2 : Nat) (w : World) (h1 : w.cell? ⟨b1, 0, none⟩ = some (.pointer A0)) (h2 : w.cell? ⟨b2, 0, none⟩ = some (.int .i64 a)) (hO : LatC w A0 l0) (h : lattice_Lattice_Dominates.f l0 j a = some r) :
    Calls Tryd.prog 30 #[.int .i64 j, .pointer (some ⟨b1, 0, none⟩), .pointer (some ⟨b2, 0, none⟩)] w fun e w' => e = .returned (.bool r) ∧ Below w.heap.size w w' := by
  have HC := Aside0.mk (lattice_Lattice_Dominates.calls A0 l0 j a r w hO trivial h)
  clear hO h
  go_enter Tryd.func30, Tryd.ntmps30
  go_wp2_with (go_at_call 17; refine HC.out.mono ?_; rintro e w' ⟨rfl, hb⟩)
  go_ret
  exact ⟨rfl, hb⟩
def lattice_Lattice_Above.f (l0 : List S35) (i : Int) : Option (List Int) := latUp (fun j => lattice_Lattice_Dominates.f l0 j i) l0.length
set_option maxHeartbeats 8000000 in
theorem lattice_Lattice_Above.calls (A0 : Option Addr) (l0 : List S35) (a1 : Int) (r : List Int) (w : World) (hr0 : Kd.OC w A0 l0) (hc0 : True) (h : lattice_Lattice_Above.f l0 a1 = some r) :
    Calls Tryd.prog 11 #[.pointer A0, .int .i64 a1] w fun e w' => ∃ v0_ : Value, e = .returned v0_ ∧ Kd.R (Kd.int .i64) 3 w' w.heap.size (fun _ => True) v0_ r ∧ Below w.heap.size w w' := by
  have hO : LatC w A0 l0 := hr0
  have hB0 : Below w.heap.size w ((w.alloc (.cells #[.pointer A0] 23)).alloc (.cells #[.int .i64 a1] 3)) := below_alloc (below_alloc (Below.refl _ _) _) _
  have HA := Aside0.mk (lat_all (fun j => lattice_Lattice_Dominates.f l0 j a1) 30 #[.pointer (some ⟨w.heap.size, 0, none⟩), .pointer (some ⟨w.heap.size + 1, 0, none⟩)] (enters_of Tryd.func30 (by kernel_rfl) rfl) A0 l0 r _ (latC_below hO hB0)
    (fun j b W _ hj hb => lat_above1 A0 l0 a1 j b _ _ W ((hb.cell (by first | (simp; done) | (simp; omega))).trans (by simp)) ((hb.cell (by first | (simp; done) | (simp; omega))).trans (by simp)) (latC_below (latC_below hO hB0) hb) hj) h)
  clear h hr0 hO hc0
  go_enter Tryd.func11, Tryd.ntmps11
  go_wp2_with (go_at_call 24; refine HA.out.mono ?_; rintro e w' ⟨v, rfl, hR, hb⟩)
  go_ret
  exact ⟨_, rfl, Kd.R_lower hR (below_size hB0), below_step hB0 hb⟩

end Go.Proofs.YtgcaalgaellciaaDoor.XLat
