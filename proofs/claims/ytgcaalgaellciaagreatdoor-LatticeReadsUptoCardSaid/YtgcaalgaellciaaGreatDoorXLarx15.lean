/- Printed by this session's program (wip/print) out of the translation, for the statement named in the file's name. -/
import Derived.Test.YtgcaalgaellciaaGreatDoorXLarx0
import Derived.Test.YtgcaalgaellciaaGreatDoorXLarx3
import Derived.Test.YtgcaalgaellciaaGreatDoorXLarx4
import Derived.Test.YtgcaalgaellciaaGreatDoorXLarx6
import Derived.Test.YtgcaalgaellciaaGreatDoorXLarx11
import Derived.Test.YtgcaalgaellciaaGreatDoorXLarx13
import Derived.Test.YtgcaalgaellciaaGreatDoorXLarx14
namespace Go.Proofs.YtgcaalgaellciaaGreatDoor.XLar
open Go.RowKit Go.Proofs.YtgcaalgaellciaaGreatDoorW.PrintWords Go.Proofs.YtgcaalgaellciaaGreatDoorW.PrintLast Go.Proofs.YtgcaalgaellciaaGreatDoorW.PrintMore Go.Proofs.YtgcaalgaellciaaGreatDoor.Both
attribute [local go_sem] eqGuard_ptr str_gtr str_leq str_geq max2_int min2_int max_two min_two max_three min_three max_four min_four   -- for this text's walks alone
set_option linter.unusedVariables false
set_option linter.unusedSimpArgs false
set_option linter.unnecessarySimpa false

/-! ### barbicanlaw02_sure: function 8 -/
def barbicanlaw02_sure.f (k : Nat)  : Option (Bool) := (lattice_Parse.f (⟨#[50, 58, 97, 98, 32, 48]⟩ : ByteArray)).bind fun bt132 => (if bt132.2.isNone = true then (if bt132.1.isEmpty = true then (some false) else ((lattice_Lattice_Order.f bt132.1).bind fun t137 => ((barbicanlaw02_ints.f k t137 (([1, 0] : List Int))).bind fun t143 => (some t143)))) else (some false))
theorem barbicanlaw02_sure.mono : ∀ k, LeO (barbicanlaw02_sure.f k ) (barbicanlaw02_sure.f (k + 1) ) := by
  intro  k
  unfold barbicanlaw02_sure.f
  repeat' first
      | (with_reducible exact barbicanlaw02_ints.mono _ _ _)
      | (with_reducible exact LeO.refl _)
      | (with_reducible exact LeO.none _)
      | (with_reducible refine LeO.ite ?_ ?_)
      | (with_reducible refine LeO.bind ?_ (fun _ => ?_))
      | exact barbicanlaw02_ints.mono _ _ _
      | exact LeO.none _
      | refine LeO.ite ?_ ?_
      | refine LeO.bind ?_ (fun _ => ?_)
set_option maxHeartbeats 8000000 in
set_option maxRecDepth 100000 in
theorem barbicanlaw02_sure.calls (k : Nat)  (r : Bool) (w : World) (hG : GE w) (h : barbicanlaw02_sure.f k  = some r) :
    Calls Tryz.prog 8 #[] w fun e w' => e = .returned (.bool r) ∧ Below w.heap.size w w' := by
  have hu24 := Tryz.underlying24
  have hu53 := Tryz.underlying53
  have HG := Aside0.mk hG
  clear hG
  have HB := Aside0.mk (Below.refl w.heap.size w)
  have H : ((lattice_Parse.f (⟨#[50, 58, 97, 98, 32, 48]⟩ : ByteArray)).bind fun bt132 => (if bt132.2.isNone = true then (if bt132.1.isEmpty = true then (some false) else ((lattice_Lattice_Order.f bt132.1).bind fun t137 => ((barbicanlaw02_ints.f k t137 (([1, 0] : List Int))).bind fun t143 => (some t143)))) else (some false))) = some r := h
  clear h
  replace H := Option.bind_eq_some_iff.mp H
  obtain ⟨⟨t132, t133⟩, A10, H⟩ := H
  replace H : (if t133.isNone = true then (if t132.isEmpty = true then (some false) else ((lattice_Lattice_Order.f t132).bind fun t137 => ((barbicanlaw02_ints.f k t137 (([1, 0] : List Int))).bind fun t143 => (some t143)))) else (some false)) = some r := H
  have A1 := Aside0.mk A10
  clear A10
  rcases t133 with _ | q136
  · have H1 : (if t132.isEmpty = true then (some false) else ((lattice_Lattice_Order.f t132).bind fun t137 => ((barbicanlaw02_ints.f k t137 (([1, 0] : List Int))).bind fun t143 => (some t143)))) = some r := by rw [if_pos (show (none : Option Int).isNone = true by rfl)] at H; exact H
    clear H
    have H := H1
    clear H1
    try simp only [errW_none, errW_some]
    by_cases c2 : t132.isEmpty = true
    · rw [if_pos c2] at H
      have c2b0 : t132.isEmpty = true := c2
      clear c2
      obtain rfl := Option.some.inj H
      go_enter Tryz.func8, Tryz.ntmps8
      go_wp2_with (first | ((with_reducible refine gate_callee (f := 5) rfl ?_); refine goesL_ (some 4) rfl rfl Tryz.func5 (by kernel_rfl) rfl #[.string (⟨#[50, 58, 97, 98, 32, 48]⟩ : ByteArray)] rfl (by (try simp only [List.map_toArray, List.map_cons, List.map_nil]); first | done | rfl | (simp only [List.length_drop, List.length_take]; rfl)) ?_; (with_reducible refine (lattice_Parse.calls (⟨#[50, 58, 97, 98, 32, 48]⟩ : ByteArray) t132 none _ ?side1 A1.out).mono ?_); (case side1 => exact GE.below HG.out (by repeat (first | (with_reducible first | exact HB.out | apply below_alloc | apply pw_below_drewN | apply below_drew1) | exact HB.out | exact below_undrew HB.out))); rintro e w3 ⟨v134, rfl, ho0, hb⟩; refine ⟨_, rfl, ?_⟩; have n0_ := Aside0.mk (Kd.O_lower (Kd.O_mono (ok' := fun k_ => True) (Kd.O_new ho0) (fun k_ hk_ => trivial)) (below_size (by repeat (first | (with_reducible first | exact HB.out | apply below_alloc | apply pw_below_drewN | apply below_drew1) | exact HB.out | exact below_undrew HB.out)))); have n1_ := Aside0.mk (below_step (by repeat (first | (with_reducible first | exact HB.out | apply below_alloc | apply pw_below_drewN | apply below_drew1) | exact HB.out | exact below_undrew HB.out)) hb); clear HB; have HO135 := n0_; have hnHO135 := fun w_ : World => Kd.O_eql (P := Tryz.prog) HO135.out 22 (by kernel_rfl) w_; have hmHO135 := fun w_ : World => Kd.O_neq (P := Tryz.prog) HO135.out 22 (by kernel_rfl) w_; have HB := n1_; clear n0_ n1_; (try clear hb); (try clear hb2); (try clear hk); (try clear hi); (try clear ho0); (try simp only [errW_none, errW_some])))
      go_ret
      exact ⟨by first | rfl | (simp [errW_none, errW_some] <;> rfl) | (simp [*, errW_none, errW_some] <;> rfl), by repeat (first | (with_reducible first | exact HB.out | apply below_alloc | apply pw_below_drewN | apply below_drew1) | exact HB.out | exact below_undrew HB.out)⟩
    · rw [if_neg c2] at H
      have c2b0 : t132.isEmpty = false := by simpa using c2
      clear c2
      replace H := Option.bind_eq_some_iff.mp H
      obtain ⟨t137, A40, H⟩ := H
      replace H : ((barbicanlaw02_ints.f k t137 (([1, 0] : List Int))).bind fun t143 => (some t143)) = some r := H
      have A4 := Aside0.mk A40
      clear A40
      obtain ⟨y140, hy140⟩ : ∃ y_ : List Int, y_ = (([1, 0] : List Int)) := ⟨_, rfl⟩
      replace H : ((barbicanlaw02_ints.f k t137 y140).bind fun t143 => (some t143)) = some r := by first | (rw [hy140]; with_reducible exact H) | (have H2_ := (Option.bind_some _ _).symm.trans H; rw [hy140]; with_reducible exact H2_) | (have H2_ := (Option.bind_some _ _).symm.trans H; with_reducible exact H2_) | with_reducible exact H | (rw [hy140]; exact H) | exact H
      have Ny140 := Aside0.mk hy140
      clear hy140
      replace H := Option.bind_eq_some_iff.mp H
      obtain ⟨t143, A50, H⟩ := H
      replace H : (some t143) = some r := H
      have A5 := Aside0.mk A50
      clear A50
      obtain rfl := Option.some.inj H
      go_enter Tryz.func8, Tryz.ntmps8
      go_wp2_with (first | ((with_reducible refine gate_callee (f := 5) rfl ?_); refine goesL_ (some 4) rfl rfl Tryz.func5 (by kernel_rfl) rfl #[.string (⟨#[50, 58, 97, 98, 32, 48]⟩ : ByteArray)] rfl (by (try simp only [List.map_toArray, List.map_cons, List.map_nil]); first | done | rfl | (simp only [List.length_drop, List.length_take]; rfl)) ?_; (with_reducible refine (lattice_Parse.calls (⟨#[50, 58, 97, 98, 32, 48]⟩ : ByteArray) t132 none _ ?side1 A1.out).mono ?_); (case side1 => exact GE.below HG.out (by repeat (first | (with_reducible first | exact HB.out | apply below_alloc | apply pw_below_drewN | apply below_drew1) | exact HB.out | exact below_undrew HB.out))); rintro e w6 ⟨v134, rfl, ho0, hb⟩; refine ⟨_, rfl, ?_⟩; have n0_ := Aside0.mk (Kd.O_lower (Kd.O_mono (ok' := fun k_ => True) (Kd.O_new ho0) (fun k_ hk_ => trivial)) (below_size (by repeat (first | (with_reducible first | exact HB.out | apply below_alloc | apply pw_below_drewN | apply below_drew1) | exact HB.out | exact below_undrew HB.out)))); have n1_ := Aside0.mk (below_step (by repeat (first | (with_reducible first | exact HB.out | apply below_alloc | apply pw_below_drewN | apply below_drew1) | exact HB.out | exact below_undrew HB.out)) hb); clear HB; have HO135 := n0_; have hnHO135 := fun w_ : World => Kd.O_eql (P := Tryz.prog) HO135.out 22 (by kernel_rfl) w_; have hmHO135 := fun w_ : World => Kd.O_neq (P := Tryz.prog) HO135.out 22 (by kernel_rfl) w_; have HB := n1_; clear n0_ n1_; (try clear hb); (try clear hb2); (try clear hk); (try clear hi); (try clear ho0); (try simp only [errW_none, errW_some]); obtain ⟨Ao7, co7, eo7⟩ := Kd.O_slice HO135.out; subst eo7; have hiAo7 := Kd.O_isN HO135.out) | (go_at_call 23; (with_reducible refine (lattice_Lattice_Order.calls _ t132 t137 _ ?side1 ?side2 A4.out).mono ?_); (case side1 => exact (Kd.O_reads' (by (with_reducible repeat (first | apply Kd.O_alloc | apply Kd.O_drewN | apply Kd.O_drew)); exact HO135.out)).2.2); (case side2 => exact (Kd.O_reads' HO135.out).2.1); rintro e w8 ⟨v138, rfl, ho0, hb⟩; have n0_ := Aside0.mk (Kd.O_elder' (by (with_reducible repeat (first | apply Kd.O_alloc | apply Kd.O_drewN | apply Kd.O_drew)); exact HO135.out) (Kd.R_base ho0) hb); have n1_ := Aside0.mk (Kd.R_lower ho0 (below_size (by repeat (first | (with_reducible first | exact HB.out | apply below_alloc | apply pw_below_drewN | apply below_drew1) | exact HB.out | exact below_undrew HB.out)))); have n2_ := Aside0.mk (below_step (by repeat (first | (with_reducible first | exact HB.out | apply below_alloc | apply pw_below_drewN | apply below_drew1) | exact HB.out | exact below_undrew HB.out)) hb); clear HO135; clear HB; have HO135 := n0_; have hnHO135 := fun w_ : World => Kd.O_eql (P := Tryz.prog) HO135.out 22 (by kernel_rfl) w_; have hmHO135 := fun w_ : World => Kd.O_neq (P := Tryz.prog) HO135.out 22 (by kernel_rfl) w_; have HO139 := n1_; have HB := n2_; clear n0_ n1_ n2_; (try clear hb); (try clear hb2); (try clear hk); (try clear hi); (try clear ho0)) | ((with_reducible refine gate_dst (N := 16) rfl ?_); (try (refine gate_guard (by rfl) ?_; dsimp only)); refine Kd.R_lit (Kd.int .i64) _ 3 ?hg (N := 16) ?hd (xs := ([1, 0] : List Int)) (inner := [.int .i64 1, .int .i64 0]) (ok := fun _ => True) (okp := fun _ => True) ?hr ?hp (fun _ hk => hk) trivial (Below.refl _ _) (Nat.le_refl _) (by simp) ?_; (case hd => rfl); (case hg => rfl); (case hr => first | (go_simp; done) | (go_simp; rfl)); (case hp => exact (Reps.one (show Kd.M (Kd.int .i64) _ _ _ 1 [.int .i64 1] from rfl) (Reps.one (show Kd.M (Kd.int .i64) _ _ _ 0 [.int .i64 0] from rfl) (Reps.none _ _)))); intro v141 w9 ho10 hb hg_ hnew_; clear hg_ hnew_; (first | rw [← Ny140.out] at ho10 | (simp only [Int.reduceToNat] at ho10; rw [← Ny140.out] at ho10)); have n0_ := Aside0.mk (Kd.O_elder' (by (with_reducible repeat (first | apply Kd.O_alloc | apply Kd.O_drewN | apply Kd.O_drew)); exact HO135.out) (Kd.R_base ho10) hb); have n1_ := Aside0.mk (Kd.R_elder' (by (with_reducible repeat (first | apply Kd.R_alloc | apply Kd.R_drewN | apply Kd.R_drew)); exact HO139.out) (Kd.R_base ho10) hb); have n2_ := Aside0.mk (Kd.R_lower (Kd.R_new' ho10 (Kd.R_lt (by (with_reducible repeat (first | apply Kd.R_alloc | apply Kd.R_drewN | apply Kd.R_drew)); exact HO139.out))) (below_size (by repeat (first | (with_reducible first | exact HB.out | apply below_alloc | apply pw_below_drewN | apply below_drew1) | exact HB.out | exact below_undrew HB.out)))); have n3_ := Aside0.mk (below_step (by repeat (first | (with_reducible first | exact HB.out | apply below_alloc | apply pw_below_drewN | apply below_drew1) | exact HB.out | exact below_undrew HB.out)) hb); clear HO135; clear HO139; clear HB; have HO135 := n0_; have hnHO135 := fun w_ : World => Kd.O_eql (P := Tryz.prog) HO135.out 22 (by kernel_rfl) w_; have hmHO135 := fun w_ : World => Kd.O_neq (P := Tryz.prog) HO135.out 22 (by kernel_rfl) w_; have HO139 := n1_; have HO142 := n2_; have HB := n3_; clear n0_ n1_ n2_ n3_; clear hb ho10; obtain ⟨Ao11, co11, eo11⟩ := Kd.R_slice HO139.out; subst eo11; obtain ⟨Ao12, co12, eo12⟩ := Kd.R_slice HO142.out; subst eo12) | (go_at_call 22; (with_reducible refine (barbicanlaw02_ints.calls k _ _ t137 _ _ y140 t143 _ ?side1 ?side2 ?side3 ?side4 A5.out).mono ?_); (case side1 => repeat (first | exact (Kd.R_reads' HO139.out).2.2 | (with_reducible refine Kd.C_alloc ?_ _) | (with_reducible refine Kd.C_drewN ?_ _) | (with_reducible refine Kd.C_drew ?_))); (case side2 => exact (Kd.R_reads' HO139.out).2.1); (case side3 => repeat (first | exact (Kd.R_reads' HO142.out).2.2 | (with_reducible refine Kd.C_alloc ?_ _) | (with_reducible refine Kd.C_drewN ?_ _) | (with_reducible refine Kd.C_drew ?_))); (case side4 => exact (Kd.R_reads' HO142.out).2.1); rintro e w' ⟨rfl, ⟨nd, rfl⟩⟩))
      go_ret
      exact ⟨by first | rfl | (simp [errW_none, errW_some] <;> rfl) | (simp [*, errW_none, errW_some] <;> rfl), by repeat (first | (with_reducible first | exact HB.out | apply below_alloc | apply pw_below_drewN | apply below_drew1) | exact HB.out | exact below_undrew HB.out)⟩
  · have H1 : (some false) = some r := by rw [if_neg (show ¬ (some q136).isNone = true by simp)] at H; exact H
    clear H
    have H := H1
    clear H1
    try simp only [errW_none, errW_some]
    obtain rfl := Option.some.inj H
    go_enter Tryz.func8, Tryz.ntmps8
    go_wp2_with (first | ((with_reducible refine gate_callee (f := 5) rfl ?_); refine goesL_ (some 4) rfl rfl Tryz.func5 (by kernel_rfl) rfl #[.string (⟨#[50, 58, 97, 98, 32, 48]⟩ : ByteArray)] rfl (by (try simp only [List.map_toArray, List.map_cons, List.map_nil]); first | done | rfl | (simp only [List.length_drop, List.length_take]; rfl)) ?_; (with_reducible refine (lattice_Parse.calls (⟨#[50, 58, 97, 98, 32, 48]⟩ : ByteArray) t132 (some q136) _ ?side1 A1.out).mono ?_); (case side1 => exact GE.below HG.out (by repeat (first | (with_reducible first | exact HB.out | apply below_alloc | apply pw_below_drewN | apply below_drew1) | exact HB.out | exact below_undrew HB.out))); rintro e w13 ⟨v134, rfl, ho0, hb⟩; refine ⟨_, rfl, ?_⟩; have n0_ := Aside0.mk (Kd.O_lower (Kd.O_mono (ok' := fun k_ => True) (Kd.O_new ho0) (fun k_ hk_ => trivial)) (below_size (by repeat (first | (with_reducible first | exact HB.out | apply below_alloc | apply pw_below_drewN | apply below_drew1) | exact HB.out | exact below_undrew HB.out)))); have n1_ := Aside0.mk (below_step (by repeat (first | (with_reducible first | exact HB.out | apply below_alloc | apply pw_below_drewN | apply below_drew1) | exact HB.out | exact below_undrew HB.out)) hb); clear HB; have HO135 := n0_; have hnHO135 := fun w_ : World => Kd.O_eql (P := Tryz.prog) HO135.out 22 (by kernel_rfl) w_; have hmHO135 := fun w_ : World => Kd.O_neq (P := Tryz.prog) HO135.out 22 (by kernel_rfl) w_; have HB := n1_; clear n0_ n1_; (try clear hb); (try clear hb2); (try clear hk); (try clear hi); (try clear ho0); (try simp only [errW_none, errW_some])))
    go_ret
    exact ⟨by first | rfl | (simp [errW_none, errW_some] <;> rfl) | (simp [*, errW_none, errW_some] <;> rfl), by repeat (first | (with_reducible first | exact HB.out | apply below_alloc | apply pw_below_drewN | apply below_drew1) | exact HB.out | exact below_undrew HB.out)⟩

/-! ### lattice_Lattice_Text: function 9 (by hand) -/
/- behind lattice_Lattice_Below.f, lattice_New.f, label_Text.f -/
def latTexts : List S37 → Option (List ByteArray)
  | [] => some []
  | x :: l => (label_Text.f x.f0 x.f1).bind fun t => (latTexts l).map fun r => t.1 :: r
theorem latTexts_len : ∀ (l : List S37) (r : List ByteArray), latTexts l = some r → r.length = l.length
  | [], r, h => by obtain rfl := Option.some.inj h; rfl
  | x :: l, r, h => by
    obtain ⟨t, ht, h2⟩ := Option.bind_eq_some_iff.1 (show (label_Text.f x.f0 x.f1).bind _ = some r from h)
    obtain ⟨q, hq, rfl⟩ := Option.map_eq_some_iff.1 h2
    rw [List.length_cons, List.length_cons, latTexts_len l q hq]
theorem latTexts_at : ∀ (l : List S37) (r : List ByteArray) (i : Nat) (h : i < l.length), latTexts l = some r → ∃ t : ByteArray × Option Int, label_Text.f l[i].f0 l[i].f1 = some t ∧ r.take (i + 1) = r.take i ++ [t.1]
  | [], r, i, h, _ => absurd h (by simp)
  | x :: l, r, 0, _, h => by
    obtain ⟨t, ht, h2⟩ := Option.bind_eq_some_iff.1 (show (label_Text.f x.f0 x.f1).bind _ = some r from h)
    obtain ⟨q, hq, rfl⟩ := Option.map_eq_some_iff.1 h2
    exact ⟨t, ht, by simp⟩
  | x :: l, r, i + 1, hi, h => by
    obtain ⟨t, ht, h2⟩ := Option.bind_eq_some_iff.1 (show (label_Text.f x.f0 x.f1).bind _ = some r from h)
    obtain ⟨q, hq, rfl⟩ := Option.map_eq_some_iff.1 h2
    obtain ⟨t2, h3, h4⟩ := latTexts_at l q i (by simpa using hi) hq
    exact ⟨t2, h3, by simp [h4]⟩
theorem lat_infoS : (Tryz.prog.info? 9).map (fun i => (i.zero, i.size, i.bytes)) = some (some (.string ⟨#[]⟩), 1, 16) := by kernel_rfl
def lattice_Lattice_Text.f (l0 : List S37) : Option ByteArray := (latTexts l0).bind fun l => if (Lib.join (l.map (·.data.toList)) [32]).length ≤ 140737488355328 then some ⟨(Lib.join (l.map (·.data.toList)) [32]).toArray⟩ else none
theorem lat_join (A : Option Addr) (c : Nat) (l : List ByteArray) (w : World) (hr : Kd.C Kd.string w A l.length l) (hc : l.length ≤ c) (hl : l.length ≤ 16) (hj : (Lib.join (l.map (·.data.toList)) [32]).length ≤ 140737488355328) :
    Calls Tryz.prog 25 #[.slice A l.length c, .string (⟨#[32]⟩ : ByteArray)] w fun e w' => e = .returned (.string ⟨(Lib.join (l.map (·.data.toList)) [32]).toArray⟩) ∧ Below w.heap.size w w' := by
  by_cases h0 : l = []
  · subst h0
    exact (Lat.joinNone A c _ w).mono fun _ _ ⟨h1, h2⟩ => ⟨h1, h2 ▸ Below.refl _ _⟩
  · have hp : 0 < l.length := List.length_pos_iff.2 h0
    obtain ⟨_, _, hx⟩ := hr
    obtain ⟨ad, rfl, hcell⟩ := hx hp
    have hjj : ∀ (j : Nat) x, l[j]? = some x → w.cell? (ad.add j) = some (.string x) := by
      intro j x hj
      obtain ⟨c, _, hK, hu⟩ := hcell j x hj
      obtain rfl : c = [.string x] := hK
      have := hu 0 (.string x) rfl
      simpa [show (Kd.string).sz = 1 from rfl] using this
    have h00 := hjj 0 l[0] (List.getElem?_eq_getElem hp)
    obtain ⟨b, o, s⟩ := ad
    have hlt := World.block_lt_of_cell? w _ h00
    obtain rfl : s = none := by
      cases s with
      | none => rfl
      | some s =>
        exfalso
        unfold World.cell? at h00
        split at h00 <;> simp [Addr.add] at h00
    refine Lat.join b o c l ⟨#[32]⟩ w (fun j x hjx => ?_) hlt (by omega) hc hj
    have h1 := hjj j x hjx
    have h2 : (⟨b, o, none⟩ : Addr).add j = ⟨b, o + j, none⟩ := by
      unfold Addr.add
      split
      · rename_i h; subst h; rfl
      · rfl
    rwa [h2] at h1
set_option maxHeartbeats 8000000 in
set_option maxRecDepth 100000 in
theorem lattice_Lattice_Text.calls (A0 : Option Addr) (l0 : List S37) (r : ByteArray) (w : World) (hr0 : Kd.OC w A0 l0) (hc0 : True) (hG : GE w) (h : lattice_Lattice_Text.f l0 = some r) :
    Calls Tryz.prog 9 #[.pointer A0] w fun e w' => e = .returned (.string r) ∧ Below w.heap.size w w' := by
  obtain ⟨ts, hts, h2⟩ := Option.bind_eq_some_iff.1 (show (latTexts l0).bind _ = some r from h)
  by_cases hj : (Lib.join (ts.map (·.data.toList)) [32]).length ≤ 140737488355328
  case neg => rw [if_neg hj] at h2; cases h2
  rw [if_pos hj] at h2
  obtain rfl := Option.some.inj h2
  clear h h2 hc0
  have hO : LatC w A0 l0 := hr0
  have hu := Tryz.underlying66
  have hul := Tryz.underlying37
  have HO1 := Aside0.mk hO
  have HTS := Aside0.mk hts
  have HTL := Aside0.mk (latTexts_len l0 ts hts)
  have HJ := Aside0.mk hj
  have H16 := Aside0.mk (latC_len hO)
  have HG := Aside0.mk hG
  have HL := Aside0.mk (lat_len A0 l0 w hO)
  obtain ⟨n, hn⟩ : ∃ n : Nat, n = l0.length := ⟨_, rfl⟩
  rw [← hn] at HL
  have HN := Aside0.mk hn
  have HB := Aside0.mk (Below.refl w.heap.size w)
  clear hr0 hG hts hj hO hn
  go_enter Tryz.func9, Tryz.ntmps9
  go_wp2_with (go_at_call 17; refine HL.out.mono ?_; rintro e w1 ⟨rfl, hw⟩; rw [hw]; clear hw)
  go_loopg [3, 4, 5, 6, 9] (n + 1) (fun kq v3 v4 v5 v6 v9 w' => ∃ i : Nat, v9 = .int .i64 i ∧ Aside0 (i + kq = n + 1) ∧ Aside0 (i ≤ n) ∧ Aside0 (Kd.R Kd.string 9 w' w.heap.size (fun _ => True) v3 (ts.take i)) ∧ Aside0 (Below w.heap.size w w'))
  case atStart => exact ⟨0, rfl, ⟨by omega⟩, ⟨by omega⟩, ⟨Kd.R_nil _ _ _ _ _⟩, ⟨Below.refl _ _⟩⟩
  case round =>
    clear HB HL
    obtain ⟨i, rfl, HI, HLE, HO, HB⟩ := hrel
    cases gk with
    | zero => exact absurd HI.out (by have := HLE.out; omega)
    | succ k1 =>
      by_cases ci : i < n
      · have ci0 : decide ((i : Int) < (n : Int)) = true := decide_eq_true (by omega)
        have ci2 : i < l0.length := by have := HN.out; omega
        rcases latC_below HO1.out HB.out with ⟨rfl, rfl⟩ | ⟨g, A1, c, m, nn, rfl, hne, h16, hwf, hc0, hc1, hlc, hC, hown⟩
        · exact absurd ci2 (by simp)
        obtain ⟨ad, eA, hx0, hx1⟩ := at_T37 hC (i : Int) (by omega) (by omega)
        cases eA
        obtain ⟨⟨t1, t2⟩, ht, htk⟩ := latTexts_at l0 ts i ci2 HTS.out
        have hrd : rd_T37 l0 (i : Int) = l0[i] := by
          unfold rd_T37
          rw [Int.toNat_natCast, List.getD_eq_getElem?_getD, List.getElem?_eq_getElem ci2]
          rfl
        rw [hrd] at hx0 hx1
        simp only [Int.toNat_natCast] at hx0 hx1
        generalize l0[i] = y at hx0 hx1 ht
        obtain ⟨x0, x1⟩ := y
        dsimp only at hx0 hx1 ht htk
        have hc00 : wr.cell? ⟨g, 0, none⟩ = some (.slice (some ad) n c) := by rw [hc0, HN.out]
        have p1 : (0 ≤ (i : Int)) = True := eq_true (by omega)
        have p2 : ((i : Int) < (n : Int)) = True := eq_true (by omega)
        have HT := Aside0.mk (label_Text.calls x0 x1 t1 t2 wr (GE.below HG.out HB.out) ht)
        have HTK := Aside0.mk htk
        have HLT := Aside0.mk (show (ts.take i).length < 17 by have := H16.out; have := HN.out; rw [List.length_take]; omega)
        have HCI := Aside0.mk ci
        clear hrd ht htk hc0 hc1 hlc hC hown hwf hne h16 ci ci2
        go_wp2_with (first | (go_at_call 24; refine HT.out.mono ?_; rintro e w7 ⟨rfl, hb⟩; have n0_ := Aside0.mk (Kd.R_below HO.out hb); have n1_ := Aside0.mk (below_step HB.out hb); clear HO HB; have HO := n0_; have HB := n1_; clear n0_ n1_ hb) | ((with_reducible refine gate_builtin (b := .append) (xs := #[.tmp 23, .tmp 25]) rfl ?_); at_builtin; refine Kd.R_append Kd.string (w0 := w) w.heap.size rfl (.tmp 23) (.tmp 25) 61 9 (.string ⟨#[]⟩) 16 rfl Tryz.underlying61 lat_infoS rfl (by decide) (by omega) u3 (ts.take i) t1 [.string t1] (fun _ => True) (fun _ => False) rfl rfl ?aP (fun _ hk => hk.elim) ?aF ?aO ?aB ?aS ?aL ?_; (case aP => exact rfl); (case aB => exact (by repeat (first | (with_reducible first | exact HB.out | apply below_alloc | apply pw_below_drewN | apply below_drew1) | exact HB.out | exact below_undrew HB.out))); (case aF => exact (fun _ _ => trivial)); (case aO => exact (by (with_reducible repeat (first | apply Kd.R_alloc | apply Kd.R_drewN | apply Kd.R_drew)); exact HO.out)); (case aS => exact (below_size (by repeat (first | (with_reducible first | exact HB.out | apply below_alloc | apply pw_below_drewN | apply below_drew1) | exact HB.out | exact below_undrew HB.out)))); (case aL => have := HLT.out; omega); intro v173 w8 ho hb hg hat; have n0_ := Aside0.mk (hb); have n1_ := Aside0.mk (ho); clear HB; clear HO; have HB := n0_; have HO := n1_; clear n0_ n1_; clear ho hb hg hat))
        go_roundg k1
        case measure => have := HI.out; omega
        case rel => exact ⟨i + 1, (by have := HN.out; have := H16.out; have := HLE.out; first | (simp [wrap64, IntKind.wrap]; done) | (simp [wrap64, IntKind.wrap]; omega)), ⟨by have := HI.out; omega⟩, ⟨by have := HCI.out; omega⟩, ⟨by rw [HTK.out]; exact HO.out⟩, ⟨(by repeat (first | (with_reducible first | exact HB.out | apply below_alloc | apply pw_below_drewN | apply below_drew1) | exact HB.out | exact below_undrew HB.out))⟩⟩
      · have ci0 : decide ((i : Int) < (n : Int)) = false := decide_eq_false (by omega)
        have htk : ts.take i = ts := List.take_of_length_le (by have := HTL.out; have := HN.out; have := HLE.out; omega)
        rw [htk] at HO
        obtain ⟨Ao, co, eo⟩ := Kd.R_slice HO.out
        subst eo
        have HJN := Aside0.mk (lat_join Ao co ts wr (Kd.R_reads' HO.out).2.2 (Kd.R_reads' HO.out).2.1 (by have := HTL.out; have := H16.out; omega) HJ.out)
        clear htk
        go_wp2_with (go_at_call 25; refine HJN.out.mono ?_; rintro e w8 ⟨rfl, hb⟩; have n1_ := Aside0.mk (below_step HB.out hb); clear HB hb; have HB := n1_; clear n1_)
        go_ret
        exact ⟨rfl, HB.out⟩

end Go.Proofs.YtgcaalgaellciaaGreatDoor.XLar
