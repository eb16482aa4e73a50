/- Printed by this session's program (wip/print) out of the translation, for the statement named in the file's name. -/
import Derived.Test.YtcchjnadhjeniaaDoorXAllx0
import Derived.Test.YtcchjnadhjeniaaDoorXAllx5
namespace Go.Proofs.YtcchjnadhjeniaaDoor.XAll
open Go.RowKit Go.Proofs.YtcchjnadhjeniaaDoorW.PrintWords Go.Proofs.YtcchjnadhjeniaaDoorW.PrintLast Go.Proofs.YtcchjnadhjeniaaDoorW.PrintMore Go.Proofs.YtcchjnadhjeniaaDoor.As
attribute [local go_sem] str_gtr str_leq str_geq max2_int min2_int max_two min_two max_three min_three max_four min_four   -- for this text's walks alone
set_option linter.unusedVariables false
set_option linter.unusedSimpArgs false

/-! ### barbicanlaw06_sure: function 13 -/
def barbicanlaw06_sure.f (k : Nat)  : Option (Bool) := (order_Encode.f k (([(⟨2, 0, (⟨#[97]⟩ : ByteArray), false⟩ : S41), (⟨3, 0, (⟨#[]⟩ : ByteArray), true⟩ : S41)] : List (S41)))).bind fun bt248 => (if bt248.1.toList = ([3, 97, 0, 4, 1] : List UInt8) then (if bt248.2.isNone = true then (some true) else (some false)) else (some false))
theorem barbicanlaw06_sure.mono : ∀ k, LeO (barbicanlaw06_sure.f k ) (barbicanlaw06_sure.f (k + 1) ) := by
  intro  k
  unfold barbicanlaw06_sure.f
  repeat' first
      | (with_reducible exact order_Encode.mono _ _)
      | (with_reducible exact LeO.refl _)
      | (with_reducible exact LeO.none _)
      | (with_reducible refine LeO.ite ?_ ?_)
      | (with_reducible refine LeO.bind ?_ (fun _ => ?_))
      | exact order_Encode.mono _ _
      | exact LeO.none _
      | refine LeO.ite ?_ ?_
      | refine LeO.bind ?_ (fun _ => ?_)
set_option maxHeartbeats 8000000 in
set_option maxRecDepth 100000 in
theorem barbicanlaw06_sure.calls (k : Nat)  (r : Bool) (w : World) (h : barbicanlaw06_sure.f k  = some r) :
    Calls Tryd.prog 13 #[] w fun e w' => e = .returned (.bool r) ∧ Below w.heap.size w w' := by
  have hu41 := Tryd.underlying41
  have hu24 := Tryd.underlying24
  have hu43 := Tryd.underlying43
  have HB := Aside0.mk (Below.refl w.heap.size w)
  have H : ((order_Encode.f k (([(⟨2, 0, (⟨#[97]⟩ : ByteArray), false⟩ : S41), (⟨3, 0, (⟨#[]⟩ : ByteArray), true⟩ : S41)] : List (S41)))).bind fun bt248 => (if bt248.1.toList = ([3, 97, 0, 4, 1] : List UInt8) then (if bt248.2.isNone = true then (some true) else (some false)) else (some false))) = some r := h
  clear h
  obtain ⟨y245, hy245⟩ : ∃ y_ : List (S41), y_ = (([(⟨2, 0, (⟨#[97]⟩ : ByteArray), false⟩ : S41), (⟨3, 0, (⟨#[]⟩ : ByteArray), true⟩ : S41)] : List (S41))) := ⟨_, rfl⟩
  replace H : ((order_Encode.f k y245).bind fun bt248 => (if bt248.1.toList = ([3, 97, 0, 4, 1] : List UInt8) then (if bt248.2.isNone = true then (some true) else (some false)) else (some false))) = some r := by first | (rw [hy245]; with_reducible exact H) | (have H2_ := (Option.bind_some _ _).symm.trans H; rw [hy245]; with_reducible exact H2_) | (have H2_ := (Option.bind_some _ _).symm.trans H; with_reducible exact H2_) | with_reducible exact H | (rw [hy245]; exact H) | exact H
  have Ny245 := Aside0.mk hy245
  clear hy245
  replace H := Option.bind_eq_some_iff.mp H
  obtain ⟨⟨t248, t249⟩, A10, H⟩ := H
  replace H : (if t248.toList = ([3, 97, 0, 4, 1] : List UInt8) then (if t249.isNone = true then (some true) else (some false)) else (some false)) = some r := H
  have A1 := Aside0.mk A10
  clear A10
  by_cases c2 : t248.toList = ([3, 97, 0, 4, 1] : List UInt8)
  · rw [if_pos c2] at H
    have c2b0 : (t248.toList == ([3, 97, 0, 4, 1] : List UInt8)) = true := beq_iff_eq.mpr c2
    have c2b1 : (t248.toList != ([3, 97, 0, 4, 1] : List UInt8)) = false := bne_eq_false_iff_eq.mpr c2
    clear c2
    rcases t249 with _ | q250
    · have H1 : (some true) = some r := by rw [if_pos (show (none : Option Int).isNone = true by rfl)] at H; exact H
      clear H
      have H := H1
      clear H1
      try simp only [errW_none, errW_some]
      obtain rfl := Option.some.inj H
      go_enter Tryd.func13, Tryd.ntmps13
      go_wp2_with (first | ((with_reducible refine gate_dst (N := 6) rfl ?_); refine Kd.R_lit k41 _ 41 ?hg (N := 6) ?hd (xs := ([(⟨2, 0, (⟨#[97]⟩ : ByteArray), false⟩ : S41), (⟨3, 0, (⟨#[]⟩ : ByteArray), true⟩ : S41)] : List (S41))) (inner := [.int .i64 2, .int .i64 0, .string (⟨#[97]⟩ : ByteArray), .bool false, .int .i64 3, .int .i64 0, .string (⟨#[]⟩ : ByteArray), .bool true]) (ok := fun _ => True) (okp := fun _ => True) ?hr ?hp (fun _ hk => hk) trivial (Below.refl _ _) (Nat.le_refl _) (by simp) ?_; (case hd => rfl); (case hg => rfl); (case hr => first | (go_simp; done) | (go_simp; rfl)); (case hp => exact (Reps.c4 (show Kd.M k41 _ _ _ (⟨2, 0, (⟨#[97]⟩ : ByteArray), false⟩ : S41) [.int .i64 2, .int .i64 0, .string (⟨#[97]⟩ : ByteArray), .bool false] from (k41_mkM _ _ _ (⟨2, 0, (⟨#[97]⟩ : ByteArray), false⟩ : S41) )) (Reps.c4 (show Kd.M k41 _ _ _ (⟨3, 0, (⟨#[]⟩ : ByteArray), true⟩ : S41) [.int .i64 3, .int .i64 0, .string (⟨#[]⟩ : ByteArray), .bool true] from (k41_mkM _ _ _ (⟨3, 0, (⟨#[]⟩ : ByteArray), true⟩ : S41) )) (Reps.none _ _)))); intro v246 w3 ho4 hb hg_ hnew_; clear hg_ hnew_; (first | rw [← Ny245.out] at ho4 | (simp only [Int.reduceToNat] at ho4; rw [← Ny245.out] at ho4)); have n0_ := Aside0.mk (Kd.R_lower ho4 (below_size (by repeat (first | (with_reducible first | exact HB.out | apply below_alloc | apply pw_below_drewN | apply below_drew1) | exact HB.out | exact below_undrew HB.out)))); have n1_ := Aside0.mk (below_step (by repeat (first | (with_reducible first | exact HB.out | apply below_alloc | apply pw_below_drewN | apply below_drew1) | exact HB.out | exact below_undrew HB.out)) hb); clear HB; have HO247 := n0_; have HB := n1_; clear n0_ n1_; clear hb ho4; obtain ⟨Ao5, co5, eo5⟩ := Kd.R_slice HO247.out; subst eo5) | ((with_reducible refine gate_callee (f := 4) rfl ?_); refine goesL_ (some 7) rfl rfl Tryd.func4 (by kernel_rfl) rfl #[.slice Ao5 y245.length co5] rfl (by (try simp only [List.map_toArray, List.map_cons, List.map_nil]); first | done | rfl | (simp only [List.length_drop, List.length_take]; rfl)) ?_; (with_reducible refine (order_Encode.calls k _ _ y245 t248 none _ ?side1 ?side2 A1.out).mono ?_); (case side1 => repeat (first | exact (Kd.R_reads' HO247.out).2.2 | (with_reducible refine Kd.C_alloc ?_ _) | (with_reducible refine Kd.C_drewN ?_ _) | (with_reducible refine Kd.C_drew ?_))); (case side2 => exact (Kd.R_reads' HO247.out).2.1); rintro e w6 ⟨rfl, hb⟩; refine ⟨_, rfl, ?_⟩; have n0_ := Aside0.mk (Kd.R_below (by (with_reducible repeat (first | apply Kd.R_alloc | apply Kd.R_drewN | apply Kd.R_drew)); exact HO247.out) hb); have n1_ := Aside0.mk (below_step (by repeat (first | (with_reducible first | exact HB.out | apply below_alloc | apply pw_below_drewN | apply below_drew1) | exact HB.out | exact below_undrew HB.out)) hb); clear HO247; clear HB; have HO247 := n0_; have HB := n1_; clear n0_ n1_; (try clear hb); (try clear hb2); (try clear hk); (try clear hi); (try simp only [errW_none, errW_some])))
      go_ret
      exact ⟨by first | rfl | (simp [errW_none, errW_some] <;> rfl) | (simp [*, errW_none, errW_some] <;> rfl), by repeat (first | (with_reducible first | exact HB.out | apply below_alloc | apply pw_below_drewN | apply below_drew1) | exact HB.out | exact below_undrew HB.out)⟩
    · have H1 : (some false) = some r := by rw [if_neg (show ¬ (some q250).isNone = true by simp)] at H; exact H
      clear H
      have H := H1
      clear H1
      try simp only [errW_none, errW_some]
      obtain rfl := Option.some.inj H
      go_enter Tryd.func13, Tryd.ntmps13
      go_wp2_with (first | ((with_reducible refine gate_dst (N := 6) rfl ?_); refine Kd.R_lit k41 _ 41 ?hg (N := 6) ?hd (xs := ([(⟨2, 0, (⟨#[97]⟩ : ByteArray), false⟩ : S41), (⟨3, 0, (⟨#[]⟩ : ByteArray), true⟩ : S41)] : List (S41))) (inner := [.int .i64 2, .int .i64 0, .string (⟨#[97]⟩ : ByteArray), .bool false, .int .i64 3, .int .i64 0, .string (⟨#[]⟩ : ByteArray), .bool true]) (ok := fun _ => True) (okp := fun _ => True) ?hr ?hp (fun _ hk => hk) trivial (Below.refl _ _) (Nat.le_refl _) (by simp) ?_; (case hd => rfl); (case hg => rfl); (case hr => first | (go_simp; done) | (go_simp; rfl)); (case hp => exact (Reps.c4 (show Kd.M k41 _ _ _ (⟨2, 0, (⟨#[97]⟩ : ByteArray), false⟩ : S41) [.int .i64 2, .int .i64 0, .string (⟨#[97]⟩ : ByteArray), .bool false] from (k41_mkM _ _ _ (⟨2, 0, (⟨#[97]⟩ : ByteArray), false⟩ : S41) )) (Reps.c4 (show Kd.M k41 _ _ _ (⟨3, 0, (⟨#[]⟩ : ByteArray), true⟩ : S41) [.int .i64 3, .int .i64 0, .string (⟨#[]⟩ : ByteArray), .bool true] from (k41_mkM _ _ _ (⟨3, 0, (⟨#[]⟩ : ByteArray), true⟩ : S41) )) (Reps.none _ _)))); intro v246 w7 ho8 hb hg_ hnew_; clear hg_ hnew_; (first | rw [← Ny245.out] at ho8 | (simp only [Int.reduceToNat] at ho8; rw [← Ny245.out] at ho8)); have n0_ := Aside0.mk (Kd.R_lower ho8 (below_size (by repeat (first | (with_reducible first | exact HB.out | apply below_alloc | apply pw_below_drewN | apply below_drew1) | exact HB.out | exact below_undrew HB.out)))); have n1_ := Aside0.mk (below_step (by repeat (first | (with_reducible first | exact HB.out | apply below_alloc | apply pw_below_drewN | apply below_drew1) | exact HB.out | exact below_undrew HB.out)) hb); clear HB; have HO247 := n0_; have HB := n1_; clear n0_ n1_; clear hb ho8; obtain ⟨Ao9, co9, eo9⟩ := Kd.R_slice HO247.out; subst eo9) | ((with_reducible refine gate_callee (f := 4) rfl ?_); refine goesL_ (some 7) rfl rfl Tryd.func4 (by kernel_rfl) rfl #[.slice Ao9 y245.length co9] rfl (by (try simp only [List.map_toArray, List.map_cons, List.map_nil]); first | done | rfl | (simp only [List.length_drop, List.length_take]; rfl)) ?_; (with_reducible refine (order_Encode.calls k _ _ y245 t248 (some q250) _ ?side1 ?side2 A1.out).mono ?_); (case side1 => repeat (first | exact (Kd.R_reads' HO247.out).2.2 | (with_reducible refine Kd.C_alloc ?_ _) | (with_reducible refine Kd.C_drewN ?_ _) | (with_reducible refine Kd.C_drew ?_))); (case side2 => exact (Kd.R_reads' HO247.out).2.1); rintro e w10 ⟨rfl, hb⟩; refine ⟨_, rfl, ?_⟩; have n0_ := Aside0.mk (Kd.R_below (by (with_reducible repeat (first | apply Kd.R_alloc | apply Kd.R_drewN | apply Kd.R_drew)); exact HO247.out) hb); have n1_ := Aside0.mk (below_step (by repeat (first | (with_reducible first | exact HB.out | apply below_alloc | apply pw_below_drewN | apply below_drew1) | exact HB.out | exact below_undrew HB.out)) hb); clear HO247; clear HB; have HO247 := n0_; have HB := n1_; clear n0_ n1_; (try clear hb); (try clear hb2); (try clear hk); (try clear hi); (try simp only [errW_none, errW_some])))
      go_ret
      exact ⟨by first | rfl | (simp [errW_none, errW_some] <;> rfl) | (simp [*, errW_none, errW_some] <;> rfl), by repeat (first | (with_reducible first | exact HB.out | apply below_alloc | apply pw_below_drewN | apply below_drew1) | exact HB.out | exact below_undrew HB.out)⟩
  · rw [if_neg c2] at H
    have c2b0 : (t248.toList == ([3, 97, 0, 4, 1] : List UInt8)) = false := beq_eq_false_iff_ne.mpr c2
    have c2b1 : (t248.toList != ([3, 97, 0, 4, 1] : List UInt8)) = true := bne_iff_ne.mpr c2
    obtain rfl := Option.some.inj H
    go_enter Tryd.func13, Tryd.ntmps13
    go_wp2_with (first | ((with_reducible refine gate_dst (N := 6) rfl ?_); refine Kd.R_lit k41 _ 41 ?hg (N := 6) ?hd (xs := ([(⟨2, 0, (⟨#[97]⟩ : ByteArray), false⟩ : S41), (⟨3, 0, (⟨#[]⟩ : ByteArray), true⟩ : S41)] : List (S41))) (inner := [.int .i64 2, .int .i64 0, .string (⟨#[97]⟩ : ByteArray), .bool false, .int .i64 3, .int .i64 0, .string (⟨#[]⟩ : ByteArray), .bool true]) (ok := fun _ => True) (okp := fun _ => True) ?hr ?hp (fun _ hk => hk) trivial (Below.refl _ _) (Nat.le_refl _) (by simp) ?_; (case hd => rfl); (case hg => rfl); (case hr => first | (go_simp; done) | (go_simp; rfl)); (case hp => exact (Reps.c4 (show Kd.M k41 _ _ _ (⟨2, 0, (⟨#[97]⟩ : ByteArray), false⟩ : S41) [.int .i64 2, .int .i64 0, .string (⟨#[97]⟩ : ByteArray), .bool false] from (k41_mkM _ _ _ (⟨2, 0, (⟨#[97]⟩ : ByteArray), false⟩ : S41) )) (Reps.c4 (show Kd.M k41 _ _ _ (⟨3, 0, (⟨#[]⟩ : ByteArray), true⟩ : S41) [.int .i64 3, .int .i64 0, .string (⟨#[]⟩ : ByteArray), .bool true] from (k41_mkM _ _ _ (⟨3, 0, (⟨#[]⟩ : ByteArray), true⟩ : S41) )) (Reps.none _ _)))); intro v246 w11 ho12 hb hg_ hnew_; clear hg_ hnew_; (first | rw [← Ny245.out] at ho12 | (simp only [Int.reduceToNat] at ho12; rw [← Ny245.out] at ho12)); have n0_ := Aside0.mk (Kd.R_lower ho12 (below_size (by repeat (first | (with_reducible first | exact HB.out | apply below_alloc | apply pw_below_drewN | apply below_drew1) | exact HB.out | exact below_undrew HB.out)))); have n1_ := Aside0.mk (below_step (by repeat (first | (with_reducible first | exact HB.out | apply below_alloc | apply pw_below_drewN | apply below_drew1) | exact HB.out | exact below_undrew HB.out)) hb); clear HB; have HO247 := n0_; have HB := n1_; clear n0_ n1_; clear hb ho12; obtain ⟨Ao13, co13, eo13⟩ := Kd.R_slice HO247.out; subst eo13) | ((with_reducible refine gate_callee (f := 4) rfl ?_); refine goesL_ (some 7) rfl rfl Tryd.func4 (by kernel_rfl) rfl #[.slice Ao13 y245.length co13] rfl (by (try simp only [List.map_toArray, List.map_cons, List.map_nil]); first | done | rfl | (simp only [List.length_drop, List.length_take]; rfl)) ?_; (with_reducible refine (order_Encode.calls k _ _ y245 t248 t249 _ ?side1 ?side2 A1.out).mono ?_); (case side1 => repeat (first | exact (Kd.R_reads' HO247.out).2.2 | (with_reducible refine Kd.C_alloc ?_ _) | (with_reducible refine Kd.C_drewN ?_ _) | (with_reducible refine Kd.C_drew ?_))); (case side2 => exact (Kd.R_reads' HO247.out).2.1); rintro e w14 ⟨rfl, hb⟩; refine ⟨_, rfl, ?_⟩; have n0_ := Aside0.mk (Kd.R_below (by (with_reducible repeat (first | apply Kd.R_alloc | apply Kd.R_drewN | apply Kd.R_drew)); exact HO247.out) hb); have n1_ := Aside0.mk (below_step (by repeat (first | (with_reducible first | exact HB.out | apply below_alloc | apply pw_below_drewN | apply below_drew1) | exact HB.out | exact below_undrew HB.out)) hb); clear HO247; clear HB; have HO247 := n0_; have HB := n1_; clear n0_ n1_; (try clear hb); (try clear hb2); (try clear hk); (try clear hi); (try simp only [errW_none, errW_some])))
    go_ret
    exact ⟨by first | rfl | (simp [errW_none, errW_some] <;> rfl) | (simp [*, errW_none, errW_some] <;> rfl), by repeat (first | (with_reducible first | exact HB.out | apply below_alloc | apply pw_below_drewN | apply below_drew1) | exact HB.out | exact below_undrew HB.out)⟩

end Go.Proofs.YtcchjnadhjeniaaDoor.XAll
