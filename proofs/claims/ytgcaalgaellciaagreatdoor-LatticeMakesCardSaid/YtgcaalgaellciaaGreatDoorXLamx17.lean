/- Printed by this session's program (wip/print) out of the translation, for the statement named in the file's name. -/
import Derived.Test.YtgcaalgaellciaaGreatDoorXLamx0
import Derived.Test.YtgcaalgaellciaaGreatDoorXLamx1
import Derived.Test.YtgcaalgaellciaaGreatDoorXLamx2
import Derived.Test.YtgcaalgaellciaaGreatDoorXLamx3
import Derived.Test.YtgcaalgaellciaaGreatDoorXLamx10
import Derived.Test.YtgcaalgaellciaaGreatDoorXLamx13
import Derived.Test.YtgcaalgaellciaaGreatDoorXLamx14
import Derived.Test.YtgcaalgaellciaaGreatDoorXLamx16
/- Printed by this session's program (wip/print) out of the translation, for the statement named in the file's name. -/
namespace Go.Proofs.YtgcaalgaellciaaGreatDoor.XLam
open Go.RowKit Go.Proofs.YtgcaalgaellciaaGreatDoorW.PrintWords Go.Proofs.YtgcaalgaellciaaGreatDoorW.PrintLast Go.Proofs.YtgcaalgaellciaaGreatDoorW.PrintMore Go.Proofs.YtgcaalgaellciaaGreatDoor.Both
attribute [local go_sem] str_gtr str_leq str_geq max2_int min2_int max_two min_two max_three min_three max_four min_four   -- for this text's walks alone
set_option linter.unusedVariables false
set_option linter.unusedSimpArgs false
set_option linter.unnecessarySimpa false

/-! ### lattice_Lattice_Find: function 14 (by hand) -/
/- behind lattice_New.f -/
def latWf (a0 a1 : Int) : Bool := (Lit.int .i64 a0).wf && (Lit.int .u32 a1).wf
def latFound : Option Nat → Int × Option Int
  | none => (0, some 8)
  | some i => ((i : Int), none)
def lattice_Lattice_Find.f (l0 : List S37) (a0 a1 : Int) : Option (Int × Option Int) := if latWf a0 a1 = true then some (latFound (latPos l0 ⟨a0, a1⟩)) else none
set_option maxHeartbeats 8000000 in
set_option maxRecDepth 100000 in
theorem lattice_Lattice_Find.calls (A0 : Option Addr) (l0 : List S37) (a1_0 a1_1 : Int) (r1 : Int) (r2 : Option Int) (w : World) (hr0 : Kd.OC w A0 l0) (hc0 : True) (h : lattice_Lattice_Find.f l0 a1_0 a1_1 = some (r1, r2)) :
    Calls Tryz.prog 14 #[.pointer A0, .agg #[.int .i64 a1_0, .int .u32 a1_1]] w fun e w' => e = .returned (.tuple #[.int .i64 r1, errW r2]) ∧ Below w.heap.size w w' := by
  have hu := Tryz.underlying66
  have hul := Tryz.underlying37
  unfold lattice_Lattice_Find.f at h
  by_cases hw : latWf a1_0 a1_1 = true
  case neg => rw [if_neg hw] at h; cases h
  rw [if_pos hw] at h
  have hwf0 : LatWf (⟨a1_0, a1_1⟩ : S37) := by
    unfold latWf at hw
    rw [Bool.and_eq_true] at hw
    exact hw
  clear hc0 hw
  rcases hr0 with ⟨rfl, rfl⟩ | ⟨g, A1, c, m, n, rfl, hne, h16, hwf, hc0, hc1, hlc, hC, hown⟩
  · injection h with h
    injection h with h1 h2
    subst h1 h2
    rw [errW_some]
    go_enter Tryz.func14, Tryz.ntmps14
    go_wp2_with ((with_reducible refine gate_dst (N := 3) rfl ?_); refine box_event ?hg (N := 3) ?hd (cs := #[.int .i64 a1_0, .int .u32 a1_1]) (t := 37) ?hr ?_; (case hd => rfl); (case hg => rfl); (case hr => first | (go_simp; done) | (go_simp; rfl)); intro gb hg w1 hbox hb; have HB := Aside0.mk hb; clear hb hbox hg)
    go_ret2
    exact ⟨rfl, HB.out⟩
  · have hkey := lat_key ⟨a1_0, a1_1⟩ hwf0
    obtain ⟨hcp, hca⟩ := latD_pos l0 hwf ⟨a1_0, a1_1⟩ hwf0
    have HOW := Aside0.mk hown
    clear hown hC hlc hwf h16 hne hc0
    go_enter Tryz.func14, Tryz.ntmps14
    go_wp2_with ((with_reducible refine gate_dst (N := 3) rfl ?_); refine box_event ?hg (N := 3) ?hd (cs := #[.int .i64 a1_0, .int .u32 a1_1]) (t := 37) ?hr ?_; (case hd => rfl); (case hg => rfl); (case hr => first | (go_simp; done) | (go_simp; rfl)); intro gb hg w1 hbox hb; have HB := Aside0.mk hb; have BK := Aside0.mk hbox; have C3 := (lat_own_step HOW.out (hb.block m (lat_own_lt HOW.out))).drew; replace hc1 := (hb.cell (World.block_lt_of_cell? w _ hc1)).trans hc1; clear hb hbox hg)
    have zg1 : w1.drew.cell? ⟨g, 1, none⟩ = some (.map (some m)) := hc1
    have zt0 : w1.drew.cell? ⟨gb, 0, none⟩ = some (.int .i64 a1_0) := (blk_cell BK.out 0).trans rfl
    have zt1 : w1.drew.cell? ⟨gb, 1, none⟩ = some (.int .u32 a1_1) := (blk_cell BK.out 1).trans rfl
    obtain ⟨vv, ps, hlk, hvv⟩ := C3.look_ok lat_law Tryz.underlying64 (lat_zero _) (plainElem_int Tryz.underlying3 (by decide)) hkey
    obtain ⟨cc1, rfl, hcc, hwc⟩ := plainElem_int_inv Tryz.underlying3 hvv
    rw [hca] at hcc
    cases hp : latPos l0 ⟨a1_0, a1_1⟩ with
    | some i =>
      rw [hp] at h hcc
      rw [hcp, hp] at hlk
      simp only [Option.isSome_some] at hlk
      have hci : cc1 = (i : Int) := by
        simp only [Option.getD_some, Prod.mk.injEq, DataW.lit.injEq, Lit.int.injEq, true_and] at hcc
        exact hcc.1.symm
      injection h with h
      injection h with h1 h2
      subst h1 h2
      clear hca hcp hcc hwc
      refine start_ (n := 11) (S := fun w' => w'.cell? ⟨g, 1, none⟩ = some (.map (some m)) ∧ w'.cell? ⟨gb, 0, none⟩ = some (.int .i64 a1_0) ∧ w'.cell? ⟨gb, 1, none⟩ = some (.int .u32 a1_1) ∧ (Instr.lookup 64 (.map (some m)) (.agg #[.int .i64 a1_0, .int .u32 a1_1]) true).run Tryz.prog w' = .ok (.tuple #[.int .i64 cc1, .bool true]) w') (ds := []) #[false, false, false, false, false, false, false, false, false, false, false] (by kernel_rfl) rfl rfl ⟨zg1, zt0, zt1, hlk⟩ (fun hHeld => ?_)
      refine pure_ (i := 0) (N := some 11) (v := ?_) (a' := ?_) #[true, false, false, false, false, false, false, false, false, false, false] rfl rfl (by kernel_rfl) (fun _ _ _ h => h) (Or.inl ⟨by rfl, ?_⟩) ?_ ?_
      rotate_left
      · intro w'
        go_simp
        with_reducible rfl
      rotate_left
      · simp only [Act.put, List.setIfInBounds_toArray, List.set_cons_zero, List.set_cons_succ, i64_w, i32_w]
        rfl
      refine pure_ (i := 1) (N := some 12) (v := ?_) (a' := ?_) #[true, true, false, false, false, false, false, false, false, false, false] rfl rfl (by kernel_rfl) (fun _ _ _ h => h) (Or.inl ⟨by rfl, ?_⟩) ?_ ?_
      rotate_left
      · intro w'
        go_simp
        with_reducible rfl
      rotate_left
      · simp only [Act.put, List.setIfInBounds_toArray, List.set_cons_zero, List.set_cons_succ, i64_w, i32_w]
        rfl
      refine pure_ (i := 2) (N := some 13) (v := ?_) (a' := ?_) #[true, true, true, false, false, false, false, false, false, false, false] rfl rfl (by kernel_rfl) (fun _ _ _ h => h) (Or.inl ⟨by rfl, ?_⟩) ?_ ?_
      rotate_left
      · intro w'
        go_simp
        with_reducible rfl
      rotate_left
      · simp only [Act.put, List.setIfInBounds_toArray, List.set_cons_zero, List.set_cons_succ, i64_w, i32_w]
        rfl
      refine take_ (i := 3) (N := some 14) (v := ?_) (a' := ?_) #[true, true, true, true, false, false, false, false, false, false, false] rfl rfl (by kernel_rfl) (fun _ _ _ h => h) (Or.inl ⟨by rfl, ?_⟩) hHeld ?_ ?_
      rotate_left
      · rintro w' ⟨s0, s1, s2, s3⟩
        go_simp
        with_reducible rfl
      rotate_left
      · simp only [Act.put, List.setIfInBounds_toArray, List.set_cons_zero, List.set_cons_succ, i64_w, i32_w]
        rfl
      refine take_ (i := 4) (N := some 15) (v := ?_) (a' := ?_) #[true, true, true, true, true, false, false, false, false, false, false] rfl rfl (by kernel_rfl) (fun _ _ _ h => h) (Or.inl ⟨by rfl, ?_⟩) hHeld ?_ ?_
      rotate_left
      · rintro w' ⟨s0, s1, s2, s3⟩
        go_simp
        with_reducible rfl
      rotate_left
      · simp only [Act.put, List.setIfInBounds_toArray, List.set_cons_zero, List.set_cons_succ, i64_w, i32_w]
        rfl
      refine take_ (i := 5) (N := some 16) (v := ?_) (a' := ?_) #[true, true, true, true, true, true, false, false, false, false, false] rfl rfl (by kernel_rfl) (fun _ _ _ h => h) (Or.inl ⟨by rfl, ?_⟩) hHeld ?_ ?_
      rotate_left
      · rintro w' ⟨s0, s1, s2, s3⟩
        go_simp
        with_reducible rfl
      rotate_left
      · simp only [Act.put, List.setIfInBounds_toArray, List.set_cons_zero, List.set_cons_succ, i64_w, i32_w]
        rfl
      refine pure_ (i := 6) (N := some 10) (v := ?_) (a' := ?_) #[true, true, true, true, true, true, true, false, false, false, false] rfl rfl (by kernel_rfl) (fun _ _ _ h => h) (Or.inl ⟨by rfl, ?_⟩) ?_ ?_
      rotate_left
      · intro w'
        go_simp
        with_reducible rfl
      rotate_left
      · simp only [Act.put, List.setIfInBounds_toArray, List.set_cons_zero, List.set_cons_succ, i64_w, i32_w]
        rfl
      refine pure_ (i := 7) (N := some 17) (v := ?_) (a' := ?_) #[true, true, true, true, true, true, true, true, false, false, false] rfl rfl (by kernel_rfl) (fun _ _ _ h => h) (Or.inl ⟨by rfl, ?_⟩) ?_ ?_
      rotate_left
      · intro w'
        go_simp
        with_reducible rfl
      rotate_left
      · simp only [Act.put, List.setIfInBounds_toArray, List.set_cons_zero, List.set_cons_succ, i64_w, i32_w]
        rfl
      refine pure_ (i := 8) (N := some 18) (v := ?_) (a' := ?_) #[true, true, true, true, true, true, true, true, true, false, false] rfl rfl (by kernel_rfl) (fun _ _ _ h => h) (Or.inl ⟨by rfl, ?_⟩) ?_ ?_
      rotate_left
      · intro w'
        go_simp
        with_reducible rfl
      rotate_left
      · simp only [Act.put, List.setIfInBounds_toArray, List.set_cons_zero, List.set_cons_succ, i64_w, i32_w]
        rfl
      refine pure_ (i := 9) (N := some 6) (v := ?_) (a' := ?_) #[true, true, true, true, true, true, true, true, true, true, false] rfl rfl (by kernel_rfl) (fun _ _ _ h => h) (Or.inl ⟨by rfl, ?_⟩) ?_ ?_
      rotate_left
      · intro w'
        go_simp
        with_reducible rfl
      rotate_left
      · simp only [Act.put, List.setIfInBounds_toArray, List.set_cons_zero, List.set_cons_succ, i64_w, i32_w]
        rfl
      refine pure_ (i := 10) (N := some 7) (v := ?_) (a' := ?_) #[true, true, true, true, true, true, true, true, true, true, true] rfl rfl (by kernel_rfl) (fun _ _ _ h => h) (Or.inl ⟨by rfl, ?_⟩) ?_ ?_
      rotate_left
      · intro w'
        go_simp
        with_reducible rfl
      rotate_left
      · simp only [Act.put, List.setIfInBounds_toArray, List.set_cons_zero, List.set_cons_succ, i64_w, i32_w]
        rfl
      refine done_ (by kernel_rfl) ?_
      go_wp2
      go_ret2
      rw [errW_none]
      exact ⟨rfl, below_drew1 HB.out⟩
    | none =>
      rw [hp] at h
      rw [hcp, hp] at hlk
      simp only [Option.isSome_none] at hlk
      injection h with h
      injection h with h1 h2
      subst h1 h2
      clear hca hcp hcc hwc
      refine start_ (n := 11) (S := fun w' => w'.cell? ⟨g, 1, none⟩ = some (.map (some m)) ∧ w'.cell? ⟨gb, 0, none⟩ = some (.int .i64 a1_0) ∧ w'.cell? ⟨gb, 1, none⟩ = some (.int .u32 a1_1) ∧ (Instr.lookup 64 (.map (some m)) (.agg #[.int .i64 a1_0, .int .u32 a1_1]) true).run Tryz.prog w' = .ok (.tuple #[.int .i64 cc1, .bool false]) w') (ds := []) #[false, false, false, false, false, false, false, false, false, false, false] (by kernel_rfl) rfl rfl ⟨zg1, zt0, zt1, hlk⟩ (fun hHeld => ?_)
      refine pure_ (i := 0) (N := some 11) (v := ?_) (a' := ?_) #[true, false, false, false, false, false, false, false, false, false, false] rfl rfl (by kernel_rfl) (fun _ _ _ h => h) (Or.inl ⟨by rfl, ?_⟩) ?_ ?_
      rotate_left
      · intro w'
        go_simp
        with_reducible rfl
      rotate_left
      · simp only [Act.put, List.setIfInBounds_toArray, List.set_cons_zero, List.set_cons_succ, i64_w, i32_w]
        rfl
      refine pure_ (i := 1) (N := some 12) (v := ?_) (a' := ?_) #[true, true, false, false, false, false, false, false, false, false, false] rfl rfl (by kernel_rfl) (fun _ _ _ h => h) (Or.inl ⟨by rfl, ?_⟩) ?_ ?_
      rotate_left
      · intro w'
        go_simp
        with_reducible rfl
      rotate_left
      · simp only [Act.put, List.setIfInBounds_toArray, List.set_cons_zero, List.set_cons_succ, i64_w, i32_w]
        rfl
      refine pure_ (i := 2) (N := some 13) (v := ?_) (a' := ?_) #[true, true, true, false, false, false, false, false, false, false, false] rfl rfl (by kernel_rfl) (fun _ _ _ h => h) (Or.inl ⟨by rfl, ?_⟩) ?_ ?_
      rotate_left
      · intro w'
        go_simp
        with_reducible rfl
      rotate_left
      · simp only [Act.put, List.setIfInBounds_toArray, List.set_cons_zero, List.set_cons_succ, i64_w, i32_w]
        rfl
      refine take_ (i := 3) (N := some 14) (v := ?_) (a' := ?_) #[true, true, true, true, false, false, false, false, false, false, false] rfl rfl (by kernel_rfl) (fun _ _ _ h => h) (Or.inl ⟨by rfl, ?_⟩) hHeld ?_ ?_
      rotate_left
      · rintro w' ⟨s0, s1, s2, s3⟩
        go_simp
        with_reducible rfl
      rotate_left
      · simp only [Act.put, List.setIfInBounds_toArray, List.set_cons_zero, List.set_cons_succ, i64_w, i32_w]
        rfl
      refine take_ (i := 4) (N := some 15) (v := ?_) (a' := ?_) #[true, true, true, true, true, false, false, false, false, false, false] rfl rfl (by kernel_rfl) (fun _ _ _ h => h) (Or.inl ⟨by rfl, ?_⟩) hHeld ?_ ?_
      rotate_left
      · rintro w' ⟨s0, s1, s2, s3⟩
        go_simp
        with_reducible rfl
      rotate_left
      · simp only [Act.put, List.setIfInBounds_toArray, List.set_cons_zero, List.set_cons_succ, i64_w, i32_w]
        rfl
      refine take_ (i := 5) (N := some 16) (v := ?_) (a' := ?_) #[true, true, true, true, true, true, false, false, false, false, false] rfl rfl (by kernel_rfl) (fun _ _ _ h => h) (Or.inl ⟨by rfl, ?_⟩) hHeld ?_ ?_
      rotate_left
      · rintro w' ⟨s0, s1, s2, s3⟩
        go_simp
        with_reducible rfl
      rotate_left
      · simp only [Act.put, List.setIfInBounds_toArray, List.set_cons_zero, List.set_cons_succ, i64_w, i32_w]
        rfl
      refine pure_ (i := 6) (N := some 10) (v := ?_) (a' := ?_) #[true, true, true, true, true, true, true, false, false, false, false] rfl rfl (by kernel_rfl) (fun _ _ _ h => h) (Or.inl ⟨by rfl, ?_⟩) ?_ ?_
      rotate_left
      · intro w'
        go_simp
        with_reducible rfl
      rotate_left
      · simp only [Act.put, List.setIfInBounds_toArray, List.set_cons_zero, List.set_cons_succ, i64_w, i32_w]
        rfl
      refine pure_ (i := 7) (N := some 17) (v := ?_) (a' := ?_) #[true, true, true, true, true, true, true, true, false, false, false] rfl rfl (by kernel_rfl) (fun _ _ _ h => h) (Or.inl ⟨by rfl, ?_⟩) ?_ ?_
      rotate_left
      · intro w'
        go_simp
        with_reducible rfl
      rotate_left
      · simp only [Act.put, List.setIfInBounds_toArray, List.set_cons_zero, List.set_cons_succ, i64_w, i32_w]
        rfl
      refine pure_ (i := 8) (N := some 18) (v := ?_) (a' := ?_) #[true, true, true, true, true, true, true, true, true, false, false] rfl rfl (by kernel_rfl) (fun _ _ _ h => h) (Or.inl ⟨by rfl, ?_⟩) ?_ ?_
      rotate_left
      · intro w'
        go_simp
        with_reducible rfl
      rotate_left
      · simp only [Act.put, List.setIfInBounds_toArray, List.set_cons_zero, List.set_cons_succ, i64_w, i32_w]
        rfl
      refine pure_ (i := 9) (N := some 6) (v := ?_) (a' := ?_) #[true, true, true, true, true, true, true, true, true, true, false] rfl rfl (by kernel_rfl) (fun _ _ _ h => h) (Or.inl ⟨by rfl, ?_⟩) ?_ ?_
      rotate_left
      · intro w'
        go_simp
        with_reducible rfl
      rotate_left
      · simp only [Act.put, List.setIfInBounds_toArray, List.set_cons_zero, List.set_cons_succ, i64_w, i32_w]
        rfl
      refine pure_ (i := 10) (N := some 7) (v := ?_) (a' := ?_) #[true, true, true, true, true, true, true, true, true, true, true] rfl rfl (by kernel_rfl) (fun _ _ _ h => h) (Or.inl ⟨by rfl, ?_⟩) ?_ ?_
      rotate_left
      · intro w'
        go_simp
        with_reducible rfl
      rotate_left
      · simp only [Act.put, List.setIfInBounds_toArray, List.set_cons_zero, List.set_cons_succ, i64_w, i32_w]
        rfl
      refine done_ (by kernel_rfl) ?_
      go_wp2
      go_ret2
      rw [errW_some]
      exact ⟨rfl, below_drew1 HB.out⟩

end Go.Proofs.YtgcaalgaellciaaGreatDoor.XLam
namespace Go.Proofs.YtgcaalgaellciaaGreatDoor.XLam
open Go.RowKit Go.Proofs.YtgcaalgaellciaaGreatDoorW.PrintWords Go.Proofs.YtgcaalgaellciaaGreatDoorW.PrintLast Go.Proofs.YtgcaalgaellciaaGreatDoorW.PrintMore Go.Proofs.YtgcaalgaellciaaGreatDoor.Both
attribute [local go_sem] eqGuard_ptr str_gtr str_leq str_geq max2_int min2_int max_two min_two max_three min_three max_four min_four   -- for this text's walks alone
set_option linter.unusedVariables false
set_option linter.unusedSimpArgs false
set_option linter.unnecessarySimpa false

attribute [local go_sem high] eqA37
/-! ### barbicanlaw02_LatticeMakes: function 4 -/
mutual
def barbicanlaw02_LatticeMakes.j0 : Nat → List (S37) → Int → List (S37) → List (S37) → Option Int → Int → Bool → Int → Int → Option (Bool)
  | 0, _, _, _, _, _, _, _, _, _ => none
  | k + 1, x0, x2, x7, x8, x9, x10, x36, x141000, x141001 => if x36 = true then ((barbicanlaw02_num.f x9).bind fun t150 => (if t150 = x10 then (if x8.isEmpty = true then ((barbicanlaw02_sure.f k).bind fun t151 => (some t151)) else (some false)) else (some false))) else (barbicanlaw02_LatticeMakes.l0 k x0 x2 x7 x8 0 x141000 x141001)
def barbicanlaw02_LatticeMakes.l0 : Nat → List (S37) → Int → List (S37) → List (S37) → Int → Int → Int → Option (Bool)
  | 0, _, _, _, _, _, _, _ => none
  | k + 1, x0, x2, x7, x8, x11, x141000, x141001 => if x11 < (x7.length : Int) then (if 0 ≤ x11 then (if x11 < (x0.length : Int) then (if (!(((rd_T37 x7 x11).f0) == ((rd_T37 x0 x11).f0)) || (!(((rd_T37 x7 x11).f1) == ((rd_T37 x0 x11).f1)))) = true then (some false) else (barbicanlaw02_LatticeMakes.l0 k x0 x2 (x7.set (x11 : Int).toNat (⟨(-4321), 0⟩ : S37)) x8 (wrap64 (x11 + 1)) x141000 x141001)) else (none)) else (none)) else ((lattice_Lattice_Find.f x8 x141000 x141001).bind fun bt155 => ((barbicanref02_Find.f k x0 x141000 x141001).bind fun bt157 => ((lattice_Lattice_Label.f x8 x2).bind fun bt159 => (if x2 ≥ 0 then (barbicanlaw02_LatticeMakes.j2 k x0 x2 x8 bt155.1 bt155.2 bt157.1 bt157.2 bt159.2.2 (decide (x2 < (x0.length : Int))) bt159.1 bt159.2.1) else (barbicanlaw02_LatticeMakes.j2 k x0 x2 x8 bt155.1 bt155.2 bt157.1 bt157.2 bt159.2.2 false bt159.1 bt159.2.1)))))
def barbicanlaw02_LatticeMakes.j2 : Nat → List (S37) → Int → List (S37) → Int → Option Int → Int → Int → Option Int → Bool → Int → Int → Option (Bool)
  | 0, _, _, _, _, _, _, _, _, _, _, _ => none
  | k + 1, x0, x2, x8, x12, x13, x14, x15, x17, x92, x163000, x163001 => if x92 = true then (if 0 ≤ x2 then (if x2 < (x0.length : Int) then (if (!(x163000 == ((rd_T37 x0 x2).f0)) || (!(x163001 == ((rd_T37 x0 x2).f1)))) = true then (some false) else (if x17.isNone = true then (barbicanlaw02_LatticeMakes.j3 k x0 x8 x12 x13 x14 x15) else (some false))) else (none)) else (none)) else ((barbicanlaw02_num.f x17).bind fun t165 => (if t165 = 1 then (if (!(x163000 == 0) || (!(x163001 == 0))) = true then (some false) else (barbicanlaw02_LatticeMakes.j3 k x0 x8 x12 x13 x14 x15)) else (some false)))
def barbicanlaw02_LatticeMakes.j3 : Nat → List (S37) → List (S37) → Int → Option Int → Int → Int → Option (Bool)
  | 0, _, _, _, _, _, _ => none
  | k + 1, x0, x8, x12, x13, x14, x15 => (lattice_Lattice_Len.f x8).bind fun t166 => (if t166 = (x0.length : Int) then (if x12 = x14 then ((barbicanlaw02_num.f x13).bind fun t167 => (if t167 = x15 then ((lattice_Lattice_Text.f x8).bind fun t168 => ((barbicanref02_Text.f k x0).bind fun t169 => (if t168.toList = t169.toList then ((barbicanlaw02_sure.f k).bind fun t170 => (some t170)) else (some false)))) else (some false))) else (some false)) else (some false))
end
def barbicanlaw02_LatticeMakes.f (k : Nat) (l0 : List (S37)) (a1_0 : Int) (a1_1 : Int) (a2 : Int) : Option (Bool) := (barbicanlaw02_twin.f l0).bind fun t141 => ((lattice_New.f t141).bind fun bt144 => ((barbicanref02_New.f k l0).bind fun t148 => (if t148 = 0 then (if bt144.2.isNone = true then (barbicanlaw02_LatticeMakes.j0 k l0 a2 t141 bt144.1 none t148 ((bt144.1).isEmpty) a1_0 a1_1) else (barbicanlaw02_LatticeMakes.j0 k l0 a2 t141 bt144.1 (some (bt144.2.getD 0)) t148 true a1_0 a1_1)) else (barbicanlaw02_LatticeMakes.j0 k l0 a2 t141 bt144.1 bt144.2 t148 true a1_0 a1_1))))
theorem barbicanlaw02_LatticeMakes.mono_l : ∀ k, (∀ y0 y1 y2 y3 y4 y5 y6 y7 y8, LeO (barbicanlaw02_LatticeMakes.j0 k y0 y1 y2 y3 y4 y5 y6 y7 y8) (barbicanlaw02_LatticeMakes.j0 (k + 1) y0 y1 y2 y3 y4 y5 y6 y7 y8)) ∧ (∀ y0 y1 y2 y3 y4 y5 y6, LeO (barbicanlaw02_LatticeMakes.l0 k y0 y1 y2 y3 y4 y5 y6) (barbicanlaw02_LatticeMakes.l0 (k + 1) y0 y1 y2 y3 y4 y5 y6)) ∧ (∀ y0 y1 y2 y3 y4 y5 y6 y7 y8 y9 y10, LeO (barbicanlaw02_LatticeMakes.j2 k y0 y1 y2 y3 y4 y5 y6 y7 y8 y9 y10) (barbicanlaw02_LatticeMakes.j2 (k + 1) y0 y1 y2 y3 y4 y5 y6 y7 y8 y9 y10)) ∧ (∀ y0 y1 y2 y3 y4 y5, LeO (barbicanlaw02_LatticeMakes.j3 k y0 y1 y2 y3 y4 y5) (barbicanlaw02_LatticeMakes.j3 (k + 1) y0 y1 y2 y3 y4 y5))
  | 0 => ⟨fun _ _ _ _ _ _ _ _ _ r h => by simp [barbicanlaw02_LatticeMakes.j0] at h, fun _ _ _ _ _ _ _ r h => by simp [barbicanlaw02_LatticeMakes.l0] at h, fun _ _ _ _ _ _ _ _ _ _ _ r h => by simp [barbicanlaw02_LatticeMakes.j2] at h, fun _ _ _ _ _ _ r h => by simp [barbicanlaw02_LatticeMakes.j3] at h⟩
  | k + 1 => by
    obtain ⟨ih0, ih1, ih2, ih3⟩ := barbicanlaw02_LatticeMakes.mono_l k
    refine ⟨?_, ?_, ?_, ?_⟩
    · intro y0 y1 y2 y3 y4 y5 y6 y7 y8
      unfold barbicanlaw02_LatticeMakes.j0
      repeat' first
      | (with_reducible exact ih0 _ _ _ _ _ _ _ _ _)
      | (with_reducible exact ih1 _ _ _ _ _ _ _)
      | (with_reducible exact ih2 _ _ _ _ _ _ _ _ _ _ _)
      | (with_reducible exact ih3 _ _ _ _ _ _)
      | (with_reducible exact barbicanlaw02_sure.mono _)
      | (with_reducible exact barbicanref02_Find.mono _ _ _ _)
      | (with_reducible exact barbicanref02_New.mono _ _)
      | (with_reducible exact barbicanref02_Text.mono _ _)
      | (with_reducible exact LeO.refl _)
      | (with_reducible exact LeO.none _)
      | (with_reducible refine LeO.ite ?_ ?_)
      | (with_reducible refine LeO.bind ?_ (fun _ => ?_))
      | exact ih0 _ _ _ _ _ _ _ _ _
      | exact ih1 _ _ _ _ _ _ _
      | exact ih2 _ _ _ _ _ _ _ _ _ _ _
      | exact ih3 _ _ _ _ _ _
      | exact barbicanlaw02_sure.mono _
      | exact barbicanref02_Find.mono _ _ _ _
      | exact barbicanref02_New.mono _ _
      | exact barbicanref02_Text.mono _ _
      | exact LeO.none _
      | refine LeO.ite ?_ ?_
      | refine LeO.bind ?_ (fun _ => ?_)
    · intro y0 y1 y2 y3 y4 y5 y6
      unfold barbicanlaw02_LatticeMakes.l0
      repeat' first
      | (with_reducible exact ih0 _ _ _ _ _ _ _ _ _)
      | (with_reducible exact ih1 _ _ _ _ _ _ _)
      | (with_reducible exact ih2 _ _ _ _ _ _ _ _ _ _ _)
      | (with_reducible exact ih3 _ _ _ _ _ _)
      | (with_reducible exact barbicanlaw02_sure.mono _)
      | (with_reducible exact barbicanref02_Find.mono _ _ _ _)
      | (with_reducible exact barbicanref02_New.mono _ _)
      | (with_reducible exact barbicanref02_Text.mono _ _)
      | (with_reducible exact LeO.refl _)
      | (with_reducible exact LeO.none _)
      | (with_reducible refine LeO.ite ?_ ?_)
      | (with_reducible refine LeO.bind ?_ (fun _ => ?_))
      | exact ih0 _ _ _ _ _ _ _ _ _
      | exact ih1 _ _ _ _ _ _ _
      | exact ih2 _ _ _ _ _ _ _ _ _ _ _
      | exact ih3 _ _ _ _ _ _
      | exact barbicanlaw02_sure.mono _
      | exact barbicanref02_Find.mono _ _ _ _
      | exact barbicanref02_New.mono _ _
      | exact barbicanref02_Text.mono _ _
      | exact LeO.none _
      | refine LeO.ite ?_ ?_
      | refine LeO.bind ?_ (fun _ => ?_)
    · intro y0 y1 y2 y3 y4 y5 y6 y7 y8 y9 y10
      unfold barbicanlaw02_LatticeMakes.j2
      repeat' first
      | (with_reducible exact ih0 _ _ _ _ _ _ _ _ _)
      | (with_reducible exact ih1 _ _ _ _ _ _ _)
      | (with_reducible exact ih2 _ _ _ _ _ _ _ _ _ _ _)
      | (with_reducible exact ih3 _ _ _ _ _ _)
      | (with_reducible exact barbicanlaw02_sure.mono _)
      | (with_reducible exact barbicanref02_Find.mono _ _ _ _)
      | (with_reducible exact barbicanref02_New.mono _ _)
      | (with_reducible exact barbicanref02_Text.mono _ _)
      | (with_reducible exact LeO.refl _)
      | (with_reducible exact LeO.none _)
      | (with_reducible refine LeO.ite ?_ ?_)
      | (with_reducible refine LeO.bind ?_ (fun _ => ?_))
      | exact ih0 _ _ _ _ _ _ _ _ _
      | exact ih1 _ _ _ _ _ _ _
      | exact ih2 _ _ _ _ _ _ _ _ _ _ _
      | exact ih3 _ _ _ _ _ _
      | exact barbicanlaw02_sure.mono _
      | exact barbicanref02_Find.mono _ _ _ _
      | exact barbicanref02_New.mono _ _
      | exact barbicanref02_Text.mono _ _
      | exact LeO.none _
      | refine LeO.ite ?_ ?_
      | refine LeO.bind ?_ (fun _ => ?_)
    · intro y0 y1 y2 y3 y4 y5
      unfold barbicanlaw02_LatticeMakes.j3
      repeat' first
      | (with_reducible exact ih0 _ _ _ _ _ _ _ _ _)
      | (with_reducible exact ih1 _ _ _ _ _ _ _)
      | (with_reducible exact ih2 _ _ _ _ _ _ _ _ _ _ _)
      | (with_reducible exact ih3 _ _ _ _ _ _)
      | (with_reducible exact barbicanlaw02_sure.mono _)
      | (with_reducible exact barbicanref02_Find.mono _ _ _ _)
      | (with_reducible exact barbicanref02_New.mono _ _)
      | (with_reducible exact barbicanref02_Text.mono _ _)
      | (with_reducible exact LeO.refl _)
      | (with_reducible exact LeO.none _)
      | (with_reducible refine LeO.ite ?_ ?_)
      | (with_reducible refine LeO.bind ?_ (fun _ => ?_))
      | exact ih0 _ _ _ _ _ _ _ _ _
      | exact ih1 _ _ _ _ _ _ _
      | exact ih2 _ _ _ _ _ _ _ _ _ _ _
      | exact ih3 _ _ _ _ _ _
      | exact barbicanlaw02_sure.mono _
      | exact barbicanref02_Find.mono _ _ _ _
      | exact barbicanref02_New.mono _ _
      | exact barbicanref02_Text.mono _ _
      | exact LeO.none _
      | refine LeO.ite ?_ ?_
      | refine LeO.bind ?_ (fun _ => ?_)
theorem barbicanlaw02_LatticeMakes.mono : ∀ a0 a1 a2 a3 k, LeO (barbicanlaw02_LatticeMakes.f k a0 a1 a2 a3) (barbicanlaw02_LatticeMakes.f (k + 1) a0 a1 a2 a3) := by
  intro a0 a1 a2 a3 k
  obtain ⟨ih0, ih1, ih2, ih3⟩ := barbicanlaw02_LatticeMakes.mono_l k
  unfold barbicanlaw02_LatticeMakes.f
  repeat' first
      | (with_reducible exact ih0 _ _ _ _ _ _ _ _ _)
      | (with_reducible exact ih1 _ _ _ _ _ _ _)
      | (with_reducible exact ih2 _ _ _ _ _ _ _ _ _ _ _)
      | (with_reducible exact ih3 _ _ _ _ _ _)
      | (with_reducible exact barbicanlaw02_sure.mono _)
      | (with_reducible exact barbicanref02_Find.mono _ _ _ _)
      | (with_reducible exact barbicanref02_New.mono _ _)
      | (with_reducible exact barbicanref02_Text.mono _ _)
      | (with_reducible exact LeO.refl _)
      | (with_reducible exact LeO.none _)
      | (with_reducible refine LeO.ite ?_ ?_)
      | (with_reducible refine LeO.bind ?_ (fun _ => ?_))
      | exact ih0 _ _ _ _ _ _ _ _ _
      | exact ih1 _ _ _ _ _ _ _
      | exact ih2 _ _ _ _ _ _ _ _ _ _ _
      | exact ih3 _ _ _ _ _ _
      | exact barbicanlaw02_sure.mono _
      | exact barbicanref02_Find.mono _ _ _ _
      | exact barbicanref02_New.mono _ _
      | exact barbicanref02_Text.mono _ _
      | exact LeO.none _
      | refine LeO.ite ?_ ?_
      | refine LeO.bind ?_ (fun _ => ?_)
set_option maxHeartbeats 40000000 in
set_option maxRecDepth 100000 in
theorem barbicanlaw02_LatticeMakes.calls (k : Nat) (A0 : Option Addr) (c0 : Nat) (l0 : List (S37)) (a1_0 : Int) (a1_1 : Int) (a2 : Int) (r : Bool) (w : World) (hr0 : Kd.C k37 w A0 l0.length l0) (hc0 : l0.length ≤ c0) (hG : GE w) (h : barbicanlaw02_LatticeMakes.f k l0 a1_0 a1_1 a2 = some r) (hT : Aside0 (r = true)) :
    Calls Tryz.prog 4 #[.slice A0 l0.length c0, .agg #[.int .i64 a1_0, .int .u32 a1_1], .int .i64 a2] w fun e w' => e = .returned (.bool r) ∧ Below w.heap.size w w' := by
  have hu37 := Tryz.underlying37
  have hu24 := Tryz.underlying24
  have hu53 := Tryz.underlying53
  have HR0 := Aside0.mk hr0
  have HC0 := Aside0.mk hc0
  clear hr0 hc0
  have HG := Aside0.mk hG
  clear hG
  have HB := Aside0.mk (Below.refl w.heap.size w)
  have H : ((barbicanlaw02_twin.f l0).bind fun t141 => ((lattice_New.f t141).bind fun bt144 => ((barbicanref02_New.f k l0).bind fun t148 => (if t148 = 0 then (if bt144.2.isNone = true then (barbicanlaw02_LatticeMakes.j0 k l0 a2 t141 bt144.1 none t148 ((bt144.1).isEmpty) a1_0 a1_1) else (barbicanlaw02_LatticeMakes.j0 k l0 a2 t141 bt144.1 (some (bt144.2.getD 0)) t148 true a1_0 a1_1)) else (barbicanlaw02_LatticeMakes.j0 k l0 a2 t141 bt144.1 bt144.2 t148 true a1_0 a1_1))))) = some r := h
  clear h
  replace H := Option.bind_eq_some_iff.mp H
  obtain ⟨t141, A40, H⟩ := H
  replace H : ((lattice_New.f t141).bind fun bt144 => ((barbicanref02_New.f k l0).bind fun t148 => (if t148 = 0 then (if bt144.2.isNone = true then (barbicanlaw02_LatticeMakes.j0 k l0 a2 t141 bt144.1 none t148 ((bt144.1).isEmpty) a1_0 a1_1) else (barbicanlaw02_LatticeMakes.j0 k l0 a2 t141 bt144.1 (some (bt144.2.getD 0)) t148 true a1_0 a1_1)) else (barbicanlaw02_LatticeMakes.j0 k l0 a2 t141 bt144.1 bt144.2 t148 true a1_0 a1_1)))) = some r := H
  have A4 := Aside0.mk A40
  clear A40
  replace H := Option.bind_eq_some_iff.mp H
  obtain ⟨⟨t144, t145⟩, A50, H⟩ := H
  replace H : ((barbicanref02_New.f k l0).bind fun t148 => (if t148 = 0 then (if t145.isNone = true then (barbicanlaw02_LatticeMakes.j0 k l0 a2 t141 t144 none t148 ((t144).isEmpty) a1_0 a1_1) else (barbicanlaw02_LatticeMakes.j0 k l0 a2 t141 t144 (some (t145.getD 0)) t148 true a1_0 a1_1)) else (barbicanlaw02_LatticeMakes.j0 k l0 a2 t141 t144 t145 t148 true a1_0 a1_1))) = some r := H
  have A5 := Aside0.mk A50
  clear A50
  replace H := Option.bind_eq_some_iff.mp H
  obtain ⟨t148, A60, H⟩ := H
  replace H : (if t148 = 0 then (if t145.isNone = true then (barbicanlaw02_LatticeMakes.j0 k l0 a2 t141 t144 none t148 ((t144).isEmpty) a1_0 a1_1) else (barbicanlaw02_LatticeMakes.j0 k l0 a2 t141 t144 (some (t145.getD 0)) t148 true a1_0 a1_1)) else (barbicanlaw02_LatticeMakes.j0 k l0 a2 t141 t144 t145 t148 true a1_0 a1_1)) = some r := H
  have A6 := Aside0.mk A60
  clear A60
  have HC7 := Aside0.mk H
  clear H
  go_enter Tryz.func4, Tryz.ntmps4
  go_upto_region 4 with (first | ((with_reducible refine gate_dst (N := 4) rfl ?_); (try (refine gate_guard (by rfl) ?_; dsimp only)); refine box_event ?hg (N := 4) ?hd (cs := #[.int .i64 a1_0, .int .u32 a1_1]) (t := 37) ?hr ?_; (case hd => rfl); (case hg => rfl); (case hr => first | (go_simp; done) | (go_simp; rfl)); intro gb140 hg w8 hbox hb; have n0_ := Aside0.mk (below_step (by repeat (first | (with_reducible first | exact HB.out | apply below_alloc | apply pw_below_drewN | apply below_drew1) | exact HB.out | exact below_undrew HB.out)) hb); have n1_ := Aside0.mk (hbox); have n2_ := Aside0.mk ((by rw [hg]; exact (below_size (by repeat (first | (with_reducible first | exact HB.out | apply below_alloc | apply pw_below_drewN | apply below_drew1) | exact HB.out | exact below_undrew HB.out))) : w.heap.size ≤ gb140)); have n3_ := Aside0.mk ((by rw [hg]; exact (below_size (by repeat (first | (with_reducible first | exact HB.out | apply below_alloc | apply pw_below_drewN | apply below_drew1) | exact HB.out | exact below_undrew HB.out))) : w.heap.size ≤ gb140)); clear HB; have HB := n0_; have BK140 := n1_; have GW140 := n2_; have GE140 := n3_; clear n0_ n1_ n2_ n3_; clear hb hbox hg) | (go_at_call 11; (with_reducible refine (barbicanlaw02_twin.calls _ _ l0 t141 _ ?side1 ?side2 A4.out).mono ?_); (case side1 => repeat (first | exact (Kd.C_below HR0.out HB.out) | (with_reducible refine Kd.C_alloc ?_ _) | (with_reducible refine Kd.C_drewN ?_ _) | (with_reducible refine Kd.C_drew ?_))); (case side2 => exact HC0.out); rintro e w9 ⟨v142, rfl, ho0, hb⟩; have n0_ := Aside0.mk (Kd.R_lower (Kd.R_newB ho0 (g := gb140) (o := .cells #[.int .i64 a1_0, .int .u32 a1_1] 37 (0, 0)) (by (with_reducible repeat (first | refine blk_drewN ?_ _ | refine blk_drew ?_ | refine blk_alloc ?_ _)); exact BK140.out)) (below_size (by repeat (first | (with_reducible first | exact HB.out | apply below_alloc | apply pw_below_drewN | apply below_drew1 | refine below_set ?_ GE140.out) | exact HB.out | exact below_undrew HB.out)))); have n1_ := Aside0.mk (blk_below (g := gb140) (o := .cells #[.int .i64 a1_0, .int .u32 a1_1] 37 (0, 0)) (by (with_reducible repeat (first | refine blk_drewN ?_ _ | refine blk_drew ?_ | refine blk_alloc ?_ _)); exact BK140.out) hb); have n2_ := Aside0.mk (below_step (by repeat (first | (with_reducible first | exact HB.out | apply below_alloc | apply pw_below_drewN | apply below_drew1 | refine below_set ?_ GE140.out) | exact HB.out | exact below_undrew HB.out)) hb); clear BK140; clear HB; have HO143 := n0_; have BK140 := n1_; have HB := n2_; clear n0_ n1_ n2_; (try clear hb); (try clear hb2); (try clear hk); (try clear hi); (try clear ho0); obtain ⟨Ao10, co10, eo10⟩ := Kd.R_slice HO143.out; subst eo10) | (go_at_call 12; (with_reducible refine (lattice_New.calls _ _ t141 t144 t145 _ ?side1 ?side2 A5.out).mono ?_); (case side1 => repeat (first | exact (Kd.R_reads' HO143.out).2.2 | (with_reducible refine Kd.C_alloc ?_ _) | (with_reducible refine Kd.C_drewN ?_ _) | (with_reducible refine Kd.C_drew ?_))); (case side2 => exact (Kd.R_reads' HO143.out).2.1); rintro e w11 ⟨v146, rfl, ho0, hb⟩; have n0_ := Aside0.mk (Kd.R_below (by (with_reducible repeat (first | apply Kd.R_alloc | apply Kd.R_drewN | apply Kd.R_drew)); exact HO143.out) hb); have n1_ := Aside0.mk (Kd.O_lower (Kd.O_mono (ok' := fun k_ => some k_ ≠ (.slice Ao10 t141.length co10 : Value).ownBlock ∧ k_ ≠ gb140) (Kd.O_new ho0) (fun k_ hk_ => ⟨(Kd.fresh' (Kd.R_lt (by (with_reducible repeat (first | apply Kd.R_alloc | apply Kd.R_drewN | apply Kd.R_drew)); exact HO143.out)) k_ hk_.2.1), (Kd.freshB (g := gb140) (o := .cells #[.int .i64 a1_0, .int .u32 a1_1] 37 (0, 0)) (by (with_reducible repeat (first | refine blk_drewN ?_ _ | refine blk_drew ?_ | refine blk_alloc ?_ _)); exact BK140.out) k_ hk_.2.1)⟩)) (below_size (by repeat (first | (with_reducible first | exact HB.out | apply below_alloc | apply pw_below_drewN | apply below_drew1 | refine below_set ?_ GE140.out) | exact HB.out | exact below_undrew HB.out)))); have n2_ := Aside0.mk (blk_below (g := gb140) (o := .cells #[.int .i64 a1_0, .int .u32 a1_1] 37 (0, 0)) (by (with_reducible repeat (first | refine blk_drewN ?_ _ | refine blk_drew ?_ | refine blk_alloc ?_ _)); exact BK140.out) hb); have n3_ := Aside0.mk (below_step (by repeat (first | (with_reducible first | exact HB.out | apply below_alloc | apply pw_below_drewN | apply below_drew1 | refine below_set ?_ GE140.out) | exact HB.out | exact below_undrew HB.out)) hb); clear HO143; clear BK140; clear HB; have HO143 := n0_; have HO147 := n1_; have hnHO147 := fun w_ : World => Kd.O_eql (P := Tryz.prog) HO147.out 22 (by kernel_rfl) w_; have hmHO147 := fun w_ : World => Kd.O_neq (P := Tryz.prog) HO147.out 22 (by kernel_rfl) w_; have BK140 := n2_; have HB := n3_; clear n0_ n1_ n2_ n3_; (try clear hb); (try clear hb2); (try clear hk); (try clear hi); (try clear ho0); (try simp only [errW_none, errW_some])) | (go_at_call 13; (with_reducible refine (barbicanref02_New.calls k _ _ l0 t148 _ ?side1 ?side2 A6.out).mono ?_); (case side1 => repeat (first | exact (Kd.C_below HR0.out HB.out) | (with_reducible refine Kd.C_alloc ?_ _) | (with_reducible refine Kd.C_drewN ?_ _) | (with_reducible refine Kd.C_drew ?_))); (case side2 => exact HC0.out); rintro e w12 ⟨rfl, hb⟩; have n0_ := Aside0.mk (Kd.R_below (by (with_reducible repeat (first | apply Kd.R_alloc | apply Kd.R_drewN | apply Kd.R_drew)); exact HO143.out) hb); have n1_ := Aside0.mk (Kd.O_below (by (with_reducible repeat (first | apply Kd.O_alloc | apply Kd.O_drewN | apply Kd.O_drew)); exact HO147.out) hb); have n2_ := Aside0.mk (blk_below (g := gb140) (o := .cells #[.int .i64 a1_0, .int .u32 a1_1] 37 (0, 0)) (by (with_reducible repeat (first | refine blk_drewN ?_ _ | refine blk_drew ?_ | refine blk_alloc ?_ _)); exact BK140.out) hb); have n3_ := Aside0.mk (below_step (by repeat (first | (with_reducible first | exact HB.out | apply below_alloc | apply pw_below_drewN | apply below_drew1 | refine below_set ?_ GE140.out) | exact HB.out | exact below_undrew HB.out)) hb); clear HO143; clear HO147; clear BK140; clear HB; have HO143 := n0_; have HO147 := n1_; have hnHO147 := fun w_ : World => Kd.O_eql (P := Tryz.prog) HO147.out 22 (by kernel_rfl) w_; have hmHO147 := fun w_ : World => Kd.O_neq (P := Tryz.prog) HO147.out 22 (by kernel_rfl) w_; have BK140 := n2_; have HB := n3_; clear n0_ n1_ n2_ n3_; (try clear hb); (try clear hb2); (try clear hk); (try clear hi)))
  repeat (go_quiet (first | ((with_reducible refine gate_dst (N := 4) rfl ?_); (try (refine gate_guard (by rfl) ?_; dsimp only)); refine box_event ?hg (N := 4) ?hd (cs := #[.int .i64 a1_0, .int .u32 a1_1]) (t := 37) ?hr ?_; (case hd => rfl); (case hg => rfl); (case hr => first | (go_simp; done) | (go_simp; rfl)); intro gb140 hg w8 hbox hb; have n0_ := Aside0.mk (below_step (by repeat (first | (with_reducible first | exact HB.out | apply below_alloc | apply pw_below_drewN | apply below_drew1) | exact HB.out | exact below_undrew HB.out)) hb); have n1_ := Aside0.mk (hbox); have n2_ := Aside0.mk ((by rw [hg]; exact (below_size (by repeat (first | (with_reducible first | exact HB.out | apply below_alloc | apply pw_below_drewN | apply below_drew1) | exact HB.out | exact below_undrew HB.out))) : w.heap.size ≤ gb140)); have n3_ := Aside0.mk ((by rw [hg]; exact (below_size (by repeat (first | (with_reducible first | exact HB.out | apply below_alloc | apply pw_below_drewN | apply below_drew1) | exact HB.out | exact below_undrew HB.out))) : w.heap.size ≤ gb140)); clear HB; have HB := n0_; have BK140 := n1_; have GW140 := n2_; have GE140 := n3_; clear n0_ n1_ n2_ n3_; clear hb hbox hg) | (go_at_call 11; (with_reducible refine (barbicanlaw02_twin.calls _ _ l0 t141 _ ?side1 ?side2 A4.out).mono ?_); (case side1 => repeat (first | exact (Kd.C_below HR0.out HB.out) | (with_reducible refine Kd.C_alloc ?_ _) | (with_reducible refine Kd.C_drewN ?_ _) | (with_reducible refine Kd.C_drew ?_))); (case side2 => exact HC0.out); rintro e w9 ⟨v142, rfl, ho0, hb⟩; have n0_ := Aside0.mk (Kd.R_lower (Kd.R_newB ho0 (g := gb140) (o := .cells #[.int .i64 a1_0, .int .u32 a1_1] 37 (0, 0)) (by (with_reducible repeat (first | refine blk_drewN ?_ _ | refine blk_drew ?_ | refine blk_alloc ?_ _)); exact BK140.out)) (below_size (by repeat (first | (with_reducible first | exact HB.out | apply below_alloc | apply pw_below_drewN | apply below_drew1 | refine below_set ?_ GE140.out) | exact HB.out | exact below_undrew HB.out)))); have n1_ := Aside0.mk (blk_below (g := gb140) (o := .cells #[.int .i64 a1_0, .int .u32 a1_1] 37 (0, 0)) (by (with_reducible repeat (first | refine blk_drewN ?_ _ | refine blk_drew ?_ | refine blk_alloc ?_ _)); exact BK140.out) hb); have n2_ := Aside0.mk (below_step (by repeat (first | (with_reducible first | exact HB.out | apply below_alloc | apply pw_below_drewN | apply below_drew1 | refine below_set ?_ GE140.out) | exact HB.out | exact below_undrew HB.out)) hb); clear BK140; clear HB; have HO143 := n0_; have BK140 := n1_; have HB := n2_; clear n0_ n1_ n2_; (try clear hb); (try clear hb2); (try clear hk); (try clear hi); (try clear ho0); obtain ⟨Ao10, co10, eo10⟩ := Kd.R_slice HO143.out; subst eo10) | (go_at_call 12; (with_reducible refine (lattice_New.calls _ _ t141 t144 t145 _ ?side1 ?side2 A5.out).mono ?_); (case side1 => repeat (first | exact (Kd.R_reads' HO143.out).2.2 | (with_reducible refine Kd.C_alloc ?_ _) | (with_reducible refine Kd.C_drewN ?_ _) | (with_reducible refine Kd.C_drew ?_))); (case side2 => exact (Kd.R_reads' HO143.out).2.1); rintro e w11 ⟨v146, rfl, ho0, hb⟩; have n0_ := Aside0.mk (Kd.R_below (by (with_reducible repeat (first | apply Kd.R_alloc | apply Kd.R_drewN | apply Kd.R_drew)); exact HO143.out) hb); have n1_ := Aside0.mk (Kd.O_lower (Kd.O_mono (ok' := fun k_ => some k_ ≠ (.slice Ao10 t141.length co10 : Value).ownBlock ∧ k_ ≠ gb140) (Kd.O_new ho0) (fun k_ hk_ => ⟨(Kd.fresh' (Kd.R_lt (by (with_reducible repeat (first | apply Kd.R_alloc | apply Kd.R_drewN | apply Kd.R_drew)); exact HO143.out)) k_ hk_.2.1), (Kd.freshB (g := gb140) (o := .cells #[.int .i64 a1_0, .int .u32 a1_1] 37 (0, 0)) (by (with_reducible repeat (first | refine blk_drewN ?_ _ | refine blk_drew ?_ | refine blk_alloc ?_ _)); exact BK140.out) k_ hk_.2.1)⟩)) (below_size (by repeat (first | (with_reducible first | exact HB.out | apply below_alloc | apply pw_below_drewN | apply below_drew1 | refine below_set ?_ GE140.out) | exact HB.out | exact below_undrew HB.out)))); have n2_ := Aside0.mk (blk_below (g := gb140) (o := .cells #[.int .i64 a1_0, .int .u32 a1_1] 37 (0, 0)) (by (with_reducible repeat (first | refine blk_drewN ?_ _ | refine blk_drew ?_ | refine blk_alloc ?_ _)); exact BK140.out) hb); have n3_ := Aside0.mk (below_step (by repeat (first | (with_reducible first | exact HB.out | apply below_alloc | apply pw_below_drewN | apply below_drew1 | refine below_set ?_ GE140.out) | exact HB.out | exact below_undrew HB.out)) hb); clear HO143; clear BK140; clear HB; have HO143 := n0_; have HO147 := n1_; have hnHO147 := fun w_ : World => Kd.O_eql (P := Tryz.prog) HO147.out 22 (by kernel_rfl) w_; have hmHO147 := fun w_ : World => Kd.O_neq (P := Tryz.prog) HO147.out 22 (by kernel_rfl) w_; have BK140 := n2_; have HB := n3_; clear n0_ n1_ n2_ n3_; (try clear hb); (try clear hb2); (try clear hk); (try clear hi); (try clear ho0); (try simp only [errW_none, errW_some])) | (go_at_call 13; (with_reducible refine (barbicanref02_New.calls k _ _ l0 t148 _ ?side1 ?side2 A6.out).mono ?_); (case side1 => repeat (first | exact (Kd.C_below HR0.out HB.out) | (with_reducible refine Kd.C_alloc ?_ _) | (with_reducible refine Kd.C_drewN ?_ _) | (with_reducible refine Kd.C_drew ?_))); (case side2 => exact HC0.out); rintro e w12 ⟨rfl, hb⟩; have n0_ := Aside0.mk (Kd.R_below (by (with_reducible repeat (first | apply Kd.R_alloc | apply Kd.R_drewN | apply Kd.R_drew)); exact HO143.out) hb); have n1_ := Aside0.mk (Kd.O_below (by (with_reducible repeat (first | apply Kd.O_alloc | apply Kd.O_drewN | apply Kd.O_drew)); exact HO147.out) hb); have n2_ := Aside0.mk (blk_below (g := gb140) (o := .cells #[.int .i64 a1_0, .int .u32 a1_1] 37 (0, 0)) (by (with_reducible repeat (first | refine blk_drewN ?_ _ | refine blk_drew ?_ | refine blk_alloc ?_ _)); exact BK140.out) hb); have n3_ := Aside0.mk (below_step (by repeat (first | (with_reducible first | exact HB.out | apply below_alloc | apply pw_below_drewN | apply below_drew1 | refine below_set ?_ GE140.out) | exact HB.out | exact below_undrew HB.out)) hb); clear HO143; clear HO147; clear BK140; clear HB; have HO143 := n0_; have HO147 := n1_; have hnHO147 := fun w_ : World => Kd.O_eql (P := Tryz.prog) HO147.out 22 (by kernel_rfl) w_; have hmHO147 := fun w_ : World => Kd.O_neq (P := Tryz.prog) HO147.out 22 (by kernel_rfl) w_; have BK140 := n2_; have HB := n3_; clear n0_ n1_ n2_ n3_; (try clear hb); (try clear hb2); (try clear hk); (try clear hi))); go_upto_region 4 with (first | ((with_reducible refine gate_dst (N := 4) rfl ?_); (try (refine gate_guard (by rfl) ?_; dsimp only)); refine box_event ?hg (N := 4) ?hd (cs := #[.int .i64 a1_0, .int .u32 a1_1]) (t := 37) ?hr ?_; (case hd => rfl); (case hg => rfl); (case hr => first | (go_simp; done) | (go_simp; rfl)); intro gb140 hg w8 hbox hb; have n0_ := Aside0.mk (below_step (by repeat (first | (with_reducible first | exact HB.out | apply below_alloc | apply pw_below_drewN | apply below_drew1) | exact HB.out | exact below_undrew HB.out)) hb); have n1_ := Aside0.mk (hbox); have n2_ := Aside0.mk ((by rw [hg]; exact (below_size (by repeat (first | (with_reducible first | exact HB.out | apply below_alloc | apply pw_below_drewN | apply below_drew1) | exact HB.out | exact below_undrew HB.out))) : w.heap.size ≤ gb140)); have n3_ := Aside0.mk ((by rw [hg]; exact (below_size (by repeat (first | (with_reducible first | exact HB.out | apply below_alloc | apply pw_below_drewN | apply below_drew1) | exact HB.out | exact below_undrew HB.out))) : w.heap.size ≤ gb140)); clear HB; have HB := n0_; have BK140 := n1_; have GW140 := n2_; have GE140 := n3_; clear n0_ n1_ n2_ n3_; clear hb hbox hg) | (go_at_call 11; (with_reducible refine (barbicanlaw02_twin.calls _ _ l0 t141 _ ?side1 ?side2 A4.out).mono ?_); (case side1 => repeat (first | exact (Kd.C_below HR0.out HB.out) | (with_reducible refine Kd.C_alloc ?_ _) | (with_reducible refine Kd.C_drewN ?_ _) | (with_reducible refine Kd.C_drew ?_))); (case side2 => exact HC0.out); rintro e w9 ⟨v142, rfl, ho0, hb⟩; have n0_ := Aside0.mk (Kd.R_lower (Kd.R_newB ho0 (g := gb140) (o := .cells #[.int .i64 a1_0, .int .u32 a1_1] 37 (0, 0)) (by (with_reducible repeat (first | refine blk_drewN ?_ _ | refine blk_drew ?_ | refine blk_alloc ?_ _)); exact BK140.out)) (below_size (by repeat (first | (with_reducible first | exact HB.out | apply below_alloc | apply pw_below_drewN | apply below_drew1 | refine below_set ?_ GE140.out) | exact HB.out | exact below_undrew HB.out)))); have n1_ := Aside0.mk (blk_below (g := gb140) (o := .cells #[.int .i64 a1_0, .int .u32 a1_1] 37 (0, 0)) (by (with_reducible repeat (first | refine blk_drewN ?_ _ | refine blk_drew ?_ | refine blk_alloc ?_ _)); exact BK140.out) hb); have n2_ := Aside0.mk (below_step (by repeat (first | (with_reducible first | exact HB.out | apply below_alloc | apply pw_below_drewN | apply below_drew1 | refine below_set ?_ GE140.out) | exact HB.out | exact below_undrew HB.out)) hb); clear BK140; clear HB; have HO143 := n0_; have BK140 := n1_; have HB := n2_; clear n0_ n1_ n2_; (try clear hb); (try clear hb2); (try clear hk); (try clear hi); (try clear ho0); obtain ⟨Ao10, co10, eo10⟩ := Kd.R_slice HO143.out; subst eo10) | (go_at_call 12; (with_reducible refine (lattice_New.calls _ _ t141 t144 t145 _ ?side1 ?side2 A5.out).mono ?_); (case side1 => repeat (first | exact (Kd.R_reads' HO143.out).2.2 | (with_reducible refine Kd.C_alloc ?_ _) | (with_reducible refine Kd.C_drewN ?_ _) | (with_reducible refine Kd.C_drew ?_))); (case side2 => exact (Kd.R_reads' HO143.out).2.1); rintro e w11 ⟨v146, rfl, ho0, hb⟩; have n0_ := Aside0.mk (Kd.R_below (by (with_reducible repeat (first | apply Kd.R_alloc | apply Kd.R_drewN | apply Kd.R_drew)); exact HO143.out) hb); have n1_ := Aside0.mk (Kd.O_lower (Kd.O_mono (ok' := fun k_ => some k_ ≠ (.slice Ao10 t141.length co10 : Value).ownBlock ∧ k_ ≠ gb140) (Kd.O_new ho0) (fun k_ hk_ => ⟨(Kd.fresh' (Kd.R_lt (by (with_reducible repeat (first | apply Kd.R_alloc | apply Kd.R_drewN | apply Kd.R_drew)); exact HO143.out)) k_ hk_.2.1), (Kd.freshB (g := gb140) (o := .cells #[.int .i64 a1_0, .int .u32 a1_1] 37 (0, 0)) (by (with_reducible repeat (first | refine blk_drewN ?_ _ | refine blk_drew ?_ | refine blk_alloc ?_ _)); exact BK140.out) k_ hk_.2.1)⟩)) (below_size (by repeat (first | (with_reducible first | exact HB.out | apply below_alloc | apply pw_below_drewN | apply below_drew1 | refine below_set ?_ GE140.out) | exact HB.out | exact below_undrew HB.out)))); have n2_ := Aside0.mk (blk_below (g := gb140) (o := .cells #[.int .i64 a1_0, .int .u32 a1_1] 37 (0, 0)) (by (with_reducible repeat (first | refine blk_drewN ?_ _ | refine blk_drew ?_ | refine blk_alloc ?_ _)); exact BK140.out) hb); have n3_ := Aside0.mk (below_step (by repeat (first | (with_reducible first | exact HB.out | apply below_alloc | apply pw_below_drewN | apply below_drew1 | refine below_set ?_ GE140.out) | exact HB.out | exact below_undrew HB.out)) hb); clear HO143; clear BK140; clear HB; have HO143 := n0_; have HO147 := n1_; have hnHO147 := fun w_ : World => Kd.O_eql (P := Tryz.prog) HO147.out 22 (by kernel_rfl) w_; have hmHO147 := fun w_ : World => Kd.O_neq (P := Tryz.prog) HO147.out 22 (by kernel_rfl) w_; have BK140 := n2_; have HB := n3_; clear n0_ n1_ n2_ n3_; (try clear hb); (try clear hb2); (try clear hk); (try clear hi); (try clear ho0); (try simp only [errW_none, errW_some])) | (go_at_call 13; (with_reducible refine (barbicanref02_New.calls k _ _ l0 t148 _ ?side1 ?side2 A6.out).mono ?_); (case side1 => repeat (first | exact (Kd.C_below HR0.out HB.out) | (with_reducible refine Kd.C_alloc ?_ _) | (with_reducible refine Kd.C_drewN ?_ _) | (with_reducible refine Kd.C_drew ?_))); (case side2 => exact HC0.out); rintro e w12 ⟨rfl, hb⟩; have n0_ := Aside0.mk (Kd.R_below (by (with_reducible repeat (first | apply Kd.R_alloc | apply Kd.R_drewN | apply Kd.R_drew)); exact HO143.out) hb); have n1_ := Aside0.mk (Kd.O_below (by (with_reducible repeat (first | apply Kd.O_alloc | apply Kd.O_drewN | apply Kd.O_drew)); exact HO147.out) hb); have n2_ := Aside0.mk (blk_below (g := gb140) (o := .cells #[.int .i64 a1_0, .int .u32 a1_1] 37 (0, 0)) (by (with_reducible repeat (first | refine blk_drewN ?_ _ | refine blk_drew ?_ | refine blk_alloc ?_ _)); exact BK140.out) hb); have n3_ := Aside0.mk (below_step (by repeat (first | (with_reducible first | exact HB.out | apply below_alloc | apply pw_below_drewN | apply below_drew1 | refine below_set ?_ GE140.out) | exact HB.out | exact below_undrew HB.out)) hb); clear HO143; clear HO147; clear BK140; clear HB; have HO143 := n0_; have HO147 := n1_; have hnHO147 := fun w_ : World => Kd.O_eql (P := Tryz.prog) HO147.out 22 (by kernel_rfl) w_; have hmHO147 := fun w_ : World => Kd.O_neq (P := Tryz.prog) HO147.out 22 (by kernel_rfl) w_; have BK140 := n2_; have HB := n3_; clear n0_ n1_ n2_ n3_; (try clear hb); (try clear hb2); (try clear hk); (try clear hi))))
  (try simp only [Act.put, List.setIfInBounds_toArray, List.set_cons_zero, List.set_cons_succ])
  go_cut [36] (fun v36 wc => ∃ (kq : Nat) (x36_6 : Bool), v36 = .bool x36_6 ∧ Aside0 (barbicanlaw02_LatticeMakes.j0 kq l0 a2 t141 t144 t145 t148 x36_6 a1_0 a1_1 = some r) ∧ Aside0 (kq ≤ k) ∧ Aside0 (Kd.R k37 37 wc w.heap.size (fun k_ => k_ ≠ gb140) (.slice Ao10 t141.length co10) t141) ∧ Aside0 (Kd.O k37 9022 wc w.heap.size (fun k_ => some k_ ≠ ((.slice Ao10 t141.length co10) : Value).ownBlock ∧ k_ ≠ gb140) v146 t144) ∧ Aside0 (wc.heap[gb140]? = some (.cells #[.int .i64 a1_0, .int .u32 a1_1] 37 (0, 0))) ∧ Aside0 (Below w.heap.size w wc))
  case first =>
    have H := HC7.out
    clear HC7
    by_cases c13 : t148 = 0
    · rw [if_pos c13] at H
      have c13b0 : (t148 == 0) = true := beq_iff_eq.mpr c13
      have c13b1 : (t148 != 0) = false := bne_eq_false_iff_eq.mpr c13
      clear c13
      (first | rw [c13b0] | (simp only [i64_w, i32_w]; rw [c13b0]) | skip)
      rcases t145 with _ | q149
      · have H1 : (barbicanlaw02_LatticeMakes.j0 k l0 a2 t141 t144 none t148 ((t144).isEmpty) a1_0 a1_1) = some r := by rw [if_pos (show (none : Option Int).isNone = true by rfl)] at H; exact H
        clear H
        have H := H1
        clear H1
        try simp only [errW_none, errW_some]
        have H' := Aside0.mk H
        clear H
        go_wp2
        repeat (go_quiet (fail); try go_wp2)
        go_meet
        case rel => exact ⟨_, ((t144).isEmpty), (by first | rfl | (simp; done) | (simp [*]; done)), H', ⟨by first | omega | exact Nat.le_refl _⟩, ⟨by (with_reducible repeat (first | apply Kd.R_alloc | apply Kd.R_drewN | apply Kd.R_drew)); exact Kd.R_mono HO143.out (fun _ hk => hk.2)⟩, ⟨by (with_reducible repeat (first | apply Kd.O_alloc | apply Kd.O_drewN | apply Kd.O_drew)); exact HO147.out⟩, ⟨by (with_reducible repeat (first | refine blk_drewN ?_ _ | refine blk_drew ?_ | refine blk_alloc ?_ _)); exact BK140.out⟩, ⟨by repeat (first | (with_reducible first | exact HB.out | apply below_alloc | apply pw_below_drewN | apply below_drew1 | refine below_set ?_ GE140.out) | exact HB.out | exact below_undrew HB.out)⟩⟩
      · have H1 : (barbicanlaw02_LatticeMakes.j0 k l0 a2 t141 t144 (some q149) t148 true a1_0 a1_1) = some r := by rw [if_neg (show ¬ (some q149).isNone = true by simp)] at H; exact H
        clear H
        have H := H1
        clear H1
        try simp only [errW_none, errW_some]
        have H' := Aside0.mk H
        clear H
        go_wp2
        repeat (go_quiet (fail); try go_wp2)
        go_meet
        case rel => exact ⟨_, (true), (by first | rfl | (simp; done) | (simp [*]; done)), H', ⟨by first | omega | exact Nat.le_refl _⟩, ⟨by (with_reducible repeat (first | apply Kd.R_alloc | apply Kd.R_drewN | apply Kd.R_drew)); exact Kd.R_mono HO143.out (fun _ hk => hk.2)⟩, ⟨by (with_reducible repeat (first | apply Kd.O_alloc | apply Kd.O_drewN | apply Kd.O_drew)); exact HO147.out⟩, ⟨by (with_reducible repeat (first | refine blk_drewN ?_ _ | refine blk_drew ?_ | refine blk_alloc ?_ _)); exact BK140.out⟩, ⟨by repeat (first | (with_reducible first | exact HB.out | apply below_alloc | apply pw_below_drewN | apply below_drew1 | refine below_set ?_ GE140.out) | exact HB.out | exact below_undrew HB.out)⟩⟩
    · rw [if_neg c13] at H
      have c13b0 : (t148 == 0) = false := beq_eq_false_iff_ne.mpr c13
      have c13b1 : (t148 != 0) = true := bne_iff_ne.mpr c13
      (first | rw [c13b0] | (simp only [i64_w, i32_w]; rw [c13b0]) | skip)
      have H' := Aside0.mk H
      clear H
      go_wp2
      repeat (go_quiet (fail); try go_wp2)
      go_meet
      case rel => exact ⟨_, (true), (by first | rfl | (simp; done) | (simp [*]; done)), H', ⟨by first | omega | exact Nat.le_refl _⟩, ⟨by (with_reducible repeat (first | apply Kd.R_alloc | apply Kd.R_drewN | apply Kd.R_drew)); exact Kd.R_mono HO143.out (fun _ hk => hk.2)⟩, ⟨by (with_reducible repeat (first | apply Kd.O_alloc | apply Kd.O_drewN | apply Kd.O_drew)); exact HO147.out⟩, ⟨by (with_reducible repeat (first | refine blk_drewN ?_ _ | refine blk_drew ?_ | refine blk_alloc ?_ _)); exact BK140.out⟩, ⟨by repeat (first | (with_reducible first | exact HB.out | apply below_alloc | apply pw_below_drewN | apply below_drew1 | refine below_set ?_ GE140.out) | exact HB.out | exact below_undrew HB.out)⟩⟩
  case rest =>
    clear HC7
    try clear c1
    try clear q1
    try clear p2
    try clear c4
    try clear c13
    try clear c13b0
    try clear c13b1
    try clear q149
    obtain ⟨kq, x36_6, rfl, HA, HJ6, HO_7, HO_8, BK140, HB⟩ := hcut
    cases kq with
    | zero => exact absurd HA.out (by simp [barbicanlaw02_LatticeMakes.j0])
    | succ kj6 =>
      have H := HA.out
      clear HA
      simp only [barbicanlaw02_LatticeMakes.j0] at H
      by_cases c14 : x36_6 = true
      · subst c14
        have H1 : ((barbicanlaw02_num.f t145).bind fun t150 => (if t150 = t148 then (if t144.isEmpty = true then ((barbicanlaw02_sure.f kj6).bind fun t151 => (some t151)) else (some false)) else (some false))) = some r := by rw [if_pos rfl] at H; exact H
        clear H
        have H := H1
        clear H1
        replace H := Option.bind_eq_some_iff.mp H
        obtain ⟨t150, A150, H⟩ := H
        replace H : (if t150 = t148 then (if t144.isEmpty = true then ((barbicanlaw02_sure.f kj6).bind fun t151 => (some t151)) else (some false)) else (some false)) = some r := H
        have A15 := Aside0.mk A150
        clear A150
        by_cases c16 : t150 = t148
        · rw [if_pos c16] at H
          have c16b0 : (t150 == t148) = true := beq_iff_eq.mpr c16
          have c16b1 : (t150 != t148) = false := bne_eq_false_iff_eq.mpr c16
          clear c16
          by_cases c17 : t144.isEmpty = true
          · rw [if_pos c17] at H
            have c17b0 : t144.isEmpty = true := c17
            clear c17
            replace H := Option.bind_eq_some_iff.mp H
            obtain ⟨t151, A180, H⟩ := H
            replace H : (some t151) = some r := H
            have A18 := Aside0.mk A180
            clear A180
            obtain rfl := Option.some.inj H
            have CA15 := fun W hG_ => barbicanlaw02_num.calls t145 t150 W hG_ A15.out
            try simp only [errW_none, errW_some] at CA15
            go_wp2_with (first | (go_at_call 7; (with_reducible refine (CA15 _ ?side1).mono ?_); (case side1 => exact GE.below HG.out (by repeat (first | (with_reducible first | exact HB.out | apply below_alloc | apply pw_below_drewN | apply below_drew1 | refine below_set ?_ GE140.out) | exact HB.out | exact below_undrew HB.out))); rintro e w19 ⟨rfl, hb⟩; have n0_ := Aside0.mk (Kd.R_below (by (with_reducible repeat (first | apply Kd.R_alloc | apply Kd.R_drewN | apply Kd.R_drew)); exact HO_7.out) hb); have n1_ := Aside0.mk (Kd.O_below (by (with_reducible repeat (first | apply Kd.O_alloc | apply Kd.O_drewN | apply Kd.O_drew)); exact HO_8.out) hb); have n2_ := Aside0.mk (blk_below (g := gb140) (o := .cells #[.int .i64 a1_0, .int .u32 a1_1] 37 (0, 0)) (by (with_reducible repeat (first | refine blk_drewN ?_ _ | refine blk_drew ?_ | refine blk_alloc ?_ _)); exact BK140.out) hb); have n3_ := Aside0.mk (below_step (by repeat (first | (with_reducible first | exact HB.out | apply below_alloc | apply pw_below_drewN | apply below_drew1 | refine below_set ?_ GE140.out) | exact HB.out | exact below_undrew HB.out)) hb); clear HO_7; clear HO_8; clear BK140; clear HB; have HO_7 := n0_; have HO_8 := n1_; have hnHO_8 := fun w_ : World => Kd.O_eql (P := Tryz.prog) HO_8.out 22 (by kernel_rfl) w_; have hmHO_8 := fun w_ : World => Kd.O_neq (P := Tryz.prog) HO_8.out 22 (by kernel_rfl) w_; have BK140 := n2_; have HB := n3_; clear n0_ n1_ n2_ n3_; (try clear hb); (try clear hb2); (try clear hk); (try clear hi)) | (go_at_call 8; (with_reducible refine (barbicanlaw02_sure.calls kj6  t151 _ ?side1 A18.out).mono ?_); (case side1 => exact GE.below HG.out (by repeat (first | (with_reducible first | exact HB.out | apply below_alloc | apply pw_below_drewN | apply below_drew1 | refine below_set ?_ GE140.out) | exact HB.out | exact below_undrew HB.out))); rintro e w20 ⟨rfl, hb⟩; have n0_ := Aside0.mk (Kd.R_below (by (with_reducible repeat (first | apply Kd.R_alloc | apply Kd.R_drewN | apply Kd.R_drew)); exact HO_7.out) hb); have n1_ := Aside0.mk (Kd.O_below (by (with_reducible repeat (first | apply Kd.O_alloc | apply Kd.O_drewN | apply Kd.O_drew)); exact HO_8.out) hb); have n2_ := Aside0.mk (blk_below (g := gb140) (o := .cells #[.int .i64 a1_0, .int .u32 a1_1] 37 (0, 0)) (by (with_reducible repeat (first | refine blk_drewN ?_ _ | refine blk_drew ?_ | refine blk_alloc ?_ _)); exact BK140.out) hb); have n3_ := Aside0.mk (below_step (by repeat (first | (with_reducible first | exact HB.out | apply below_alloc | apply pw_below_drewN | apply below_drew1 | refine below_set ?_ GE140.out) | exact HB.out | exact below_undrew HB.out)) hb); clear HO_7; clear HO_8; clear BK140; clear HB; have HO_7 := n0_; have HO_8 := n1_; have hnHO_8 := fun w_ : World => Kd.O_eql (P := Tryz.prog) HO_8.out 22 (by kernel_rfl) w_; have hmHO_8 := fun w_ : World => Kd.O_neq (P := Tryz.prog) HO_8.out 22 (by kernel_rfl) w_; have BK140 := n2_; have HB := n3_; clear n0_ n1_ n2_ n3_; (try clear hb); (try clear hb2); (try clear hk); (try clear hi)))
            repeat (go_quiet (first | (go_at_call 7; (with_reducible refine (CA15 _ ?side1).mono ?_); (case side1 => exact GE.below HG.out (by repeat (first | (with_reducible first | exact HB.out | apply below_alloc | apply pw_below_drewN | apply below_drew1 | refine below_set ?_ GE140.out) | exact HB.out | exact below_undrew HB.out))); rintro e w19 ⟨rfl, hb⟩; have n0_ := Aside0.mk (Kd.R_below (by (with_reducible repeat (first | apply Kd.R_alloc | apply Kd.R_drewN | apply Kd.R_drew)); exact HO_7.out) hb); have n1_ := Aside0.mk (Kd.O_below (by (with_reducible repeat (first | apply Kd.O_alloc | apply Kd.O_drewN | apply Kd.O_drew)); exact HO_8.out) hb); have n2_ := Aside0.mk (blk_below (g := gb140) (o := .cells #[.int .i64 a1_0, .int .u32 a1_1] 37 (0, 0)) (by (with_reducible repeat (first | refine blk_drewN ?_ _ | refine blk_drew ?_ | refine blk_alloc ?_ _)); exact BK140.out) hb); have n3_ := Aside0.mk (below_step (by repeat (first | (with_reducible first | exact HB.out | apply below_alloc | apply pw_below_drewN | apply below_drew1 | refine below_set ?_ GE140.out) | exact HB.out | exact below_undrew HB.out)) hb); clear HO_7; clear HO_8; clear BK140; clear HB; have HO_7 := n0_; have HO_8 := n1_; have hnHO_8 := fun w_ : World => Kd.O_eql (P := Tryz.prog) HO_8.out 22 (by kernel_rfl) w_; have hmHO_8 := fun w_ : World => Kd.O_neq (P := Tryz.prog) HO_8.out 22 (by kernel_rfl) w_; have BK140 := n2_; have HB := n3_; clear n0_ n1_ n2_ n3_; (try clear hb); (try clear hb2); (try clear hk); (try clear hi)) | (go_at_call 8; (with_reducible refine (barbicanlaw02_sure.calls kj6  t151 _ ?side1 A18.out).mono ?_); (case side1 => exact GE.below HG.out (by repeat (first | (with_reducible first | exact HB.out | apply below_alloc | apply pw_below_drewN | apply below_drew1 | refine below_set ?_ GE140.out) | exact HB.out | exact below_undrew HB.out))); rintro e w20 ⟨rfl, hb⟩; have n0_ := Aside0.mk (Kd.R_below (by (with_reducible repeat (first | apply Kd.R_alloc | apply Kd.R_drewN | apply Kd.R_drew)); exact HO_7.out) hb); have n1_ := Aside0.mk (Kd.O_below (by (with_reducible repeat (first | apply Kd.O_alloc | apply Kd.O_drewN | apply Kd.O_drew)); exact HO_8.out) hb); have n2_ := Aside0.mk (blk_below (g := gb140) (o := .cells #[.int .i64 a1_0, .int .u32 a1_1] 37 (0, 0)) (by (with_reducible repeat (first | refine blk_drewN ?_ _ | refine blk_drew ?_ | refine blk_alloc ?_ _)); exact BK140.out) hb); have n3_ := Aside0.mk (below_step (by repeat (first | (with_reducible first | exact HB.out | apply below_alloc | apply pw_below_drewN | apply below_drew1 | refine below_set ?_ GE140.out) | exact HB.out | exact below_undrew HB.out)) hb); clear HO_7; clear HO_8; clear BK140; clear HB; have HO_7 := n0_; have HO_8 := n1_; have hnHO_8 := fun w_ : World => Kd.O_eql (P := Tryz.prog) HO_8.out 22 (by kernel_rfl) w_; have hmHO_8 := fun w_ : World => Kd.O_neq (P := Tryz.prog) HO_8.out 22 (by kernel_rfl) w_; have BK140 := n2_; have HB := n3_; clear n0_ n1_ n2_ n3_; (try clear hb); (try clear hb2); (try clear hk); (try clear hi))); try go_wp2_with (first | (go_at_call 7; (with_reducible refine (CA15 _ ?side1).mono ?_); (case side1 => exact GE.below HG.out (by repeat (first | (with_reducible first | exact HB.out | apply below_alloc | apply pw_below_drewN | apply below_drew1 | refine below_set ?_ GE140.out) | exact HB.out | exact below_undrew HB.out))); rintro e w19 ⟨rfl, hb⟩; have n0_ := Aside0.mk (Kd.R_below (by (with_reducible repeat (first | apply Kd.R_alloc | apply Kd.R_drewN | apply Kd.R_drew)); exact HO_7.out) hb); have n1_ := Aside0.mk (Kd.O_below (by (with_reducible repeat (first | apply Kd.O_alloc | apply Kd.O_drewN | apply Kd.O_drew)); exact HO_8.out) hb); have n2_ := Aside0.mk (blk_below (g := gb140) (o := .cells #[.int .i64 a1_0, .int .u32 a1_1] 37 (0, 0)) (by (with_reducible repeat (first | refine blk_drewN ?_ _ | refine blk_drew ?_ | refine blk_alloc ?_ _)); exact BK140.out) hb); have n3_ := Aside0.mk (below_step (by repeat (first | (with_reducible first | exact HB.out | apply below_alloc | apply pw_below_drewN | apply below_drew1 | refine below_set ?_ GE140.out) | exact HB.out | exact below_undrew HB.out)) hb); clear HO_7; clear HO_8; clear BK140; clear HB; have HO_7 := n0_; have HO_8 := n1_; have hnHO_8 := fun w_ : World => Kd.O_eql (P := Tryz.prog) HO_8.out 22 (by kernel_rfl) w_; have hmHO_8 := fun w_ : World => Kd.O_neq (P := Tryz.prog) HO_8.out 22 (by kernel_rfl) w_; have BK140 := n2_; have HB := n3_; clear n0_ n1_ n2_ n3_; (try clear hb); (try clear hb2); (try clear hk); (try clear hi)) | (go_at_call 8; (with_reducible refine (barbicanlaw02_sure.calls kj6  t151 _ ?side1 A18.out).mono ?_); (case side1 => exact GE.below HG.out (by repeat (first | (with_reducible first | exact HB.out | apply below_alloc | apply pw_below_drewN | apply below_drew1 | refine below_set ?_ GE140.out) | exact HB.out | exact below_undrew HB.out))); rintro e w20 ⟨rfl, hb⟩; have n0_ := Aside0.mk (Kd.R_below (by (with_reducible repeat (first | apply Kd.R_alloc | apply Kd.R_drewN | apply Kd.R_drew)); exact HO_7.out) hb); have n1_ := Aside0.mk (Kd.O_below (by (with_reducible repeat (first | apply Kd.O_alloc | apply Kd.O_drewN | apply Kd.O_drew)); exact HO_8.out) hb); have n2_ := Aside0.mk (blk_below (g := gb140) (o := .cells #[.int .i64 a1_0, .int .u32 a1_1] 37 (0, 0)) (by (with_reducible repeat (first | refine blk_drewN ?_ _ | refine blk_drew ?_ | refine blk_alloc ?_ _)); exact BK140.out) hb); have n3_ := Aside0.mk (below_step (by repeat (first | (with_reducible first | exact HB.out | apply below_alloc | apply pw_below_drewN | apply below_drew1 | refine below_set ?_ GE140.out) | exact HB.out | exact below_undrew HB.out)) hb); clear HO_7; clear HO_8; clear BK140; clear HB; have HO_7 := n0_; have HO_8 := n1_; have hnHO_8 := fun w_ : World => Kd.O_eql (P := Tryz.prog) HO_8.out 22 (by kernel_rfl) w_; have hmHO_8 := fun w_ : World => Kd.O_neq (P := Tryz.prog) HO_8.out 22 (by kernel_rfl) w_; have BK140 := n2_; have HB := n3_; clear n0_ n1_ n2_ n3_; (try clear hb); (try clear hb2); (try clear hk); (try clear hi))))
            go_ret
            exact ⟨by first | rfl | (simp [errW_none, errW_some] <;> rfl) | (simp [*, errW_none, errW_some] <;> rfl), by repeat (first | (with_reducible first | exact HB.out | apply below_alloc | apply pw_below_drewN | apply below_drew1 | refine below_set ?_ GE140.out) | exact HB.out | exact below_undrew HB.out)⟩
          · rw [if_neg c17] at H
            have c17b0 : t144.isEmpty = false := by simpa using c17
            clear c17
            exact absurd (Option.some.inj H) (by rw [hT.out]; decide)
        · rw [if_neg c16] at H
          have c16b0 : (t150 == t148) = false := beq_eq_false_iff_ne.mpr c16
          have c16b1 : (t150 != t148) = true := bne_iff_ne.mpr c16
          exact absurd (Option.some.inj H) (by rw [hT.out]; decide)
      · replace c14 := Bool.eq_false_iff.mpr c14
        subst c14
        have H1 : (barbicanlaw02_LatticeMakes.l0 kj6 l0 a2 t141 t144 0 a1_0 a1_1) = some r := by rw [if_neg (show ¬ (false = true) by decide)] at H; exact H
        clear H
        have H := H1
        clear H1
        have H' := Aside0.mk H
        clear H
        go_wp2
        repeat (go_quiet (fail); try go_wp2)
        go_loopg [11] kj6 (fun kq v11 w' => ∃ (x7_2 : List (S37)) (x11_2 : Int) (x141000_2 : Int) (x141001_2 : Int), v11 = .int .i64 x11_2 ∧ Aside0 (barbicanlaw02_LatticeMakes.l0 kq l0 a2 x7_2 t144 x11_2 x141000_2 x141001_2 = some r) ∧ Aside0 (kq ≤ kj6) ∧ Aside0 (Kd.R k37 37 w' w.heap.size (fun k_ => k_ ≠ gb140) (.slice Ao10 t141.length co10) x7_2) ∧ Aside0 (Kd.O k37 9022 w' w.heap.size (fun k_ => some k_ ≠ ((.slice Ao10 t141.length co10) : Value).ownBlock ∧ k_ ≠ gb140) v146 t144) ∧ Aside0 (w'.heap[gb140]? = some (.cells #[.int .i64 x141000_2, .int .u32 x141001_2] 37 (0, 0))) ∧ Aside0 (Below w.heap.size w w'))
        case atStart => exact ⟨(t141), (0), (a1_0), (a1_1), (by first | rfl | (simp; done) | (simp [*]; done)), H', ⟨Nat.le_refl _⟩, ⟨by (with_reducible repeat (first | apply Kd.R_alloc | apply Kd.R_drewN | apply Kd.R_drew)); exact HO_7.out⟩, ⟨by (with_reducible repeat (first | apply Kd.O_alloc | apply Kd.O_drewN | apply Kd.O_drew)); exact HO_8.out⟩, ⟨by (with_reducible repeat (first | refine blk_drewN ?_ _ | refine blk_drew ?_ | refine blk_alloc ?_ _)); exact BK140.out⟩, ⟨by repeat (first | (with_reducible first | exact HB.out | apply below_alloc | apply pw_below_drewN | apply below_drew1 | refine below_set ?_ GE140.out) | exact HB.out | exact below_undrew HB.out)⟩⟩
        case round =>
          clear H'
          try clear c1
          try clear q1
          try clear p2
          try clear c4
          try clear c13
          try clear c13b0
          try clear c13b1
          try clear c14
          try clear q14
          try clear c16
          try clear c16b0
          try clear c16b1
          try clear c17
          try clear c17b0
          try clear p2
          try clear q1
          try clear q149
          obtain ⟨x7_2, x11_2, x141000_2, x141001_2, rfl, HA, HK2, HO_7, HO_8, BK140, HB⟩ := hrel
          have hl7_2 := (Kd.R_reads' HO_7.out).1
          rw [hl7_2] at HO_7
          (try simp only [hl7_2])
          (try simp only [hl7_2] at BK140)
          (try simp only [hl7_2] at HO_8)
          cases gk with
          | zero => exact absurd HA.out (by simp [barbicanlaw02_LatticeMakes.l0])
          | succ k2 =>
            have H := HA.out
            clear HA
            simp only [barbicanlaw02_LatticeMakes.l0] at H
            by_cases c21 : x11_2 < (x7_2.length : Int)
            · rw [if_pos c21] at H
              have c21b0 : decide (x11_2 < (x7_2.length : Int)) = true := decide_eq_true c21
              clear c21
              by_cases c22 : 0 ≤ x11_2
              · rw [if_pos c22] at H
                have c22b0 : decide (0 ≤ x11_2) = true := decide_eq_true c22
                clear c22
                by_cases c23 : x11_2 < (l0.length : Int)
                · rw [if_pos c23] at H
                  have c23b0 : decide (x11_2 < (l0.length : Int)) = true := decide_eq_true c23
                  clear c23
                  by_cases c24 : (!(((rd_T37 x7_2 x11_2).f0) == ((rd_T37 l0 x11_2).f0)) || (!(((rd_T37 x7_2 x11_2).f1) == ((rd_T37 l0 x11_2).f1)))) = true
                  · rw [if_pos c24] at H
                    have c24b0 : (!(((rd_T37 x7_2 x11_2).f0) == ((rd_T37 l0 x11_2).f0)) || (!(((rd_T37 x7_2 x11_2).f1) == ((rd_T37 l0 x11_2).f1)))) = true := c24
                    clear c24
                    exact absurd (Option.some.inj H) (by rw [hT.out]; decide)
                  · rw [if_neg c24] at H
                    have c24b0 : (!(((rd_T37 x7_2 x11_2).f0) == ((rd_T37 l0 x11_2).f0)) || (!(((rd_T37 x7_2 x11_2).f1) == ((rd_T37 l0 x11_2).f1)))) = false := by simpa using c24
                    clear c24
                    obtain ⟨y154, hy154⟩ : ∃ y_ : List (S37), y_ = (x7_2.set (x11_2 : Int).toNat (⟨(-4321), 0⟩ : S37)) := ⟨_, rfl⟩
                    replace H : (barbicanlaw02_LatticeMakes.l0 k2 l0 a2 y154 t144 (wrap64 (x11_2 + 1)) x141000_2 x141001_2) = some r := by first | (rw [hy154]; with_reducible exact H) | (have H2_ := (Option.bind_some _ _).symm.trans H; rw [hy154]; with_reducible exact H2_) | (have H2_ := (Option.bind_some _ _).symm.trans H; with_reducible exact H2_) | with_reducible exact H | (rw [hy154]; exact H) | exact H
                    have Ny154 := Aside0.mk hy154
                    clear hy154
                    have H' := Aside0.mk H
                    clear H
                    have p152 : 0 ≤ (x11_2 : Int) := of_decide_eq_true (by first | (with_reducible assumption) | assumption)
                    have q152 : x11_2 < (x7_2.length : Int) := of_decide_eq_true (by first | (with_reducible assumption) | assumption)
                    obtain ⟨ad152, e152, hx152_0, hx152_1⟩ := at_T37 (Kd.R_reads' HO_7.out).2.2 x11_2 p152 q152
                    cases e152
                    replace p152 := eq_true p152
                    replace q152 := eq_true q152
                    have p153 : 0 ≤ (x11_2 : Int) := of_decide_eq_true (by first | (with_reducible assumption) | assumption)
                    have q153 : x11_2 < (l0.length : Int) := of_decide_eq_true (by first | (with_reducible assumption) | assumption)
                    obtain ⟨ad153, e153, hx153_0, hx153_1⟩ := at_T37 HR0.out x11_2 p153 q153
                    cases e153
                    replace hx153_0 := (HB.out.cell (World.block_lt_of_cell? w _ hx153_0)).trans hx153_0
                    replace hx153_1 := (HB.out.cell (World.block_lt_of_cell? w _ hx153_1)).trans hx153_1
                    replace p153 := eq_true p153
                    replace q153 := eq_true q153
                    have p25 : 0 ≤ (x11_2 : Int) := of_decide_eq_true (by first | (with_reducible assumption) | assumption)
                    have q25 : (x11_2 : Int) < ((x7_2.length : Int) : Int) := of_decide_eq_true (by first | (with_reducible assumption) | assumption)
                    obtain ⟨go25, co25, eo25, gb25, gl25, cl25, HG25⟩ := Kd.R_form HO_7.out (by omega)
                    (first | cases eo25 | (injection eo25 with ea_ en_ ec_; (first | subst ea_ | (injection ea_ with ea_; subst ea_)); subst ec_; clear en_))
                    have GB25 := Aside0.mk gb25
                    have GG25 := Aside0.mk HG25
                    clear gb25 gl25 HG25
                    (first | simp only [add_plain] at hx152_0 | skip)
                    (first | simp only [add_plain] at hx152_1 | skip)
                    obtain ⟨ce25, hcl25, hM25, hcc25, hfr25⟩ := Kd.R_elem HO_7.out z37 (x11_2 : Int) p25 q25
                    obtain rfl := k37_openM hM25
                    have hx25_0 : wr.cell? ⟨go25, (x11_2 : Int).toNat * 2, none⟩ = some (.int .i64 ((rd_T37 x7_2 x11_2).f0)) := hcc25 0 _ rfl
                    have hx25_1 : wr.cell? ⟨go25, (x11_2 : Int).toNat * 2 + 1, none⟩ = some (.int .u32 ((rd_T37 x7_2 x11_2).f1)) := hcc25 1 _ rfl
                    have hf25_0 : wr.frozen? ⟨go25, (x11_2 : Int).toNat * 2, none⟩ = false := hfr25 0
                    have hf25_1 : wr.frozen? ⟨go25, (x11_2 : Int).toNat * 2 + 1, none⟩ = false := hfr25 1
                    clear hcl25 hcc25 hfr25 hM25
                    replace p25 := eq_true p25
                    replace q25 := eq_true q25
                    have HX26 := Aside0.mk (show Kd.R k37 37 wr w.heap.size (fun k_ => k_ ≠ gb140) (.slice (some ⟨go25, 0, none⟩) x7_2.length co10) x7_2 from (by (with_reducible repeat (first | apply Kd.R_alloc | apply Kd.R_drewN | apply Kd.R_drew)); exact HO_7.out))
                    obtain ⟨ce26, hcl26, hM26, hcc26, hfr26⟩ := Kd.R_elem HX26.out z37 (x11_2 : Int) (of_decide_eq_true (by first | (with_reducible assumption) | assumption)) (by have h_ : (x11_2 : Int) < ((x7_2.length : Int) : Int) := of_decide_eq_true (by first | (with_reducible assumption) | assumption); first | exact h_ | (have e_ := (Kd.R_reads' HO_7.out).1; omega) | simpa using h_)
                    obtain rfl := k37_openM hM26
                    have HP26 := Kd.R_seg HX26.out (x11_2 : Int) (of_decide_eq_true (by first | (with_reducible assumption) | assumption)) (by have h_ : (x11_2 : Int) < ((x7_2.length : Int) : Int) := of_decide_eq_true (by first | (with_reducible assumption) | assumption); first | exact h_ | (have e_ := (Kd.R_reads' HO_7.out).1; omega) | simpa using h_) (seg := [.int .i64 (-4321), .int .u32 0]) (j := 0) hcl26 hcc26 (show 2 ≤ 2 from by decide) (x' := (⟨(-4321), 0⟩ : S37)) (k37_mkM _ _ _ (⟨(-4321), 0⟩ : S37) ) (fun _ hk => hk)
                    have hx26_0 := hcc26 0 _ rfl
                    (try simp only [show (k37).sz = 2 from rfl, Nat.mul_one, Nat.add_zero] at hx26_0)
                    have hf26_0 := hfr26 0
                    (try simp only [show (k37).sz = 2 from rfl, Nat.mul_one, Nat.add_zero] at hf26_0)
                    have hx26_1 := hcc26 1 _ rfl
                    (try simp only [show (k37).sz = 2 from rfl, Nat.mul_one, Nat.add_zero] at hx26_1)
                    have hf26_1 := hfr26 1
                    (try simp only [show (k37).sz = 2 from rfl, Nat.mul_one, Nat.add_zero] at hf26_1)
                    clear hcl26 hcc26 hfr26 hM26
                    go_wp2_with (first | ((with_reducible refine gate_store (t := 37) (p := 66) rfl ?_); (try (rw [drewN_self wr]; generalize hq_ : World.drewN wr _ = wr; have n0_ := Aside0.mk (Kd.R_at hq_ HO_7.out); have n1_ := Aside0.mk (Kd.O_at hq_ HO_8.out); have n2_ := Aside0.mk (blk_at hq_ BK140.out); have n3_ := Aside0.mk (below_at hq_ HB.out); clear hq_ HO_7 HO_8 BK140 HB; have HO_7 := n0_; have HO_8 := n1_; have hnHO_8 := fun w_ : World => Kd.O_eql (P := Tryz.prog) HO_8.out 22 (by kernel_rfl) w_; have hmHO_8 := fun w_ : World => Kd.O_neq (P := Tryz.prog) HO_8.out 22 (by kernel_rfl) w_; have BK140 := n2_; have HB := n3_; clear n0_ n1_ n2_ n3_; (try (have HX26 := Aside0.mk (show Kd.R k37 37 wr w.heap.size (fun k_ => k_ ≠ gb140) (.slice (some ⟨go25, 0, none⟩) x7_2.length co10) x7_2 from (by (with_reducible repeat (first | apply Kd.R_alloc | apply Kd.R_drewN | apply Kd.R_drew)); exact HO_7.out)))); (try (obtain ⟨ce26, hcl26, hM26, hcc26, hfr26⟩ := Kd.R_elem HX26.out z37 (x11_2 : Int) (of_decide_eq_true (by first | (with_reducible assumption) | assumption)) (by have h_ : (x11_2 : Int) < ((x7_2.length : Int) : Int) := of_decide_eq_true (by first | (with_reducible assumption) | assumption); first | exact h_ | (have e_ := (Kd.R_reads' HO_7.out).1; omega) | simpa using h_))); (try (obtain rfl := k37_openM hM26)); (try (have HP26 := Kd.R_seg HX26.out (x11_2 : Int) (of_decide_eq_true (by first | (with_reducible assumption) | assumption)) (by have h_ : (x11_2 : Int) < ((x7_2.length : Int) : Int) := of_decide_eq_true (by first | (with_reducible assumption) | assumption); first | exact h_ | (have e_ := (Kd.R_reads' HO_7.out).1; omega) | simpa using h_) (seg := [.int .i64 (-4321), .int .u32 0]) (j := 0) hcl26 hcc26 (show 2 ≤ 2 from by decide) (x' := (⟨(-4321), 0⟩ : S37)) (k37_mkM _ _ _ (⟨(-4321), 0⟩ : S37) ) (fun _ hk => hk))); (try (have hx26_0 := hcc26 0 _ rfl)); (try (try simp only [show (k37).sz = 2 from rfl, Nat.mul_one, Nat.add_zero] at hx26_0)); (try (have hf26_0 := hfr26 0)); (try (try simp only [show (k37).sz = 2 from rfl, Nat.mul_one, Nat.add_zero] at hf26_0)); (try (have hx26_1 := hcc26 1 _ rfl)); (try (try simp only [show (k37).sz = 2 from rfl, Nat.mul_one, Nat.add_zero] at hx26_1)); (try (have hf26_1 := hfr26 1)); (try (try simp only [show (k37).sz = 2 from rfl, Nat.mul_one, Nat.add_zero] at hf26_1)); (try (clear hcl26 hcc26 hfr26 hM26)))); refine store_event (t := 37) (p := 66) (v := ?vo_w27) (w1 := ((wr.setCell ⟨go25, (x11_2 : Int).toNat * 2, none⟩ (.int .i64 (-4321))).setCell ⟨go25, (x11_2 : Int).toNat * 2 + 1, none⟩ (.int .u32 0))) ?hg ?ho ?hn ?hr ?_; (case ho => rfl); (case hg => rfl); (case hn => rfl); (case hr => first | (go_simp; done) | (go_simp; rfl)); intro w27 hw; have hg : wr.grownBy w27 (some go25) := (by rw [hw]; exact HP26.2); have hp_ : Kd.R k37 37 w27 w.heap.size (fun k_ => k_ ≠ gb140) (.slice (some ⟨go25, 0, none⟩) x7_2.length co10) y154 := (by rw [hw, Ny154.out]; exact HP26.1); clear HP26; have n0_ := Aside0.mk (hp_); have n1_ := Aside0.mk (Kd.O_afterv (v := (.slice (some ⟨go25, 0, none⟩) x7_2.length co10)) (v1 := (.slice (some ⟨go25, 0, none⟩) x7_2.length co10)) (ok := (fun k_ => k_ ≠ gb140)) (by (with_reducible repeat (first | apply Kd.O_alloc | apply Kd.O_drewN | apply Kd.O_drew)); exact Kd.O_mono HO_8.out (fun _ hk => ⟨hk.2, hk.1⟩)) hg (.inl rfl)); have n2_ := Aside0.mk (blk_grown (g := gb140) (o := .cells #[.int .i64 x141000_2, .int .u32 x141001_2] 37 (0, 0)) (by (with_reducible repeat (first | refine blk_drewN ?_ _ | refine blk_drew ?_ | refine blk_alloc ?_ _)); exact BK140.out) hg (Kd.R_away HO_7.out (fun _ hk => hk))); have n3_ := Aside0.mk ((by rw [hw]; exact below_set (below_set (HB.out) GB25.out) GB25.out : Below w.heap.size w w27)); clear HO_7; clear HO_8; clear BK140; clear HB; have HO_7 := n0_; have HO_8 := n1_; have hnHO_8 := fun w_ : World => Kd.O_eql (P := Tryz.prog) HO_8.out 22 (by kernel_rfl) w_; have hmHO_8 := fun w_ : World => Kd.O_neq (P := Tryz.prog) HO_8.out 22 (by kernel_rfl) w_; have BK140 := n2_; have HB := n3_; clear n0_ n1_ n2_ n3_; clear hg hw hp_))
                    repeat (go_quiet (first | ((with_reducible refine gate_store (t := 37) (p := 66) rfl ?_); (try (rw [drewN_self wr]; generalize hq_ : World.drewN wr _ = wr; have n0_ := Aside0.mk (Kd.R_at hq_ HO_7.out); have n1_ := Aside0.mk (Kd.O_at hq_ HO_8.out); have n2_ := Aside0.mk (blk_at hq_ BK140.out); have n3_ := Aside0.mk (below_at hq_ HB.out); clear hq_ HO_7 HO_8 BK140 HB; have HO_7 := n0_; have HO_8 := n1_; have hnHO_8 := fun w_ : World => Kd.O_eql (P := Tryz.prog) HO_8.out 22 (by kernel_rfl) w_; have hmHO_8 := fun w_ : World => Kd.O_neq (P := Tryz.prog) HO_8.out 22 (by kernel_rfl) w_; have BK140 := n2_; have HB := n3_; clear n0_ n1_ n2_ n3_; (try (have HX26 := Aside0.mk (show Kd.R k37 37 wr w.heap.size (fun k_ => k_ ≠ gb140) (.slice (some ⟨go25, 0, none⟩) x7_2.length co10) x7_2 from (by (with_reducible repeat (first | apply Kd.R_alloc | apply Kd.R_drewN | apply Kd.R_drew)); exact HO_7.out)))); (try (obtain ⟨ce26, hcl26, hM26, hcc26, hfr26⟩ := Kd.R_elem HX26.out z37 (x11_2 : Int) (of_decide_eq_true (by first | (with_reducible assumption) | assumption)) (by have h_ : (x11_2 : Int) < ((x7_2.length : Int) : Int) := of_decide_eq_true (by first | (with_reducible assumption) | assumption); first | exact h_ | (have e_ := (Kd.R_reads' HO_7.out).1; omega) | simpa using h_))); (try (obtain rfl := k37_openM hM26)); (try (have HP26 := Kd.R_seg HX26.out (x11_2 : Int) (of_decide_eq_true (by first | (with_reducible assumption) | assumption)) (by have h_ : (x11_2 : Int) < ((x7_2.length : Int) : Int) := of_decide_eq_true (by first | (with_reducible assumption) | assumption); first | exact h_ | (have e_ := (Kd.R_reads' HO_7.out).1; omega) | simpa using h_) (seg := [.int .i64 (-4321), .int .u32 0]) (j := 0) hcl26 hcc26 (show 2 ≤ 2 from by decide) (x' := (⟨(-4321), 0⟩ : S37)) (k37_mkM _ _ _ (⟨(-4321), 0⟩ : S37) ) (fun _ hk => hk))); (try (have hx26_0 := hcc26 0 _ rfl)); (try (try simp only [show (k37).sz = 2 from rfl, Nat.mul_one, Nat.add_zero] at hx26_0)); (try (have hf26_0 := hfr26 0)); (try (try simp only [show (k37).sz = 2 from rfl, Nat.mul_one, Nat.add_zero] at hf26_0)); (try (have hx26_1 := hcc26 1 _ rfl)); (try (try simp only [show (k37).sz = 2 from rfl, Nat.mul_one, Nat.add_zero] at hx26_1)); (try (have hf26_1 := hfr26 1)); (try (try simp only [show (k37).sz = 2 from rfl, Nat.mul_one, Nat.add_zero] at hf26_1)); (try (clear hcl26 hcc26 hfr26 hM26)))); refine store_event (t := 37) (p := 66) (v := ?vo_w27) (w1 := ((wr.setCell ⟨go25, (x11_2 : Int).toNat * 2, none⟩ (.int .i64 (-4321))).setCell ⟨go25, (x11_2 : Int).toNat * 2 + 1, none⟩ (.int .u32 0))) ?hg ?ho ?hn ?hr ?_; (case ho => rfl); (case hg => rfl); (case hn => rfl); (case hr => first | (go_simp; done) | (go_simp; rfl)); intro w27 hw; have hg : wr.grownBy w27 (some go25) := (by rw [hw]; exact HP26.2); have hp_ : Kd.R k37 37 w27 w.heap.size (fun k_ => k_ ≠ gb140) (.slice (some ⟨go25, 0, none⟩) x7_2.length co10) y154 := (by rw [hw, Ny154.out]; exact HP26.1); clear HP26; have n0_ := Aside0.mk (hp_); have n1_ := Aside0.mk (Kd.O_afterv (v := (.slice (some ⟨go25, 0, none⟩) x7_2.length co10)) (v1 := (.slice (some ⟨go25, 0, none⟩) x7_2.length co10)) (ok := (fun k_ => k_ ≠ gb140)) (by (with_reducible repeat (first | apply Kd.O_alloc | apply Kd.O_drewN | apply Kd.O_drew)); exact Kd.O_mono HO_8.out (fun _ hk => ⟨hk.2, hk.1⟩)) hg (.inl rfl)); have n2_ := Aside0.mk (blk_grown (g := gb140) (o := .cells #[.int .i64 x141000_2, .int .u32 x141001_2] 37 (0, 0)) (by (with_reducible repeat (first | refine blk_drewN ?_ _ | refine blk_drew ?_ | refine blk_alloc ?_ _)); exact BK140.out) hg (Kd.R_away HO_7.out (fun _ hk => hk))); have n3_ := Aside0.mk ((by rw [hw]; exact below_set (below_set (HB.out) GB25.out) GB25.out : Below w.heap.size w w27)); clear HO_7; clear HO_8; clear BK140; clear HB; have HO_7 := n0_; have HO_8 := n1_; have hnHO_8 := fun w_ : World => Kd.O_eql (P := Tryz.prog) HO_8.out 22 (by kernel_rfl) w_; have hmHO_8 := fun w_ : World => Kd.O_neq (P := Tryz.prog) HO_8.out 22 (by kernel_rfl) w_; have BK140 := n2_; have HB := n3_; clear n0_ n1_ n2_ n3_; clear hg hw hp_)); try go_wp2_with (first | ((with_reducible refine gate_store (t := 37) (p := 66) rfl ?_); (try (rw [drewN_self wr]; generalize hq_ : World.drewN wr _ = wr; have n0_ := Aside0.mk (Kd.R_at hq_ HO_7.out); have n1_ := Aside0.mk (Kd.O_at hq_ HO_8.out); have n2_ := Aside0.mk (blk_at hq_ BK140.out); have n3_ := Aside0.mk (below_at hq_ HB.out); clear hq_ HO_7 HO_8 BK140 HB; have HO_7 := n0_; have HO_8 := n1_; have hnHO_8 := fun w_ : World => Kd.O_eql (P := Tryz.prog) HO_8.out 22 (by kernel_rfl) w_; have hmHO_8 := fun w_ : World => Kd.O_neq (P := Tryz.prog) HO_8.out 22 (by kernel_rfl) w_; have BK140 := n2_; have HB := n3_; clear n0_ n1_ n2_ n3_; (try (have HX26 := Aside0.mk (show Kd.R k37 37 wr w.heap.size (fun k_ => k_ ≠ gb140) (.slice (some ⟨go25, 0, none⟩) x7_2.length co10) x7_2 from (by (with_reducible repeat (first | apply Kd.R_alloc | apply Kd.R_drewN | apply Kd.R_drew)); exact HO_7.out)))); (try (obtain ⟨ce26, hcl26, hM26, hcc26, hfr26⟩ := Kd.R_elem HX26.out z37 (x11_2 : Int) (of_decide_eq_true (by first | (with_reducible assumption) | assumption)) (by have h_ : (x11_2 : Int) < ((x7_2.length : Int) : Int) := of_decide_eq_true (by first | (with_reducible assumption) | assumption); first | exact h_ | (have e_ := (Kd.R_reads' HO_7.out).1; omega) | simpa using h_))); (try (obtain rfl := k37_openM hM26)); (try (have HP26 := Kd.R_seg HX26.out (x11_2 : Int) (of_decide_eq_true (by first | (with_reducible assumption) | assumption)) (by have h_ : (x11_2 : Int) < ((x7_2.length : Int) : Int) := of_decide_eq_true (by first | (with_reducible assumption) | assumption); first | exact h_ | (have e_ := (Kd.R_reads' HO_7.out).1; omega) | simpa using h_) (seg := [.int .i64 (-4321), .int .u32 0]) (j := 0) hcl26 hcc26 (show 2 ≤ 2 from by decide) (x' := (⟨(-4321), 0⟩ : S37)) (k37_mkM _ _ _ (⟨(-4321), 0⟩ : S37) ) (fun _ hk => hk))); (try (have hx26_0 := hcc26 0 _ rfl)); (try (try simp only [show (k37).sz = 2 from rfl, Nat.mul_one, Nat.add_zero] at hx26_0)); (try (have hf26_0 := hfr26 0)); (try (try simp only [show (k37).sz = 2 from rfl, Nat.mul_one, Nat.add_zero] at hf26_0)); (try (have hx26_1 := hcc26 1 _ rfl)); (try (try simp only [show (k37).sz = 2 from rfl, Nat.mul_one, Nat.add_zero] at hx26_1)); (try (have hf26_1 := hfr26 1)); (try (try simp only [show (k37).sz = 2 from rfl, Nat.mul_one, Nat.add_zero] at hf26_1)); (try (clear hcl26 hcc26 hfr26 hM26)))); refine store_event (t := 37) (p := 66) (v := ?vo_w27) (w1 := ((wr.setCell ⟨go25, (x11_2 : Int).toNat * 2, none⟩ (.int .i64 (-4321))).setCell ⟨go25, (x11_2 : Int).toNat * 2 + 1, none⟩ (.int .u32 0))) ?hg ?ho ?hn ?hr ?_; (case ho => rfl); (case hg => rfl); (case hn => rfl); (case hr => first | (go_simp; done) | (go_simp; rfl)); intro w27 hw; have hg : wr.grownBy w27 (some go25) := (by rw [hw]; exact HP26.2); have hp_ : Kd.R k37 37 w27 w.heap.size (fun k_ => k_ ≠ gb140) (.slice (some ⟨go25, 0, none⟩) x7_2.length co10) y154 := (by rw [hw, Ny154.out]; exact HP26.1); clear HP26; have n0_ := Aside0.mk (hp_); have n1_ := Aside0.mk (Kd.O_afterv (v := (.slice (some ⟨go25, 0, none⟩) x7_2.length co10)) (v1 := (.slice (some ⟨go25, 0, none⟩) x7_2.length co10)) (ok := (fun k_ => k_ ≠ gb140)) (by (with_reducible repeat (first | apply Kd.O_alloc | apply Kd.O_drewN | apply Kd.O_drew)); exact Kd.O_mono HO_8.out (fun _ hk => ⟨hk.2, hk.1⟩)) hg (.inl rfl)); have n2_ := Aside0.mk (blk_grown (g := gb140) (o := .cells #[.int .i64 x141000_2, .int .u32 x141001_2] 37 (0, 0)) (by (with_reducible repeat (first | refine blk_drewN ?_ _ | refine blk_drew ?_ | refine blk_alloc ?_ _)); exact BK140.out) hg (Kd.R_away HO_7.out (fun _ hk => hk))); have n3_ := Aside0.mk ((by rw [hw]; exact below_set (below_set (HB.out) GB25.out) GB25.out : Below w.heap.size w w27)); clear HO_7; clear HO_8; clear BK140; clear HB; have HO_7 := n0_; have HO_8 := n1_; have hnHO_8 := fun w_ : World => Kd.O_eql (P := Tryz.prog) HO_8.out 22 (by kernel_rfl) w_; have hmHO_8 := fun w_ : World => Kd.O_neq (P := Tryz.prog) HO_8.out 22 (by kernel_rfl) w_; have BK140 := n2_; have HB := n3_; clear n0_ n1_ n2_ n3_; clear hg hw hp_)))
                    (try simp only [← hl7_2])
                    go_roundg k2
                    case measure => have := HJ6.out; have := HK2.out; omega
                    case rel => exact ⟨(y154), (wrap64 (x11_2 + 1)), (x141000_2), (x141001_2), (by first | rfl | (simp; done) | (simp [*]; done)), H', ⟨by have := HJ6.out; have := HK2.out; omega⟩, ⟨by (try simp only [hl7_2]); (with_reducible repeat (first | apply Kd.R_alloc | apply Kd.R_drewN | apply Kd.R_drew)); exact HO_7.out⟩, ⟨by (try simp only [hl7_2]); (with_reducible repeat (first | apply Kd.O_alloc | apply Kd.O_drewN | apply Kd.O_drew)); exact Kd.O_mono HO_8.out (fun _ hk => ⟨hk.2, hk.1⟩)⟩, ⟨by (try simp only [hl7_2]); (with_reducible repeat (first | refine blk_drewN ?_ _ | refine blk_drew ?_ | refine blk_alloc ?_ _)); exact BK140.out⟩, ⟨by repeat (first | (with_reducible first | exact HB.out | apply below_alloc | apply pw_below_drewN | apply below_drew1 | refine below_set ?_ GE140.out) | exact HB.out | exact below_undrew HB.out)⟩⟩
                · rw [if_neg c23] at H
                  exact absurd H (by simp)
              · rw [if_neg c22] at H
                exact absurd H (by simp)
            · rw [if_neg c21] at H
              have c21b0 : decide (x11_2 < (x7_2.length : Int)) = false := decide_eq_false c21
              clear c21
              replace H := Option.bind_eq_some_iff.mp H
              obtain ⟨⟨t155, t156⟩, A280, H⟩ := H
              replace H : ((barbicanref02_Find.f k2 l0 x141000_2 x141001_2).bind fun bt157 => ((lattice_Lattice_Label.f t144 a2).bind fun bt159 => (if a2 ≥ 0 then (barbicanlaw02_LatticeMakes.j2 k2 l0 a2 t144 t155 t156 bt157.1 bt157.2 bt159.2.2 (decide (a2 < (l0.length : Int))) bt159.1 bt159.2.1) else (barbicanlaw02_LatticeMakes.j2 k2 l0 a2 t144 t155 t156 bt157.1 bt157.2 bt159.2.2 false bt159.1 bt159.2.1)))) = some r := H
              have A28 := Aside0.mk A280
              clear A280
              replace H := Option.bind_eq_some_iff.mp H
              obtain ⟨⟨t157, t158⟩, A290, H⟩ := H
              replace H : ((lattice_Lattice_Label.f t144 a2).bind fun bt159 => (if a2 ≥ 0 then (barbicanlaw02_LatticeMakes.j2 k2 l0 a2 t144 t155 t156 t157 t158 bt159.2.2 (decide (a2 < (l0.length : Int))) bt159.1 bt159.2.1) else (barbicanlaw02_LatticeMakes.j2 k2 l0 a2 t144 t155 t156 t157 t158 bt159.2.2 false bt159.1 bt159.2.1))) = some r := H
              have A29 := Aside0.mk A290
              clear A290
              replace H := Option.bind_eq_some_iff.mp H
              obtain ⟨⟨t159, t160, t161⟩, A300, H⟩ := H
              replace H : (if a2 ≥ 0 then (barbicanlaw02_LatticeMakes.j2 k2 l0 a2 t144 t155 t156 t157 t158 t161 (decide (a2 < (l0.length : Int))) t159 t160) else (barbicanlaw02_LatticeMakes.j2 k2 l0 a2 t144 t155 t156 t157 t158 t161 false t159 t160)) = some r := H
              have A30 := Aside0.mk A300
              clear A300
              have HC31 := Aside0.mk H
              clear H
              have hcz32_0 : wr.cell? ⟨gb140, 0, none⟩ = some (.int .i64 x141000_2) := (blk_cell BK140.out 0).trans rfl
              have hcz32_1 : wr.cell? ⟨gb140, 1, none⟩ = some (.int .u32 x141001_2) := (blk_cell BK140.out 1).trans rfl
              have hfz32_0 := blk_frozen BK140.out 0
              have hfz32_1 := blk_frozen BK140.out 1
              obtain ⟨Ao33, co33, eo33⟩ := Kd.O_slice HO_8.out
              subst eo33; have hiAo33 := Kd.O_isN HO_8.out
              go_upto_region 15 with (first | (go_at_call 14; (with_reducible refine (lattice_Lattice_Find.calls _ t144 x141000_2 x141001_2 t155 t156 _ ?side1 ?side2 A28.out).mono ?_); (case side1 => exact (Kd.O_reads' (by (with_reducible repeat (first | apply Kd.O_alloc | apply Kd.O_drewN | apply Kd.O_drew)); exact HO_8.out)).2.2); (case side2 => exact (Kd.O_reads' HO_8.out).2.1); rintro e w34 ⟨rfl, hb⟩; have n0_ := Aside0.mk (Kd.R_below (by (with_reducible repeat (first | apply Kd.R_alloc | apply Kd.R_drewN | apply Kd.R_drew)); exact HO_7.out) hb); have n1_ := Aside0.mk (Kd.O_below (by (with_reducible repeat (first | apply Kd.O_alloc | apply Kd.O_drewN | apply Kd.O_drew)); exact HO_8.out) hb); have n2_ := Aside0.mk (blk_below (g := gb140) (o := .cells #[.int .i64 x141000_2, .int .u32 x141001_2] 37 (0, 0)) (by (with_reducible repeat (first | refine blk_drewN ?_ _ | refine blk_drew ?_ | refine blk_alloc ?_ _)); exact BK140.out) hb); have n3_ := Aside0.mk (below_step (by repeat (first | (with_reducible first | exact HB.out | apply below_alloc | apply pw_below_drewN | apply below_drew1 | refine below_set ?_ GE140.out) | exact HB.out | exact below_undrew HB.out)) hb); clear HO_7; clear HO_8; clear BK140; clear HB; have HO_7 := n0_; have HO_8 := n1_; have hnHO_8 := fun w_ : World => Kd.O_eql (P := Tryz.prog) HO_8.out 22 (by kernel_rfl) w_; have hmHO_8 := fun w_ : World => Kd.O_neq (P := Tryz.prog) HO_8.out 22 (by kernel_rfl) w_; have BK140 := n2_; have HB := n3_; clear n0_ n1_ n2_ n3_; (try clear hb); (try clear hb2); (try clear hk); (try clear hi); (try simp only [errW_none, errW_some]); have hcz35_0 : w34.cell? ⟨gb140, 0, none⟩ = some (.int .i64 x141000_2) := (blk_cell BK140.out 0).trans rfl; have hcz35_1 : w34.cell? ⟨gb140, 1, none⟩ = some (.int .u32 x141001_2) := (blk_cell BK140.out 1).trans rfl; have hfz35_0 := blk_frozen BK140.out 0; have hfz35_1 := blk_frozen BK140.out 1) | (go_at_call 15; (with_reducible refine (barbicanref02_Find.calls k2 _ _ l0 x141000_2 x141001_2 t157 t158 _ ?side1 ?side2 A29.out).mono ?_); (case side1 => repeat (first | exact (Kd.C_below HR0.out HB.out) | (with_reducible refine Kd.C_alloc ?_ _) | (with_reducible refine Kd.C_drewN ?_ _) | (with_reducible refine Kd.C_drew ?_))); (case side2 => exact HC0.out); rintro e w36 ⟨rfl, hb⟩; have n0_ := Aside0.mk (Kd.R_below (by (with_reducible repeat (first | apply Kd.R_alloc | apply Kd.R_drewN | apply Kd.R_drew)); exact HO_7.out) hb); have n1_ := Aside0.mk (Kd.O_below (by (with_reducible repeat (first | apply Kd.O_alloc | apply Kd.O_drewN | apply Kd.O_drew)); exact HO_8.out) hb); have n2_ := Aside0.mk (blk_below (g := gb140) (o := .cells #[.int .i64 x141000_2, .int .u32 x141001_2] 37 (0, 0)) (by (with_reducible repeat (first | refine blk_drewN ?_ _ | refine blk_drew ?_ | refine blk_alloc ?_ _)); exact BK140.out) hb); have n3_ := Aside0.mk (below_step (by repeat (first | (with_reducible first | exact HB.out | apply below_alloc | apply pw_below_drewN | apply below_drew1 | refine below_set ?_ GE140.out) | exact HB.out | exact below_undrew HB.out)) hb); clear HO_7; clear HO_8; clear BK140; clear HB; have HO_7 := n0_; have HO_8 := n1_; have hnHO_8 := fun w_ : World => Kd.O_eql (P := Tryz.prog) HO_8.out 22 (by kernel_rfl) w_; have hmHO_8 := fun w_ : World => Kd.O_neq (P := Tryz.prog) HO_8.out 22 (by kernel_rfl) w_; have BK140 := n2_; have HB := n3_; clear n0_ n1_ n2_ n3_; (try clear hb); (try clear hb2); (try clear hk); (try clear hi)) | (go_at_call 16; (with_reducible refine (lattice_Lattice_Label.calls _ t144 a2 t159 t160 t161 _ ?side1 ?side2 A30.out).mono ?_); (case side1 => exact (Kd.O_reads' (by (with_reducible repeat (first | apply Kd.O_alloc | apply Kd.O_drewN | apply Kd.O_drew)); exact HO_8.out)).2.2); (case side2 => exact (Kd.O_reads' HO_8.out).2.1); rintro e w37 ⟨rfl, hb⟩; have n0_ := Aside0.mk (Kd.R_below (by (with_reducible repeat (first | apply Kd.R_alloc | apply Kd.R_drewN | apply Kd.R_drew)); exact HO_7.out) hb); have n1_ := Aside0.mk (Kd.O_below (by (with_reducible repeat (first | apply Kd.O_alloc | apply Kd.O_drewN | apply Kd.O_drew)); exact HO_8.out) hb); have n2_ := Aside0.mk (blk_below (g := gb140) (o := .cells #[.int .i64 x141000_2, .int .u32 x141001_2] 37 (0, 0)) (by (with_reducible repeat (first | refine blk_drewN ?_ _ | refine blk_drew ?_ | refine blk_alloc ?_ _)); exact BK140.out) hb); have n3_ := Aside0.mk (below_step (by repeat (first | (with_reducible first | exact HB.out | apply below_alloc | apply pw_below_drewN | apply below_drew1 | refine below_set ?_ GE140.out) | exact HB.out | exact below_undrew HB.out)) hb); clear HO_7; clear HO_8; clear BK140; clear HB; have HO_7 := n0_; have HO_8 := n1_; have hnHO_8 := fun w_ : World => Kd.O_eql (P := Tryz.prog) HO_8.out 22 (by kernel_rfl) w_; have hmHO_8 := fun w_ : World => Kd.O_neq (P := Tryz.prog) HO_8.out 22 (by kernel_rfl) w_; have BK140 := n2_; have HB := n3_; clear n0_ n1_ n2_ n3_; (try clear hb); (try clear hb2); (try clear hk); (try clear hi); (try simp only [errW_none, errW_some])) | ((with_reducible refine gate_dst (N := 16) rfl ?_); (try (refine gate_guard (by rfl) ?_; dsimp only)); refine box_event ?hg (N := 16) ?hd (cs := #[.int .i64 0, .int .u32 0]) (t := 37) ?hr ?_; (case hd => rfl); (case hg => rfl); (case hr => first | (go_simp; done) | (go_simp; rfl)); intro gb162 hg w38 hbox hb; have n0_ := Aside0.mk (Kd.R_below (Kd.R_elderB (by (with_reducible repeat (first | apply Kd.R_alloc | apply Kd.R_drewN | apply Kd.R_drew)); exact HO_7.out) gb162 (Nat.le_of_eq hg.symm)) hb); have n1_ := Aside0.mk (Kd.O_below (Kd.O_elderB (by (with_reducible repeat (first | apply Kd.O_alloc | apply Kd.O_drewN | apply Kd.O_drew)); exact HO_8.out) gb162 (Nat.le_of_eq hg.symm)) hb); have n2_ := Aside0.mk (blk_below (g := gb140) (o := .cells #[.int .i64 x141000_2, .int .u32 x141001_2] 37 (0, 0)) (by (with_reducible repeat (first | refine blk_drewN ?_ _ | refine blk_drew ?_ | refine blk_alloc ?_ _)); exact BK140.out) hb); have n3_ := Aside0.mk (below_step (by repeat (first | (with_reducible first | exact HB.out | apply below_alloc | apply pw_below_drewN | apply below_drew1 | refine below_set ?_ GE140.out) | exact HB.out | exact below_undrew HB.out)) hb); have n4_ := Aside0.mk (hbox); have n5_ := Aside0.mk ((by rw [hg]; exact (below_size (by repeat (first | (with_reducible first | exact HB.out | apply below_alloc | apply pw_below_drewN | apply below_drew1 | refine below_set ?_ GE140.out) | exact HB.out | exact below_undrew HB.out))) : w.heap.size ≤ gb162)); have n6_ := Aside0.mk ((by rw [hg]; exact (below_size (by repeat (first | (with_reducible first | exact HB.out | apply below_alloc | apply pw_below_drewN | apply below_drew1 | refine below_set ?_ GE140.out) | exact HB.out | exact below_undrew HB.out))) : w.heap.size ≤ gb162)); have n7_ := Aside0.mk ((by rw [hg]; exact Nat.ne_of_lt (blk_lt (g := gb140) (o := .cells #[.int .i64 x141000_2, .int .u32 x141001_2] 37 (0, 0)) (by (with_reducible repeat (first | refine blk_drewN ?_ _ | refine blk_drew ?_ | refine blk_alloc ?_ _)); exact BK140.out)) : gb140 ≠ gb162)); have n8_ := Aside0.mk ((by rw [hg]; exact Nat.ne_of_gt (blk_lt (g := gb140) (o := .cells #[.int .i64 x141000_2, .int .u32 x141001_2] 37 (0, 0)) (by (with_reducible repeat (first | refine blk_drewN ?_ _ | refine blk_drew ?_ | refine blk_alloc ?_ _)); exact BK140.out)) : gb162 ≠ gb140)); clear HO_7; clear HO_8; clear BK140; clear HB; have HO_7 := n0_; have HO_8 := n1_; have hnHO_8 := fun w_ : World => Kd.O_eql (P := Tryz.prog) HO_8.out 22 (by kernel_rfl) w_; have hmHO_8 := fun w_ : World => Kd.O_neq (P := Tryz.prog) HO_8.out 22 (by kernel_rfl) w_; have BK140 := n2_; have HB := n3_; have BK162 := n4_; have GW162 := n5_; have GE162 := n6_; have NB140_162 := n7_; have NB162_140 := n8_; clear n0_ n1_ n2_ n3_ n4_ n5_ n6_ n7_ n8_; clear hb hbox hg; have hnb39 := NB162_140.out; have hnc39 := NB140_162.out; have hcz40_0 : w38.cell? ⟨gb162, 0, none⟩ = some (.int .i64 0) := (blk_cell BK162.out 0).trans rfl; have hcz40_1 : w38.cell? ⟨gb162, 1, none⟩ = some (.int .u32 0) := (blk_cell BK162.out 1).trans rfl; have hfz40_0 := blk_frozen BK162.out 0; have hfz40_1 := blk_frozen BK162.out 1))
              repeat (go_quiet (first | (go_at_call 14; (with_reducible refine (lattice_Lattice_Find.calls _ t144 x141000_2 x141001_2 t155 t156 _ ?side1 ?side2 A28.out).mono ?_); (case side1 => exact (Kd.O_reads' (by (with_reducible repeat (first | apply Kd.O_alloc | apply Kd.O_drewN | apply Kd.O_drew)); exact HO_8.out)).2.2); (case side2 => exact (Kd.O_reads' HO_8.out).2.1); rintro e w34 ⟨rfl, hb⟩; have n0_ := Aside0.mk (Kd.R_below (by (with_reducible repeat (first | apply Kd.R_alloc | apply Kd.R_drewN | apply Kd.R_drew)); exact HO_7.out) hb); have n1_ := Aside0.mk (Kd.O_below (by (with_reducible repeat (first | apply Kd.O_alloc | apply Kd.O_drewN | apply Kd.O_drew)); exact HO_8.out) hb); have n2_ := Aside0.mk (blk_below (g := gb140) (o := .cells #[.int .i64 x141000_2, .int .u32 x141001_2] 37 (0, 0)) (by (with_reducible repeat (first | refine blk_drewN ?_ _ | refine blk_drew ?_ | refine blk_alloc ?_ _)); exact BK140.out) hb); have n3_ := Aside0.mk (below_step (by repeat (first | (with_reducible first | exact HB.out | apply below_alloc | apply pw_below_drewN | apply below_drew1 | refine below_set ?_ GE140.out) | exact HB.out | exact below_undrew HB.out)) hb); clear HO_7; clear HO_8; clear BK140; clear HB; have HO_7 := n0_; have HO_8 := n1_; have hnHO_8 := fun w_ : World => Kd.O_eql (P := Tryz.prog) HO_8.out 22 (by kernel_rfl) w_; have hmHO_8 := fun w_ : World => Kd.O_neq (P := Tryz.prog) HO_8.out 22 (by kernel_rfl) w_; have BK140 := n2_; have HB := n3_; clear n0_ n1_ n2_ n3_; (try clear hb); (try clear hb2); (try clear hk); (try clear hi); (try simp only [errW_none, errW_some]); have hcz35_0 : w34.cell? ⟨gb140, 0, none⟩ = some (.int .i64 x141000_2) := (blk_cell BK140.out 0).trans rfl; have hcz35_1 : w34.cell? ⟨gb140, 1, none⟩ = some (.int .u32 x141001_2) := (blk_cell BK140.out 1).trans rfl; have hfz35_0 := blk_frozen BK140.out 0; have hfz35_1 := blk_frozen BK140.out 1) | (go_at_call 15; (with_reducible refine (barbicanref02_Find.calls k2 _ _ l0 x141000_2 x141001_2 t157 t158 _ ?side1 ?side2 A29.out).mono ?_); (case side1 => repeat (first | exact (Kd.C_below HR0.out HB.out) | (with_reducible refine Kd.C_alloc ?_ _) | (with_reducible refine Kd.C_drewN ?_ _) | (with_reducible refine Kd.C_drew ?_))); (case side2 => exact HC0.out); rintro e w36 ⟨rfl, hb⟩; have n0_ := Aside0.mk (Kd.R_below (by (with_reducible repeat (first | apply Kd.R_alloc | apply Kd.R_drewN | apply Kd.R_drew)); exact HO_7.out) hb); have n1_ := Aside0.mk (Kd.O_below (by (with_reducible repeat (first | apply Kd.O_alloc | apply Kd.O_drewN | apply Kd.O_drew)); exact HO_8.out) hb); have n2_ := Aside0.mk (blk_below (g := gb140) (o := .cells #[.int .i64 x141000_2, .int .u32 x141001_2] 37 (0, 0)) (by (with_reducible repeat (first | refine blk_drewN ?_ _ | refine blk_drew ?_ | refine blk_alloc ?_ _)); exact BK140.out) hb); have n3_ := Aside0.mk (below_step (by repeat (first | (with_reducible first | exact HB.out | apply below_alloc | apply pw_below_drewN | apply below_drew1 | refine below_set ?_ GE140.out) | exact HB.out | exact below_undrew HB.out)) hb); clear HO_7; clear HO_8; clear BK140; clear HB; have HO_7 := n0_; have HO_8 := n1_; have hnHO_8 := fun w_ : World => Kd.O_eql (P := Tryz.prog) HO_8.out 22 (by kernel_rfl) w_; have hmHO_8 := fun w_ : World => Kd.O_neq (P := Tryz.prog) HO_8.out 22 (by kernel_rfl) w_; have BK140 := n2_; have HB := n3_; clear n0_ n1_ n2_ n3_; (try clear hb); (try clear hb2); (try clear hk); (try clear hi)) | (go_at_call 16; (with_reducible refine (lattice_Lattice_Label.calls _ t144 a2 t159 t160 t161 _ ?side1 ?side2 A30.out).mono ?_); (case side1 => exact (Kd.O_reads' (by (with_reducible repeat (first | apply Kd.O_alloc | apply Kd.O_drewN | apply Kd.O_drew)); exact HO_8.out)).2.2); (case side2 => exact (Kd.O_reads' HO_8.out).2.1); rintro e w37 ⟨rfl, hb⟩; have n0_ := Aside0.mk (Kd.R_below (by (with_reducible repeat (first | apply Kd.R_alloc | apply Kd.R_drewN | apply Kd.R_drew)); exact HO_7.out) hb); have n1_ := Aside0.mk (Kd.O_below (by (with_reducible repeat (first | apply Kd.O_alloc | apply Kd.O_drewN | apply Kd.O_drew)); exact HO_8.out) hb); have n2_ := Aside0.mk (blk_below (g := gb140) (o := .cells #[.int .i64 x141000_2, .int .u32 x141001_2] 37 (0, 0)) (by (with_reducible repeat (first | refine blk_drewN ?_ _ | refine blk_drew ?_ | refine blk_alloc ?_ _)); exact BK140.out) hb); have n3_ := Aside0.mk (below_step (by repeat (first | (with_reducible first | exact HB.out | apply below_alloc | apply pw_below_drewN | apply below_drew1 | refine below_set ?_ GE140.out) | exact HB.out | exact below_undrew HB.out)) hb); clear HO_7; clear HO_8; clear BK140; clear HB; have HO_7 := n0_; have HO_8 := n1_; have hnHO_8 := fun w_ : World => Kd.O_eql (P := Tryz.prog) HO_8.out 22 (by kernel_rfl) w_; have hmHO_8 := fun w_ : World => Kd.O_neq (P := Tryz.prog) HO_8.out 22 (by kernel_rfl) w_; have BK140 := n2_; have HB := n3_; clear n0_ n1_ n2_ n3_; (try clear hb); (try clear hb2); (try clear hk); (try clear hi); (try simp only [errW_none, errW_some])) | ((with_reducible refine gate_dst (N := 16) rfl ?_); (try (refine gate_guard (by rfl) ?_; dsimp only)); refine box_event ?hg (N := 16) ?hd (cs := #[.int .i64 0, .int .u32 0]) (t := 37) ?hr ?_; (case hd => rfl); (case hg => rfl); (case hr => first | (go_simp; done) | (go_simp; rfl)); intro gb162 hg w38 hbox hb; have n0_ := Aside0.mk (Kd.R_below (Kd.R_elderB (by (with_reducible repeat (first | apply Kd.R_alloc | apply Kd.R_drewN | apply Kd.R_drew)); exact HO_7.out) gb162 (Nat.le_of_eq hg.symm)) hb); have n1_ := Aside0.mk (Kd.O_below (Kd.O_elderB (by (with_reducible repeat (first | apply Kd.O_alloc | apply Kd.O_drewN | apply Kd.O_drew)); exact HO_8.out) gb162 (Nat.le_of_eq hg.symm)) hb); have n2_ := Aside0.mk (blk_below (g := gb140) (o := .cells #[.int .i64 x141000_2, .int .u32 x141001_2] 37 (0, 0)) (by (with_reducible repeat (first | refine blk_drewN ?_ _ | refine blk_drew ?_ | refine blk_alloc ?_ _)); exact BK140.out) hb); have n3_ := Aside0.mk (below_step (by repeat (first | (with_reducible first | exact HB.out | apply below_alloc | apply pw_below_drewN | apply below_drew1 | refine below_set ?_ GE140.out) | exact HB.out | exact below_undrew HB.out)) hb); have n4_ := Aside0.mk (hbox); have n5_ := Aside0.mk ((by rw [hg]; exact (below_size (by repeat (first | (with_reducible first | exact HB.out | apply below_alloc | apply pw_below_drewN | apply below_drew1 | refine below_set ?_ GE140.out) | exact HB.out | exact below_undrew HB.out))) : w.heap.size ≤ gb162)); have n6_ := Aside0.mk ((by rw [hg]; exact (below_size (by repeat (first | (with_reducible first | exact HB.out | apply below_alloc | apply pw_below_drewN | apply below_drew1 | refine below_set ?_ GE140.out) | exact HB.out | exact below_undrew HB.out))) : w.heap.size ≤ gb162)); have n7_ := Aside0.mk ((by rw [hg]; exact Nat.ne_of_lt (blk_lt (g := gb140) (o := .cells #[.int .i64 x141000_2, .int .u32 x141001_2] 37 (0, 0)) (by (with_reducible repeat (first | refine blk_drewN ?_ _ | refine blk_drew ?_ | refine blk_alloc ?_ _)); exact BK140.out)) : gb140 ≠ gb162)); have n8_ := Aside0.mk ((by rw [hg]; exact Nat.ne_of_gt (blk_lt (g := gb140) (o := .cells #[.int .i64 x141000_2, .int .u32 x141001_2] 37 (0, 0)) (by (with_reducible repeat (first | refine blk_drewN ?_ _ | refine blk_drew ?_ | refine blk_alloc ?_ _)); exact BK140.out)) : gb162 ≠ gb140)); clear HO_7; clear HO_8; clear BK140; clear HB; have HO_7 := n0_; have HO_8 := n1_; have hnHO_8 := fun w_ : World => Kd.O_eql (P := Tryz.prog) HO_8.out 22 (by kernel_rfl) w_; have hmHO_8 := fun w_ : World => Kd.O_neq (P := Tryz.prog) HO_8.out 22 (by kernel_rfl) w_; have BK140 := n2_; have HB := n3_; have BK162 := n4_; have GW162 := n5_; have GE162 := n6_; have NB140_162 := n7_; have NB162_140 := n8_; clear n0_ n1_ n2_ n3_ n4_ n5_ n6_ n7_ n8_; clear hb hbox hg; have hnb39 := NB162_140.out; have hnc39 := NB140_162.out; have hcz40_0 : w38.cell? ⟨gb162, 0, none⟩ = some (.int .i64 0) := (blk_cell BK162.out 0).trans rfl; have hcz40_1 : w38.cell? ⟨gb162, 1, none⟩ = some (.int .u32 0) := (blk_cell BK162.out 1).trans rfl; have hfz40_0 := blk_frozen BK162.out 0; have hfz40_1 := blk_frozen BK162.out 1)); go_upto_region 15 with (first | (go_at_call 14; (with_reducible refine (lattice_Lattice_Find.calls _ t144 x141000_2 x141001_2 t155 t156 _ ?side1 ?side2 A28.out).mono ?_); (case side1 => exact (Kd.O_reads' (by (with_reducible repeat (first | apply Kd.O_alloc | apply Kd.O_drewN | apply Kd.O_drew)); exact HO_8.out)).2.2); (case side2 => exact (Kd.O_reads' HO_8.out).2.1); rintro e w34 ⟨rfl, hb⟩; have n0_ := Aside0.mk (Kd.R_below (by (with_reducible repeat (first | apply Kd.R_alloc | apply Kd.R_drewN | apply Kd.R_drew)); exact HO_7.out) hb); have n1_ := Aside0.mk (Kd.O_below (by (with_reducible repeat (first | apply Kd.O_alloc | apply Kd.O_drewN | apply Kd.O_drew)); exact HO_8.out) hb); have n2_ := Aside0.mk (blk_below (g := gb140) (o := .cells #[.int .i64 x141000_2, .int .u32 x141001_2] 37 (0, 0)) (by (with_reducible repeat (first | refine blk_drewN ?_ _ | refine blk_drew ?_ | refine blk_alloc ?_ _)); exact BK140.out) hb); have n3_ := Aside0.mk (below_step (by repeat (first | (with_reducible first | exact HB.out | apply below_alloc | apply pw_below_drewN | apply below_drew1 | refine below_set ?_ GE140.out) | exact HB.out | exact below_undrew HB.out)) hb); clear HO_7; clear HO_8; clear BK140; clear HB; have HO_7 := n0_; have HO_8 := n1_; have hnHO_8 := fun w_ : World => Kd.O_eql (P := Tryz.prog) HO_8.out 22 (by kernel_rfl) w_; have hmHO_8 := fun w_ : World => Kd.O_neq (P := Tryz.prog) HO_8.out 22 (by kernel_rfl) w_; have BK140 := n2_; have HB := n3_; clear n0_ n1_ n2_ n3_; (try clear hb); (try clear hb2); (try clear hk); (try clear hi); (try simp only [errW_none, errW_some]); have hcz35_0 : w34.cell? ⟨gb140, 0, none⟩ = some (.int .i64 x141000_2) := (blk_cell BK140.out 0).trans rfl; have hcz35_1 : w34.cell? ⟨gb140, 1, none⟩ = some (.int .u32 x141001_2) := (blk_cell BK140.out 1).trans rfl; have hfz35_0 := blk_frozen BK140.out 0; have hfz35_1 := blk_frozen BK140.out 1) | (go_at_call 15; (with_reducible refine (barbicanref02_Find.calls k2 _ _ l0 x141000_2 x141001_2 t157 t158 _ ?side1 ?side2 A29.out).mono ?_); (case side1 => repeat (first | exact (Kd.C_below HR0.out HB.out) | (with_reducible refine Kd.C_alloc ?_ _) | (with_reducible refine Kd.C_drewN ?_ _) | (with_reducible refine Kd.C_drew ?_))); (case side2 => exact HC0.out); rintro e w36 ⟨rfl, hb⟩; have n0_ := Aside0.mk (Kd.R_below (by (with_reducible repeat (first | apply Kd.R_alloc | apply Kd.R_drewN | apply Kd.R_drew)); exact HO_7.out) hb); have n1_ := Aside0.mk (Kd.O_below (by (with_reducible repeat (first | apply Kd.O_alloc | apply Kd.O_drewN | apply Kd.O_drew)); exact HO_8.out) hb); have n2_ := Aside0.mk (blk_below (g := gb140) (o := .cells #[.int .i64 x141000_2, .int .u32 x141001_2] 37 (0, 0)) (by (with_reducible repeat (first | refine blk_drewN ?_ _ | refine blk_drew ?_ | refine blk_alloc ?_ _)); exact BK140.out) hb); have n3_ := Aside0.mk (below_step (by repeat (first | (with_reducible first | exact HB.out | apply below_alloc | apply pw_below_drewN | apply below_drew1 | refine below_set ?_ GE140.out) | exact HB.out | exact below_undrew HB.out)) hb); clear HO_7; clear HO_8; clear BK140; clear HB; have HO_7 := n0_; have HO_8 := n1_; have hnHO_8 := fun w_ : World => Kd.O_eql (P := Tryz.prog) HO_8.out 22 (by kernel_rfl) w_; have hmHO_8 := fun w_ : World => Kd.O_neq (P := Tryz.prog) HO_8.out 22 (by kernel_rfl) w_; have BK140 := n2_; have HB := n3_; clear n0_ n1_ n2_ n3_; (try clear hb); (try clear hb2); (try clear hk); (try clear hi)) | (go_at_call 16; (with_reducible refine (lattice_Lattice_Label.calls _ t144 a2 t159 t160 t161 _ ?side1 ?side2 A30.out).mono ?_); (case side1 => exact (Kd.O_reads' (by (with_reducible repeat (first | apply Kd.O_alloc | apply Kd.O_drewN | apply Kd.O_drew)); exact HO_8.out)).2.2); (case side2 => exact (Kd.O_reads' HO_8.out).2.1); rintro e w37 ⟨rfl, hb⟩; have n0_ := Aside0.mk (Kd.R_below (by (with_reducible repeat (first | apply Kd.R_alloc | apply Kd.R_drewN | apply Kd.R_drew)); exact HO_7.out) hb); have n1_ := Aside0.mk (Kd.O_below (by (with_reducible repeat (first | apply Kd.O_alloc | apply Kd.O_drewN | apply Kd.O_drew)); exact HO_8.out) hb); have n2_ := Aside0.mk (blk_below (g := gb140) (o := .cells #[.int .i64 x141000_2, .int .u32 x141001_2] 37 (0, 0)) (by (with_reducible repeat (first | refine blk_drewN ?_ _ | refine blk_drew ?_ | refine blk_alloc ?_ _)); exact BK140.out) hb); have n3_ := Aside0.mk (below_step (by repeat (first | (with_reducible first | exact HB.out | apply below_alloc | apply pw_below_drewN | apply below_drew1 | refine below_set ?_ GE140.out) | exact HB.out | exact below_undrew HB.out)) hb); clear HO_7; clear HO_8; clear BK140; clear HB; have HO_7 := n0_; have HO_8 := n1_; have hnHO_8 := fun w_ : World => Kd.O_eql (P := Tryz.prog) HO_8.out 22 (by kernel_rfl) w_; have hmHO_8 := fun w_ : World => Kd.O_neq (P := Tryz.prog) HO_8.out 22 (by kernel_rfl) w_; have BK140 := n2_; have HB := n3_; clear n0_ n1_ n2_ n3_; (try clear hb); (try clear hb2); (try clear hk); (try clear hi); (try simp only [errW_none, errW_some])) | ((with_reducible refine gate_dst (N := 16) rfl ?_); (try (refine gate_guard (by rfl) ?_; dsimp only)); refine box_event ?hg (N := 16) ?hd (cs := #[.int .i64 0, .int .u32 0]) (t := 37) ?hr ?_; (case hd => rfl); (case hg => rfl); (case hr => first | (go_simp; done) | (go_simp; rfl)); intro gb162 hg w38 hbox hb; have n0_ := Aside0.mk (Kd.R_below (Kd.R_elderB (by (with_reducible repeat (first | apply Kd.R_alloc | apply Kd.R_drewN | apply Kd.R_drew)); exact HO_7.out) gb162 (Nat.le_of_eq hg.symm)) hb); have n1_ := Aside0.mk (Kd.O_below (Kd.O_elderB (by (with_reducible repeat (first | apply Kd.O_alloc | apply Kd.O_drewN | apply Kd.O_drew)); exact HO_8.out) gb162 (Nat.le_of_eq hg.symm)) hb); have n2_ := Aside0.mk (blk_below (g := gb140) (o := .cells #[.int .i64 x141000_2, .int .u32 x141001_2] 37 (0, 0)) (by (with_reducible repeat (first | refine blk_drewN ?_ _ | refine blk_drew ?_ | refine blk_alloc ?_ _)); exact BK140.out) hb); have n3_ := Aside0.mk (below_step (by repeat (first | (with_reducible first | exact HB.out | apply below_alloc | apply pw_below_drewN | apply below_drew1 | refine below_set ?_ GE140.out) | exact HB.out | exact below_undrew HB.out)) hb); have n4_ := Aside0.mk (hbox); have n5_ := Aside0.mk ((by rw [hg]; exact (below_size (by repeat (first | (with_reducible first | exact HB.out | apply below_alloc | apply pw_below_drewN | apply below_drew1 | refine below_set ?_ GE140.out) | exact HB.out | exact below_undrew HB.out))) : w.heap.size ≤ gb162)); have n6_ := Aside0.mk ((by rw [hg]; exact (below_size (by repeat (first | (with_reducible first | exact HB.out | apply below_alloc | apply pw_below_drewN | apply below_drew1 | refine below_set ?_ GE140.out) | exact HB.out | exact below_undrew HB.out))) : w.heap.size ≤ gb162)); have n7_ := Aside0.mk ((by rw [hg]; exact Nat.ne_of_lt (blk_lt (g := gb140) (o := .cells #[.int .i64 x141000_2, .int .u32 x141001_2] 37 (0, 0)) (by (with_reducible repeat (first | refine blk_drewN ?_ _ | refine blk_drew ?_ | refine blk_alloc ?_ _)); exact BK140.out)) : gb140 ≠ gb162)); have n8_ := Aside0.mk ((by rw [hg]; exact Nat.ne_of_gt (blk_lt (g := gb140) (o := .cells #[.int .i64 x141000_2, .int .u32 x141001_2] 37 (0, 0)) (by (with_reducible repeat (first | refine blk_drewN ?_ _ | refine blk_drew ?_ | refine blk_alloc ?_ _)); exact BK140.out)) : gb162 ≠ gb140)); clear HO_7; clear HO_8; clear BK140; clear HB; have HO_7 := n0_; have HO_8 := n1_; have hnHO_8 := fun w_ : World => Kd.O_eql (P := Tryz.prog) HO_8.out 22 (by kernel_rfl) w_; have hmHO_8 := fun w_ : World => Kd.O_neq (P := Tryz.prog) HO_8.out 22 (by kernel_rfl) w_; have BK140 := n2_; have HB := n3_; have BK162 := n4_; have GW162 := n5_; have GE162 := n6_; have NB140_162 := n7_; have NB162_140 := n8_; clear n0_ n1_ n2_ n3_ n4_ n5_ n6_ n7_ n8_; clear hb hbox hg; have hnb39 := NB162_140.out; have hnc39 := NB140_162.out; have hcz40_0 : w38.cell? ⟨gb162, 0, none⟩ = some (.int .i64 0) := (blk_cell BK162.out 0).trans rfl; have hcz40_1 : w38.cell? ⟨gb162, 1, none⟩ = some (.int .u32 0) := (blk_cell BK162.out 1).trans rfl; have hfz40_0 := blk_frozen BK162.out 0; have hfz40_1 := blk_frozen BK162.out 1)))
              (try simp only [Act.put, List.setIfInBounds_toArray, List.set_cons_zero, List.set_cons_succ])
              go_cut [92] (fun v92 wc => ∃ (kq : Nat) (x92_30 : Bool), v92 = .bool x92_30 ∧ Aside0 (barbicanlaw02_LatticeMakes.j2 kq l0 a2 t144 t155 t156 t157 t158 t161 x92_30 t159 t160 = some r) ∧ Aside0 (kq ≤ k2) ∧ Aside0 (Kd.O k37 9022 wc w.heap.size (fun k_ => k_ ≠ gb140 ∧ k_ ≠ gb162) (.pointer Ao33) t144) ∧ Aside0 (wc.heap[gb140]? = some (.cells #[.int .i64 x141000_2, .int .u32 x141001_2] 37 (0, 0))) ∧ Aside0 (wc.heap[gb162]? = some (.cells #[.int .i64 t159, .int .u32 t160] 37 (0, 0))) ∧ Aside0 (Below w.heap.size w wc))
              case first =>
                have H := HC31.out
                clear HC31
                by_cases c41 : a2 ≥ 0
                · rw [if_pos c41] at H
                  have c41b0 : decide (0 ≤ a2) = true := decide_eq_true c41
                  clear c41
                  (first | rw [c41b0] | (simp only [i64_w, i32_w]; rw [c41b0]) | skip)
                  have H' := Aside0.mk H
                  clear H
                  go_wp2
                  repeat (go_quiet (fail); try go_wp2)
                  go_meet
                  case rel => exact ⟨_, (decide (a2 < (l0.length : Int))), (by first | rfl | (simp; done) | (simp [*]; done)), H', ⟨by have := HJ6.out; have := HK2.out; first | omega | exact Nat.le_refl _⟩, ⟨by (try simp only [hl7_2]); (with_reducible repeat (first | apply Kd.O_alloc | apply Kd.O_drewN | apply Kd.O_drew)); exact Kd.O_mono (Kd.O_far (p := ⟨gb162, 1, none⟩) (Kd.O_far (p := ⟨gb162, 0, none⟩) (Kd.O_mono HO_8.out (fun k_ hk => (⟨hk, hk.2⟩ : _ ∧ k_ ≠ gb162))) (fun _ hk => hk.2) (.int .i64 t159)) (fun _ hk => hk.2) (.int .u32 t160)) (fun _ hk => ⟨hk.1.1.2, hk.1.2⟩)⟩, ⟨by (try simp only [hl7_2]); (with_reducible repeat (first | refine blk_drewN ?_ _ | refine blk_drew ?_ | refine blk_alloc ?_ _)); refine blk_far ?_ NB140_162.out _; (with_reducible repeat (first | refine blk_drewN ?_ _ | refine blk_drew ?_ | refine blk_alloc ?_ _)); refine blk_far ?_ NB140_162.out _; (with_reducible repeat (first | refine blk_drewN ?_ _ | refine blk_drew ?_ | refine blk_alloc ?_ _)); exact BK140.out⟩, ⟨by (try simp only [hl7_2]); (with_reducible repeat (first | refine blk_drewN ?_ _ | refine blk_drew ?_ | refine blk_alloc ?_ _)); refine blk_put (cs := #[.int .i64 t159, .int .u32 0]) ?_ 1 _ (by first | rfl | (simp only [w64_256, wu64_256]; rfl) | (subst_vars; simp only [w64_256, wu64_256, shl, wu32_mod, Int.one_mul]; rfl)); (with_reducible repeat (first | refine blk_drewN ?_ _ | refine blk_drew ?_ | refine blk_alloc ?_ _)); refine blk_put (cs := #[.int .i64 0, .int .u32 0]) ?_ 0 _ (by first | rfl | (simp only [w64_256, wu64_256]; rfl) | (subst_vars; simp only [w64_256, wu64_256, shl, wu32_mod, Int.one_mul]; rfl)); (with_reducible repeat (first | refine blk_drewN ?_ _ | refine blk_drew ?_ | refine blk_alloc ?_ _)); exact BK162.out⟩, ⟨by repeat (first | (with_reducible first | exact HB.out | apply below_alloc | apply pw_below_drewN | apply below_drew1 | refine below_set ?_ GE140.out | refine below_set ?_ GE162.out) | exact HB.out | exact below_undrew HB.out)⟩⟩
                · rw [if_neg c41] at H
                  have c41b0 : decide (0 ≤ a2) = false := decide_eq_false c41
                  clear c41
                  (first | rw [c41b0] | (simp only [i64_w, i32_w]; rw [c41b0]) | skip)
                  have H' := Aside0.mk H
                  clear H
                  go_wp2
                  repeat (go_quiet (fail); try go_wp2)
                  go_meet
                  case rel => exact ⟨_, (false), (by first | rfl | (simp; done) | (simp [*]; done)), H', ⟨by have := HJ6.out; have := HK2.out; first | omega | exact Nat.le_refl _⟩, ⟨by (try simp only [hl7_2]); (with_reducible repeat (first | apply Kd.O_alloc | apply Kd.O_drewN | apply Kd.O_drew)); exact Kd.O_mono (Kd.O_far (p := ⟨gb162, 1, none⟩) (Kd.O_far (p := ⟨gb162, 0, none⟩) (Kd.O_mono HO_8.out (fun k_ hk => (⟨hk, hk.2⟩ : _ ∧ k_ ≠ gb162))) (fun _ hk => hk.2) (.int .i64 t159)) (fun _ hk => hk.2) (.int .u32 t160)) (fun _ hk => ⟨hk.1.1.2, hk.1.2⟩)⟩, ⟨by (try simp only [hl7_2]); (with_reducible repeat (first | refine blk_drewN ?_ _ | refine blk_drew ?_ | refine blk_alloc ?_ _)); refine blk_far ?_ NB140_162.out _; (with_reducible repeat (first | refine blk_drewN ?_ _ | refine blk_drew ?_ | refine blk_alloc ?_ _)); refine blk_far ?_ NB140_162.out _; (with_reducible repeat (first | refine blk_drewN ?_ _ | refine blk_drew ?_ | refine blk_alloc ?_ _)); exact BK140.out⟩, ⟨by (try simp only [hl7_2]); (with_reducible repeat (first | refine blk_drewN ?_ _ | refine blk_drew ?_ | refine blk_alloc ?_ _)); refine blk_put (cs := #[.int .i64 t159, .int .u32 0]) ?_ 1 _ (by first | rfl | (simp only [w64_256, wu64_256]; rfl) | (subst_vars; simp only [w64_256, wu64_256, shl, wu32_mod, Int.one_mul]; rfl)); (with_reducible repeat (first | refine blk_drewN ?_ _ | refine blk_drew ?_ | refine blk_alloc ?_ _)); refine blk_put (cs := #[.int .i64 0, .int .u32 0]) ?_ 0 _ (by first | rfl | (simp only [w64_256, wu64_256]; rfl) | (subst_vars; simp only [w64_256, wu64_256, shl, wu32_mod, Int.one_mul]; rfl)); (with_reducible repeat (first | refine blk_drewN ?_ _ | refine blk_drew ?_ | refine blk_alloc ?_ _)); exact BK162.out⟩, ⟨by repeat (first | (with_reducible first | exact HB.out | apply below_alloc | apply pw_below_drewN | apply below_drew1 | refine below_set ?_ GE140.out | refine below_set ?_ GE162.out) | exact HB.out | exact below_undrew HB.out)⟩⟩
              case rest =>
                clear HC31
                try clear c1
                try clear p1
                try clear q1
                try clear hx1
                try clear c2
                try clear p2
                try clear q2
                try clear hx2
                try clear c3
                try clear c4
                try clear p6
                try clear c13
                try clear c13b0
                try clear c13b1
                try clear c14
                try clear q14
                try clear p15
                try clear q15
                try clear hx15
                try clear c16
                try clear c16b0
                try clear c16b1
                try clear c17
                try clear c17b0
                try clear c21
                try clear c21b0
                try clear c22
                try clear c22b0
                try clear c23
                try clear c23b0
                try clear c24
                try clear c24b0
                try clear c25
                try clear p25
                try clear q25
                try clear hx25
                try clear hf25
                try clear c26
                try clear hx26
                try clear hf26
                try clear c39
                try clear c41
                try clear c41b0
                try clear hcz32_0
                try clear hcz32_1
                try clear hcz35_0
                try clear hcz35_1
                try clear hcz40_0
                try clear hcz40_1
                try clear hfz32_0
                try clear hfz32_1
                try clear hfz35_0
                try clear hfz35_1
                try clear hfz40_0
                try clear hfz40_1
                try clear hx152_0
                try clear hx152_1
                try clear hx153_0
                try clear hx153_1
                try clear hx25_0
                try clear hx25_1
                try clear hx26_0
                try clear hx26_1
                try clear p152
                try clear p153
                try clear p2
                try clear p25
                try clear q1
                try clear q14
                try clear q149
                try clear q152
                try clear q153
                try clear q25
                obtain ⟨kq, x92_30, rfl, HA, HJ30, HO_8, BK140, BK162, HB⟩ := hcut
                cases kq with
                | zero => exact absurd HA.out (by simp [barbicanlaw02_LatticeMakes.j2])
                | succ kj30 =>
                  have H := HA.out
                  clear HA
                  simp only [barbicanlaw02_LatticeMakes.j2] at H
                  have HC42 := Aside0.mk H
                  clear H
                  go_upto_if 92 with (fail)
                  repeat (go_quiet (fail); go_upto_if 92 with (fail))
                  go_cut [] (fun wc => ∃ (kq : Nat), Aside0 (barbicanlaw02_LatticeMakes.j3 kq l0 t144 t155 t156 t157 t158 = some r) ∧ Aside0 (kq ≤ kj30) ∧ Aside0 (Kd.O k37 9022 wc w.heap.size (fun k_ => k_ ≠ gb140 ∧ k_ ≠ gb162) (.pointer Ao33) t144) ∧ Aside0 (wc.heap[gb140]? = some (.cells #[.int .i64 x141000_2, .int .u32 x141001_2] 37 (0, 0))) ∧ Aside0 (wc.heap[gb162]? = some (.cells #[.int .i64 t159, .int .u32 t160] 37 (0, 0))) ∧ Aside0 (Below w.heap.size w wc))
                  case first =>
                    have H := HC42.out
                    clear HC42
                    by_cases c43 : x92_30 = true
                    · subst c43
                      have H1 : (if 0 ≤ a2 then (if a2 < (l0.length : Int) then (if (!(t159 == ((rd_T37 l0 a2).f0)) || (!(t160 == ((rd_T37 l0 a2).f1)))) = true then (some false) else (if t161.isNone = true then (barbicanlaw02_LatticeMakes.j3 kj30 l0 t144 t155 t156 t157 t158) else (some false))) else (none)) else (none)) = some r := by rw [if_pos rfl] at H; exact H
                      clear H
                      have H := H1
                      clear H1
                      by_cases c44 : 0 ≤ a2
                      · rw [if_pos c44] at H
                        have c44b0 : decide (0 ≤ a2) = true := decide_eq_true c44
                        clear c44
                        (first | rw [c44b0] | (simp only [i64_w, i32_w]; rw [c44b0]) | skip)
                        by_cases c45 : a2 < (l0.length : Int)
                        · rw [if_pos c45] at H
                          have c45b0 : decide (a2 < (l0.length : Int)) = true := decide_eq_true c45
                          clear c45
                          by_cases c46 : (!(t159 == ((rd_T37 l0 a2).f0)) || (!(t160 == ((rd_T37 l0 a2).f1)))) = true
                          · rw [if_pos c46] at H
                            have c46b0 : (!(t159 == ((rd_T37 l0 a2).f0)) || (!(t160 == ((rd_T37 l0 a2).f1)))) = true := c46
                            clear c46
                            exact absurd (Option.some.inj H) (by rw [hT.out]; decide)
                          · rw [if_neg c46] at H
                            have c46b0 : (!(t159 == ((rd_T37 l0 a2).f0)) || (!(t160 == ((rd_T37 l0 a2).f1)))) = false := by simpa using c46
                            clear c46
                            rcases t161 with _ | q164
                            · have H1 : (barbicanlaw02_LatticeMakes.j3 kj30 l0 t144 t155 t156 t157 t158) = some r := by rw [if_pos (show (none : Option Int).isNone = true by rfl)] at H; exact H
                              clear H
                              have H := H1
                              clear H1
                              try simp only [errW_none, errW_some]
                              have H' := Aside0.mk H
                              clear H
                              have hnb47 := NB162_140.out
                              have hnc47 := NB140_162.out
                              have hcz48_0 : wc.cell? ⟨gb162, 0, none⟩ = some (.int .i64 t159) := (blk_cell BK162.out 0).trans rfl
                              have hcz48_1 : wc.cell? ⟨gb162, 1, none⟩ = some (.int .u32 t160) := (blk_cell BK162.out 1).trans rfl
                              have hfz48_0 := blk_frozen BK162.out 0
                              have hfz48_1 := blk_frozen BK162.out 1
                              have p163 : 0 ≤ (a2 : Int) := of_decide_eq_true (by first | (with_reducible assumption) | assumption)
                              have q163 : a2 < (l0.length : Int) := of_decide_eq_true (by first | (with_reducible assumption) | assumption)
                              obtain ⟨ad163, e163, hx163_0, hx163_1⟩ := at_T37 HR0.out a2 p163 q163
                              cases e163
                              replace hx163_0 := (HB.out.cell (World.block_lt_of_cell? w _ hx163_0)).trans hx163_0
                              replace hx163_1 := (HB.out.cell (World.block_lt_of_cell? w _ hx163_1)).trans hx163_1
                              replace p163 := eq_true p163
                              replace q163 := eq_true q163
                              go_wp2
                              repeat (go_quiet (fail); try go_wp2)
                              go_meet
                              case rel => exact ⟨_, H', ⟨by have := HJ6.out; have := HK2.out; have := HJ30.out; first | omega | exact Nat.le_refl _⟩, ⟨by (try simp only [hl7_2]); (with_reducible repeat (first | apply Kd.O_alloc | apply Kd.O_drewN | apply Kd.O_drew)); exact HO_8.out⟩, ⟨by (try simp only [hl7_2]); (with_reducible repeat (first | refine blk_drewN ?_ _ | refine blk_drew ?_ | refine blk_alloc ?_ _)); exact BK140.out⟩, ⟨by (try simp only [hl7_2]); (with_reducible repeat (first | refine blk_drewN ?_ _ | refine blk_drew ?_ | refine blk_alloc ?_ _)); exact BK162.out⟩, ⟨by repeat (first | (with_reducible first | exact HB.out | apply below_alloc | apply pw_below_drewN | apply below_drew1 | refine below_set ?_ GE140.out | refine below_set ?_ GE162.out) | exact HB.out | exact below_undrew HB.out)⟩⟩
                            · have H1 : (some false) = some r := by rw [if_neg (show ¬ (some q164).isNone = true by simp)] at H; exact H
                              clear H
                              have H := H1
                              clear H1
                              try simp only [errW_none, errW_some]
                              exact absurd (Option.some.inj H) (by rw [hT.out]; decide)
                        · rw [if_neg c45] at H
                          exact absurd H (by simp)
                      · rw [if_neg c44] at H
                        exact absurd H (by simp)
                    · replace c43 := Bool.eq_false_iff.mpr c43
                      subst c43
                      have H1 : ((barbicanlaw02_num.f t161).bind fun t165 => (if t165 = 1 then (if (!(t159 == 0) || (!(t160 == 0))) = true then (some false) else (barbicanlaw02_LatticeMakes.j3 kj30 l0 t144 t155 t156 t157 t158)) else (some false))) = some r := by rw [if_neg (show ¬ (false = true) by decide)] at H; exact H
                      clear H
                      have H := H1
                      clear H1
                      replace H := Option.bind_eq_some_iff.mp H
                      obtain ⟨t165, A490, H⟩ := H
                      replace H : (if t165 = 1 then (if (!(t159 == 0) || (!(t160 == 0))) = true then (some false) else (barbicanlaw02_LatticeMakes.j3 kj30 l0 t144 t155 t156 t157 t158)) else (some false)) = some r := H
                      have A49 := Aside0.mk A490
                      clear A490
                      by_cases c50 : t165 = 1
                      · rw [if_pos c50] at H
                        have c50b0 : (t165 == 1) = true := beq_iff_eq.mpr c50
                        have c50b1 : (t165 != 1) = false := bne_eq_false_iff_eq.mpr c50
                        clear c50
                        by_cases c51 : (!(t159 == 0) || (!(t160 == 0))) = true
                        · rw [if_pos c51] at H
                          have c51b0 : (!(t159 == 0) || (!(t160 == 0))) = true := c51
                          clear c51
                          exact absurd (Option.some.inj H) (by rw [hT.out]; decide)
                        · rw [if_neg c51] at H
                          have c51b0 : (!(t159 == 0) || (!(t160 == 0))) = false := by simpa using c51
                          clear c51
                          have H' := Aside0.mk H
                          clear H
                          have CA49 := fun W hG_ => barbicanlaw02_num.calls t161 t165 W hG_ A49.out
                          try simp only [errW_none, errW_some] at CA49
                          go_wp2_with (first | (go_at_call 7; (with_reducible refine (CA49 _ ?side1).mono ?_); (case side1 => exact GE.below HG.out (by repeat (first | (with_reducible first | exact HB.out | apply below_alloc | apply pw_below_drewN | apply below_drew1 | refine below_set ?_ GE140.out | refine below_set ?_ GE162.out) | exact HB.out | exact below_undrew HB.out))); rintro e w52 ⟨rfl, hb⟩; have n0_ := Aside0.mk (Kd.O_below (by (with_reducible repeat (first | apply Kd.O_alloc | apply Kd.O_drewN | apply Kd.O_drew)); exact HO_8.out) hb); have n1_ := Aside0.mk (blk_below (g := gb140) (o := .cells #[.int .i64 x141000_2, .int .u32 x141001_2] 37 (0, 0)) (by (with_reducible repeat (first | refine blk_drewN ?_ _ | refine blk_drew ?_ | refine blk_alloc ?_ _)); exact BK140.out) hb); have n2_ := Aside0.mk (blk_below (g := gb162) (o := .cells #[.int .i64 t159, .int .u32 t160] 37 (0, 0)) (by (with_reducible repeat (first | refine blk_drewN ?_ _ | refine blk_drew ?_ | refine blk_alloc ?_ _)); exact BK162.out) hb); have n3_ := Aside0.mk (below_step (by repeat (first | (with_reducible first | exact HB.out | apply below_alloc | apply pw_below_drewN | apply below_drew1 | refine below_set ?_ GE140.out | refine below_set ?_ GE162.out) | exact HB.out | exact below_undrew HB.out)) hb); clear HO_8; clear BK140; clear BK162; clear HB; have HO_8 := n0_; have hnHO_8 := fun w_ : World => Kd.O_eql (P := Tryz.prog) HO_8.out 22 (by kernel_rfl) w_; have hmHO_8 := fun w_ : World => Kd.O_neq (P := Tryz.prog) HO_8.out 22 (by kernel_rfl) w_; have BK140 := n1_; have BK162 := n2_; have HB := n3_; clear n0_ n1_ n2_ n3_; (try clear hb); (try clear hb2); (try clear hk); (try clear hi); have hnb53 := NB162_140.out; have hnc53 := NB140_162.out; have hcz54_0 : w52.cell? ⟨gb162, 0, none⟩ = some (.int .i64 t159) := (blk_cell BK162.out 0).trans rfl; have hcz54_1 : w52.cell? ⟨gb162, 1, none⟩ = some (.int .u32 t160) := (blk_cell BK162.out 1).trans rfl; have hfz54_0 := blk_frozen BK162.out 0; have hfz54_1 := blk_frozen BK162.out 1))
                          repeat (go_quiet (first | (go_at_call 7; (with_reducible refine (CA49 _ ?side1).mono ?_); (case side1 => exact GE.below HG.out (by repeat (first | (with_reducible first | exact HB.out | apply below_alloc | apply pw_below_drewN | apply below_drew1 | refine below_set ?_ GE140.out | refine below_set ?_ GE162.out) | exact HB.out | exact below_undrew HB.out))); rintro e w52 ⟨rfl, hb⟩; have n0_ := Aside0.mk (Kd.O_below (by (with_reducible repeat (first | apply Kd.O_alloc | apply Kd.O_drewN | apply Kd.O_drew)); exact HO_8.out) hb); have n1_ := Aside0.mk (blk_below (g := gb140) (o := .cells #[.int .i64 x141000_2, .int .u32 x141001_2] 37 (0, 0)) (by (with_reducible repeat (first | refine blk_drewN ?_ _ | refine blk_drew ?_ | refine blk_alloc ?_ _)); exact BK140.out) hb); have n2_ := Aside0.mk (blk_below (g := gb162) (o := .cells #[.int .i64 t159, .int .u32 t160] 37 (0, 0)) (by (with_reducible repeat (first | refine blk_drewN ?_ _ | refine blk_drew ?_ | refine blk_alloc ?_ _)); exact BK162.out) hb); have n3_ := Aside0.mk (below_step (by repeat (first | (with_reducible first | exact HB.out | apply below_alloc | apply pw_below_drewN | apply below_drew1 | refine below_set ?_ GE140.out | refine below_set ?_ GE162.out) | exact HB.out | exact below_undrew HB.out)) hb); clear HO_8; clear BK140; clear BK162; clear HB; have HO_8 := n0_; have hnHO_8 := fun w_ : World => Kd.O_eql (P := Tryz.prog) HO_8.out 22 (by kernel_rfl) w_; have hmHO_8 := fun w_ : World => Kd.O_neq (P := Tryz.prog) HO_8.out 22 (by kernel_rfl) w_; have BK140 := n1_; have BK162 := n2_; have HB := n3_; clear n0_ n1_ n2_ n3_; (try clear hb); (try clear hb2); (try clear hk); (try clear hi); have hnb53 := NB162_140.out; have hnc53 := NB140_162.out; have hcz54_0 : w52.cell? ⟨gb162, 0, none⟩ = some (.int .i64 t159) := (blk_cell BK162.out 0).trans rfl; have hcz54_1 : w52.cell? ⟨gb162, 1, none⟩ = some (.int .u32 t160) := (blk_cell BK162.out 1).trans rfl; have hfz54_0 := blk_frozen BK162.out 0; have hfz54_1 := blk_frozen BK162.out 1)); try go_wp2_with (first | (go_at_call 7; (with_reducible refine (CA49 _ ?side1).mono ?_); (case side1 => exact GE.below HG.out (by repeat (first | (with_reducible first | exact HB.out | apply below_alloc | apply pw_below_drewN | apply below_drew1 | refine below_set ?_ GE140.out | refine below_set ?_ GE162.out) | exact HB.out | exact below_undrew HB.out))); rintro e w52 ⟨rfl, hb⟩; have n0_ := Aside0.mk (Kd.O_below (by (with_reducible repeat (first | apply Kd.O_alloc | apply Kd.O_drewN | apply Kd.O_drew)); exact HO_8.out) hb); have n1_ := Aside0.mk (blk_below (g := gb140) (o := .cells #[.int .i64 x141000_2, .int .u32 x141001_2] 37 (0, 0)) (by (with_reducible repeat (first | refine blk_drewN ?_ _ | refine blk_drew ?_ | refine blk_alloc ?_ _)); exact BK140.out) hb); have n2_ := Aside0.mk (blk_below (g := gb162) (o := .cells #[.int .i64 t159, .int .u32 t160] 37 (0, 0)) (by (with_reducible repeat (first | refine blk_drewN ?_ _ | refine blk_drew ?_ | refine blk_alloc ?_ _)); exact BK162.out) hb); have n3_ := Aside0.mk (below_step (by repeat (first | (with_reducible first | exact HB.out | apply below_alloc | apply pw_below_drewN | apply below_drew1 | refine below_set ?_ GE140.out | refine below_set ?_ GE162.out) | exact HB.out | exact below_undrew HB.out)) hb); clear HO_8; clear BK140; clear BK162; clear HB; have HO_8 := n0_; have hnHO_8 := fun w_ : World => Kd.O_eql (P := Tryz.prog) HO_8.out 22 (by kernel_rfl) w_; have hmHO_8 := fun w_ : World => Kd.O_neq (P := Tryz.prog) HO_8.out 22 (by kernel_rfl) w_; have BK140 := n1_; have BK162 := n2_; have HB := n3_; clear n0_ n1_ n2_ n3_; (try clear hb); (try clear hb2); (try clear hk); (try clear hi); have hnb53 := NB162_140.out; have hnc53 := NB140_162.out; have hcz54_0 : w52.cell? ⟨gb162, 0, none⟩ = some (.int .i64 t159) := (blk_cell BK162.out 0).trans rfl; have hcz54_1 : w52.cell? ⟨gb162, 1, none⟩ = some (.int .u32 t160) := (blk_cell BK162.out 1).trans rfl; have hfz54_0 := blk_frozen BK162.out 0; have hfz54_1 := blk_frozen BK162.out 1)))
                          go_meet
                          case rel => exact ⟨_, H', ⟨by have := HJ6.out; have := HK2.out; have := HJ30.out; first | omega | exact Nat.le_refl _⟩, ⟨by (try simp only [hl7_2]); (with_reducible repeat (first | apply Kd.O_alloc | apply Kd.O_drewN | apply Kd.O_drew)); exact HO_8.out⟩, ⟨by (try simp only [hl7_2]); (with_reducible repeat (first | refine blk_drewN ?_ _ | refine blk_drew ?_ | refine blk_alloc ?_ _)); exact BK140.out⟩, ⟨by (try simp only [hl7_2]); (with_reducible repeat (first | refine blk_drewN ?_ _ | refine blk_drew ?_ | refine blk_alloc ?_ _)); exact BK162.out⟩, ⟨by repeat (first | (with_reducible first | exact HB.out | apply below_alloc | apply pw_below_drewN | apply below_drew1 | refine below_set ?_ GE140.out | refine below_set ?_ GE162.out) | exact HB.out | exact below_undrew HB.out)⟩⟩
                      · rw [if_neg c50] at H
                        have c50b0 : (t165 == 1) = false := beq_eq_false_iff_ne.mpr c50
                        have c50b1 : (t165 != 1) = true := bne_iff_ne.mpr c50
                        exact absurd (Option.some.inj H) (by rw [hT.out]; decide)
                  case rest =>
                    clear HC42
                    try clear c1
                    try clear p1
                    try clear q1
                    try clear hx1
                    try clear c2
                    try clear p2
                    try clear q2
                    try clear hx2
                    try clear c3
                    try clear c4
                    try clear c5
                    try clear p6
                    try clear c13
                    try clear c13b0
                    try clear c13b1
                    try clear c14
                    try clear q14
                    try clear p15
                    try clear q15
                    try clear hx15
                    try clear c16
                    try clear c16b0
                    try clear c16b1
                    try clear p16
                    try clear q16
                    try clear hx16
                    try clear c17
                    try clear c17b0
                    try clear c21
                    try clear c21b0
                    try clear c22
                    try clear c22b0
                    try clear c23
                    try clear c23b0
                    try clear c24
                    try clear c24b0
                    try clear c25
                    try clear p25
                    try clear q25
                    try clear hx25
                    try clear hf25
                    try clear c26
                    try clear hx26
                    try clear hf26
                    try clear c39
                    try clear c41
                    try clear c41b0
                    try clear c43
                    try clear c44
                    try clear c44b0
                    try clear c45
                    try clear c45b0
                    try clear c46
                    try clear c46b0
                    try clear c47
                    try clear c50
                    try clear c50b0
                    try clear c50b1
                    try clear c51
                    try clear c51b0
                    try clear c53
                    try clear hcz32_0
                    try clear hcz32_1
                    try clear hcz35_0
                    try clear hcz35_1
                    try clear hcz40_0
                    try clear hcz40_1
                    try clear hcz48_0
                    try clear hcz48_1
                    try clear hcz54_0
                    try clear hcz54_1
                    try clear hfz32_0
                    try clear hfz32_1
                    try clear hfz35_0
                    try clear hfz35_1
                    try clear hfz40_0
                    try clear hfz40_1
                    try clear hfz48_0
                    try clear hfz48_1
                    try clear hfz54_0
                    try clear hfz54_1
                    try clear hx152_0
                    try clear hx152_1
                    try clear hx153_0
                    try clear hx153_1
                    try clear hx163_0
                    try clear hx163_1
                    try clear hx25_0
                    try clear hx25_1
                    try clear hx26_0
                    try clear hx26_1
                    try clear p1
                    try clear p15
                    try clear p152
                    try clear p153
                    try clear p163
                    try clear p2
                    try clear p25
                    try clear p6
                    try clear q1
                    try clear q14
                    try clear q149
                    try clear q15
                    try clear q152
                    try clear q153
                    try clear q163
                    try clear q164
                    try clear q2
                    try clear q25
                    obtain ⟨kq, HA, HJ41, HO_8, BK140, BK162, HB⟩ := hcut
                    cases kq with
                    | zero => exact absurd HA.out (by simp [barbicanlaw02_LatticeMakes.j3])
                    | succ kj41 =>
                      have H := HA.out
                      clear HA
                      simp only [barbicanlaw02_LatticeMakes.j3] at H
                      replace H := Option.bind_eq_some_iff.mp H
                      obtain ⟨t166, A550, H⟩ := H
                      replace H : (if t166 = (l0.length : Int) then (if t155 = t157 then ((barbicanlaw02_num.f t156).bind fun t167 => (if t167 = t158 then ((lattice_Lattice_Text.f t144).bind fun t168 => ((barbicanref02_Text.f kj41 l0).bind fun t169 => (if t168.toList = t169.toList then ((barbicanlaw02_sure.f kj41).bind fun t170 => (some t170)) else (some false)))) else (some false))) else (some false)) else (some false)) = some r := H
                      have A55 := Aside0.mk A550
                      clear A550
                      by_cases c56 : t166 = (l0.length : Int)
                      · rw [if_pos c56] at H
                        have c56b0 : (t166 == (l0.length : Int)) = true := beq_iff_eq.mpr c56
                        have c56b1 : (t166 != (l0.length : Int)) = false := bne_eq_false_iff_eq.mpr c56
                        clear c56
                        by_cases c57 : t155 = t157
                        · rw [if_pos c57] at H
                          have c57b0 : (t155 == t157) = true := beq_iff_eq.mpr c57
                          have c57b1 : (t155 != t157) = false := bne_eq_false_iff_eq.mpr c57
                          clear c57
                          replace H := Option.bind_eq_some_iff.mp H
                          obtain ⟨t167, A580, H⟩ := H
                          replace H : (if t167 = t158 then ((lattice_Lattice_Text.f t144).bind fun t168 => ((barbicanref02_Text.f kj41 l0).bind fun t169 => (if t168.toList = t169.toList then ((barbicanlaw02_sure.f kj41).bind fun t170 => (some t170)) else (some false)))) else (some false)) = some r := H
                          have A58 := Aside0.mk A580
                          clear A580
                          by_cases c59 : t167 = t158
                          · rw [if_pos c59] at H
                            have c59b0 : (t167 == t158) = true := beq_iff_eq.mpr c59
                            have c59b1 : (t167 != t158) = false := bne_eq_false_iff_eq.mpr c59
                            clear c59
                            replace H := Option.bind_eq_some_iff.mp H
                            obtain ⟨t168, A600, H⟩ := H
                            replace H : ((barbicanref02_Text.f kj41 l0).bind fun t169 => (if t168.toList = t169.toList then ((barbicanlaw02_sure.f kj41).bind fun t170 => (some t170)) else (some false))) = some r := H
                            have A60 := Aside0.mk A600
                            clear A600
                            replace H := Option.bind_eq_some_iff.mp H
                            obtain ⟨t169, A610, H⟩ := H
                            replace H : (if t168.toList = t169.toList then ((barbicanlaw02_sure.f kj41).bind fun t170 => (some t170)) else (some false)) = some r := H
                            have A61 := Aside0.mk A610
                            clear A610
                            by_cases c62 : t168.toList = t169.toList
                            · rw [if_pos c62] at H
                              have c62b0 : (t168.toList == t169.toList) = true := beq_iff_eq.mpr c62
                              have c62b1 : (t168.toList != t169.toList) = false := bne_eq_false_iff_eq.mpr c62
                              clear c62
                              replace H := Option.bind_eq_some_iff.mp H
                              obtain ⟨t170, A630, H⟩ := H
                              replace H : (some t170) = some r := H
                              have A63 := Aside0.mk A630
                              clear A630
                              obtain rfl := Option.some.inj H
                              go_wp2_with (first | (go_at_call 17; (with_reducible refine (lattice_Lattice_Len.calls _ t144 t166 _ ?side1 ?side2 A55.out).mono ?_); (case side1 => exact (Kd.O_reads' (by (with_reducible repeat (first | apply Kd.O_alloc | apply Kd.O_drewN | apply Kd.O_drew)); exact HO_8.out)).2.2); (case side2 => exact (Kd.O_reads' HO_8.out).2.1); rintro e w64 ⟨rfl, hb⟩; have n0_ := Aside0.mk (Kd.O_below (by (with_reducible repeat (first | apply Kd.O_alloc | apply Kd.O_drewN | apply Kd.O_drew)); exact HO_8.out) hb); have n1_ := Aside0.mk (blk_below (g := gb140) (o := .cells #[.int .i64 x141000_2, .int .u32 x141001_2] 37 (0, 0)) (by (with_reducible repeat (first | refine blk_drewN ?_ _ | refine blk_drew ?_ | refine blk_alloc ?_ _)); exact BK140.out) hb); have n2_ := Aside0.mk (blk_below (g := gb162) (o := .cells #[.int .i64 t159, .int .u32 t160] 37 (0, 0)) (by (with_reducible repeat (first | refine blk_drewN ?_ _ | refine blk_drew ?_ | refine blk_alloc ?_ _)); exact BK162.out) hb); have n3_ := Aside0.mk (below_step (by repeat (first | (with_reducible first | exact HB.out | apply below_alloc | apply pw_below_drewN | apply below_drew1 | refine below_set ?_ GE140.out | refine below_set ?_ GE162.out) | exact HB.out | exact below_undrew HB.out)) hb); clear HO_8; clear BK140; clear BK162; clear HB; have HO_8 := n0_; have hnHO_8 := fun w_ : World => Kd.O_eql (P := Tryz.prog) HO_8.out 22 (by kernel_rfl) w_; have hmHO_8 := fun w_ : World => Kd.O_neq (P := Tryz.prog) HO_8.out 22 (by kernel_rfl) w_; have BK140 := n1_; have BK162 := n2_; have HB := n3_; clear n0_ n1_ n2_ n3_; (try clear hb); (try clear hb2); (try clear hk); (try clear hi); have CA58 := fun W hG_ => barbicanlaw02_num.calls t156 t167 W hG_ A58.out; try simp only [errW_none, errW_some] at CA58) | (go_at_call 7; (with_reducible refine (CA58 _ ?side1).mono ?_); (case side1 => exact GE.below HG.out (by repeat (first | (with_reducible first | exact HB.out | apply below_alloc | apply pw_below_drewN | apply below_drew1 | refine below_set ?_ GE140.out | refine below_set ?_ GE162.out) | exact HB.out | exact below_undrew HB.out))); rintro e w65 ⟨rfl, hb⟩; have n0_ := Aside0.mk (Kd.O_below (by (with_reducible repeat (first | apply Kd.O_alloc | apply Kd.O_drewN | apply Kd.O_drew)); exact HO_8.out) hb); have n1_ := Aside0.mk (blk_below (g := gb140) (o := .cells #[.int .i64 x141000_2, .int .u32 x141001_2] 37 (0, 0)) (by (with_reducible repeat (first | refine blk_drewN ?_ _ | refine blk_drew ?_ | refine blk_alloc ?_ _)); exact BK140.out) hb); have n2_ := Aside0.mk (blk_below (g := gb162) (o := .cells #[.int .i64 t159, .int .u32 t160] 37 (0, 0)) (by (with_reducible repeat (first | refine blk_drewN ?_ _ | refine blk_drew ?_ | refine blk_alloc ?_ _)); exact BK162.out) hb); have n3_ := Aside0.mk (below_step (by repeat (first | (with_reducible first | exact HB.out | apply below_alloc | apply pw_below_drewN | apply below_drew1 | refine below_set ?_ GE140.out | refine below_set ?_ GE162.out) | exact HB.out | exact below_undrew HB.out)) hb); clear HO_8; clear BK140; clear BK162; clear HB; have HO_8 := n0_; have hnHO_8 := fun w_ : World => Kd.O_eql (P := Tryz.prog) HO_8.out 22 (by kernel_rfl) w_; have hmHO_8 := fun w_ : World => Kd.O_neq (P := Tryz.prog) HO_8.out 22 (by kernel_rfl) w_; have BK140 := n1_; have BK162 := n2_; have HB := n3_; clear n0_ n1_ n2_ n3_; (try clear hb); (try clear hb2); (try clear hk); (try clear hi)) | (go_at_call 9; (with_reducible refine (lattice_Lattice_Text.calls _ t144 t168 _ ?side1 ?side2 ?side3 A60.out).mono ?_); (case side1 => exact (Kd.O_reads' (by (with_reducible repeat (first | apply Kd.O_alloc | apply Kd.O_drewN | apply Kd.O_drew)); exact HO_8.out)).2.2); (case side2 => exact (Kd.O_reads' HO_8.out).2.1); (case side3 => exact GE.below HG.out (by repeat (first | (with_reducible first | exact HB.out | apply below_alloc | apply pw_below_drewN | apply below_drew1 | refine below_set ?_ GE140.out | refine below_set ?_ GE162.out) | exact HB.out | exact below_undrew HB.out))); rintro e w66 ⟨rfl, hb⟩; have n0_ := Aside0.mk (Kd.O_below (by (with_reducible repeat (first | apply Kd.O_alloc | apply Kd.O_drewN | apply Kd.O_drew)); exact HO_8.out) hb); have n1_ := Aside0.mk (blk_below (g := gb140) (o := .cells #[.int .i64 x141000_2, .int .u32 x141001_2] 37 (0, 0)) (by (with_reducible repeat (first | refine blk_drewN ?_ _ | refine blk_drew ?_ | refine blk_alloc ?_ _)); exact BK140.out) hb); have n2_ := Aside0.mk (blk_below (g := gb162) (o := .cells #[.int .i64 t159, .int .u32 t160] 37 (0, 0)) (by (with_reducible repeat (first | refine blk_drewN ?_ _ | refine blk_drew ?_ | refine blk_alloc ?_ _)); exact BK162.out) hb); have n3_ := Aside0.mk (below_step (by repeat (first | (with_reducible first | exact HB.out | apply below_alloc | apply pw_below_drewN | apply below_drew1 | refine below_set ?_ GE140.out | refine below_set ?_ GE162.out) | exact HB.out | exact below_undrew HB.out)) hb); clear HO_8; clear BK140; clear BK162; clear HB; have HO_8 := n0_; have hnHO_8 := fun w_ : World => Kd.O_eql (P := Tryz.prog) HO_8.out 22 (by kernel_rfl) w_; have hmHO_8 := fun w_ : World => Kd.O_neq (P := Tryz.prog) HO_8.out 22 (by kernel_rfl) w_; have BK140 := n1_; have BK162 := n2_; have HB := n3_; clear n0_ n1_ n2_ n3_; (try clear hb); (try clear hb2); (try clear hk); (try clear hi)) | (go_at_call 10; (with_reducible refine (barbicanref02_Text.calls kj41 _ _ l0 t169 _ ?side1 ?side2 A61.out).mono ?_); (case side1 => repeat (first | exact (Kd.C_below HR0.out HB.out) | (with_reducible refine Kd.C_alloc ?_ _) | (with_reducible refine Kd.C_drewN ?_ _) | (with_reducible refine Kd.C_drew ?_))); (case side2 => exact HC0.out); rintro e w67 ⟨rfl, hb⟩; have n0_ := Aside0.mk (Kd.O_below (by (with_reducible repeat (first | apply Kd.O_alloc | apply Kd.O_drewN | apply Kd.O_drew)); exact HO_8.out) hb); have n1_ := Aside0.mk (blk_below (g := gb140) (o := .cells #[.int .i64 x141000_2, .int .u32 x141001_2] 37 (0, 0)) (by (with_reducible repeat (first | refine blk_drewN ?_ _ | refine blk_drew ?_ | refine blk_alloc ?_ _)); exact BK140.out) hb); have n2_ := Aside0.mk (blk_below (g := gb162) (o := .cells #[.int .i64 t159, .int .u32 t160] 37 (0, 0)) (by (with_reducible repeat (first | refine blk_drewN ?_ _ | refine blk_drew ?_ | refine blk_alloc ?_ _)); exact BK162.out) hb); have n3_ := Aside0.mk (below_step (by repeat (first | (with_reducible first | exact HB.out | apply below_alloc | apply pw_below_drewN | apply below_drew1 | refine below_set ?_ GE140.out | refine below_set ?_ GE162.out) | exact HB.out | exact below_undrew HB.out)) hb); clear HO_8; clear BK140; clear BK162; clear HB; have HO_8 := n0_; have hnHO_8 := fun w_ : World => Kd.O_eql (P := Tryz.prog) HO_8.out 22 (by kernel_rfl) w_; have hmHO_8 := fun w_ : World => Kd.O_neq (P := Tryz.prog) HO_8.out 22 (by kernel_rfl) w_; have BK140 := n1_; have BK162 := n2_; have HB := n3_; clear n0_ n1_ n2_ n3_; (try clear hb); (try clear hb2); (try clear hk); (try clear hi)) | (go_at_call 8; (with_reducible refine (barbicanlaw02_sure.calls kj41  t170 _ ?side1 A63.out).mono ?_); (case side1 => exact GE.below HG.out (by repeat (first | (with_reducible first | exact HB.out | apply below_alloc | apply pw_below_drewN | apply below_drew1 | refine below_set ?_ GE140.out | refine below_set ?_ GE162.out) | exact HB.out | exact below_undrew HB.out))); rintro e w68 ⟨rfl, hb⟩; have n0_ := Aside0.mk (Kd.O_below (by (with_reducible repeat (first | apply Kd.O_alloc | apply Kd.O_drewN | apply Kd.O_drew)); exact HO_8.out) hb); have n1_ := Aside0.mk (blk_below (g := gb140) (o := .cells #[.int .i64 x141000_2, .int .u32 x141001_2] 37 (0, 0)) (by (with_reducible repeat (first | refine blk_drewN ?_ _ | refine blk_drew ?_ | refine blk_alloc ?_ _)); exact BK140.out) hb); have n2_ := Aside0.mk (blk_below (g := gb162) (o := .cells #[.int .i64 t159, .int .u32 t160] 37 (0, 0)) (by (with_reducible repeat (first | refine blk_drewN ?_ _ | refine blk_drew ?_ | refine blk_alloc ?_ _)); exact BK162.out) hb); have n3_ := Aside0.mk (below_step (by repeat (first | (with_reducible first | exact HB.out | apply below_alloc | apply pw_below_drewN | apply below_drew1 | refine below_set ?_ GE140.out | refine below_set ?_ GE162.out) | exact HB.out | exact below_undrew HB.out)) hb); clear HO_8; clear BK140; clear BK162; clear HB; have HO_8 := n0_; have hnHO_8 := fun w_ : World => Kd.O_eql (P := Tryz.prog) HO_8.out 22 (by kernel_rfl) w_; have hmHO_8 := fun w_ : World => Kd.O_neq (P := Tryz.prog) HO_8.out 22 (by kernel_rfl) w_; have BK140 := n1_; have BK162 := n2_; have HB := n3_; clear n0_ n1_ n2_ n3_; (try clear hb); (try clear hb2); (try clear hk); (try clear hi)))
                              repeat (go_quiet (first | (go_at_call 17; (with_reducible refine (lattice_Lattice_Len.calls _ t144 t166 _ ?side1 ?side2 A55.out).mono ?_); (case side1 => exact (Kd.O_reads' (by (with_reducible repeat (first | apply Kd.O_alloc | apply Kd.O_drewN | apply Kd.O_drew)); exact HO_8.out)).2.2); (case side2 => exact (Kd.O_reads' HO_8.out).2.1); rintro e w64 ⟨rfl, hb⟩; have n0_ := Aside0.mk (Kd.O_below (by (with_reducible repeat (first | apply Kd.O_alloc | apply Kd.O_drewN | apply Kd.O_drew)); exact HO_8.out) hb); have n1_ := Aside0.mk (blk_below (g := gb140) (o := .cells #[.int .i64 x141000_2, .int .u32 x141001_2] 37 (0, 0)) (by (with_reducible repeat (first | refine blk_drewN ?_ _ | refine blk_drew ?_ | refine blk_alloc ?_ _)); exact BK140.out) hb); have n2_ := Aside0.mk (blk_below (g := gb162) (o := .cells #[.int .i64 t159, .int .u32 t160] 37 (0, 0)) (by (with_reducible repeat (first | refine blk_drewN ?_ _ | refine blk_drew ?_ | refine blk_alloc ?_ _)); exact BK162.out) hb); have n3_ := Aside0.mk (below_step (by repeat (first | (with_reducible first | exact HB.out | apply below_alloc | apply pw_below_drewN | apply below_drew1 | refine below_set ?_ GE140.out | refine below_set ?_ GE162.out) | exact HB.out | exact below_undrew HB.out)) hb); clear HO_8; clear BK140; clear BK162; clear HB; have HO_8 := n0_; have hnHO_8 := fun w_ : World => Kd.O_eql (P := Tryz.prog) HO_8.out 22 (by kernel_rfl) w_; have hmHO_8 := fun w_ : World => Kd.O_neq (P := Tryz.prog) HO_8.out 22 (by kernel_rfl) w_; have BK140 := n1_; have BK162 := n2_; have HB := n3_; clear n0_ n1_ n2_ n3_; (try clear hb); (try clear hb2); (try clear hk); (try clear hi); have CA58 := fun W hG_ => barbicanlaw02_num.calls t156 t167 W hG_ A58.out; try simp only [errW_none, errW_some] at CA58) | (go_at_call 7; (with_reducible refine (CA58 _ ?side1).mono ?_); (case side1 => exact GE.below HG.out (by repeat (first | (with_reducible first | exact HB.out | apply below_alloc | apply pw_below_drewN | apply below_drew1 | refine below_set ?_ GE140.out | refine below_set ?_ GE162.out) | exact HB.out | exact below_undrew HB.out))); rintro e w65 ⟨rfl, hb⟩; have n0_ := Aside0.mk (Kd.O_below (by (with_reducible repeat (first | apply Kd.O_alloc | apply Kd.O_drewN | apply Kd.O_drew)); exact HO_8.out) hb); have n1_ := Aside0.mk (blk_below (g := gb140) (o := .cells #[.int .i64 x141000_2, .int .u32 x141001_2] 37 (0, 0)) (by (with_reducible repeat (first | refine blk_drewN ?_ _ | refine blk_drew ?_ | refine blk_alloc ?_ _)); exact BK140.out) hb); have n2_ := Aside0.mk (blk_below (g := gb162) (o := .cells #[.int .i64 t159, .int .u32 t160] 37 (0, 0)) (by (with_reducible repeat (first | refine blk_drewN ?_ _ | refine blk_drew ?_ | refine blk_alloc ?_ _)); exact BK162.out) hb); have n3_ := Aside0.mk (below_step (by repeat (first | (with_reducible first | exact HB.out | apply below_alloc | apply pw_below_drewN | apply below_drew1 | refine below_set ?_ GE140.out | refine below_set ?_ GE162.out) | exact HB.out | exact below_undrew HB.out)) hb); clear HO_8; clear BK140; clear BK162; clear HB; have HO_8 := n0_; have hnHO_8 := fun w_ : World => Kd.O_eql (P := Tryz.prog) HO_8.out 22 (by kernel_rfl) w_; have hmHO_8 := fun w_ : World => Kd.O_neq (P := Tryz.prog) HO_8.out 22 (by kernel_rfl) w_; have BK140 := n1_; have BK162 := n2_; have HB := n3_; clear n0_ n1_ n2_ n3_; (try clear hb); (try clear hb2); (try clear hk); (try clear hi)) | (go_at_call 9; (with_reducible refine (lattice_Lattice_Text.calls _ t144 t168 _ ?side1 ?side2 ?side3 A60.out).mono ?_); (case side1 => exact (Kd.O_reads' (by (with_reducible repeat (first | apply Kd.O_alloc | apply Kd.O_drewN | apply Kd.O_drew)); exact HO_8.out)).2.2); (case side2 => exact (Kd.O_reads' HO_8.out).2.1); (case side3 => exact GE.below HG.out (by repeat (first | (with_reducible first | exact HB.out | apply below_alloc | apply pw_below_drewN | apply below_drew1 | refine below_set ?_ GE140.out | refine below_set ?_ GE162.out) | exact HB.out | exact below_undrew HB.out))); rintro e w66 ⟨rfl, hb⟩; have n0_ := Aside0.mk (Kd.O_below (by (with_reducible repeat (first | apply Kd.O_alloc | apply Kd.O_drewN | apply Kd.O_drew)); exact HO_8.out) hb); have n1_ := Aside0.mk (blk_below (g := gb140) (o := .cells #[.int .i64 x141000_2, .int .u32 x141001_2] 37 (0, 0)) (by (with_reducible repeat (first | refine blk_drewN ?_ _ | refine blk_drew ?_ | refine blk_alloc ?_ _)); exact BK140.out) hb); have n2_ := Aside0.mk (blk_below (g := gb162) (o := .cells #[.int .i64 t159, .int .u32 t160] 37 (0, 0)) (by (with_reducible repeat (first | refine blk_drewN ?_ _ | refine blk_drew ?_ | refine blk_alloc ?_ _)); exact BK162.out) hb); have n3_ := Aside0.mk (below_step (by repeat (first | (with_reducible first | exact HB.out | apply below_alloc | apply pw_below_drewN | apply below_drew1 | refine below_set ?_ GE140.out | refine below_set ?_ GE162.out) | exact HB.out | exact below_undrew HB.out)) hb); clear HO_8; clear BK140; clear BK162; clear HB; have HO_8 := n0_; have hnHO_8 := fun w_ : World => Kd.O_eql (P := Tryz.prog) HO_8.out 22 (by kernel_rfl) w_; have hmHO_8 := fun w_ : World => Kd.O_neq (P := Tryz.prog) HO_8.out 22 (by kernel_rfl) w_; have BK140 := n1_; have BK162 := n2_; have HB := n3_; clear n0_ n1_ n2_ n3_; (try clear hb); (try clear hb2); (try clear hk); (try clear hi)) | (go_at_call 10; (with_reducible refine (barbicanref02_Text.calls kj41 _ _ l0 t169 _ ?side1 ?side2 A61.out).mono ?_); (case side1 => repeat (first | exact (Kd.C_below HR0.out HB.out) | (with_reducible refine Kd.C_alloc ?_ _) | (with_reducible refine Kd.C_drewN ?_ _) | (with_reducible refine Kd.C_drew ?_))); (case side2 => exact HC0.out); rintro e w67 ⟨rfl, hb⟩; have n0_ := Aside0.mk (Kd.O_below (by (with_reducible repeat (first | apply Kd.O_alloc | apply Kd.O_drewN | apply Kd.O_drew)); exact HO_8.out) hb); have n1_ := Aside0.mk (blk_below (g := gb140) (o := .cells #[.int .i64 x141000_2, .int .u32 x141001_2] 37 (0, 0)) (by (with_reducible repeat (first | refine blk_drewN ?_ _ | refine blk_drew ?_ | refine blk_alloc ?_ _)); exact BK140.out) hb); have n2_ := Aside0.mk (blk_below (g := gb162) (o := .cells #[.int .i64 t159, .int .u32 t160] 37 (0, 0)) (by (with_reducible repeat (first | refine blk_drewN ?_ _ | refine blk_drew ?_ | refine blk_alloc ?_ _)); exact BK162.out) hb); have n3_ := Aside0.mk (below_step (by repeat (first | (with_reducible first | exact HB.out | apply below_alloc | apply pw_below_drewN | apply below_drew1 | refine below_set ?_ GE140.out | refine below_set ?_ GE162.out) | exact HB.out | exact below_undrew HB.out)) hb); clear HO_8; clear BK140; clear BK162; clear HB; have HO_8 := n0_; have hnHO_8 := fun w_ : World => Kd.O_eql (P := Tryz.prog) HO_8.out 22 (by kernel_rfl) w_; have hmHO_8 := fun w_ : World => Kd.O_neq (P := Tryz.prog) HO_8.out 22 (by kernel_rfl) w_; have BK140 := n1_; have BK162 := n2_; have HB := n3_; clear n0_ n1_ n2_ n3_; (try clear hb); (try clear hb2); (try clear hk); (try clear hi)) | (go_at_call 8; (with_reducible refine (barbicanlaw02_sure.calls kj41  t170 _ ?side1 A63.out).mono ?_); (case side1 => exact GE.below HG.out (by repeat (first | (with_reducible first | exact HB.out | apply below_alloc | apply pw_below_drewN | apply below_drew1 | refine below_set ?_ GE140.out | refine below_set ?_ GE162.out) | exact HB.out | exact below_undrew HB.out))); rintro e w68 ⟨rfl, hb⟩; have n0_ := Aside0.mk (Kd.O_below (by (with_reducible repeat (first | apply Kd.O_alloc | apply Kd.O_drewN | apply Kd.O_drew)); exact HO_8.out) hb); have n1_ := Aside0.mk (blk_below (g := gb140) (o := .cells #[.int .i64 x141000_2, .int .u32 x141001_2] 37 (0, 0)) (by (with_reducible repeat (first | refine blk_drewN ?_ _ | refine blk_drew ?_ | refine blk_alloc ?_ _)); exact BK140.out) hb); have n2_ := Aside0.mk (blk_below (g := gb162) (o := .cells #[.int .i64 t159, .int .u32 t160] 37 (0, 0)) (by (with_reducible repeat (first | refine blk_drewN ?_ _ | refine blk_drew ?_ | refine blk_alloc ?_ _)); exact BK162.out) hb); have n3_ := Aside0.mk (below_step (by repeat (first | (with_reducible first | exact HB.out | apply below_alloc | apply pw_below_drewN | apply below_drew1 | refine below_set ?_ GE140.out | refine below_set ?_ GE162.out) | exact HB.out | exact below_undrew HB.out)) hb); clear HO_8; clear BK140; clear BK162; clear HB; have HO_8 := n0_; have hnHO_8 := fun w_ : World => Kd.O_eql (P := Tryz.prog) HO_8.out 22 (by kernel_rfl) w_; have hmHO_8 := fun w_ : World => Kd.O_neq (P := Tryz.prog) HO_8.out 22 (by kernel_rfl) w_; have BK140 := n1_; have BK162 := n2_; have HB := n3_; clear n0_ n1_ n2_ n3_; (try clear hb); (try clear hb2); (try clear hk); (try clear hi))); try go_wp2_with (first | (go_at_call 17; (with_reducible refine (lattice_Lattice_Len.calls _ t144 t166 _ ?side1 ?side2 A55.out).mono ?_); (case side1 => exact (Kd.O_reads' (by (with_reducible repeat (first | apply Kd.O_alloc | apply Kd.O_drewN | apply Kd.O_drew)); exact HO_8.out)).2.2); (case side2 => exact (Kd.O_reads' HO_8.out).2.1); rintro e w64 ⟨rfl, hb⟩; have n0_ := Aside0.mk (Kd.O_below (by (with_reducible repeat (first | apply Kd.O_alloc | apply Kd.O_drewN | apply Kd.O_drew)); exact HO_8.out) hb); have n1_ := Aside0.mk (blk_below (g := gb140) (o := .cells #[.int .i64 x141000_2, .int .u32 x141001_2] 37 (0, 0)) (by (with_reducible repeat (first | refine blk_drewN ?_ _ | refine blk_drew ?_ | refine blk_alloc ?_ _)); exact BK140.out) hb); have n2_ := Aside0.mk (blk_below (g := gb162) (o := .cells #[.int .i64 t159, .int .u32 t160] 37 (0, 0)) (by (with_reducible repeat (first | refine blk_drewN ?_ _ | refine blk_drew ?_ | refine blk_alloc ?_ _)); exact BK162.out) hb); have n3_ := Aside0.mk (below_step (by repeat (first | (with_reducible first | exact HB.out | apply below_alloc | apply pw_below_drewN | apply below_drew1 | refine below_set ?_ GE140.out | refine below_set ?_ GE162.out) | exact HB.out | exact below_undrew HB.out)) hb); clear HO_8; clear BK140; clear BK162; clear HB; have HO_8 := n0_; have hnHO_8 := fun w_ : World => Kd.O_eql (P := Tryz.prog) HO_8.out 22 (by kernel_rfl) w_; have hmHO_8 := fun w_ : World => Kd.O_neq (P := Tryz.prog) HO_8.out 22 (by kernel_rfl) w_; have BK140 := n1_; have BK162 := n2_; have HB := n3_; clear n0_ n1_ n2_ n3_; (try clear hb); (try clear hb2); (try clear hk); (try clear hi); have CA58 := fun W hG_ => barbicanlaw02_num.calls t156 t167 W hG_ A58.out; try simp only [errW_none, errW_some] at CA58) | (go_at_call 7; (with_reducible refine (CA58 _ ?side1).mono ?_); (case side1 => exact GE.below HG.out (by repeat (first | (with_reducible first | exact HB.out | apply below_alloc | apply pw_below_drewN | apply below_drew1 | refine below_set ?_ GE140.out | refine below_set ?_ GE162.out) | exact HB.out | exact below_undrew HB.out))); rintro e w65 ⟨rfl, hb⟩; have n0_ := Aside0.mk (Kd.O_below (by (with_reducible repeat (first | apply Kd.O_alloc | apply Kd.O_drewN | apply Kd.O_drew)); exact HO_8.out) hb); have n1_ := Aside0.mk (blk_below (g := gb140) (o := .cells #[.int .i64 x141000_2, .int .u32 x141001_2] 37 (0, 0)) (by (with_reducible repeat (first | refine blk_drewN ?_ _ | refine blk_drew ?_ | refine blk_alloc ?_ _)); exact BK140.out) hb); have n2_ := Aside0.mk (blk_below (g := gb162) (o := .cells #[.int .i64 t159, .int .u32 t160] 37 (0, 0)) (by (with_reducible repeat (first | refine blk_drewN ?_ _ | refine blk_drew ?_ | refine blk_alloc ?_ _)); exact BK162.out) hb); have n3_ := Aside0.mk (below_step (by repeat (first | (with_reducible first | exact HB.out | apply below_alloc | apply pw_below_drewN | apply below_drew1 | refine below_set ?_ GE140.out | refine below_set ?_ GE162.out) | exact HB.out | exact below_undrew HB.out)) hb); clear HO_8; clear BK140; clear BK162; clear HB; have HO_8 := n0_; have hnHO_8 := fun w_ : World => Kd.O_eql (P := Tryz.prog) HO_8.out 22 (by kernel_rfl) w_; have hmHO_8 := fun w_ : World => Kd.O_neq (P := Tryz.prog) HO_8.out 22 (by kernel_rfl) w_; have BK140 := n1_; have BK162 := n2_; have HB := n3_; clear n0_ n1_ n2_ n3_; (try clear hb); (try clear hb2); (try clear hk); (try clear hi)) | (go_at_call 9; (with_reducible refine (lattice_Lattice_Text.calls _ t144 t168 _ ?side1 ?side2 ?side3 A60.out).mono ?_); (case side1 => exact (Kd.O_reads' (by (with_reducible repeat (first | apply Kd.O_alloc | apply Kd.O_drewN | apply Kd.O_drew)); exact HO_8.out)).2.2); (case side2 => exact (Kd.O_reads' HO_8.out).2.1); (case side3 => exact GE.below HG.out (by repeat (first | (with_reducible first | exact HB.out | apply below_alloc | apply pw_below_drewN | apply below_drew1 | refine below_set ?_ GE140.out | refine below_set ?_ GE162.out) | exact HB.out | exact below_undrew HB.out))); rintro e w66 ⟨rfl, hb⟩; have n0_ := Aside0.mk (Kd.O_below (by (with_reducible repeat (first | apply Kd.O_alloc | apply Kd.O_drewN | apply Kd.O_drew)); exact HO_8.out) hb); have n1_ := Aside0.mk (blk_below (g := gb140) (o := .cells #[.int .i64 x141000_2, .int .u32 x141001_2] 37 (0, 0)) (by (with_reducible repeat (first | refine blk_drewN ?_ _ | refine blk_drew ?_ | refine blk_alloc ?_ _)); exact BK140.out) hb); have n2_ := Aside0.mk (blk_below (g := gb162) (o := .cells #[.int .i64 t159, .int .u32 t160] 37 (0, 0)) (by (with_reducible repeat (first | refine blk_drewN ?_ _ | refine blk_drew ?_ | refine blk_alloc ?_ _)); exact BK162.out) hb); have n3_ := Aside0.mk (below_step (by repeat (first | (with_reducible first | exact HB.out | apply below_alloc | apply pw_below_drewN | apply below_drew1 | refine below_set ?_ GE140.out | refine below_set ?_ GE162.out) | exact HB.out | exact below_undrew HB.out)) hb); clear HO_8; clear BK140; clear BK162; clear HB; have HO_8 := n0_; have hnHO_8 := fun w_ : World => Kd.O_eql (P := Tryz.prog) HO_8.out 22 (by kernel_rfl) w_; have hmHO_8 := fun w_ : World => Kd.O_neq (P := Tryz.prog) HO_8.out 22 (by kernel_rfl) w_; have BK140 := n1_; have BK162 := n2_; have HB := n3_; clear n0_ n1_ n2_ n3_; (try clear hb); (try clear hb2); (try clear hk); (try clear hi)) | (go_at_call 10; (with_reducible refine (barbicanref02_Text.calls kj41 _ _ l0 t169 _ ?side1 ?side2 A61.out).mono ?_); (case side1 => repeat (first | exact (Kd.C_below HR0.out HB.out) | (with_reducible refine Kd.C_alloc ?_ _) | (with_reducible refine Kd.C_drewN ?_ _) | (with_reducible refine Kd.C_drew ?_))); (case side2 => exact HC0.out); rintro e w67 ⟨rfl, hb⟩; have n0_ := Aside0.mk (Kd.O_below (by (with_reducible repeat (first | apply Kd.O_alloc | apply Kd.O_drewN | apply Kd.O_drew)); exact HO_8.out) hb); have n1_ := Aside0.mk (blk_below (g := gb140) (o := .cells #[.int .i64 x141000_2, .int .u32 x141001_2] 37 (0, 0)) (by (with_reducible repeat (first | refine blk_drewN ?_ _ | refine blk_drew ?_ | refine blk_alloc ?_ _)); exact BK140.out) hb); have n2_ := Aside0.mk (blk_below (g := gb162) (o := .cells #[.int .i64 t159, .int .u32 t160] 37 (0, 0)) (by (with_reducible repeat (first | refine blk_drewN ?_ _ | refine blk_drew ?_ | refine blk_alloc ?_ _)); exact BK162.out) hb); have n3_ := Aside0.mk (below_step (by repeat (first | (with_reducible first | exact HB.out | apply below_alloc | apply pw_below_drewN | apply below_drew1 | refine below_set ?_ GE140.out | refine below_set ?_ GE162.out) | exact HB.out | exact below_undrew HB.out)) hb); clear HO_8; clear BK140; clear BK162; clear HB; have HO_8 := n0_; have hnHO_8 := fun w_ : World => Kd.O_eql (P := Tryz.prog) HO_8.out 22 (by kernel_rfl) w_; have hmHO_8 := fun w_ : World => Kd.O_neq (P := Tryz.prog) HO_8.out 22 (by kernel_rfl) w_; have BK140 := n1_; have BK162 := n2_; have HB := n3_; clear n0_ n1_ n2_ n3_; (try clear hb); (try clear hb2); (try clear hk); (try clear hi)) | (go_at_call 8; (with_reducible refine (barbicanlaw02_sure.calls kj41  t170 _ ?side1 A63.out).mono ?_); (case side1 => exact GE.below HG.out (by repeat (first | (with_reducible first | exact HB.out | apply below_alloc | apply pw_below_drewN | apply below_drew1 | refine below_set ?_ GE140.out | refine below_set ?_ GE162.out) | exact HB.out | exact below_undrew HB.out))); rintro e w68 ⟨rfl, hb⟩; have n0_ := Aside0.mk (Kd.O_below (by (with_reducible repeat (first | apply Kd.O_alloc | apply Kd.O_drewN | apply Kd.O_drew)); exact HO_8.out) hb); have n1_ := Aside0.mk (blk_below (g := gb140) (o := .cells #[.int .i64 x141000_2, .int .u32 x141001_2] 37 (0, 0)) (by (with_reducible repeat (first | refine blk_drewN ?_ _ | refine blk_drew ?_ | refine blk_alloc ?_ _)); exact BK140.out) hb); have n2_ := Aside0.mk (blk_below (g := gb162) (o := .cells #[.int .i64 t159, .int .u32 t160] 37 (0, 0)) (by (with_reducible repeat (first | refine blk_drewN ?_ _ | refine blk_drew ?_ | refine blk_alloc ?_ _)); exact BK162.out) hb); have n3_ := Aside0.mk (below_step (by repeat (first | (with_reducible first | exact HB.out | apply below_alloc | apply pw_below_drewN | apply below_drew1 | refine below_set ?_ GE140.out | refine below_set ?_ GE162.out) | exact HB.out | exact below_undrew HB.out)) hb); clear HO_8; clear BK140; clear BK162; clear HB; have HO_8 := n0_; have hnHO_8 := fun w_ : World => Kd.O_eql (P := Tryz.prog) HO_8.out 22 (by kernel_rfl) w_; have hmHO_8 := fun w_ : World => Kd.O_neq (P := Tryz.prog) HO_8.out 22 (by kernel_rfl) w_; have BK140 := n1_; have BK162 := n2_; have HB := n3_; clear n0_ n1_ n2_ n3_; (try clear hb); (try clear hb2); (try clear hk); (try clear hi))))
                              go_ret
                              exact ⟨by first | rfl | (simp [errW_none, errW_some] <;> rfl) | (simp [*, errW_none, errW_some] <;> rfl), by repeat (first | (with_reducible first | exact HB.out | apply below_alloc | apply pw_below_drewN | apply below_drew1 | refine below_set ?_ GE140.out | refine below_set ?_ GE162.out) | exact HB.out | exact below_undrew HB.out)⟩
                            · rw [if_neg c62] at H
                              have c62b0 : (t168.toList == t169.toList) = false := beq_eq_false_iff_ne.mpr c62
                              have c62b1 : (t168.toList != t169.toList) = true := bne_iff_ne.mpr c62
                              exact absurd (Option.some.inj H) (by rw [hT.out]; decide)
                          · rw [if_neg c59] at H
                            have c59b0 : (t167 == t158) = false := beq_eq_false_iff_ne.mpr c59
                            have c59b1 : (t167 != t158) = true := bne_iff_ne.mpr c59
                            exact absurd (Option.some.inj H) (by rw [hT.out]; decide)
                        · rw [if_neg c57] at H
                          have c57b0 : (t155 == t157) = false := beq_eq_false_iff_ne.mpr c57
                          have c57b1 : (t155 != t157) = true := bne_iff_ne.mpr c57
                          exact absurd (Option.some.inj H) (by rw [hT.out]; decide)
                      · rw [if_neg c56] at H
                        have c56b0 : (t166 == (l0.length : Int)) = false := beq_eq_false_iff_ne.mpr c56
                        have c56b1 : (t166 != (l0.length : Int)) = true := bne_iff_ne.mpr c56
                        exact absurd (Option.some.inj H) (by rw [hT.out]; decide)

end Go.Proofs.YtgcaalgaellciaaGreatDoor.XLam
