/- Printed by this session's program (wip/print) out of the translation, for the statement named in the file's name. -/
import Derived.Test.YtindggjkcnelcaaDoorXAllx0
import Derived.Test.YtindggjkcnelcaaDoorXAllx12
import Derived.Test.YtindggjkcnelcaaDoorXAllx14
namespace Go.Proofs.YtindggjkcnelcaaDoor.XAll
open Go.RowKit Go.Proofs.YtindggjkcnelcaaDoorW.PrintWords Go.Proofs.YtindggjkcnelcaaDoorW.PrintLast Go.Proofs.YtindggjkcnelcaaDoorW.PrintMore Go.Proofs.YtindggjkcnelcaaDoor.As
attribute [local go_sem] max2_int min2_int max_two min_two max_three min_three max_four min_four   -- for this text's walks alone
set_option linter.unusedVariables false
set_option linter.unusedSimpArgs false

/-! ### record_Len: function 18 -/
def record_Len.f (k : Nat) (a0 : Int) (a1 : Int) : Option (Int × Option Int) := (record_check.f a1).bind fun t262 => (if t262.isNone = true then ((record_head.f k a0 a1).bind fun t264 => (some (wrap64 ((wrap64 ((t264.length : Int) + a1)) + 4), none))) else (some (0, some (t262.getD 0))))
theorem record_Len.mono : ∀ a0 a1 k, LeO (record_Len.f k a0 a1) (record_Len.f (k + 1) a0 a1) := by
  intro a0 a1 k
  unfold record_Len.f
  repeat' first
      | (with_reducible exact record_head.mono _ _ _)
      | (with_reducible exact LeO.refl _)
      | (with_reducible exact LeO.none _)
      | (with_reducible refine LeO.ite ?_ ?_)
      | (with_reducible refine LeO.bind ?_ (fun _ => ?_))
      | exact record_head.mono _ _ _
      | exact LeO.none _
      | refine LeO.ite ?_ ?_
      | refine LeO.bind ?_ (fun _ => ?_)
set_option maxHeartbeats 8000000 in
set_option maxRecDepth 100000 in
theorem record_Len.calls (k : Nat) (a0 : Int) (a1 : Int) (r1 : Int) (r2 : Option Int) (w : World) (h : record_Len.f k a0 a1 = some (r1, r2)) :
    Calls Tryd.prog 18 #[.int .u64 a0, .int .i64 a1] w fun e w' => e = .returned (.tuple #[.int .i64 r1, errW r2]) ∧ Below w.heap.size w w' := by
  have hu25 := Tryd.underlying25
  have hu46 := Tryd.underlying46
  have HB := Aside0.mk (Below.refl w.heap.size w)
  have H : ((record_check.f a1).bind fun t262 => (if t262.isNone = true then ((record_head.f k a0 a1).bind fun t264 => (some (wrap64 ((wrap64 ((t264.length : Int) + a1)) + 4), none))) else (some (0, some (t262.getD 0))))) = some (r1, r2) := h
  clear h
  replace H := Option.bind_eq_some_iff.mp H
  obtain ⟨t262, A30, H⟩ := H
  replace H : (if t262.isNone = true then ((record_head.f k a0 a1).bind fun t264 => (some (wrap64 ((wrap64 ((t264.length : Int) + a1)) + 4), none))) else (some (0, some (t262.getD 0)))) = some (r1, r2) := H
  have A3 := Aside0.mk A30
  clear A30
  rcases t262 with _ | q263
  · have H1 : ((record_head.f k a0 a1).bind fun t264 => (some (wrap64 ((wrap64 ((t264.length : Int) + a1)) + 4), none))) = some (r1, r2) := by rw [if_pos (show (none : Option Int).isNone = true by rfl)] at H; exact H
    clear H
    have H := H1
    clear H1
    try simp only [errW_none, errW_some]
    replace H := Option.bind_eq_some_iff.mp H
    obtain ⟨t264, A40, H⟩ := H
    replace H : (some (wrap64 ((wrap64 ((t264.length : Int) + a1)) + 4), none)) = some (r1, r2) := H
    have A4 := Aside0.mk A40
    clear A40
    simp only [Option.some.injEq, Prod.mk.injEq] at H
    obtain ⟨rfl, rfl⟩ := H
    go_enter Tryd.func18, Tryd.ntmps18
    go_wp2_with (first | ((with_reducible refine gate_callee (f := 25) rfl ?_); refine goesL_ (some 8) rfl rfl Tryd.func25 (by kernel_rfl) rfl #[.int .i64 a1] rfl (by (try simp only [List.map_toArray, List.map_cons, List.map_nil]); first | done | rfl | (simp only [List.length_drop, List.length_take]; rfl)) ?_; (with_reducible refine (record_check.calls a1 none _ A3.out).mono ?_); rintro e w' ⟨rfl, ⟨nd, rfl⟩⟩; refine ⟨_, rfl, ?_⟩; (try simp only [errW_none, errW_some])) | ((with_reducible refine gate_callee (f := 26) rfl ?_); refine goesL_ (some 14) rfl rfl Tryd.func26 (by kernel_rfl) rfl #[.int .u64 a0, .int .i64 a1] rfl (by (try simp only [List.map_toArray, List.map_cons, List.map_nil]); first | done | rfl | (simp only [List.length_drop, List.length_take]; rfl)) ?_; (with_reducible refine (record_head.calls k a0 a1 t264 _ A4.out).mono ?_); rintro e w5 ⟨v265, rfl, ho0, hb⟩; refine ⟨_, rfl, ?_⟩; have n0_ := Aside0.mk (Kd.R_lower ho0 (below_size (by repeat (first | (with_reducible first | exact HB.out | apply below_alloc | apply pw_below_drewN | apply below_drew1) | exact HB.out | exact below_undrew HB.out)))); have n1_ := Aside0.mk (below_step (by repeat (first | (with_reducible first | exact HB.out | apply below_alloc | apply pw_below_drewN | apply below_drew1) | exact HB.out | exact below_undrew HB.out)) hb); clear HB; have HO266 := n0_; have HB := n1_; clear n0_ n1_; (try clear hb); (try clear hb2); (try clear hk); (try clear hi); (try clear ho0); obtain ⟨Ao6, co6, eo6⟩ := Kd.R_slice HO266.out; subst eo6))
    go_ret2
    exact ⟨by first | rfl | (simp [errW_none, errW_some] <;> rfl) | (simp [*, errW_none, errW_some] <;> rfl), by repeat (first | (with_reducible first | exact HB.out | apply below_alloc | apply pw_below_drewN | apply below_drew1) | exact HB.out | exact below_undrew HB.out)⟩
  · have H1 : (some (0, some q263)) = some (r1, r2) := by rw [if_neg (show ¬ (some q263).isNone = true by simp)] at H; exact H
    clear H
    have H := H1
    clear H1
    try simp only [errW_none, errW_some]
    simp only [Option.some.injEq, Prod.mk.injEq] at H
    obtain ⟨rfl, rfl⟩ := H
    go_enter Tryd.func18, Tryd.ntmps18
    go_wp2_with (first | ((with_reducible refine gate_callee (f := 25) rfl ?_); refine goesL_ (some 8) rfl rfl Tryd.func25 (by kernel_rfl) rfl #[.int .i64 a1] rfl (by (try simp only [List.map_toArray, List.map_cons, List.map_nil]); first | done | rfl | (simp only [List.length_drop, List.length_take]; rfl)) ?_; (with_reducible refine (record_check.calls a1 (some q263) _ A3.out).mono ?_); rintro e w' ⟨rfl, ⟨nd, rfl⟩⟩; refine ⟨_, rfl, ?_⟩; (try simp only [errW_none, errW_some])))
    go_ret2
    exact ⟨by first | rfl | (simp [errW_none, errW_some] <;> rfl) | (simp [*, errW_none, errW_some] <;> rfl), by repeat (first | (with_reducible first | exact HB.out | apply below_alloc | apply pw_below_drewN | apply below_drew1) | exact HB.out | exact below_undrew HB.out)⟩

/-! ### barbicanlaw10_num: function 19 (by hand: errors.As by its contract) -/
def barbicanlaw10_num.f (a0 : Option Int) : Option (Int) := some (a0.getD 0)
theorem barbicanlaw10_num.calls (a0 : Option Int) (r : Int) (w : World) (hG : GE w) (h : barbicanlaw10_num.f a0 = some r) :
    Calls Tryd.prog 19 #[errW a0] w fun e w' => e = .returned (.int .i64 r) ∧ Below w.heap.size w w' := by
  obtain rfl : a0.getD 0 = r := Option.some.inj h
  clear h
  cases a0 with
  | none =>
    rw [errW_none]
    clear hG
    go_enter Tryd.func19, Tryd.ntmps19
    go_wp2
    go_ret
    exact ⟨rfl, (Below.refl _ _).alloc (Nat.le_refl _) _⟩
  | some c =>
    rw [errW_some]
    have hg1 : GE (w.alloc (.cells #[.int .i64 0] 46)) := hG.below ((Below.refl _ _).alloc (Nat.le_refl _) _)
    have ht : (w.alloc (.cells #[.int .i64 0] 46)).cell? ⟨w.heap.size, 0, none⟩ = some (.int .i64 0) := by simp
    have hf : (w.alloc (.cells #[.int .i64 0] 46)).frozen? ⟨w.heap.size, 0, none⟩ = false := by simp
    have HG1 := Aside0.mk hg1
    clear hG hg1
    go_enter Tryd.func19, Tryd.ntmps19
    go_wp2_with (go_at_call 24; refine (as_hit c _ (.int .i64 0) _ HG1.out ht hf).mono ?_; rintro e w' ⟨rfl, rfl⟩)
    go_ret
    exact ⟨rfl, by repeat (first | exact Below.refl _ _ | apply below_alloc)⟩

end Go.Proofs.YtindggjkcnelcaaDoor.XAll
