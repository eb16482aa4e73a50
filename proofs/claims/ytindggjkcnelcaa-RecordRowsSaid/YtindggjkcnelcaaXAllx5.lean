/- Printed by this session's program (wip/print) out of the translation, for the statement named in the file's name. -/
import Derived.Test.YtindggjkcnelcaaXAllx0
namespace Go.Proofs.Ytindggjkcnelcaa.XAll
open Go.RowKit Go.Proofs.YtindggjkcnelcaaW.PrintWords Go.Proofs.YtindggjkcnelcaaW.PrintLast Go.Proofs.YtindggjkcnelcaaW.PrintMore
attribute [local go_sem] str_gtr str_leq str_geq max2_int min2_int max_two min_two max_three min_three max_four min_four   -- for this text's walks alone
set_option linter.unusedVariables false
set_option linter.unusedSimpArgs false

/-! ### errors_Is: function 43 (by hand) -/
/- Of two nil values that are no literals the model says nothing. -/
def errors_Is.f (a0 : Option Int) (a1 : Option Int) : Option (Bool) := if a0.isNone = true ∧ a1.isNone = true then none else some (a0 == a1)
theorem is_typeof (v : Value) (w : World) : (callFunc 44 #[.iface 63 v]).run Try.prog w = .ok (Next.value (.iface 75 (.agg #[.pointer (some ⟨0, 63, none⟩)]))) w := by kernel_rfl
theorem is_comparable (w : World) : (callFunc 65 #[.agg #[.pointer (some ⟨0, 63, none⟩)]]).run Try.prog w = .ok (Next.value (.bool true)) w := by kernel_rfl
theorem is_method (v : Value) (w : World) : (Go.method 218 75 v "Comparable").run Try.prog w = .ok (65, v) w := by kernel_rfl
theorem is_nilnil (w : World) : (binOp .eql 44 .nilIface .nilIface).run Try.prog w = .ok (.bool true) w := by kernel_rfl
theorem is_comp : (Try.prog.info? 63).map (·.comparable) = some true := by kernel_rfl
theorem is_noIs (v : Value) (xT : TypeId) (w : World) : (Instr.typeAssert (.iface 63 v) xT 77 true).run Try.prog w = .ok (.tuple #[.nilIface, .bool false]) w := run_typeAssert_lacksB Try.underlying77 (by kernel_rfl) (by kernel_rfl) v xT w
theorem is_noUnwrap (v : Value) (xT : TypeId) (w : World) : (Instr.typeAssert (.iface 63 v) xT 80 true).run Try.prog w = .ok (.tuple #[.nilIface, .bool false]) w := run_typeAssert_lacksB Try.underlying80 (by kernel_rfl) (by kernel_rfl) v xT w
theorem is_noUnwraps (v : Value) (xT : TypeId) (w : World) : (Instr.typeAssert (.iface 63 v) xT 82 true).run Try.prog w = .ok (.tuple #[.nilIface, .bool false]) w := run_typeAssert_lacksB Try.underlying82 (by kernel_rfl) (by kernel_rfl) v xT w
set_option maxHeartbeats 4000000 in
set_option maxRecDepth 100000 in
theorem errors_Is.calls (a0 : Option Int) (a1 : Option Int) (r : Bool) (w : World) (h : errors_Is.f a0 a1 = some r) :
    Calls Try.prog 43 #[errW a0, errW a1] w fun e w' => e = .returned (.bool r) ∧ Drawn0 w w' := by
  unfold errors_Is.f at h
  cases a0 with
  | none =>
    cases a1 with
    | none => simp at h
    | some d =>
      obtain rfl : (none == some d) = r := by simpa using h
      rw [errW_none, errW_some]
      have hn := run_eql_iface_nil_left (P := Try.prog) w 63 (.int .i64 d) Try.underlying44
      go_enter Try.func43, Try.ntmps43
      go_wp2
      go_ret
      exact ⟨rfl, Drawn0.refl _⟩
  | some c =>
    cases a1 with
    | none =>
      obtain rfl : (some c == none) = r := by simpa using h
      rw [errW_none, errW_some]
      go_enter Try.func43, Try.ntmps43
      go_wp2
      go_ret
      exact ⟨rfl, Drawn0.refl _⟩
    | some d =>
      obtain rfl : (some c == some d) = r := by simpa using h
      rw [errW_some, errW_some]
      have tT := is_typeof
      have cT := is_comparable
      have mR := is_method
      have nE := is_noIs
      have uE := is_noUnwrap
      have vE := is_noUnwraps
      have heq := Go.Lib.run_eql_iface_int (P := Try.prog) (k := .i64) w c d Try.underlying44 is_comp Try.underlying63
      have hcd : ((some c == some d) = (c == d)) := by simp
      go_enter Try.func43, Try.ntmps43
      go_wp2
      refine wp_loop_rounds 1 ?_
      rw [rounds_succ]
      by_cases hc : c = d
      · subst hc
        have hb : (c == c) = true := beq_iff_eq.mpr rfl
        rw [hb] at heq hcd
        go_wp2
        go_ret
        exact ⟨by rw [hcd]; rfl, Drawn0.refl _⟩
      · have hb : (c == d) = false := beq_eq_false_iff_ne.mpr hc
        rw [hb] at heq hcd
        go_wp2
        go_ret
        exact ⟨by rw [hcd]; rfl, Drawn0.refl _⟩

/-! ### record_torn: function 41 -/
def record_torn.f (a0 : Option Int) : Option (Option Int) := (errors_Is.f a0 (some 12)).bind fun t161 => (if t161 = true then (some (some 12)) else (some (some 11)))
set_option maxHeartbeats 8000000 in
set_option maxRecDepth 100000 in
theorem record_torn.calls (a0 : Option Int) (r : Option Int) (w : World) (h : record_torn.f a0 = some r) :
    Calls Try.prog 41 #[errW a0] w fun e w' => e = .returned (errW r) ∧ Drawn0 w w' := by
  have hu44 := Try.underlying44
  have hu63 := Try.underlying63
  have H : ((errors_Is.f a0 (some 12)).bind fun t161 => (if t161 = true then (some (some 12)) else (some (some 11)))) = some r := h
  clear h
  replace H := Option.bind_eq_some_iff.mp H
  obtain ⟨t161, A20, H⟩ := H
  replace H : (if t161 = true then (some (some 12)) else (some (some 11))) = some r := H
  have A2 := Aside0.mk A20
  clear A20
  by_cases c3 : t161 = true
  · subst c3
    have H1 : (some (some 12)) = some r := by rw [if_pos rfl] at H; exact H
    clear H
    have H := H1
    clear H1
    obtain rfl := Option.some.inj H
    have CA2 := fun W => errors_Is.calls a0 (some 12) true W A2.out
    try simp only [errW_none, errW_some] at CA2
    go_enter Try.func41, Try.ntmps41
    go_wp2_with (first | (go_at_call 43; (with_reducible refine (CA2 _).mono ?_); rintro e w' ⟨rfl, ⟨nd, rfl⟩⟩))
    go_ret
    exact ⟨by first | rfl | (simp; done) | (simp [*]; done), by repeat (first | exact Drawn0.refl _ | apply Drawn0.step)⟩
  · replace c3 := Bool.eq_false_iff.mpr c3
    subst c3
    have H1 : (some (some 11)) = some r := by rw [if_neg (show ¬ (false = true) by decide)] at H; exact H
    clear H
    have H := H1
    clear H1
    obtain rfl := Option.some.inj H
    have CA2 := fun W => errors_Is.calls a0 (some 12) false W A2.out
    try simp only [errW_none, errW_some] at CA2
    go_enter Try.func41, Try.ntmps41
    go_wp2_with (first | (go_at_call 43; (with_reducible refine (CA2 _).mono ?_); rintro e w' ⟨rfl, ⟨nd, rfl⟩⟩))
    go_ret
    exact ⟨by first | rfl | (simp; done) | (simp [*]; done), by repeat (first | exact Drawn0.refl _ | apply Drawn0.step)⟩

/-! ### bytes_Clone: function 42 (by hand) -/
def bytes_Clone.f (l0 : List Int) : Option (List Int) := if l0.length < 140737488355328 then some l0 else none
set_option maxHeartbeats 8000000 in
set_option maxRecDepth 100000 in
theorem bytes_Clone.calls (A0 : Option Addr) (c0 : Nat) (l0 : List Int) (r : List Int) (w : World) (hr0 : Kd.C (Kd.int .u8) w A0 l0.length l0) (hc0 : l0.length ≤ c0) (h : bytes_Clone.f l0 = some r) :
    Calls Try.prog 42 #[.slice A0 l0.length c0] w fun e w' => ∃ v0_ : Value, e = .returned (v0_) ∧ Kd.R (Kd.int .u8) 5 w' w.heap.size (fun _ => True) v0_ r ∧ Below w.heap.size w w' := by
  unfold bytes_Clone.f at h
  by_cases hlen : l0.length < 140737488355328
  case neg => rw [if_neg hlen] at h; cases h
  rw [if_pos hlen] at h
  have hr : l0 = r := Option.some.inj h
  subst hr
  clear h
  have HR0 := Aside0.mk hr0
  have LM := Aside0.mk hlen
  have hq0 : ∀ (d : Nat) (A : Option Addr) (n c : Nat) (w : World), (Op.equalIn (d + 1) 23 (.slice A n c) (.slice none 0 0)).run Try.prog w = .ok A.isNone w := fun d A n c w => by cases A <;> simp [Op.equalIn, run_underlying Try.underlying23]
  have hqe : ∀ (A : Option Addr) (n c : Nat) (w : World), (Op.equal 23 (.slice A n c) (.slice none 0 0)).run Try.prog w = .ok A.isNone w := hq0 9999
  have hq : ∀ (A : Option Addr) (n c : Nat) (w : World), (binOp .eql 23 (.slice A n c) (.slice none 0 0)).run Try.prog w = .ok (.bool A.isNone) w := fun A n c w => by simp [binOp, hqe A n c w]
  clear hq0 hqe
  cases A0 with
  | none =>
    have h0 : l0.length = 0 := by
      rcases Nat.eq_zero_or_pos l0.length with h | h
      · exact h
      · obtain ⟨ad, e, _⟩ := Kd.at_int hr0 0 (by omega) (by omega)
        cases e
    obtain rfl := List.eq_nil_of_length_eq_zero h0
    clear hr0 hlen hc0
    have hq1 := hq none ([] : List Int).length c0
    rw [show (none : Option Addr).isNone = true from rfl] at hq1
    go_enter Try.func42, Try.ntmps42
    go_wp2
    go_ret
    exact ⟨_, rfl, Kd.R_nil _ _ _ _ _, Below.refl _ _⟩
  | some a =>
    clear hr0 hlen hc0
    have ho0 : (Kd.int .u8).R 5 (w.alloc (.cells #[] 5)) w.heap.size (fun _ => True) (.slice (some ⟨w.heap.size, 0, none⟩) 0 0) ([] : List Int) := by
      refine ⟨fun _ _ => trivial, [], ?_, ⟨by simp, fun j p hj => by simp at hj⟩⟩
      have h2 := World.ownsRow_lit (base := w.heap.size) (e := 5) (size := (Kd.int .u8).sz) w #[] 0 (Nat.le_refl _) (by simp [maxLen]) (by simp)
      simpa using h2
    have HO := Aside0.mk ho0
    have HB := Aside0.mk (below_alloc (Below.refl w.heap.size w) (.cells #[] 5))
    clear ho0
    have hq1 := hq (some a) l0.length c0
    rw [show (some a : Option Addr).isNone = false from rfl] at hq1
    go_enter Try.func42, Try.ntmps42
    go_wp2_with ((with_reducible refine gate_builtin (b := .append) (xs := #[.tmp 5, .tmp 6]) rfl ?_); at_builtin; refine Kd.R_append_rows (Kd.int .u8) (w0 := w) w.heap.size rfl (.tmp 5) (.tmp 6) 23 5 (.int .u8 0) 1 rfl Try.underlying23 info5 rfl (by decide) (by omega) _ ([] : List Int) l0 _ _ _ (fun _ => True) (fun _ => False) rfl rfl HO.out (Kd.C_below HR0.out HB.out) (fun _ _ h => h) (fun _ h => h.elim) (fun _ _ => trivial) HB.out (below_size HB.out) (by have := LM.out; simp; omega) ?_; intro v2 w2 ho hb hg hat; rw [List.nil_append] at ho; have n0_ := Aside0.mk hb; have n1_ := Aside0.mk ho; clear HB HO; have HB := n0_; have HO := n1_; clear n0_ n1_; clear ho hb hg hat)
    go_ret
    exact ⟨_, rfl, HO.out, HB.out⟩

end Go.Proofs.Ytindggjkcnelcaa.XAll
