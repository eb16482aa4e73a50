/- Printed by this session's program (wip/print) out of the translation, for the statement named in the file's name. -/
import Derived.Test.YtindggjkcnelcaaXAllx0
import Derived.Test.YtindggjkcnelcaaXAllx3
namespace Go.Proofs.Ytindggjkcnelcaa.XAll
open Go.RowKit Go.Proofs.YtindggjkcnelcaaW.PrintWords Go.Proofs.YtindggjkcnelcaaW.PrintLast Go.Proofs.YtindggjkcnelcaaW.PrintMore
attribute [local go_sem] max2_int min2_int max_two min_two max_three min_three max_four min_four   -- for this text's walks alone
set_option linter.unusedVariables false
set_option linter.unusedSimpArgs false

/-! ### pack_Text: function 29 -/
def pack_Text.f (k : Nat) (l0 : List Int) (a1 : Int) : Option (ByteArray × Int × Option Int) := if a1 < 0 then (some ((⟨#[]⟩ : ByteArray), 0, some 1)) else ((pack_Uint.f k l0).bind fun bt205 => (if bt205.2.2.isNone = true then (if bt205.1 > (IntKind.u64.wrap (a1)) then (some ((⟨#[]⟩ : ByteArray), 0, some 2)) else (if bt205.1 > (IntKind.u64.wrap (wrap64 ((l0.length : Int) - bt205.2.1))) then (some ((⟨#[]⟩ : ByteArray), 0, some 12)) else (if 0 ≤ bt205.2.1 then (if bt205.2.1 ≤ (wrap64 (bt205.2.1 + (wrap64 (bt205.1)))) then (if (wrap64 (bt205.2.1 + (wrap64 (bt205.1)))) ≤ (l0.length : Int) then (some (strOfNums ((l0.take ((wrap64 (bt205.2.1 + (wrap64 (bt205.1)))) : Int).toNat).drop (bt205.2.1 : Int).toNat), wrap64 (bt205.2.1 + (wrap64 (bt205.1))), none)) else (none)) else (none)) else (none)))) else (some ((⟨#[]⟩ : ByteArray), 0, some (bt205.2.2.getD 0)))))
theorem pack_Text.mono : ∀ a0 a1 k, LeO (pack_Text.f k a0 a1) (pack_Text.f (k + 1) a0 a1) := by
  intro a0 a1 k
  unfold pack_Text.f
  repeat' first
      | (with_reducible exact pack_Uint.mono _ _)
      | (with_reducible exact LeO.refl _)
      | (with_reducible exact LeO.none _)
      | (with_reducible refine LeO.ite ?_ ?_)
      | (with_reducible refine LeO.bind ?_ (fun _ => ?_))
      | exact pack_Uint.mono _ _
      | exact LeO.none _
      | refine LeO.ite ?_ ?_
      | refine LeO.bind ?_ (fun _ => ?_)
set_option maxHeartbeats 8000000 in
set_option maxRecDepth 100000 in
theorem pack_Text.calls (k : Nat) (A0 : Option Addr) (c0 : Nat) (l0 : List Int) (a1 : Int) (r1 : ByteArray) (r2 : Int) (r3 : Option Int) (w : World) (hr0 : Kd.C (Kd.int .u8) w A0 l0.length l0) (hc0 : l0.length ≤ c0) (h : pack_Text.f k l0 a1 = some (r1, r2, r3)) :
    Calls Try.prog 29 #[.slice A0 l0.length c0, .int .i64 a1] w fun e w' => e = .returned (.tuple #[.string r1, .int .i64 r2, errW r3]) ∧ Drawn0 w w' := by
  have hu44 := Try.underlying44
  have hu63 := Try.underlying63
  have HR0 := Aside0.mk hr0
  have HC0 := Aside0.mk hc0
  clear hr0 hc0
  have H : (if a1 < 0 then (some ((⟨#[]⟩ : ByteArray), 0, some 1)) else ((pack_Uint.f k l0).bind fun bt205 => (if bt205.2.2.isNone = true then (if bt205.1 > (IntKind.u64.wrap (a1)) then (some ((⟨#[]⟩ : ByteArray), 0, some 2)) else (if bt205.1 > (IntKind.u64.wrap (wrap64 ((l0.length : Int) - bt205.2.1))) then (some ((⟨#[]⟩ : ByteArray), 0, some 12)) else (if 0 ≤ bt205.2.1 then (if bt205.2.1 ≤ (wrap64 (bt205.2.1 + (wrap64 (bt205.1)))) then (if (wrap64 (bt205.2.1 + (wrap64 (bt205.1)))) ≤ (l0.length : Int) then (some (strOfNums ((l0.take ((wrap64 (bt205.2.1 + (wrap64 (bt205.1)))) : Int).toNat).drop (bt205.2.1 : Int).toNat), wrap64 (bt205.2.1 + (wrap64 (bt205.1))), none)) else (none)) else (none)) else (none)))) else (some ((⟨#[]⟩ : ByteArray), 0, some (bt205.2.2.getD 0)))))) = some (r1, r2, r3) := h
  clear h
  by_cases c3 : a1 < 0
  · rw [if_pos c3] at H
    have c3b0 : decide (a1 < 0) = true := decide_eq_true c3
    clear c3
    simp only [Option.some.injEq, Prod.mk.injEq] at H
    obtain ⟨rfl, rfl, rfl⟩ := H
    go_enter Try.func29, Try.ntmps29
    go_wp2
    go_ret3
    exact ⟨by first | rfl | (simp; done) | (simp [*]; done), by repeat (first | exact Drawn0.refl _ | apply Drawn0.step)⟩
  · rw [if_neg c3] at H
    have c3b0 : decide (a1 < 0) = false := decide_eq_false c3
    clear c3
    replace H := Option.bind_eq_some_iff.mp H
    obtain ⟨⟨t205, t206, t207⟩, A40, H⟩ := H
    replace H : (if t207.isNone = true then (if t205 > (IntKind.u64.wrap (a1)) then (some ((⟨#[]⟩ : ByteArray), 0, some 2)) else (if t205 > (IntKind.u64.wrap (wrap64 ((l0.length : Int) - t206))) then (some ((⟨#[]⟩ : ByteArray), 0, some 12)) else (if 0 ≤ t206 then (if t206 ≤ (wrap64 (t206 + (wrap64 (t205)))) then (if (wrap64 (t206 + (wrap64 (t205)))) ≤ (l0.length : Int) then (some (strOfNums ((l0.take ((wrap64 (t206 + (wrap64 (t205)))) : Int).toNat).drop (t206 : Int).toNat), wrap64 (t206 + (wrap64 (t205))), none)) else (none)) else (none)) else (none)))) else (some ((⟨#[]⟩ : ByteArray), 0, some (t207.getD 0)))) = some (r1, r2, r3) := H
    have A4 := Aside0.mk A40
    clear A40
    rcases t207 with _ | q208
    · have H1 : (if t205 > (IntKind.u64.wrap (a1)) then (some ((⟨#[]⟩ : ByteArray), 0, some 2)) else (if t205 > (IntKind.u64.wrap (wrap64 ((l0.length : Int) - t206))) then (some ((⟨#[]⟩ : ByteArray), 0, some 12)) else (if 0 ≤ t206 then (if t206 ≤ (wrap64 (t206 + (wrap64 (t205)))) then (if (wrap64 (t206 + (wrap64 (t205)))) ≤ (l0.length : Int) then (some (strOfNums ((l0.take ((wrap64 (t206 + (wrap64 (t205)))) : Int).toNat).drop (t206 : Int).toNat), wrap64 (t206 + (wrap64 (t205))), none)) else (none)) else (none)) else (none)))) = some (r1, r2, r3) := by rw [if_pos (show (none : Option Int).isNone = true by rfl)] at H; exact H
      clear H
      have H := H1
      clear H1
      try simp only [errW_none, errW_some]
      by_cases c5 : t205 > (IntKind.u64.wrap (a1))
      · rw [if_pos c5] at H
        have c5b0 : decide ((IntKind.u64.wrap (a1)) < t205) = true := decide_eq_true c5
        clear c5
        simp only [Option.some.injEq, Prod.mk.injEq] at H
        obtain ⟨rfl, rfl, rfl⟩ := H
        go_enter Try.func29, Try.ntmps29
        go_wp2_with (first | ((with_reducible refine gate_callee (f := 30) rfl ?_); refine goesL_ (some 15) rfl rfl Try.func30 (by kernel_rfl) rfl #[.slice A0 l0.length c0] rfl (by (try simp only [List.map_toArray, List.map_cons, List.map_nil]); first | done | rfl | (simp only [List.length_drop, List.length_take]; rfl)) ?_; (with_reducible refine (pack_Uint.calls k _ _ l0 t205 t206 none _ ?side1 ?side2 A4.out).mono ?_); (case side1 => repeat (first | exact HR0.out | (with_reducible refine Kd.C_alloc ?_ _) | (with_reducible refine Kd.C_drewN ?_ _) | (with_reducible refine Kd.C_drew ?_))); (case side2 => exact HC0.out); rintro e w' ⟨rfl, ⟨nd, rfl⟩⟩; refine ⟨_, rfl, ?_⟩; (try simp only [errW_none, errW_some])))
        go_ret3
        exact ⟨by first | rfl | (simp; done) | (simp [*]; done), by repeat (first | exact Drawn0.refl _ | apply Drawn0.step)⟩
      · rw [if_neg c5] at H
        have c5b0 : decide ((IntKind.u64.wrap (a1)) < t205) = false := decide_eq_false c5
        clear c5
        by_cases c6 : t205 > (IntKind.u64.wrap (wrap64 ((l0.length : Int) - t206)))
        · rw [if_pos c6] at H
          have c6b0 : decide ((IntKind.u64.wrap (wrap64 ((l0.length : Int) - t206))) < t205) = true := decide_eq_true c6
          clear c6
          simp only [Option.some.injEq, Prod.mk.injEq] at H
          obtain ⟨rfl, rfl, rfl⟩ := H
          go_enter Try.func29, Try.ntmps29
          go_wp2_with (first | ((with_reducible refine gate_callee (f := 30) rfl ?_); refine goesL_ (some 15) rfl rfl Try.func30 (by kernel_rfl) rfl #[.slice A0 l0.length c0] rfl (by (try simp only [List.map_toArray, List.map_cons, List.map_nil]); first | done | rfl | (simp only [List.length_drop, List.length_take]; rfl)) ?_; (with_reducible refine (pack_Uint.calls k _ _ l0 t205 t206 none _ ?side1 ?side2 A4.out).mono ?_); (case side1 => repeat (first | exact HR0.out | (with_reducible refine Kd.C_alloc ?_ _) | (with_reducible refine Kd.C_drewN ?_ _) | (with_reducible refine Kd.C_drew ?_))); (case side2 => exact HC0.out); rintro e w' ⟨rfl, ⟨nd, rfl⟩⟩; refine ⟨_, rfl, ?_⟩; (try simp only [errW_none, errW_some])))
          go_ret3
          exact ⟨by first | rfl | (simp; done) | (simp [*]; done), by repeat (first | exact Drawn0.refl _ | apply Drawn0.step)⟩
        · rw [if_neg c6] at H
          have c6b0 : decide ((IntKind.u64.wrap (wrap64 ((l0.length : Int) - t206))) < t205) = false := decide_eq_false c6
          clear c6
          by_cases c7 : 0 ≤ t206
          · rw [if_pos c7] at H
            have c7b0 := eq_true c7
            have c7b1 : decide (0 ≤ t206) = true := decide_eq_true c7
            clear c7
            by_cases c8 : t206 ≤ (wrap64 (t206 + (wrap64 (t205))))
            · rw [if_pos c8] at H
              have c8b0 := eq_true c8
              have c8b1 : decide (t206 ≤ (wrap64 (t206 + (wrap64 (t205))))) = true := decide_eq_true c8
              by_cases c9 : (wrap64 (t206 + (wrap64 (t205)))) ≤ (l0.length : Int)
              · rw [if_pos c9] at H
                have c9b0 := eq_true c9
                have c9b1 : decide ((wrap64 (t206 + (wrap64 (t205)))) ≤ (l0.length : Int)) = true := decide_eq_true c9
                simp only [Option.some.injEq, Prod.mk.injEq] at H
                obtain ⟨rfl, rfl, rfl⟩ := H
                go_enter Try.func29, Try.ntmps29
                go_wp2_with (first | ((with_reducible refine gate_callee (f := 30) rfl ?_); refine goesL_ (some 15) rfl rfl Try.func30 (by kernel_rfl) rfl #[.slice A0 l0.length c0] rfl (by (try simp only [List.map_toArray, List.map_cons, List.map_nil]); first | done | rfl | (simp only [List.length_drop, List.length_take]; rfl)) ?_; (with_reducible refine (pack_Uint.calls k _ _ l0 t205 t206 none _ ?side1 ?side2 A4.out).mono ?_); (case side1 => repeat (first | exact HR0.out | (with_reducible refine Kd.C_alloc ?_ _) | (with_reducible refine Kd.C_drewN ?_ _) | (with_reducible refine Kd.C_drew ?_))); (case side2 => exact HC0.out); rintro e w' ⟨rfl, ⟨nd, rfl⟩⟩; refine ⟨_, rfl, ?_⟩; (try simp only [errW_none, errW_some]); obtain ⟨i010, hi010, _, hsz10, _⟩ := info_parts info5; obtain ⟨A10, hcut10, hA10, hC10⟩ := print_mid_of (P := Try.prog) (Value.int .u8) 0 23 5 .i64 .i64 Try.underlying23 hi010 hsz10 A0 c0 l0 t206 (wrap64 (t206 + (wrap64 (t205)))) (of_decide_eq_true (by first | (with_reducible assumption) | assumption)) (by first | omega | exact of_decide_eq_true (by first | (with_reducible assumption) | assumption)) (of_decide_eq_true (by first | (with_reducible assumption) | assumption)) HC0.out; have HR209 := Aside0.mk (Kd.C_of_reads (h1 := fun _ => rfl) (hA10 _ (Kd.reads_of_C HR0.out))); have HC209 := Aside0.mk hC10; clear hA10 hC10 hi010 hsz10; have hcv11 := Kd.C_string (P := Try.prog) (A := A10) (c := (c0 - t206.toNat)) Try.underlying23 Try.underlying5 Try.underlying9 HR209.out; have hcd11 := fun n_ : Nat => Kd.C_string (P := Try.prog) (A := A10) (c := (c0 - t206.toNat)) Try.underlying23 Try.underlying5 Try.underlying9 (Kd.C_drewN HR209.out n_); (try have hcw11 := hcv11); (try rw [show (((l0.take ((wrap64 (t206 + (wrap64 (t205)))) : Int).toNat).drop (t206 : Int).toNat).length : Nat) = ((wrap64 (t206 + (wrap64 (t205)))).toNat - t206.toNat) from (by rw [List.length_drop, List.length_take]; have h_ : ((wrap64 (t206 + (wrap64 (t205)))) : Int) ≤ (l0.length : Int) := of_decide_eq_true (by first | (with_reducible assumption) | assumption); omega)] at hcw11); (try have hcx11 := hcd11); (try rw [show (((l0.take ((wrap64 (t206 + (wrap64 (t205)))) : Int).toNat).drop (t206 : Int).toNat).length : Nat) = ((wrap64 (t206 + (wrap64 (t205)))).toNat - t206.toNat) from (by rw [List.length_drop, List.length_take]; have h_ : ((wrap64 (t206 + (wrap64 (t205)))) : Int) ≤ (l0.length : Int) := of_decide_eq_true (by first | (with_reducible assumption) | assumption); omega)] at hcx11)))
                go_ret3
                exact ⟨by first | rfl | (simp; done) | (simp [*]; done), by repeat (first | exact Drawn0.refl _ | apply Drawn0.step)⟩
              · rw [if_neg c9] at H
                exact absurd H (by simp)
            · rw [if_neg c8] at H
              exact absurd H (by simp)
          · rw [if_neg c7] at H
            exact absurd H (by simp)
    · have H1 : (some ((⟨#[]⟩ : ByteArray), 0, some q208)) = some (r1, r2, r3) := by rw [if_neg (show ¬ (some q208).isNone = true by simp)] at H; exact H
      clear H
      have H := H1
      clear H1
      try simp only [errW_none, errW_some]
      simp only [Option.some.injEq, Prod.mk.injEq] at H
      obtain ⟨rfl, rfl, rfl⟩ := H
      go_enter Try.func29, Try.ntmps29
      go_wp2_with (first | ((with_reducible refine gate_callee (f := 30) rfl ?_); refine goesL_ (some 15) rfl rfl Try.func30 (by kernel_rfl) rfl #[.slice A0 l0.length c0] rfl (by (try simp only [List.map_toArray, List.map_cons, List.map_nil]); first | done | rfl | (simp only [List.length_drop, List.length_take]; rfl)) ?_; (with_reducible refine (pack_Uint.calls k _ _ l0 t205 t206 (some q208) _ ?side1 ?side2 A4.out).mono ?_); (case side1 => repeat (first | exact HR0.out | (with_reducible refine Kd.C_alloc ?_ _) | (with_reducible refine Kd.C_drewN ?_ _) | (with_reducible refine Kd.C_drew ?_))); (case side2 => exact HC0.out); rintro e w' ⟨rfl, ⟨nd, rfl⟩⟩; refine ⟨_, rfl, ?_⟩; (try simp only [errW_none, errW_some])))
      go_ret3
      exact ⟨by first | rfl | (simp; done) | (simp [*]; done), by repeat (first | exact Drawn0.refl _ | apply Drawn0.step)⟩

end Go.Proofs.Ytindggjkcnelcaa.XAll
