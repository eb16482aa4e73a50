/- The device: Arm, Crashed, Size; what a device that is none answers. -/
import Derived.Test.YtnfnnfbcafepkaaDoorDkS
namespace Go.Proofs.YtnfnnfbcafepkaaDoor.Dk
open Go Go.RowKit Go.Proofs.YtnfnnfbcafepkaaDoorW.PrintLast
set_option linter.unusedVariables false
set_option linter.unusedSimpArgs false
set_option maxRecDepth 100000
def armSt (d : DSt) (n : Int) : DSt := { d with armed := true, left := n }
set_option maxHeartbeats 4000000 in
theorem arm_c (g ms mp : Nat) (d : DSt) (n : Int) (w : World) (h : DiskC w g ms mp d) (hn : 0 ≤ n) (hn2 : n ≤ 9223372036854775807) :
    Calls Tryd.prog 7 #[.pointer (some ⟨g, 0, none⟩), .int .i64 n] w fun e w' => e = .returned .nilIface ∧ DiskC w' g ms mp (armSt d n) ∧ Frm (own g ms mp) w w' := by
  obtain ⟨h0, h1, h2, h3, h4, h5, h6⟩ := h.cells
  have up := Tryd.underlying22
  have z5 := h.frozen 5
  have z6 := h.frozen 6
  have e1 : decide (n < 0) = false := decide_eq_false (by omega)
  have HD5 := Asd.mk (DiskC.set (d' := { d with armed := true }) h 5 (.bool true) rfl rfl rfl rfl h.left (by rfl))
  have HF5 := Asd.mk ((Frm.refl (own g ms mp) w).set ⟨g, 5, none⟩ (.bool true) (.inl (.inl rfl)))
  clear h
  go_enter Tryd.func7, Tryd.ntmps7
  go_wp2
  go_ret
  exact ⟨rfl, DiskC.set (d' := armSt d n) HD5.out 6 (.int .i64 n) rfl rfl rfl rfl ⟨by show _ ≤ n; omega, hn2⟩ (by rfl), HF5.out.set ⟨g, 6, none⟩ _ (.inl (.inl rfl))⟩
set_option maxHeartbeats 4000000 in
theorem arm_bad (g ms mp : Nat) (d : DSt) (n : Int) (w : World) (h : DiskC w g ms mp d) (hn : n < 0) :
    Calls Tryd.prog 7 #[.pointer (some ⟨g, 0, none⟩), .int .i64 n] w fun e w' => e = .returned (.iface 62 (.int .i64 1)) ∧ w' = w := by
  have up := Tryd.underlying22
  have e1 : decide (n < 0) = true := decide_eq_true (by omega)
  clear h
  go_enter Tryd.func7, Tryd.ntmps7
  go_wp2
  go_ret
  exact ⟨rfl, rfl⟩
set_option maxHeartbeats 4000000 in
theorem arm_nil (n : Int) (w : World) :
    Calls Tryd.prog 7 #[.pointer none, .int .i64 n] w fun e w' => e = .returned (.iface 62 (.int .i64 1)) ∧ w' = w := by
  have up := Tryd.underlying22
  go_enter Tryd.func7, Tryd.ntmps7
  go_wp2
  go_ret
  exact ⟨rfl, rfl⟩
set_option maxHeartbeats 4000000 in
theorem crashed_c (g ms mp : Nat) (d : DSt) (w : World) (h : DiskC w g ms mp d) :
    Calls Tryd.prog 9 #[.pointer (some ⟨g, 0, none⟩)] w fun e w' => e = .returned (.bool d.crashed) ∧ w' = w := by
  obtain ⟨h0, h1, h2, h3, h4, h5, h6⟩ := h.cells
  have up := Tryd.underlying22
  clear h
  go_enter Tryd.func9, Tryd.ntmps9
  go_wp2
  go_ret
  exact ⟨rfl, rfl⟩
set_option maxHeartbeats 4000000 in
theorem crashed_nil (w : World) :
    Calls Tryd.prog 9 #[.pointer none] w fun e w' => e = .returned (.bool false) ∧ w' = w := by
  have up := Tryd.underlying22
  go_enter Tryd.func9, Tryd.ntmps9
  go_wp2
  go_ret
  exact ⟨rfl, rfl⟩
set_option maxHeartbeats 4000000 in
theorem has_nil (r s : Int) (w : World) : Calls Tryd.prog 24 #[.pointer none, .int .i64 r, .int .i64 s] w fun e w' => e = .returned (.bool false) ∧ w' = w := by
  have up := Tryd.underlying22
  go_enter Tryd.func24, Tryd.ntmps24
  go_wp2
  go_ret
  exact ⟨rfl, rfl⟩
set_option maxHeartbeats 4000000 in
theorem write_nil (r s : Int) (A : Option Addr) (n c : Nat) (w : World) :
    Calls Tryd.prog 8 #[.pointer none, .int .i64 r, .int .i64 s, .slice A n c] w fun e w' => e = .returned (.iface 62 (.int .i64 1)) ∧ w' = w := by
  go_enter Tryd.func8, Tryd.ntmps8
  go_wp2_with (go_at_call 24; refine (has_nil r s w).mono ?_; rintro e w2 ⟨rfl, rfl⟩)
  go_ret
  exact ⟨rfl, rfl⟩
set_option maxHeartbeats 4000000 in
theorem read_nil (r s : Int) (w : World) :
    Calls Tryd.prog 11 #[.pointer none, .int .i64 r, .int .i64 s] w fun e w' => e = .returned (.tuple #[.slice none 0 0, .iface 62 (.int .i64 1)]) ∧ w' = w := by
  go_enter Tryd.func11, Tryd.ntmps11
  go_wp2_with (go_at_call 24; refine (has_nil r s w).mono ?_; rintro e w2 ⟨rfl, rfl⟩)
  go_ret2
  exact ⟨rfl, rfl⟩
set_option maxHeartbeats 4000000 in
theorem sync_nil (r : Int) (w : World) :
    Calls Tryd.prog 12 #[.pointer none, .int .i64 r] w fun e w' => e = .returned (.iface 62 (.int .i64 1)) ∧ w' = w := by
  go_enter Tryd.func12, Tryd.ntmps12
  go_wp2_with (go_at_call 24; refine (has_nil r 0 w).mono ?_; rintro e w2 ⟨rfl, rfl⟩)
  go_ret
  exact ⟨rfl, rfl⟩
set_option maxHeartbeats 4000000 in
theorem sync_bad (g ms mp : Nat) (d : DSt) (r : Int) (w : World) (h : DiskC w g ms mp d) (m : Int) (hm : readBad d r 0 = some m) :
    Calls Tryd.prog 12 #[.pointer (some ⟨g, 0, none⟩), .int .i64 r] w fun e w' => e = .returned (.iface 62 (.int .i64 m)) ∧ w' = w := by
  obtain ⟨_, _, _, _, h4, _, _⟩ := h.cells
  have HD := Asd.mk h
  clear h
  unfold readBad at hm
  cases hr : hasB d r 0 with
  | false =>
    rw [hr, if_pos rfl] at hm
    cases hm
    go_enter Tryd.func12, Tryd.ntmps12
    go_wp2_with (go_at_call 24; refine (has_c g ms mp d r 0 w HD.out).mono ?_; rintro e w2 ⟨rfl, rfl⟩; rw [hr])
    go_ret
    exact ⟨rfl, rfl⟩
  | true =>
    rw [hr, if_neg (by simp)] at hm
    cases hc : d.crashed with
    | false => rw [hc, if_neg (by simp)] at hm; cases hm
    | true =>
      rw [hc, if_pos rfl] at hm
      cases hm
      rw [hc] at h4
      go_enter Tryd.func12, Tryd.ntmps12
      go_wp2_with (go_at_call 24; refine (has_c g ms mp d r 0 w HD.out).mono ?_; rintro e w2 ⟨rfl, rfl⟩; rw [hr])
      go_ret
      exact ⟨rfl, rfl⟩
end Go.Proofs.YtnfnnfbcafepkaaDoor.Dk
