/- Printed by this session's program (wip/print) out of the translation, for the statement named in the file's name. -/
import Derived.Test.YtindggjkcnelcaaDoorXAllx0
import Derived.Test.YtindggjkcnelcaaDoorXAllx2
namespace Go.Proofs.YtindggjkcnelcaaDoor.XAll
open Go.RowKit Go.Proofs.YtindggjkcnelcaaDoorW.PrintWords Go.Proofs.YtindggjkcnelcaaDoorW.PrintLast Go.Proofs.YtindggjkcnelcaaDoorW.PrintMore Go.Proofs.YtindggjkcnelcaaDoor.As
attribute [local go_sem] max2_int min2_int max_two min_two max_three min_three max_four min_four   -- for this text's walks alone
set_option linter.unusedVariables false
set_option linter.unusedSimpArgs false

/-! ### crc_Update: function 31 (by hand) -/
def crcNot (x : Int) : Int := Go.bits .xor .u32 IntKind.u32.max x
def crcStep (x c : Int) : Int := Go.bits .xor .u32 (x / 256) (crcR (Go.bits .xor .u8 (x % 256) c))
def crc_Update.f (a0 : Int) (l1 : List Int) : Option (Int) := if (l1.length : Int) = 0 then some a0 else some (crcNot (l1.foldl crcStep (crcNot a0)))
set_option maxHeartbeats 4000000 in
set_option maxRecDepth 100000 in
theorem crc_Update.calls (a0 : Int) (A1 : Option Addr) (c1 : Nat) (l1 : List Int) (r : Int) (w : World) (hr1 : Kd.C (Kd.int .u8) w A1 l1.length l1) (hc1 : l1.length ≤ c1) (h : crc_Update.f a0 l1 = some r) :
    Calls Tryd.prog 31 #[.int .u32 a0, .slice A1 l1.length c1] w fun e w' => e = .returned (.int .u32 r) ∧ Below w.heap.size w w' := by
  have HR := Aside0.mk hr1
  have hmx : l1.length ≤ 9223372036854775807 := hr1.2.1
  clear hr1
  by_cases h0 : l1.length = 0
  · obtain rfl := List.eq_nil_of_length_eq_zero h0
    have hr : a0 = r := Option.some.inj h
    subst hr
    clear h HR
    go_enter Tryd.func31, Tryd.ntmps31
    go_wp2
    go_ret
    exact ⟨rfl, Below.refl _ _⟩
  · have hr : crcNot (l1.foldl crcStep (crcNot a0)) = r := by
      unfold crc_Update.f at h
      rw [if_neg (by omega)] at h
      exact Option.some.inj h
    clear h
    have HE := Aside0.mk hr
    clear hr
    have hz : ((l1.length : Int) == 0) = false := by rw [beq_eq_false_iff_ne]; omega
    have hal := zero_tab
    go_enter Tryd.func31, Tryd.ntmps31
    go_wp2_with (first | (go_at_call 39; refine (crc_table.calls _).mono ?_; rintro e w1 ⟨rfl, hb1⟩; have HB1 := Aside0.mk hb1; clear hb1) | (refine wpList_store_row rfl 71 (.tmp 5) (.tmp 13) rfl _ (tabCells 256) rfl rfl 71 (tabCells 0) (heap_alloc_new _ _) (by rw [tabCells_size]; exact info_tab) (by rw [tabCells_size, tabCells_size]) (tabCells_one 256) ?_; rw [World.setRow_alloc_new]))
    go_loop [6, 18] (fun x i => ∃ k : Nat, k ≤ l1.length ∧ i = .int .i64 k ∧ x = .int .u32 ((l1.take k).foldl crcStep (crcNot a0))) (fun _ i => l1.length - (intOf i).toNat)
    case atStart => exact ⟨0, Nat.zero_le _, rfl, rfl⟩
    case round =>
      obtain ⟨k, hk, rfl, rfl⟩ := hrel
      by_cases hlt : k < l1.length
      · obtain ⟨ad, e101, hx⟩ := Kd.at_int HR.out (k : Int) (by omega) (by omega)
        cases e101
        have hadb : ad.block < w.heap.size := World.block_lt_of_cell? w _ hx |> fun h => by simpa [add_block] using h
        obtain ⟨X, hX⟩ : ∃ X, X = (l1.take k).foldl crcStep (crcNot a0) := ⟨_, rfl⟩
        rw [← hX]
        have HX := Aside0.mk hX
        clear hX
        have hx2 : (w1.alloc (.cells (tabCells 256) 71)).cell? (ad.add k) = some (.int .u8 (rd l1 k)) := by
          rw [World.cell?_alloc_lt _ _ _ (by rw [add_block]; exact Nat.lt_of_lt_of_le hadb HB1.out.size), HB1.out.cell (by rw [add_block]; exact hadb)]
          simpa using hx
        clear hx
        have hbd := Go.bits_within .xor .u8 (X % 256) (rd l1 k)
        have hj0 : 0 ≤ Go.bits .xor .u8 (X % 256) (rd l1 k) := hbd.1
        have hj1 : Go.bits .xor .u8 (X % 256) (rd l1 k) < 256 := by have h := hbd.2; simp [IntKind.max, IntKind.signed, IntKind.bits] at h; omega
        clear hbd
        have htab : (w1.alloc (.cells (tabCells 256) 71)).cell? ⟨w1.heap.size, (Go.bits .xor .u8 (X % 256) (rd l1 k)).toNat, none⟩ = some (.int .u32 (crcR (Go.bits .xor .u8 (X % 256) (rd l1 k)))) := by
          rw [cell_of_row _ _ _ _ _ _ (heap_alloc_new w1 _), tabCells_get 256 _ (by omega), if_pos (by omega), Int.toNat_of_nonneg hj0]
        have hs32 : IntKind.u32.signed = false := rfl
        have hstep : (l1.take (k + 1)).foldl crcStep (crcNot a0) = crcStep X (rd l1 (k : Int)) := by
          rw [List.take_succ_eq_append_getElem hlt, List.foldl_append, ← HX.out]
          simp [rd, hlt]
        have HS := Aside0.mk hstep
        clear hstep
        go_wp2
        go_round
        case rel => exact ⟨k + 1, by omega, by go_num, by rw [HS.out]; rfl⟩
        case measure => simp [intOf]; omega
      · obtain rfl : k = l1.length := by omega
        have hs32 : IntKind.u32.signed = false := rfl
        go_wp2
        go_ret
        exact ⟨by rw [← HE.out]; rfl, HB1.out.alloc HB1.out.size _⟩

/-! ### crc_Sum: function 22 -/
def crc_Sum.f (l0 : List Int) : Option (Int) := (crc_Update.f 0 l0).bind fun t104 => (some t104)
set_option maxHeartbeats 8000000 in
set_option maxRecDepth 100000 in
theorem crc_Sum.calls (A0 : Option Addr) (c0 : Nat) (l0 : List Int) (r : Int) (w : World) (hr0 : Kd.C (Kd.int .u8) w A0 l0.length l0) (hc0 : l0.length ≤ c0) (h : crc_Sum.f l0 = some r) :
    Calls Tryd.prog 22 #[.slice A0 l0.length c0] w fun e w' => e = .returned (.int .u32 r) ∧ Below w.heap.size w w' := by
  have HR0 := Aside0.mk hr0
  have HC0 := Aside0.mk hc0
  clear hr0 hc0
  have HB := Aside0.mk (Below.refl w.heap.size w)
  have H : ((crc_Update.f 0 l0).bind fun t104 => (some t104)) = some r := h
  clear h
  replace H := Option.bind_eq_some_iff.mp H
  obtain ⟨t104, A20, H⟩ := H
  replace H : (some t104) = some r := H
  have A2 := Aside0.mk A20
  clear A20
  obtain rfl := Option.some.inj H
  go_enter Tryd.func22, Tryd.ntmps22
  go_wp2_with (first | ((with_reducible refine gate_callee (f := 31) rfl ?_); refine goesL_ (some 4) rfl rfl Tryd.func31 (by kernel_rfl) rfl #[.int .u32 0, .slice A0 l0.length c0] rfl (by (try simp only [List.map_toArray, List.map_cons, List.map_nil]); first | done | rfl | (simp only [List.length_drop, List.length_take]; rfl)) ?_; (with_reducible refine (crc_Update.calls 0 _ _ l0 t104 _ ?side1 ?side2 A2.out).mono ?_); (case side1 => repeat (first | exact HR0.out | (with_reducible refine Kd.C_alloc ?_ _) | (with_reducible refine Kd.C_drewN ?_ _) | (with_reducible refine Kd.C_drew ?_))); (case side2 => exact HC0.out); rintro e w3 ⟨rfl, hb⟩; refine ⟨_, rfl, ?_⟩; have n0_ := Aside0.mk (below_step (by repeat (first | (with_reducible first | exact HB.out | apply below_alloc | apply pw_below_drewN | apply below_drew1) | exact HB.out | exact below_undrew HB.out)) hb); clear HB; have HB := n0_; clear n0_; (try clear hb); (try clear hb2); (try clear hk); (try clear hi)))
  go_ret
  exact ⟨by first | rfl | (simp [errW_none, errW_some] <;> rfl) | (simp [*, errW_none, errW_some] <;> rfl), by repeat (first | (with_reducible first | exact HB.out | apply below_alloc | apply pw_below_drewN | apply below_drew1) | exact HB.out | exact below_undrew HB.out)⟩

end Go.Proofs.YtindggjkcnelcaaDoor.XAll
