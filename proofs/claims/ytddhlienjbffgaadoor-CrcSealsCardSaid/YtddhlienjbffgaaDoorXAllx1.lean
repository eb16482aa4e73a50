/- Printed by this session's program (wip/print) out of the translation, for the statement named in the file's name. -/
import Derived.Test.YtddhlienjbffgaaDoorXAllx0
namespace Go.Proofs.YtddhlienjbffgaaDoor.XAll
open Go.RowKit Go.Proofs.YtddhlienjbffgaaDoorW.PrintWords Go.Proofs.YtddhlienjbffgaaDoorW.PrintLast Go.Proofs.YtddhlienjbffgaaDoorW.PrintMore Go.Proofs.YtddhlienjbffgaaDoor.As
attribute [local go_sem] str_gtr str_leq str_geq max2_int min2_int max_two min_two max_three min_three max_four min_four   -- for this text's walks alone
set_option linter.unusedVariables false
set_option linter.unusedSimpArgs false
set_option linter.unnecessarySimpa false

/-! ### barbicanlaw04_twin: function 4 -/
def barbicanlaw04_twin.f (l0 : List Int) : Option (List Int) := if ([] : List Int).length + l0.length < 140737488355328 then (some (([] : List Int) ++ l0)) else (none)
set_option maxHeartbeats 8000000 in
set_option maxRecDepth 100000 in
theorem barbicanlaw04_twin.calls (A0 : Option Addr) (c0 : Nat) (l0 : List Int) (r : List Int) (w : World) (hr0 : Kd.C (Kd.int .u8) w A0 l0.length l0) (hc0 : l0.length ≤ c0) (h : barbicanlaw04_twin.f l0 = some r) :
    Calls Tryd.prog 4 #[.slice A0 l0.length c0] w fun e w' => ∃ v0_ : Value, e = .returned (v0_) ∧ Kd.R (Kd.int .u8) 5 w' w.heap.size (fun _ => True) v0_ r ∧ Below w.heap.size w w' := by
  have HR0 := Aside0.mk hr0
  have HC0 := Aside0.mk hc0
  clear hr0 hc0
  have HB := Aside0.mk (Below.refl w.heap.size w)
  have H : (if ([] : List Int).length + l0.length < 140737488355328 then (some (([] : List Int) ++ l0)) else (none)) = some r := h
  clear h
  by_cases c2 : ([] : List Int).length + l0.length < 140737488355328
  · rw [if_pos c2] at H
    have LMc2 := Aside0.mk c2
    clear c2
    obtain ⟨y101, hy101⟩ : ∃ y_ : List Int, y_ = (([] : List Int) ++ l0) := ⟨_, rfl⟩
    replace H : (some y101) = some r := by first | (rw [hy101]; with_reducible exact H) | (have H2_ := (Option.bind_some _ _).symm.trans H; rw [hy101]; with_reducible exact H2_) | (have H2_ := (Option.bind_some _ _).symm.trans H; with_reducible exact H2_) | with_reducible exact H | (rw [hy101]; exact H) | exact H
    have Ny101 := Aside0.mk hy101
    clear hy101
    obtain rfl := Option.some.inj H
    go_enter Tryd.func4, Tryd.ntmps4
    go_wp2_with (first | ((with_reducible refine gate_builtin (b := .append) (xs := #[.tmp 4, .tmp 5]) rfl ?_); at_builtin; refine Kd.R_append_rows (Kd.int .u8) (w0 := w) w.heap.size rfl (.tmp 4) (.tmp 5) 22 5 (.int .u8 0) 1 rfl Tryd.underlying22 info5 rfl (by decide) (by omega) (.slice none 0 0) ([] : List Int) l0 _ _ _ (fun _ => True) (fun _ => False) rfl rfl ?aO ?aR (fun _ _ h => h) (fun _ h => h.elim) ?aF ?aB ?aS ?aL ?_; (case aR => repeat (first | exact HR0.out | (with_reducible refine Kd.C_alloc ?_ _) | (with_reducible refine Kd.C_drewN ?_ _) | (with_reducible refine Kd.C_drew ?_))); (case aB => exact (by repeat (first | (with_reducible first | exact HB.out | apply below_alloc | apply pw_below_drewN | apply below_drew1) | exact HB.out | exact below_undrew HB.out))); (case aF => exact (fun _ _ => trivial)); (case aO => exact ((Kd.R_nil _ _ _ _ (fun _ => True)))); (case aS => exact (below_size (by repeat (first | (with_reducible first | exact HB.out | apply below_alloc | apply pw_below_drewN | apply below_drew1) | exact HB.out | exact below_undrew HB.out)))); (case aL => have := LMc2.out; omega); intro v102 w3 ho hb hg hat; rw [← Ny101.out] at ho; have n0_ := Aside0.mk (hb); have n1_ := Aside0.mk (ho); clear HB; have HB := n0_; have HO103 := n1_; clear n0_ n1_; clear ho hb hg hat))
    go_ret
    exact ⟨_, by first | rfl | (simp [errW_none, errW_some] <;> rfl) | (simp [*, errW_none, errW_some] <;> rfl), by (with_reducible repeat (first | apply Kd.R_alloc | apply Kd.R_drewN | apply Kd.R_drew)); exact HO103.out, by repeat (first | (with_reducible first | exact HB.out | apply below_alloc | apply pw_below_drewN | apply below_drew1) | exact HB.out | exact below_undrew HB.out)⟩
  · rw [if_neg c2] at H
    exact absurd H (by simp)

/-! ### crc_Remainder: function 25 -/
def crc_Remainder.l0 : Nat → Int → Int → Option (Int)
  | 0, _, _ => none
  | k + 1, x3, x6 => if x6 < 8 then (crc_Remainder.l0 k (Go.bits .xor .u32 (x3 / 2) (Go.bits .and .u32 3988292384 ((-(Go.bits .and .u32 x3 1)) % 4294967296))) (wrap64 (x6 + 1))) else (some x3)
def crc_Remainder.f (k : Nat) (a0 : Int) : Option (Int) := crc_Remainder.l0 k ((a0) % 4294967296) 0
theorem crc_Remainder.mono_l : ∀ k, (∀ y0 y1, LeO (crc_Remainder.l0 k y0 y1) (crc_Remainder.l0 (k + 1) y0 y1))
  | 0 => fun _ _ r h => by simp [crc_Remainder.l0] at h
  | k + 1 => by
    have ih0 := crc_Remainder.mono_l k
    · intro y0 y1
      unfold crc_Remainder.l0
      repeat' first
      | (with_reducible exact ih0 _ _)
      | (with_reducible exact LeO.refl _)
      | (with_reducible exact LeO.none _)
      | (with_reducible refine LeO.ite ?_ ?_)
      | (with_reducible refine LeO.bind ?_ (fun _ => ?_))
      | exact ih0 _ _
      | exact LeO.none _
      | refine LeO.ite ?_ ?_
      | refine LeO.bind ?_ (fun _ => ?_)
theorem crc_Remainder.mono : ∀ a0 k, LeO (crc_Remainder.f k a0) (crc_Remainder.f (k + 1) a0) := by
  intro a0 k
  have ih0 := crc_Remainder.mono_l k
  unfold crc_Remainder.f
  repeat' first
      | (with_reducible exact ih0 _ _)
      | (with_reducible exact LeO.refl _)
      | (with_reducible exact LeO.none _)
      | (with_reducible refine LeO.ite ?_ ?_)
      | (with_reducible refine LeO.bind ?_ (fun _ => ?_))
      | exact ih0 _ _
      | exact LeO.none _
      | refine LeO.ite ?_ ?_
      | refine LeO.bind ?_ (fun _ => ?_)
set_option maxHeartbeats 8000000 in
set_option maxRecDepth 100000 in
theorem crc_Remainder.calls (k : Nat) (a0 : Int) (r : Int) (w : World) (h : crc_Remainder.f k a0 = some r) :
    Calls Tryd.prog 25 #[.int .u8 a0] w fun e w' => e = .returned (.int .u32 r) ∧ Drawn0 w w' := by
  have H : (crc_Remainder.l0 k ((a0) % 4294967296) 0) = some r := h
  clear h
  have H' := Aside0.mk H
  clear H
  go_enter Tryd.func25, Tryd.ntmps25
  go_wp2
  go_loopg [3, 6] k (fun kq v3 v6 w' => ∃ (x3_1 : Int) (x6_1 : Int), v3 = .int .u32 x3_1 ∧ v6 = .int .i64 x6_1 ∧ Aside0 (crc_Remainder.l0 kq x3_1 x6_1 = some r) ∧ Aside0 (kq ≤ k) ∧ Drawn0 w w')
  case atStart => exact ⟨((a0) % 4294967296), (0), (by first | rfl | (simp; done) | (simp [*]; done)), (by first | rfl | (simp; done) | (simp [*]; done)), H', ⟨Nat.le_refl _⟩, by repeat (first | exact Drawn0.refl _ | apply Drawn0.step)⟩
  case round =>
    clear H'
    obtain ⟨x3_1, x6_1, rfl, rfl, HA, HK1, ⟨m1, rfl⟩⟩ := hrel
    cases gk with
    | zero => exact absurd HA.out (by simp [crc_Remainder.l0])
    | succ k1 =>
      have H := HA.out
      clear HA
      simp only [crc_Remainder.l0] at H
      by_cases c2 : x6_1 < 8
      · rw [if_pos c2] at H
        have c2b0 : decide (x6_1 < 8) = true := decide_eq_true c2
        clear c2
        have H' := Aside0.mk H
        clear H
        go_wp2
        go_roundg k1
        case measure => have := HK1.out; omega
        case rel => exact ⟨(Go.bits .xor .u32 (x3_1 / 2) (Go.bits .and .u32 3988292384 ((-(Go.bits .and .u32 x3_1 1)) % 4294967296))), (wrap64 (x6_1 + 1)), (by first | rfl | (simp; done) | (simp [*]; done)), (by first | rfl | (simp; done) | (simp [*]; done)), H', ⟨by have := HK1.out; omega⟩, by repeat (first | exact Drawn0.refl _ | apply Drawn0.step)⟩
      · rw [if_neg c2] at H
        have c2b0 : decide (x6_1 < 8) = false := decide_eq_false c2
        clear c2
        obtain rfl := Option.some.inj H
        go_wp2
        go_ret
        exact ⟨by first | rfl | (simp; done) | (simp [*]; done), by repeat (first | exact Drawn0.refl _ | apply Drawn0.step)⟩

/-! ### crc_table: function 20 (by hand) -/
def crcR (i : Int) : Int := (crc_Remainder.f 20 i).getD 0
def tabCells (k : Nat) : Array Value := (Array.range 256).map fun i => .int .u32 (if i < k then crcR i else 0)
theorem tabCells_size (k : Nat) : (tabCells k).size = 256 := by simp [tabCells]
theorem tabCells_get (k i : Nat) (h : i < 256) : (tabCells k)[i]? = some (.int .u32 (if i < k then crcR i else 0)) := by simp [tabCells, h]
theorem tabCells_set (k : Nat) (h : k < 256) : (tabCells k).setIfInBounds k (.int .u32 (crcR k)) = tabCells (k + 1) := by
  apply Array.ext_getElem?
  intro i
  rw [Array.getElem?_setIfInBounds]
  by_cases hi : k = i
  · subst hi
    rw [if_pos rfl, if_pos (by rw [tabCells_size]; exact h), tabCells_get _ _ h]
    simp
  · rw [if_neg hi]
    by_cases h2 : i < 256
    · rw [tabCells_get _ _ h2, tabCells_get _ _ h2]
      by_cases h3 : i < k
      · rw [if_pos h3, if_pos (by omega)]
      · rw [if_neg h3, if_neg (by omega)]
    · rw [Array.getElem?_eq_none (by rw [tabCells_size]; omega), Array.getElem?_eq_none (by rw [tabCells_size]; omega)]
theorem tabCells_one (k : Nat) : (tabCells k).all (·.oneCell') = true := by
  rw [Array.all_eq_true]
  intro i hi
  simp [tabCells, Value.oneCell']
theorem tab0 : tabCells 0 = Array.replicate 256 (Value.int .u32 0) := by
  apply Array.ext_getElem?
  intro i
  by_cases h : i < 256
  · rw [tabCells_get _ _ h]; simp [h]
  · rw [Array.getElem?_eq_none (by rw [tabCells_size]; omega), Array.getElem?_eq_none (by simp; omega)]
theorem zero_tab (W : World) : Sem.run Tryd.prog (zeroValue 53) W = .ok (.agg (tabCells 0)) W := by
  rw [tab0]
  kernel_rfl
theorem rem_some (k : Nat) (hk : k < 256) : crc_Remainder.f 20 (k : Int) = some (crcR (k : Int)) := by
  have h : ∀ i : Fin 256, crc_Remainder.f 20 (i.val : Int) = some (crcR (i.val : Int)) := by decide +kernel
  exact h ⟨k, hk⟩
theorem info_tab : (Tryd.prog.info? 53).map (·.size) = some 256 := by kernel_rfl
theorem under_tab : ∃ d, Tryd.prog.underlying 53 = some d ∧ (match d with | .struct _ | .array _ _ => true | _ => false) = true := ⟨_, Tryd.underlying53, rfl⟩
theorem setRow_same (w : World) (g : Nat) (cs : Array Value) (t : TypeId) (fr : Nat × Nat) (h : w.heap[g]? = some (.cells cs t fr)) : w.setRow g cs = w := by
  have hl : g < w.heap.size := (Array.getElem?_eq_some_iff.1 h).1
  have he : w.heap.modify g (fun | .cells _ t f => .cells cs t f | o => o) = w.heap := by
    apply Array.ext_getElem?
    intro i
    rw [Array.getElem?_modify]
    split
    · rename_i hi; subst hi; rw [h]; rfl
    · rfl
  exact congrArg (fun x : Array Obj => ({ w with heap := x } : World)) he
set_option maxHeartbeats 2000000 in
set_option maxRecDepth 100000 in
theorem crc_table.calls (w : World) : Calls Tryd.prog 20 #[] w fun e w' => e = .returned (.agg (tabCells 256)) ∧ Below w.heap.size w w' := by
  have hal := zero_tab
  go_enter Tryd.func20, Tryd.ntmps20
  go_wp2
  go_loopw [2] (fun i wr => ∃ k : Nat, k ≤ 256 ∧ i = .int .i64 k ∧ wr.heap[w.heap.size]? = some (.cells (tabCells k) 53 (0, 0)) ∧ Below w.heap.size w wr) (fun i _ => 256 - (intOf i).toNat)
  case atStart => exact ⟨0, by omega, rfl, heap_alloc_new w _, (Below.refl _ _).alloc (Nat.le_refl _) _⟩
  case round =>
    obtain ⟨k, hk, rfl, hblk, hb⟩ := hrel
    have HB := Aside0.mk hblk
    have HC := Aside0.mk hb
    clear hblk hb
    by_cases hlt : k < 256
    · have hcell : wr.cell? ⟨w.heap.size, k, none⟩ = some (.int .u32 0) := by
        rw [cell_of_row wr _ k _ _ _ HB.out, tabCells_get k k hlt]; simp
      have hfr : wr.frozen? ⟨w.heap.size, k, none⟩ = false := frozen_of_row wr _ k _ _ HB.out
      have hrem := Aside0.mk (rem_some k hlt)
      go_wp2_with (go_at_call 25; refine (crc_Remainder.calls 20 _ _ _ hrem.out).mono ?_; rintro e w' ⟨rfl, ⟨nd, rfl⟩⟩)
      go_roundw
      case measure => simp [intOf]; omega
      case rel =>
        refine ⟨k + 1, by omega, by go_num, ?_, ?_⟩
        · have h1 : (wr.drewN nd).heap[w.heap.size]? = some (.cells (tabCells k) 53 (0, 0)) := HB.out
          have h2 := blk_set h1 k (.int .u32 (crcR (k : Int)))
          rw [tabCells_set k hlt] at h2
          exact h2
        · exact (pw_below_drewN HC.out nd).setCell (Nat.le_refl _) _
    · obtain rfl : k = 256 := by omega
      have hi : (Tryd.prog.info? 53).map (·.size) = some (tabCells 256).size := by rw [tabCells_size]; exact info_tab
      have HI := Aside0.mk hi
      clear hi
      go_wp2_with (first | (refine wpList_load_row rfl 53 (.tmp 0) rfl w.heap.size rfl 53 (tabCells 256) (0, 0) _ HB.out Tryd.underlying53 rfl HI.out ?_) | (refine wpList_store_row rfl 53 (.tmp 0) (.tmp 11) rfl w.heap.size (tabCells 256) rfl rfl 53 (tabCells 256) HB.out HI.out rfl (tabCells_one 256) ?_; rw [setRow_same _ _ _ _ _ HB.out]))
      refine bodyPost_ret (v := .agg (tabCells 256)) ?_ rfl ⟨rfl, HC.out⟩
      exact results_cell_row rfl _ _ w.heap.size 53 (tabCells 256) (0, 0) _ rfl HB.out Tryd.underlying53 rfl HI.out

/-! ### crc_Update: function 14 (by hand) -/
def crcNot (x : Int) : Int := Go.bits .xor .u32 IntKind.u32.max x
def crcStep (x c : Int) : Int := Go.bits .xor .u32 (x / 256) (crcR (Go.bits .xor .u8 (x % 256) c))
def crc_Update.f (a0 : Int) (l1 : List Int) : Option (Int) := if (l1.length : Int) = 0 then some a0 else some (crcNot (l1.foldl crcStep (crcNot a0)))
set_option maxHeartbeats 4000000 in
set_option maxRecDepth 100000 in
theorem crc_Update.calls (a0 : Int) (A1 : Option Addr) (c1 : Nat) (l1 : List Int) (r : Int) (w : World) (hr1 : Kd.C (Kd.int .u8) w A1 l1.length l1) (hc1 : l1.length ≤ c1) (h : crc_Update.f a0 l1 = some r) :
    Calls Tryd.prog 14 #[.int .u32 a0, .slice A1 l1.length c1] w fun e w' => e = .returned (.int .u32 r) ∧ Below w.heap.size w w' := by
  have HR := Aside0.mk hr1
  have hmx : l1.length ≤ 9223372036854775807 := hr1.2.1
  clear hr1
  by_cases h0 : l1.length = 0
  · obtain rfl := List.eq_nil_of_length_eq_zero h0
    have hr : a0 = r := Option.some.inj h
    subst hr
    clear h HR
    go_enter Tryd.func14, Tryd.ntmps14
    go_wp2
    go_ret
    exact ⟨rfl, Below.refl _ _⟩
  · have hr : crcNot (l1.foldl crcStep (crcNot a0)) = r := by
      unfold crc_Update.f at h
      rw [if_neg (by omega)] at h
      exact Option.some.inj h
    clear h
    have HE := Aside0.mk hr
    clear hr
    have hz : ((l1.length : Int) == 0) = false := by rw [beq_eq_false_iff_ne]; omega
    have hal := zero_tab
    go_enter Tryd.func14, Tryd.ntmps14
    go_wp2_with (first | (go_at_call 20; refine (crc_table.calls _).mono ?_; rintro e w1 ⟨rfl, hb1⟩; have HB1 := Aside0.mk hb1; clear hb1) | (refine wpList_store_row rfl 53 (.tmp 5) (.tmp 13) rfl _ (tabCells 256) rfl rfl 53 (tabCells 0) (heap_alloc_new _ _) (by rw [tabCells_size]; exact info_tab) (by rw [tabCells_size, tabCells_size]) (tabCells_one 256) ?_; rw [World.setRow_alloc_new]))
    go_loop [6, 18] (fun x i => ∃ k : Nat, k ≤ l1.length ∧ i = .int .i64 k ∧ x = .int .u32 ((l1.take k).foldl crcStep (crcNot a0))) (fun _ i => l1.length - (intOf i).toNat)
    case atStart => exact ⟨0, Nat.zero_le _, rfl, rfl⟩
    case round =>
      obtain ⟨k, hk, rfl, rfl⟩ := hrel
      by_cases hlt : k < l1.length
      · obtain ⟨ad, e101, hx⟩ := Kd.at_int HR.out (k : Int) (by omega) (by omega)
        cases e101
        have hadb : ad.block < w.heap.size := World.block_lt_of_cell? w _ hx |> fun h => by simpa [add_block] using h
        obtain ⟨X, hX⟩ : ∃ X, X = (l1.take k).foldl crcStep (crcNot a0) := ⟨_, rfl⟩
        rw [← hX]
        have HX := Aside0.mk hX
        clear hX
        have hx2 : (w1.alloc (.cells (tabCells 256) 53)).cell? (ad.add k) = some (.int .u8 (rd l1 k)) := by
          rw [World.cell?_alloc_lt _ _ _ (by rw [add_block]; exact Nat.lt_of_lt_of_le hadb HB1.out.size), HB1.out.cell (by rw [add_block]; exact hadb)]
          simpa using hx
        clear hx
        have hbd := Go.bits_within .xor .u8 (X % 256) (rd l1 k)
        have hj0 : 0 ≤ Go.bits .xor .u8 (X % 256) (rd l1 k) := hbd.1
        have hj1 : Go.bits .xor .u8 (X % 256) (rd l1 k) < 256 := by have h := hbd.2; simp [IntKind.max, IntKind.signed, IntKind.bits] at h; omega
        clear hbd
        have htab : (w1.alloc (.cells (tabCells 256) 53)).cell? ⟨w1.heap.size, (Go.bits .xor .u8 (X % 256) (rd l1 k)).toNat, none⟩ = some (.int .u32 (crcR (Go.bits .xor .u8 (X % 256) (rd l1 k)))) := by
          rw [cell_of_row _ _ _ _ _ _ (heap_alloc_new w1 _), tabCells_get 256 _ (by omega), if_pos (by omega), Int.toNat_of_nonneg hj0]
        have hs32 : IntKind.u32.signed = false := rfl
        have hstep : (l1.take (k + 1)).foldl crcStep (crcNot a0) = crcStep X (rd l1 (k : Int)) := by
          rw [List.take_succ_eq_append_getElem hlt, List.foldl_append, ← HX.out]
          simp [rd, hlt]
        have HS := Aside0.mk hstep
        clear hstep
        go_wp2
        go_round
        case rel => exact ⟨k + 1, by omega, by go_num, by rw [HS.out]; rfl⟩
        case measure => simp [intOf]; omega
      · obtain rfl : k = l1.length := by omega
        have hs32 : IntKind.u32.signed = false := rfl
        go_wp2
        go_ret
        exact ⟨by rw [← HE.out]; rfl, HB1.out.alloc HB1.out.size _⟩

/-! ### crc_Sum: function 11 -/
def crc_Sum.f (l0 : List Int) : Option (Int) := (crc_Update.f 0 l0).bind fun t104 => (some t104)
set_option maxHeartbeats 8000000 in
set_option maxRecDepth 100000 in
theorem crc_Sum.calls (A0 : Option Addr) (c0 : Nat) (l0 : List Int) (r : Int) (w : World) (hr0 : Kd.C (Kd.int .u8) w A0 l0.length l0) (hc0 : l0.length ≤ c0) (h : crc_Sum.f l0 = some r) :
    Calls Tryd.prog 11 #[.slice A0 l0.length c0] w fun e w' => e = .returned (.int .u32 r) ∧ Below w.heap.size w w' := by
  have HR0 := Aside0.mk hr0
  have HC0 := Aside0.mk hc0
  clear hr0 hc0
  have HB := Aside0.mk (Below.refl w.heap.size w)
  have H : ((crc_Update.f 0 l0).bind fun t104 => (some t104)) = some r := h
  clear h
  replace H := Option.bind_eq_some_iff.mp H
  obtain ⟨t104, A20, H⟩ := H
  replace H : (some t104) = some r := H
  have A2 := Aside0.mk A20
  clear A20
  obtain rfl := Option.some.inj H
  go_enter Tryd.func11, Tryd.ntmps11
  go_wp2_with (first | ((with_reducible refine gate_callee (f := 14) rfl ?_); refine goesL_ (some 4) rfl rfl Tryd.func14 (by kernel_rfl) rfl #[.int .u32 0, .slice A0 l0.length c0] rfl (by (try simp only [List.map_toArray, List.map_cons, List.map_nil]); first | done | rfl | (simp only [List.length_drop, List.length_take]; rfl)) ?_; (with_reducible refine (crc_Update.calls 0 _ _ l0 t104 _ ?side1 ?side2 A2.out).mono ?_); (case side1 => repeat (first | exact HR0.out | (with_reducible refine Kd.C_alloc ?_ _) | (with_reducible refine Kd.C_drewN ?_ _) | (with_reducible refine Kd.C_drew ?_))); (case side2 => exact HC0.out); rintro e w3 ⟨rfl, hb⟩; refine ⟨_, rfl, ?_⟩; have n0_ := Aside0.mk (below_step (by repeat (first | (with_reducible first | exact HB.out | apply below_alloc | apply pw_below_drewN | apply below_drew1) | exact HB.out | exact below_undrew HB.out)) hb); clear HB; have HB := n0_; clear n0_; (try clear hb); (try clear hb2); (try clear hk); (try clear hi)))
  go_ret
  exact ⟨by first | rfl | (simp [errW_none, errW_some] <;> rfl) | (simp [*, errW_none, errW_some] <;> rfl), by repeat (first | (with_reducible first | exact HB.out | apply below_alloc | apply pw_below_drewN | apply below_drew1) | exact HB.out | exact below_undrew HB.out)⟩

end Go.Proofs.YtddhlienjbffgaaDoor.XAll
