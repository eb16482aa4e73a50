/- Printed by this session's program (wip/print) out of the translation, for the statement named in the file's name. -/
import Derived.Test.YtindggjkcnelcaaDoorXAllx0
import Derived.Test.YtindggjkcnelcaaDoorXAllx1
namespace Go.Proofs.YtindggjkcnelcaaDoor.XAll
open Go.RowKit Go.Proofs.YtindggjkcnelcaaDoorW.PrintWords Go.Proofs.YtindggjkcnelcaaDoorW.PrintLast Go.Proofs.YtindggjkcnelcaaDoorW.PrintMore Go.Proofs.YtindggjkcnelcaaDoor.As
attribute [local go_sem] max2_int min2_int max_two min_two max_three min_three max_four min_four   -- for this text's walks alone
set_option linter.unusedVariables false
set_option linter.unusedSimpArgs false

/-! ### crc_table: function 39 (by hand) -/
def crcR (i : Int) : Int := (crc_Remainder.f 20 i).getD 0
def tabCells (k : Nat) : Array Value := (Array.range 256).map fun i => .int .u32 (if i < k then crcR i else 0)
theorem tabCells_size (k : Nat) : (tabCells k).size = 256 := by simp [tabCells]
theorem tabCells_get (k i : Nat) (h : i < 256) : (tabCells k)[i]? = some (.int .u32 (if i < k then crcR i else 0)) := by simp [tabCells, h]
theorem tabCells_set (k : Nat) (h : k < 256) : (tabCells k).setIfInBounds k (.int .u32 (crcR k)) = tabCells (k + 1) := by
  apply Array.ext_getElem?
  intro i
  rw [Array.getElem?_setIfInBounds]
  by_cases hi : k = i
  · subst hi
    rw [if_pos rfl, if_pos (by rw [tabCells_size]; exact h), tabCells_get _ _ h]
    simp
  · rw [if_neg hi]
    by_cases h2 : i < 256
    · rw [tabCells_get _ _ h2, tabCells_get _ _ h2]
      by_cases h3 : i < k
      · rw [if_pos h3, if_pos (by omega)]
      · rw [if_neg h3, if_neg (by omega)]
    · rw [Array.getElem?_eq_none (by rw [tabCells_size]; omega), Array.getElem?_eq_none (by rw [tabCells_size]; omega)]
theorem tabCells_one (k : Nat) : (tabCells k).all (·.oneCell') = true := by
  rw [Array.all_eq_true]
  intro i hi
  simp [tabCells, Value.oneCell']
theorem tab0 : tabCells 0 = Array.replicate 256 (Value.int .u32 0) := by
  apply Array.ext_getElem?
  intro i
  by_cases h : i < 256
  · rw [tabCells_get _ _ h]; simp [h]
  · rw [Array.getElem?_eq_none (by rw [tabCells_size]; omega), Array.getElem?_eq_none (by simp; omega)]
theorem zero_tab (W : World) : Sem.run Tryd.prog (zeroValue 71) W = .ok (.agg (tabCells 0)) W := by
  rw [tab0]
  kernel_rfl
theorem rem_some (k : Nat) (hk : k < 256) : crc_Remainder.f 20 (k : Int) = some (crcR (k : Int)) := by
  have h : ∀ i : Fin 256, crc_Remainder.f 20 (i.val : Int) = some (crcR (i.val : Int)) := by decide +kernel
  exact h ⟨k, hk⟩
theorem info_tab : (Tryd.prog.info? 71).map (·.size) = some 256 := by kernel_rfl
theorem under_tab : ∃ d, Tryd.prog.underlying 71 = some d ∧ (match d with | .struct _ | .array _ _ => true | _ => false) = true := ⟨_, Tryd.underlying71, rfl⟩
theorem setRow_same (w : World) (g : Nat) (cs : Array Value) (t : TypeId) (fr : Nat × Nat) (h : w.heap[g]? = some (.cells cs t fr)) : w.setRow g cs = w := by
  have hl : g < w.heap.size := (Array.getElem?_eq_some_iff.1 h).1
  have he : w.heap.modify g (fun | .cells _ t f => .cells cs t f | o => o) = w.heap := by
    apply Array.ext_getElem?
    intro i
    rw [Array.getElem?_modify]
    split
    · rename_i hi; subst hi; rw [h]; rfl
    · rfl
  exact congrArg (fun x : Array Obj => ({ w with heap := x } : World)) he
set_option maxHeartbeats 2000000 in
set_option maxRecDepth 100000 in
theorem crc_table.calls (w : World) : Calls Tryd.prog 39 #[] w fun e w' => e = .returned (.agg (tabCells 256)) ∧ Below w.heap.size w w' := by
  have hal := zero_tab
  go_enter Tryd.func39, Tryd.ntmps39
  go_wp2
  go_loopw [2] (fun i wr => ∃ k : Nat, k ≤ 256 ∧ i = .int .i64 k ∧ wr.heap[w.heap.size]? = some (.cells (tabCells k) 71 (0, 0)) ∧ Below w.heap.size w wr) (fun i _ => 256 - (intOf i).toNat)
  case atStart => exact ⟨0, by omega, rfl, heap_alloc_new w _, (Below.refl _ _).alloc (Nat.le_refl _) _⟩
  case round =>
    obtain ⟨k, hk, rfl, hblk, hb⟩ := hrel
    have HB := Aside0.mk hblk
    have HC := Aside0.mk hb
    clear hblk hb
    by_cases hlt : k < 256
    · have hcell : wr.cell? ⟨w.heap.size, k, none⟩ = some (.int .u32 0) := by
        rw [cell_of_row wr _ k _ _ _ HB.out, tabCells_get k k hlt]; simp
      have hfr : wr.frozen? ⟨w.heap.size, k, none⟩ = false := frozen_of_row wr _ k _ _ HB.out
      have hrem := Aside0.mk (rem_some k hlt)
      go_wp2_with (go_at_call 45; refine (crc_Remainder.calls 20 _ _ _ hrem.out).mono ?_; rintro e w' ⟨rfl, ⟨nd, rfl⟩⟩)
      go_roundw
      case measure => simp [intOf]; omega
      case rel =>
        refine ⟨k + 1, by omega, by go_num, ?_, ?_⟩
        · have h1 : (wr.drewN nd).heap[w.heap.size]? = some (.cells (tabCells k) 71 (0, 0)) := HB.out
          have h2 := blk_set h1 k (.int .u32 (crcR (k : Int)))
          rw [tabCells_set k hlt] at h2
          exact h2
        · exact (pw_below_drewN HC.out nd).setCell (Nat.le_refl _) _
    · obtain rfl : k = 256 := by omega
      have hi : (Tryd.prog.info? 71).map (·.size) = some (tabCells 256).size := by rw [tabCells_size]; exact info_tab
      have HI := Aside0.mk hi
      clear hi
      go_wp2_with (first | (refine wpList_load_row rfl 71 (.tmp 0) rfl w.heap.size rfl 71 (tabCells 256) (0, 0) _ HB.out Tryd.underlying71 rfl HI.out ?_) | (refine wpList_store_row rfl 71 (.tmp 0) (.tmp 11) rfl w.heap.size (tabCells 256) rfl rfl 71 (tabCells 256) HB.out HI.out rfl (tabCells_one 256) ?_; rw [setRow_same _ _ _ _ _ HB.out]))
      refine bodyPost_ret (v := .agg (tabCells 256)) ?_ rfl ⟨rfl, HC.out⟩
      exact results_cell_row rfl _ _ w.heap.size 71 (tabCells 256) (0, 0) _ rfl HB.out Tryd.underlying71 rfl HI.out

end Go.Proofs.YtindggjkcnelcaaDoor.XAll
