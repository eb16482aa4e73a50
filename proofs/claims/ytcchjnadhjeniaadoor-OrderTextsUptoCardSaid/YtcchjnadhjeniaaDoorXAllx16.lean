/- Printed by this session's program (wip/print) out of the translation, for the statement named in the file's name. -/
import Derived.Test.YtcchjnadhjeniaaDoorXAllx0
namespace Go.Proofs.YtcchjnadhjeniaaDoor.XAll
open Go.RowKit Go.Proofs.YtcchjnadhjeniaaDoorW.PrintWords Go.Proofs.YtcchjnadhjeniaaDoorW.PrintLast Go.Proofs.YtcchjnadhjeniaaDoorW.PrintMore Go.Proofs.YtcchjnadhjeniaaDoor.As
attribute [local go_sem] str_gtr str_leq str_geq max2_int min2_int max_two min_two max_three min_three max_four min_four   -- for this text's walks alone
set_option linter.unusedVariables false
set_option linter.unusedSimpArgs false

/-! ### order_Next: function 9 (by hand) -/
def trimTo (l : List Int) : Nat → Nat
  | 0 => 0
  | k + 1 => if rd l (k : Int) = 255 then trimTo l k else k + 1
theorem trimTo_le (l : List Int) : ∀ n, trimTo l n ≤ n
  | 0 => Nat.le_refl _
  | k + 1 => by
    unfold trimTo
    split
    · exact Nat.le_succ_of_le (trimTo_le l k)
    · exact Nat.le_refl _
def lenOfSlice : Value → Nat
  | .slice _ n _ => n
  | _ => 0
def order_Next.f (a0 : ByteArray) : Option (ByteArray × Bool) :=
  if a0.size < 140737488355328 then
    if trimTo (bytesOf a0) a0.size = 0 then some (⟨#[]⟩, false)
    else some (strOfNums ((bytesOf a0).take (trimTo (bytesOf a0) a0.size - 1) ++ [(rd (bytesOf a0) ((trimTo (bytesOf a0) a0.size - 1 : Nat) : Int) + 1) % 256]), true)
  else none
set_option maxHeartbeats 4000000 in
set_option maxRecDepth 100000 in
theorem order_Next.calls (a0 : ByteArray) (r1 : ByteArray) (r2 : Bool) (w : World) (h : order_Next.f a0 = some (r1, r2)) :
    Calls Tryd.prog 9 #[.string a0] w fun e w' => e = .returned (.tuple #[.string r1, .bool r2]) ∧ Below w.heap.size w w' := by
  unfold order_Next.f at h
  by_cases hlen : a0.size < 140737488355328
  case neg => rw [if_neg hlen] at h; cases h
  rw [if_pos hlen] at h
  obtain ⟨l, hl⟩ : ∃ l, l = bytesOf a0 := ⟨_, rfl⟩
  have hll : l.length = a0.size := by rw [hl]; simp [bytesOf]
  rw [← hl] at h
  obtain ⟨cap, hcap⟩ : ∃ cap, cap = grownCap w a0.size 0 5 := ⟨_, rfl⟩
  have hconv := run_bytes_of_string (P := Tryd.prog) w 9 44 5 a0 Tryd.underlying9 Tryd.underlying44 Tryd.underlying5
  rw [← hcap] at hconv
  obtain ⟨W1, hW1⟩ : ∃ W1, W1 = w.drew.alloc (.cells (bytesRow a0 cap) 5 ((bytesRow a0 cap).size, (bytesRow a0 cap).size + 1)) := ⟨_, rfl⟩
  rw [← hW1] at hconv
  have hb1 : Below w.heap.size w W1 := by
    rw [hW1]
    repeat (first | exact Below.refl _ _ | apply below_alloc | apply below_drew1)
  have hcell : ∀ j : Nat, j < l.length → W1.cell? ⟨w.heap.size, j, none⟩ = some (.int .u8 (rd l (j : Int))) := by
    intro j hj
    rw [hW1]
    have e := World.cell?_alloc_mark w.drew (bytesRow a0 cap) 5 ((bytesRow a0 cap).size, (bytesRow a0 cap).size + 1) j
    have hj' : j < a0.data.size := by rw [hll] at hj; exact hj
    rw [bytesRow_at a0 cap j hj'] at e
    refine e.trans ?_
    congr 2
    rw [hl]
    unfold rd bytesOf
    simp [Array.getElem?_eq_getElem hj']
  have hsz : a0.size ≤ (bytesRow a0 cap).size := by
    have e : a0.data.size = a0.size := rfl
    simp [bytesRow, e]
  have hfro : ∀ j : Nat, j < l.length → W1.frozen? ⟨w.heap.size, j, none⟩ = false := by
    intro j hj
    rw [hW1]
    have e := World.frozen?_alloc_mark w.drew (bytesRow a0 cap) 5 (bytesRow a0 cap).size ((bytesRow a0 cap).size + 1) j
    refine e.trans ?_
    rw [show decide ((bytesRow a0 cap).size ≤ j) = false from decide_eq_false (by omega)]
    rfl
  have hcapn : a0.size ≤ cap := by rw [hcap]; exact grownCap_ge _ _ _ _
  have HC := Aside0.mk hcell
  have HF := Aside0.mk hfro
  have HB := Aside0.mk hb1
  have HH := Aside0.mk h
  have HV := Aside0.mk hconv
  obtain ⟨n, hn⟩ : ∃ n, n = a0.size := ⟨_, rfl⟩
  rw [← hn] at hll hlen hcapn HH HV
  clear hconv hW1 hcap hcell hfro hb1 h hl hsz hn
  have hconv := HV.out
  go_enter Tryd.func9, Tryd.ntmps9
  go_wp2
  go_loop [4] (fun x => ∃ k : Nat, k ≤ n ∧ trimTo l k = trimTo l n ∧ x = .slice (some ⟨w.heap.size, 0, none⟩) k cap) (fun x => lenOfSlice x)
  case atStart => exact ⟨n, Nat.le_refl _, rfl, rfl⟩
  case round =>
    obtain ⟨k, hk, ht, rfl⟩ := hrel
    cases k with
    | zero =>
      have H := HH.out
      rw [← ht] at H
      rw [if_pos (show trimTo l 0 = 0 from rfl)] at H
      simp only [Option.some.injEq, Prod.mk.injEq] at H
      obtain ⟨rfl, rfl⟩ := H
      go_wp2
      go_ret2
      exact ⟨rfl, HB.out⟩
    | succ k =>
      have hx := HC.out k (by omega)
      have hw1 : wrap64 (((k + 1 : Nat) : Int) - 1) = (k : Int) := by simp [wrap64, IntKind.wrap]; omega
      have hi : ((k : Nat) : Int).toNat = k := Int.toNat_natCast k
      by_cases h255 : rd l (k : Int) = 255
      · have hcut := (print_take_of (P := Tryd.prog) (α := Int) (Value.int .u8) 0 44 5 .i64 Tryd.underlying44 (by exact rfl) (by rfl) (some ⟨w.heap.size, 0, none⟩) cap (l.take (k + 1)) (k : Int) (by omega) (by rw [List.length_take]; omega) (by rw [List.length_take]; omega)).1
        rw [show (l.take (k + 1)).length = k + 1 by rw [List.length_take]; omega, show ((l.take (k + 1)).take (k : Int).toNat).length = k by rw [List.length_take, List.length_take]; omega] at hcut
        have hb : (rd l (k : Int) == 255) = true := beq_iff_eq.mpr h255
        have ht2 : trimTo l k = trimTo l n := by
          rw [← ht]
          conv => rhs; unfold trimTo
          rw [if_pos h255]
        rw [h255] at hx
        go_wp2
        go_round
        case rel => exact ⟨k, by omega, ht2, rfl⟩
        case measure => simp [lenOfSlice]
      · have hb : (rd l (k : Int) == 255) = false := beq_eq_false_iff_ne.mpr h255
        have hf := HF.out k (by omega)
        have hcells : ∀ i, i < k + 1 → (W1.setCell ⟨w.heap.size, k, none⟩ (.int .u8 ((rd l (k : Int) + 1) % 256))).cell? ⟨w.heap.size, 0 + i, none⟩ = some (.int .u8 ((l.take k ++ [(rd l (k : Int) + 1) % 256]).getD i 0)) := by
          intro i hik
          rw [Nat.zero_add]
          by_cases h : i = k
          · subst h
            rw [World.cell?_setCell_same _ _ _ hx]
            congr 2
            simp [List.getD, List.getElem?_append_right, List.length_take, show min i l.length = i by omega]
          · rw [World.cell?_setCell_other _ _ _ _ (by intro e; simp only [Addr.mk.injEq] at e; omega), HC.out i (by omega)]
            congr 2
            rw [List.getD, List.getElem?_append_left (by rw [List.length_take]; omega), List.getElem?_take_of_lt (by omega)]
            simp [rd, List.getD]
        have hcv := run_convert_bytes_arg (P := Tryd.prog) (W1.setCell ⟨w.heap.size, k, none⟩ (.int .u8 ((rd l (k : Int) + 1) % 256))) 44 5 Tryd.underlying44 Tryd.underlying5 w.heap.size 0 (k + 1) cap (l.take k ++ [(rd l (k : Int) + 1) % 256]) (by simp; omega) hcells 9 Tryd.underlying9
        have HB2 := Aside0.mk (HB.out.setCell (p := ⟨w.heap.size, k, none⟩) (Nat.le_refl _) (.int .u8 ((rd l (k : Int) + 1) % 256)))
        have H := HH.out
        rw [← ht, show trimTo l (k + 1) = k + 1 by unfold trimTo; rw [if_neg h255], if_neg (by omega)] at H
        simp only [Option.some.injEq, Prod.mk.injEq, Nat.add_sub_cancel] at H
        obtain ⟨rfl, rfl⟩ := H
        clear hcells
        go_wp2
        go_ret2
        exact ⟨rfl, HB2.out⟩

end Go.Proofs.YtcchjnadhjeniaaDoor.XAll
