/- slices.SortedFunc over a map's places, in order. -/
import Derived.Test.YtnfnnfbcafepkaaDoorDkC
namespace Go.Proofs.YtnfnnfbcafepkaaDoor.Dk
open Go Go.RowKit Go.Shelf Go.Sort
set_option linter.unusedVariables false
set_option linter.unusedSimpArgs false
set_option maxRecDepth 100000
/-- One place ahead of another. -/
def ltPl (p q : Pl) : Prop := p.1 < q.1 ∨ p.1 = q.1 ∧ p.2 < q.2
theorem sgn_lt (a b : Int) : sgnI a b < 0 ↔ a < b := by
  unfold sgnI
  by_cases h : a < b
  · simp [h]
  · by_cases h2 : b < a
    · simp [h, h2]
    · simp [h, h2]
theorem sgn_eq (a b : Int) : sgnI a b = 0 ↔ a = b := by
  unfold sgnI
  by_cases h : a < b
  · simp [h]; omega
  · by_cases h2 : b < a
    · simp [h, h2]; omega
    · simp [h, h2]; omega
theorem cmp_lt (p q : Pl) : cmpPl p q < 0 ↔ ltPl p q := by
  unfold cmpPl ltPl
  by_cases h : sgnI p.1 q.1 = 0
  · rw [if_pos h, sgn_lt]
    rw [sgn_eq] at h
    omega
  · rw [if_neg h, sgn_lt]
    rw [sgn_eq] at h
    omega
theorem pl_lt (p q : Pl) : Go.Proofs.ltOf cmpPl p q = true ↔ ltPl p q := by unfold Go.Proofs.ltOf; rw [decide_eq_true_iff, cmp_lt]
theorem pl_nlt (p q : Pl) : Go.Proofs.ltOf cmpPl p q = false ↔ ¬ ltPl p q := by unfold Go.Proofs.ltOf; rw [decide_eq_false_iff_not, cmp_lt]
theorem pl_swo : SWO (Go.Proofs.ltOf cmpPl) := by
  refine ⟨fun p => ?_, fun p q r h1 h2 => ?_, fun p q r h1 h2 => ?_⟩
  · rw [pl_nlt]; unfold ltPl; omega
  · rw [pl_lt] at *; unfold ltPl at *; omega
  · rw [pl_nlt] at *; unfold ltPl at *; omega
abbrev encPl (p : Pl) : List Value := [.int .i64 p.1, .int .i64 p.2]
/-- A row of places in memory. -/
def PlRow (B : Nat) (W : World) (v : Value) (ps : List Pl) : Prop := ∃ R cap, v = .slice R ps.length cap ∧ ps.length ≤ 262144 ∧ (0 < ps.length → ∃ g, R = some ⟨g, 0, none⟩ ∧ B ≤ g ∧ g < W.heap.size ∧ ∀ (i : Nat) (h : i < ps.length), W.cell? ⟨g, i * 2, none⟩ = some (.int .i64 ps[i].1) ∧ W.cell? ⟨g, i * 2 + 1, none⟩ = some (.int .i64 ps[i].2))
theorem flat_get (ps : List Pl) (i : Nat) (h : i < ps.length) : (flatPl ps)[i * 2]? = some (.int .i64 ps[i].1) ∧ (flatPl ps)[i * 2 + 1]? = some (.int .i64 ps[i].2) := by
  induction ps generalizing i with
  | nil => exact absurd h (by simp)
  | cons p ps ih =>
    cases i with
    | zero => exact ⟨rfl, rfl⟩
    | succ i =>
      have := ih i (by simpa using h)
      rw [show (i + 1) * 2 = i * 2 + 2 by omega]
      exact this
theorem holds_flat {w : World} {g : Nat} {cur : Array Value} {e : TypeId} {ps : List Pl} (hb : w.heap[g]? = some (.cells cur e (0, 0))) (ht : cur.toList.take (ps.length * 2) = flatPl ps) : HoldsK encPl 2 w g 0 ps.toArray := by
  intro j hj
  rw [size_flatK] at hj
  have hj' : j < ps.length * 2 := by simpa using hj
  refine ⟨?_, by simp [World.frozen?, hb]⟩
  have h1 : (cur.toList.take (ps.length * 2))[j]? = (flatPl ps)[j]? := by rw [ht]
  rw [List.getElem?_take_of_lt hj'] at h1
  simp only [World.cell?, hb, Nat.zero_add]
  simp only [Option.isSome_none, Bool.false_eq_true, if_false]
  rw [← Array.getElem?_toList, h1, get_flatK _ _ _ _ hj]
  have hq : j / 2 < ps.length := by omega
  obtain ⟨f0, f1⟩ := flat_get ps (j / 2) hq
  have hpe : ps.toArray[j / 2]! = ps[j / 2] := by simp [hq]
  rw [hpe]
  rcases Nat.mod_two_eq_zero_or_one j with hm | hm
  · rw [show j / 2 * 2 = j by omega] at f0
    rw [f0, hm]
    rfl
  · rw [show j / 2 * 2 + 1 = j by omega] at f1
    rw [f1, hm]
    rfl
theorem grow_below (enc : Pl → List Value) (k : Nat) {w W : World} {blk n : Nat} {d : Array Pl} {os : Array Obj} (h : Below w.heap.size w W) (hb : w.heap.size ≤ blk) : Below w.heap.size w (Go.Proofs.sortWorldK enc k W blk 0 n d os) := by
  refine ⟨h.os, h.tape, h.output, ?_, fun j hj => ?_⟩
  · have : (Go.Proofs.sortWorldK enc k W blk 0 n d os).heap.size = W.heap.size + os.size := by simp [Go.Proofs.sortWorldK, grow, putRowK, putRow, mapBlock, ahead]
    rw [this]
    have := h.size
    omega
  · have := h.size
    unfold Go.Proofs.sortWorldK grow putRowK putRow mapBlock Go.Sort.ahead
    dsimp only
    rw [Array.getElem?_append_left (by simp; omega), Array.getElem?_modify, if_neg (by omega)]
    exact h.block j hj
set_option maxHeartbeats 8000000 in
theorem sorted_c (Bm b nn : Nat) (D0 : DataW Unit) (hK : Keys D0) (w : World) (hBm : Bm < w.heap.size) (hm : w.cell? ⟨Bm, 0, none⟩ = some (.map (some b))) (hown : owns w b nn D0) :
    Calls Tryd.prog 26 #[.func (.func 40) #[] #[.pointer (some ⟨Bm, 0, none⟩)], .func (.func 28) #[] #[]] w fun e w' => ∃ v ps, e = .returned v ∧ AllOf D0 ps ∧ ps.Pairwise ltPl ∧ PlRow w.heap.size w' v ps ∧ Below w.heap.size w w' := by
  have hN : Maps.size D0 ≤ 262144 := size_few hown hK
  have HC := Asd.mk (callsIn_wide.1 (collect_in 5 (by omega) 40 #[.pointer (some ⟨Bm, 0, none⟩)] (Go.Proofs.enters_of Tryd.func40 (by kernel_rfl) rfl) _ _ hN w (SeqGives.bounded (keys_gives 3 (by omega) Bm b nn D0 hK w hBm hm hown))))
  clear hm hown
  go_enter Tryd.func26, Tryd.ntmps26
  go_wp2_with (go_at_call 38; refine HC.out.mono ?_; rintro e w2 ⟨v, ps, rfl, hS, hrow, hb⟩)
  obtain ⟨hS1, hlen⟩ := hS
  have HB := Asd.mk hb
  have HS := Asd.mk hS1
  rcases hrow.2 with ⟨rfl, hz⟩ | ⟨g, cap, cur, rfl, hbase, hgb, r1, r2, r3, r4⟩
  · have hps : ps = [] := List.eq_nil_of_length_eq_zero hz
    subst hps
    have HN := Asd.mk (Go.Proofs.AnyF.slices_SortFunc_none Ps.psSlLaysF06 none 0 (.func (.func 28) #[] #[]) w2)
    clear hb hS1 hrow hz hlen HC
    refine (show Calls Tryd.prog 39 #[.slice none 0 0, .func (.func 28) #[] #[]] w2 _ from HN.out).mono ?_
    rintro e w3 ⟨rfl, rfl⟩
    go_wp2_with fail
    go_ret
    exact ⟨_, [], rfl, HS.out, List.Pairwise.nil, ⟨none, 0, rfl, by simp, fun h => absurd h (by simp)⟩, HB.out⟩
  · have hlt := (Array.getElem?_eq_some_iff.1 hgb).1
    have hH := holds_flat hgb r4
    have hsort := Go.Proofs.AnyQ.slices_SortFunc Ps.psSlLaysF06 2 (by intro w; exact Tryd.isAgg69 w) (by intro w; exact Tryd.sizeOf69 w) encPl (fun _ => rfl) (fun p v hv => by simp at hv; rcases hv with rfl | rfl <;> rfl) cmpPl pl_swo 28 #[] g 0 cap ps.toArray w2 (Go.Proofs.enters_of Tryd.func28 (by kernel_rfl) rfl) (fun m os dk _ x y => before_c x y _) hH hlt (by simp; omega)
    have HT := Asd.mk hsort
    have HX : Asd (∀ (w3 : World) (d' : Array Pl) (n : Nat) (os : Array Obj), PermIn 0 ps.toArray.size ps.toArray d' → SortedIn (Go.Proofs.ltOf cmpPl) 0 ps.toArray.size d' → w3 = Go.Proofs.sortWorldK encPl 2 w2 g 0 n d' os → AllOf D0 d'.toList ∧ d'.toList.Pairwise ltPl ∧ PlRow w.heap.size w3 (.slice (some ⟨g, 0, none⟩) ps.length cap) d'.toList ∧ Below w.heap.size w w3) := ⟨by
      rintro w3 d' n os ⟨hs1, _, hpm⟩ hso rfl
      have e1 : d'.extract 0 ps.toArray.size = d' := by rw [← hs1]; exact Array.extract_size
      have e2 : ps.toArray.extract 0 ps.toArray.size = ps.toArray := Array.extract_size
      rw [e1, e2] at hpm
      have hl' : d'.size = ps.length := by rw [hs1]; simp
      have hA : AllOf D0 d'.toList := by
        obtain ⟨a1, a2, a3⟩ := hS1
        exact ⟨(hpm.nodup_iff).2 a1, fun p hp => a2 p (hpm.mem_iff.1 hp), fun p hp => (hpm.mem_iff).trans (a3 p hp)⟩
      have hl2 : d'.toList.length = ps.length := by simpa using hl'
      refine ⟨hA, ?_, ⟨some ⟨g, 0, none⟩, cap, by rw [hl2], by rw [hl2]; omega, fun _ => ⟨g, rfl, hbase, Go.Proofs.lt_sortWorldK _ _ _ _ _ _ _ _ hlt, fun i hi => ?_⟩⟩, grow_below _ _ hb hbase⟩
      · have hnd := hA.1
        rw [List.Nodup, List.pairwise_iff_getElem] at hnd
        rw [List.pairwise_iff_getElem]
        intro i j hi hj hij
        have hi' : i < d'.size := by simpa using hi
        have hj' : j < d'.size := by simpa using hj
        have h1 := hso i j (Nat.zero_le _) hij (by omega)
        rw [getElem!_pos d' i hi', getElem!_pos d' j hj', pl_nlt] at h1
        have h2 := hnd i j hi hj hij
        simp only [Array.getElem_toList] at h2 ⊢
        have h3 : ¬ (d'[i].1 = d'[j].1 ∧ d'[i].2 = d'[j].2) := fun h => h2 (Prod.ext h.1 h.2)
        unfold ltPl at h1 ⊢
        omega
      · have hi' : i < d'.size := by simpa using hi
        have hH2 := Go.Proofs.holdsK_sortWorldK encPl 2 w2 g 0 n ps.toArray d' os hlt hH hs1
        have h0 := (hH2.cell hi' (show 0 < 2 by omega)).1
        have h1 := (hH2.cell hi' (show 1 < 2 by omega)).1
        rw [getElem!_pos d' i hi'] at h0 h1
        simp only [Nat.zero_add, Nat.add_zero] at h0 h1
        exact ⟨h0, h1⟩⟩
    clear hsort hH hb hS1 hrow hlen HC hbase hgb r1 r2 r3 r4 hlt
    refine (show Calls Tryd.prog 39 #[.slice (some ⟨g, 0, none⟩) ps.length cap, .func (.func 28) #[] #[]] w2 _ from HT.out).mono ?_
    rintro e w3 ⟨rfl, d', n, os, h1, h2, h3⟩
    have HY := Asd.mk (HX.out w3 d' n os h1 h2 h3)
    clear h1 h2 h3
    go_wp2_with fail
    go_ret
    exact ⟨_, d'.toList, rfl, HY.out.1, HY.out.2.1, HY.out.2.2.1, HY.out.2.2.2⟩
end Go.Proofs.YtnfnnfbcafepkaaDoor.Dk
