/- The places that a map holds, as maps.Keys tells them. -/
import Derived.Test.YtnfnnfbcafepkaaDoorDkS
import Derived.RangeFuncGives
import Derived.RangeFuncLeaves
import Derived.WalkKit
import Derived.OwnWalkIn
import Derived.TacticsInMore
import Derived.RegionIn
import Derived.LoopNIn
import Derived.LoopIn
import Derived.Sort.MapsRangeIn
import Derived.Shelf.AbstractIn
namespace Go.Proofs.YtnfnnfbcafepkaaDoor.Dk
open Go Go.RowKit Go.Shelf
set_option linter.unusedVariables false
set_option linter.unusedSimpArgs false
set_option maxRecDepth 100000
/-- The places that have come. -/
def Came (D0 : DataW Unit) (left : Lit → Bool) (ps : List Pl) : Prop := ps.Nodup ∧ (∀ p ∈ ps, In p) ∧ ∀ p, In p → (p ∈ ps ↔ Maps.has D0 (plKey p) = true ∧ left (plKey p) = false)
/-- All of a map's places, each once. -/
def AllOf (D0 : DataW Unit) (ps : List Pl) : Prop := ps.Nodup ∧ (∀ p ∈ ps, In p) ∧ ∀ p, In p → (p ∈ ps ↔ Maps.has D0 (plKey p) = true)
theorem Came.start (D0 : DataW Unit) : Came D0 (Maps.has D0) [] := ⟨List.nodup_nil, (fun p h => by simp at h), (fun p _ => by cases e : Maps.has D0 (plKey p) <;> simp)⟩
theorem Came.step {D0 : DataW Unit} {left : Lit → Bool} {ps : List Pl} (h : Came D0 left ps) {p : Pl} (hp : In p) (hlk : left (plKey p) = true) (hh : Maps.has D0 (plKey p) = true) : Came D0 (struck left (plKey p)) (ps ++ [p]) := by
  obtain ⟨h1, h2, h3⟩ := h
  refine ⟨?_, fun q hq => ?_, fun q hq => ?_⟩
  · rw [List.nodup_append]
    refine ⟨h1, by simp, fun q hq r hr => ?_⟩
    simp at hr
    subst hr
    intro e
    subst e
    have := ((h3 q hp).1 hq).2
    rw [hlk] at this
    cases this
  · rcases List.mem_append.1 hq with h | h
    · exact h2 q h
    · simp at h; subst h; exact hp
  · rw [List.mem_append, h3 q hq]
    by_cases e : q = p
    · subst e
      rw [struck_self hq]
      simp [hh]
    · rw [struck_other hp hq e]
      simp [e]
theorem Came.all {D0 : DataW Unit} {left : Lit → Bool} {ps : List Pl} (h : Came D0 left ps) (hl : ∀ kl, left kl = false) : AllOf D0 ps := ⟨h.1, h.2.1, fun p hp => by rw [h.2.2 p hp, hl]; simp⟩
set_option maxHeartbeats 4000000 in
theorem keys_c (mb : Option Nat) (n : Nat) (w : World) : CallsIn Fence.wide n Tryd.prog 27 #[.map mb] w fun e w' => e = .returned (.func (.func 40) #[] #[.pointer (some ⟨w.heap.size, 0, none⟩)]) ∧ w' = w.alloc (.cells #[.map mb] 63) := by
  refine callsIn_of_wp Tryd.func27 rfl trivial ?_ rfl
  simp only [Tryd.ntmps27, List.size_toArray, List.length_cons, List.length_nil, Nat.reduceAdd, Nat.reduceSub, Array.replicate_succ, Array.replicate_zero, List.push_toArray, List.append_toArray, List.nil_append, List.cons_append]
  gi_wp2
  go_ret
  exact ⟨rfl, rfl⟩
set_option maxHeartbeats 8000000 in
theorem keys1_in (n : Nat) (hn : 1 ≤ n) (l Bm b nn : Nat) (D0 : DataW Unit) (hK : Keys D0) (J : List Pl → World → Prop)
    (hY : ∀ pre p W, J pre W → pre.length < Maps.size D0 → YieldAt Fence.wide (n - 1) Tryd.prog l #[plV p] W fun e W' => e = .returned (.bool true) ∧ J (pre ++ [p]) W' ∧ KeepsWalks W W')
    (W : World) (hJ : AbidesFrom W.heap.size J) (hm : W.cell? ⟨Bm, 0, none⟩ = some (.map (some b))) (hown : owns W b nn D0) (h0 : J [] W) :
    CallsIn Fence.wide n Tryd.prog 40 #[.func (.yield l) #[] #[], .pointer (some ⟨Bm, 0, none⟩)] W fun e W' => (∃ v, e = .returned v) ∧ ∃ ps : List Pl, AllOf D0 ps ∧ J ps W' := by
  refine callsIn_of_wp Tryd.func40 rfl trivial ?_ rfl
  simp only [Tryd.ntmps40, List.size_toArray, List.length_cons, List.length_nil, Nat.reduceAdd, Nat.reduceSub, Array.replicate_succ, Array.replicate_zero, List.push_toArray, List.append_toArray, List.nil_append, List.cons_append]
  gi_wp2_with (first
    | (gi_at_range; refine wpListIn_range_own _ rfl _ 63 rfl 69 67 pl_law Tryd.underlying63 secR b nn _ rfl hown ?_; intro w0 hrg0 hg0 hs0)
    | gi_in)
  go_frame
  gi_loopw [3] (fun _ wr => ∃ (left : Lit → Bool) (cnt : Nat) (ps : List Pl), rng wr b W.heap.size nn D0 left cnt ∧ ps.length + cnt ≤ Maps.size D0 ∧ Came D0 left ps ∧ J ps wr)
    (fun _ wr => wr.rangeLeft b W.heap.size)
  case atStart =>
    exact ⟨_, _, [], hrg0, by simp, Came.start D0, hJ [] W w0 none h0 hg0 (fun r e => by cases e)⟩
  case round =>
    obtain ⟨left, cnt, ps, hrg, hcs, hC, hJs⟩ := hrel
    gi_wp2_with (first
      | (gi_at_next; refine wpListIn_next_ranges _ rfl _ rfl 69 pl_law secR (id : Value → Value) (id : Value → Value) (fun key kl _ => ⟨key, rfl⟩) (fun v y _ => ⟨v, rfl⟩) b W.heap.size nn _ _ _ rfl hrg ?_ ?_)
      | gi_in)
    · intro hc0 hl0
      have HC := Asd.mk hC
      have HL := Asd.mk hl0
      clear hC hl0
      gi_wp2
      go_end0
      exact ⟨⟨_, rfl⟩, ps, HC.out.all HL.out, hJs⟩
    · intro x c kl yd yp w2 cnt2 hkey hlk hv hat hrg2 hlt hg2 hs2 hen
      obtain ⟨p, hin, rfl⟩ := hK kl (rng_has hrg hlk)
      obtain rfl : x = plV p := pl_law.inj hkey (pl_key p hin.wf)
      have hh := rng_has hrg hlk
      have HC := Asd.mk (hC.step hin hlk hh)
      have hJ2 : J ps w2 := hJ ps wr w2 (some W.heap.size) hJs hg2 (fun r e => by cases e; exact ⟨Nat.le_refl _, hrg.iter_walk⟩)
      have HR := Asd.mk hrg
      have HR2 := Asd.mk hrg2
      have HT := Asd.mk hlt
      have hcs2 : Asd ((ps ++ [p]).length + cnt2 ≤ Maps.size D0) := ⟨by simp; omega⟩
      have hlen : ps.length < Maps.size D0 := by omega
      clear hkey hlk hv hat hrg hrg2 hlt hg2 hs2 hh hcs hC
      unfold plV at hen
      have hJ3 : J ps (w2.alloc (Obj.cells #[Value.int IntKind.i64 p.fst, Value.int IntKind.i64 p.snd] 69)) := hJ ps w2 _ none hJ2 (World.grownBy_alloc w2 _ none) (fun r e => by cases e)
      obtain ⟨fn, tmps, assign, body, hy, hR⟩ := hY ps p _ hJ3 hlen
      unfold plV at hy
      have HW := Asd.mk (KeepsWalks.alloc w2 (Obj.cells #[Value.int IntKind.i64 p.fst, Value.int IntKind.i64 p.snd] 69))
      gi_wp2
      refine hR.mono ?_
      rintro e W3 ⟨rfl, hJ4, hk3⟩
      have HK := Asd.mk (HW.out.trans hk3)
      clear hk3
      gi_wp2
      have hrg3 := HR2.out.of_walks HK.out
      go_roundw
      case rel => exact ⟨_, cnt2, ps ++ [p], hrg3, hcs2.out, HC.out, hJ4⟩
      case measure => rw [hrg3.left_eq, HR.out.left_eq]; exact HT.out
/-- maps.Keys hands back what tells all the places. -/
theorem keys_gives (n : Nat) (hn : 1 ≤ n) (Bm b nn : Nat) (D0 : DataW Unit) (hK : Keys D0) (w : World) (hBm : Bm < w.heap.size) (hm : w.cell? ⟨Bm, 0, none⟩ = some (.map (some b))) (hown : owns w b nn D0) :
    SeqGives Fence.wide n Tryd.prog 40 #[.pointer (some ⟨Bm, 0, none⟩)] plV (AllOf D0) (Maps.size D0) w :=
  fun l J W hW hJ hY h0 => keys1_in n hn l Bm b nn D0 hK J (fun pre p W1 h1 h2 => hY pre p W1 h1 h2) W hJ ((hW.cell (p := ⟨Bm, 0, none⟩) hBm).trans hm) (owns_step hown (hW.block b hown.lt)) h0
end Go.Proofs.YtnfnnfbcafepkaaDoor.Dk
