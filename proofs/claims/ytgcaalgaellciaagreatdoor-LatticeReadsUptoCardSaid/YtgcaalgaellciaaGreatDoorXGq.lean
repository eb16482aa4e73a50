/- The parts of a text between its blanks, as a loop over strings.SplitSeq tells them: a loop's law where what is ranged over keeps its place in a variable of its own, and the walk of strings.SplitSeq's function. -/
import Derived.Test.YtgcaalgaellciaaGreatDoorProg
import Derived.Test.YtgcaalgaellciaaGreatDoorWWords
import Derived.RangeFuncNested
import Derived.RangeFuncBound
import Derived.RangeFuncCalls
import Derived.RangeFuncLeaves
import Derived.RangeFuncBox
import Derived.Shelf.Abstract
import Derived.Shelf.RegionOpen
import Derived.WalkKit
import Derived.OwnWalkIn
import Derived.TacticsInMore
import Derived.LoopNIn
import Derived.LoopIn
import Derived.Maps.AppendAt
import Derived.Lib.IndexBytes
namespace Go.Proofs.YtgcaalgaellciaaGreatDoor.Rng
open Go.RowKit Go.Shelf Go.Proofs.YtgcaalgaellciaaGreatDoorW.PrintWords
set_option linter.unusedVariables false
set_option linter.unusedSimpArgs false
attribute [local go_sem] Oper.semAt_some
/-- A text's parts between its blanks. -/
def cut : List UInt8 → List (List UInt8)
  | [] => [[]]
  | b :: s => if b = 32 then [] :: cut s else match cut s with
    | [] => [[b]]
    | p :: r => (b :: p) :: r
theorem cut_none : ∀ s : List UInt8, Lib.indexByte s 32 < 0 → cut s = [s]
  | [], _ => rfl
  | b :: s, h => by
    have hge := Lib.indexByte_ge s 32
    unfold Lib.indexByte at h
    by_cases hb : (b == 32) = true
    · rw [if_pos hb] at h; omega
    · rw [if_neg hb] at h
      have hs : Lib.indexByte s 32 < 0 := by
        split at h
        · rename_i h2
          have h3 : Lib.indexByte s 32 = -1 := by simpa using h2
          omega
        · omega
      have hb2 : b ≠ 32 := by simpa using hb
      unfold cut
      rw [if_neg hb2, cut_none s hs]
theorem cut_some : ∀ (s : List UInt8) (i : Nat), Lib.indexByte s 32 = i → i < s.length ∧ cut s = s.take i :: cut (s.drop (i + 1))
  | [], i, h => by unfold Lib.indexByte at h; omega
  | b :: s, i, h => by
    have hge := Lib.indexByte_ge s 32
    unfold Lib.indexByte at h
    by_cases hb : (b == 32) = true
    · rw [if_pos hb] at h
      have hb2 : b = 32 := by simpa using hb
      obtain rfl : i = 0 := by omega
      have h3 : cut (b :: s) = [] :: cut s := by
        show (if b = 32 then [] :: cut s else match cut s with | [] => [[b]] | p :: r => (b :: p) :: r) = _
        rw [if_pos hb2]
      exact ⟨by simp, by rw [h3]; rfl⟩
    · rw [if_neg hb] at h
      have hb2 : b ≠ 32 := by simpa using hb
      split at h
      · omega
      · rename_i h2
        have h3 : Lib.indexByte s 32 ≠ -1 := by simpa using h2
        obtain ⟨j, rfl⟩ : ∃ j, i = j + 1 := ⟨i - 1, by omega⟩
        obtain ⟨h1, h2⟩ := cut_some s j (by omega)
        refine ⟨by simp; omega, ?_⟩
        show (if b = 32 then [] :: cut s else match cut s with | [] => [[b]] | p :: r => (b :: p) :: r) = _
        rw [if_neg hb2, h2]
        rfl
def parts (s : ByteArray) : List ByteArray := (cut s.data.toList).map fun l => ⟨l.toArray⟩
/-- The three variables that the function ranged over has of its own stay. -/
def Keep3 (lo : Nat) (A B : World) : Prop := ∀ k, lo ≤ k → k < lo + 3 → B.heap[k]? = A.heap[k]?
/-- They, the loop's record and what it defers stay. -/
def Keep5 (lo : Nat) (A B : World) : Prop := ∀ k, lo ≤ k → k < lo + 5 → B.heap[k]? = A.heap[k]?
/-- What a round ends in. -/
def roundEnd (lo : Nat) (I Ix : List ByteArray → World → Prop) (pre : List ByteArray) (A : World) : Exit → Act → World → Prop
  | .normal, _, B => Keep5 lo A B ∧ I pre B
  | .ret, _, B => Keep5 lo A B ∧ Ix pre B
  | _, _, _ => False
/-- A loop over a function whose variables are the blocks lo to lo + 2, the last ones ahead of the loop: it may write the first of them. -/
theorem range_law {P : Program} {n : Nat} {g : Operand} {ps : Array Tmp} {assign body : Code} {Q : Exit → Act → World → Prop} {a : Act} {w : World} (gf lo : Nat) (lb : Array Value) (hsz : w.heap.size = lo + 3) (hg : a.eval g = .func (.func gf) #[] lb)
    (eg : ∀ args w, (callFunc gf args).run P w = .ok (.enter gf args) w) (encs : ByteArray → Array Value) (hps : ∀ x, (encs x).size = ps.size) (xs : List ByteArray)
    (hit : ∀ (J Jx : List ByteArray → World → Prop) (W : World), (∀ pre A B, J pre A → A.grownBy B (some lo) → J pre B) → (∀ pre A B, Jx pre A → A.grownBy B (some lo) → Jx pre B) →
      (∀ pre x A, x ∈ xs → pre.length < xs.length → J pre A → YieldAt Fence.wide (n - 1 - 1) P (lo + 4) (encs x) A fun e B => (e = .returned (.bool true) ∧ J (pre ++ [x]) B ∧ Keep3 lo A B) ∨ (e = .returned (.bool false) ∧ Jx (pre ++ [x]) B)) →
      (∀ k, lo ≤ k → k < lo + 3 → W.heap[k]? = w.heap[k]?) → J [] W →
      CallsIn Fence.wide (n - 1) P gf (#[.func (.yield (lo + 4)) #[] #[]] ++ lb) W fun e W' => (∃ v, e = .returned v) ∧ (J xs W' ∨ ∃ pre, Jx pre W'))
    (I Ix : List ByteArray → World → Prop) (hI : ∀ pre A B k, (k = lo ∨ k = lo + 4) → I pre A → A.grownBy B (some k) → I pre B) (hIx : ∀ pre A B k, (k = lo ∨ k = lo + 4) → Ix pre A → A.grownBy B (some k) → Ix pre B)
    (h0 : ∀ B, w.grownBy B none → lo + 5 ≤ B.heap.size → I [] B) (a₁ : ByteArray → Act)
    (hassign : ∀ (x : ByteArray) (W : World) (K : Act → World → Prop), K (a₁ x) W →
      assign.wpIn (Fence.wide.inRound (lo + 4)) (n - 1 - 1) P (Exit.then K (fun _ _ _ => False)) { tmps := (ps.zip (encs x)).foldl (fun t (p, v) => t.setIfInBounds p v) a.tmps, defers := [] } W)
    (hbody : ∀ (pre : List ByteArray) (x : ByteArray) (W : World), x ∈ xs → pre.length < xs.length → I pre W → lo + 4 < W.heap.size → body.wpIn (Fence.wide.inRound (lo + 4)) (n - 1 - 1) P (roundEnd lo I Ix (pre ++ [x]) W) (a₁ x) W)
    (hdone : ∀ W : World, I xs W → W.heap[lo + 3]? = some (.deferred (some [])) → Q .normal { a with defers := { target := .collected (lo + 3), args := #[] } :: a.defers } W)
    (hstop : ∀ (pre : List ByteArray) (W : World), Ix pre W → W.heap[lo + 3]? = some (.deferred (some [])) → Code.ret.wpIn Fence.wide n P Q { a with defers := { target := .collected (lo + 3), args := #[] } :: a.defers } W) :
    (Code.rangeFunc g ps assign body).wpIn Fence.wide n P Q a w := by
  refine wpIn_rangeFunc fun fn hfn => ?_
  obtain ⟨rc, hrc⟩ : ∃ rc : LoopState → Option Code → Loop, rc = fun st pe => { state := st, pending := pe, fn, tmps := a.tmps, params := ps, assign, body, defers := w.heap.size } := ⟨_, rfl⟩
  obtain ⟨V, hV⟩ : ∃ V, V = (w.alloc (.deferred (some []))).alloc (.loop (rc .ready none)) := ⟨_, rfl⟩
  have hgr : w.grownBy V none := by rw [hV]; exact (World.grownBy_alloc w _ none).trans (World.grownBy_alloc _ _ none)
  have hVL : V.heap[lo + 4]? = some (.loop (rc .ready none)) := by
    have h := World.alloc_heap_new (w.alloc (.deferred (some []))) (.loop (rc .ready none))
    rw [World.size_alloc, hsz] at h
    rw [hV]
    exact h
  have hVK : V.heap[lo + 3]? = some (.deferred (some [])) := by
    have h := World.alloc_heap_new w (.deferred (some []))
    rw [hsz] at h
    rw [hV]
    exact (Below.heap_alloc _ _ _ (by simp; omega)).trans h
  have hold : ∀ k, k < lo + 3 → V.heap[k]? = w.heap[k]? := fun k hk => hgr.block k (by omega) (by simp)
  have other : ∀ {A B : World} {k j : Nat} {o : Obj}, A.grownBy B (some j) → A.heap[k]? = some o → k ≠ j → B.heap[k]? = some o := fun hb hk hne => (hb.block _ (Array.getElem?_eq_some_iff.1 hk).1 (fun e => hne (Option.some.inj e))).trans hk
  refine ⟨lo + 4, [{ target := .collected (lo + 3), args := #[] }], V, { target := .fn (.func gf) lb, args := #[.func (.yield (lo + 4)) #[] #[]] }, V, gf, #[.func (.yield (lo + 4)) #[] #[]] ++ lb, V, ?_, ?_, fun _ _ => trivial, ?_, fun h => by simp [Fence.wide] at h, ?_⟩
  · have h := run_enterLoop_outer (P := P) (w := w) fn a.tmps ps assign body
    rw [hsz] at h
    rw [hV, hrc, hsz]
    exact h
  · simp only [resolve, hg]
    simp [go_sem]
  · simp [invoke, go_sem, eg]
  · refine (hit (fun pre A => I pre A ∧ A.heap[lo + 4]? = some (.loop (rc .ready none)) ∧ A.heap[lo + 3]? = some (.deferred (some []))) (fun pre A => Ix pre A ∧ A.heap[lo + 4]? = some (.loop (rc .done (some .ret))) ∧ A.heap[lo + 3]? = some (.deferred (some []))) V
      (fun pre A B h hb => ⟨hI pre A B lo (.inl rfl) h.1 hb, other hb h.2.1 (by omega), other hb h.2.2 (by omega)⟩) (fun pre A B h hb => ⟨hIx pre A B lo (.inl rfl) h.1 hb, other hb h.2.1 (by omega), other hb h.2.2 (by omega)⟩) ?_ (fun k _ hk => hold k hk) ⟨h0 V hgr (Array.getElem?_eq_some_iff.1 hVL).1, hVL, hVK⟩).mono ?_
    · rintro pre x A hmem hplen ⟨hi, hl, hk⟩
      have hy := run_yield (P := P) (args := encs x) hl (by rw [hrc]; exact hps x)
      rw [hrc] at hy
      refine ⟨fn, _, assign, body, hy, roundIn_of_wpIn hfn (hassign x A _ ⟨_, run_beginRound hl (by rw [hrc]), ?_⟩)⟩
      have hlt : lo + 4 < A.heap.size := (Array.getElem?_eq_some_iff.1 hl).1
      have hA := grownBy_putObj' A (lo + 4) (.loop { rc .ready none with state := .busy })
      have hl2 : (A.putObj (lo + 4) (.loop { rc .ready none with state := .busy })).heap[lo + 4]? = some (.loop { rc .ready none with state := .busy }) := World.putObj_heap_same hlt
      generalize A.putObj (lo + 4) (.loop { rc .ready none with state := .busy }) = A1 at hA hl2 ⊢
      have hk2 := other hA hk (by omega)
      refine wpIn_mono (hbody pre x A1 hmem hplen (hI pre A A1 _ (.inr rfl) hi hA) (Array.getElem?_eq_some_iff.1 hl2).1) ?_
      have fin : ∀ (jump : Option Code) (B : World), Keep5 lo A1 B → (Instr.endRound (lo + 4) jump).run P B = .ok (.bool jump.isNone) (B.putObj (lo + 4) (.loop (rc (if jump.isNone then .ready else .done) jump))) ∧ B.grownBy (B.putObj (lo + 4) (.loop (rc (if jump.isNone then .ready else .done) jump))) (some (lo + 4)) ∧
          (B.putObj (lo + 4) (.loop (rc (if jump.isNone then .ready else .done) jump))).heap[lo + 4]? = some (.loop (rc (if jump.isNone then .ready else .done) jump)) ∧ (B.putObj (lo + 4) (.loop (rc (if jump.isNone then .ready else .done) jump))).heap[lo + 3]? = some (.deferred (some [])) := fun jump B hB => by
        have hl3 := (hB (lo + 4) (by omega) (by omega)).trans hl2
        have hk3 := (hB (lo + 3) (by omega) (by omega)).trans hk2
        have h := run_endRound (P := P) jump hl3
        rw [hrc] at h ⊢
        exact ⟨h, grownBy_putObj' _ _ _, World.putObj_heap_same (Array.getElem?_eq_some_iff.1 hl3).1, (World.putObj_heap_other (by omega)).trans hk3⟩
      have k3 : ∀ {B C : World}, Keep5 lo A1 B → B.grownBy C (some (lo + 4)) → (∀ k, k < lo + 3 → lo ≤ k → k < B.heap.size) → Keep3 lo A C := fun hB hC hlt k h1 h2 =>
        (hC.block k (hlt k h2 h1) (fun e => by have := Option.some.inj e; omega)).trans ((hB k h1 (by omega)).trans (hA.block k (by omega) (fun e => by have := Option.some.inj e; omega)))
      rintro e a3 B hp
      cases e with
      | normal =>
        obtain ⟨hB, hi3⟩ := hp
        obtain ⟨hr, hgB, hl4, hk4⟩ := fin none B hB
        have hsB : lo + 4 < B.heap.size := (Array.getElem?_eq_some_iff.1 ((hB (lo + 4) (by omega) (by omega)).trans hl2)).1
        exact ⟨_, _, hr, .inl ⟨rfl, ⟨hI _ _ _ _ (.inr rfl) hi3 hgB, hl4, hk4⟩, k3 hB hgB (fun k _ _ => by omega)⟩⟩
      | ret =>
        obtain ⟨hB, hi3⟩ := hp
        obtain ⟨hr, hgB, hl4, hk4⟩ := fin (some .ret) B hB
        exact ⟨_, _, hr, .inr ⟨rfl, hIx _ _ _ _ (.inr rfl) hi3 hgB, hl4, hk4⟩⟩
      | exit id => exact hp.elim
      | goto t => exact hp.elim
      | panic ch => exact hp.elim
      | outgrown => exact hp.elim
    · rintro e B ⟨⟨v, rfl⟩, (⟨hi, hl, hk⟩ | ⟨pre, hi, hl, hk⟩)⟩
      · have h := run_endLoop (P := P) hl (by rw [hrc]; simp)
        rw [hrc] at h
        exact ⟨none, _, h, hdone _ (hI _ _ _ _ (.inr rfl) hi (grownBy_putObj' _ _ _)) ((World.putObj_heap_other (by omega)).trans hk)⟩
      · have h := run_endLoop (P := P) hl (by rw [hrc]; simp)
        rw [hrc] at h
        exact ⟨some .ret, _, h, hstop pre _ (hIx _ _ _ _ (.inr rfl) hi (grownBy_putObj' _ _ _)) ((World.putObj_heap_other (by omega)).trans hk)⟩
theorem upto_ (s : ByteArray) (a : Nat) : (s.extract 0 a).data.toList = s.data.toList.take a := by
  rw [ByteArray.data_extract, Array.toList_extract]
  simp
theorem from_ (s : ByteArray) (a : Nat) : (s.extract a s.size).data.toList = s.data.toList.drop a := by
  rw [ByteArray.data_extract, Array.toList_extract]
  have h : s.size = s.data.toList.length := (Array.length_toList).symm
  rw [h, List.extract_eq_take_drop, ← List.length_drop, List.take_length]
theorem parts_none (s : ByteArray) (h : Lib.indexByte s.data.toList 32 < 0) : parts s = [s] := by
  unfold parts
  rw [cut_none _ h]
  rfl
theorem parts_some (s : ByteArray) (i : Nat) (h : Lib.indexByte s.data.toList 32 = i) : i < s.size ∧ parts s = s.extract 0 i :: parts (s.extract (i + 1) s.size) := by
  obtain ⟨h1, h2⟩ := cut_some _ i h
  have hs : s.data.toList.length = s.size := Array.length_toList
  refine ⟨by omega, ?_⟩
  unfold parts
  rw [h2, from_, List.map_cons]
  congr 1
  apply ByteArray.ext
  apply Array.toList_inj.1
  rw [upto_]
/-- How much is still to be told, read off the world. -/
def left (lo : Nat) (W : World) : Nat := match W.cell? ⟨lo, 0, none⟩ with
  | some (.string t) => t.size
  | _ => 0
theorem left_eq {lo : Nat} {W : World} {t : ByteArray} (h : W.cell? ⟨lo, 0, none⟩ = some (.string t)) : left lo W = t.size := by unfold left; rw [h]
/-- What the text of one blank is looked for with. -/
def Finds : Prop := ∀ (s : ByteArray) (W : World), s.size ≤ 281474976710656 → Calls Tryz.prog 69 #[.string s, .string (⟨#[32]⟩ : ByteArray)] W fun e w' => e = .returned (.int .i64 (Lib.indexByte s.data.toList 32)) ∧ ∃ q, w' = W.drewN q
theorem grown_below {W B : World} (b : Below W.heap.size W B) (r : Option Nat) : W.grownBy B r := ⟨b.os, b.tape, b.output, b.size, fun k hk _ => b.block k hk⟩
theorem grown_drewN (W : World) (q : Nat) : W.grownBy (W.drewN q) none := grown_below (pw_below_drewN (Below.refl W.heap.size W) q) none
theorem index_in (hF : Finds) (s : ByteArray) (hs : s.size ≤ 281474976710656) (W : World) : Calls Tryz.prog 54 #[.string s, .string (⟨#[32]⟩ : ByteArray)] W fun e w' => e = .returned (.int .i64 (Lib.indexByte s.data.toList 32)) ∧ W.grownBy w' none := by
  go_enter Tryz.func54, Tryz.ntmps54
  go_wp2_with (go_at_call 69; refine (hF s _ hs).mono ?_; rintro e w' ⟨rfl, q, rfl⟩)
  go_ret
  exact ⟨rfl, grown_drewN _ q⟩
theorem keep_box {lo k : Nat} {A B : World} {t : TypeId} {v : Value} (h : Boxed A k t v) (hK : Keep3 lo A B) (h1 : lo ≤ k) (h2 : k < lo + 3) : Boxed B k t v := (hK k h1 h2).trans h
theorem grown_box {r : Option Nat} {k : Nat} {A B : World} {t : TypeId} {v : Value} (h : Boxed A k t v) (hg : A.grownBy B r) (hne : some k ≠ r) : Boxed B k t v := (hg.block k h.lt hne).trans h
theorem grown_some {A B : World} (h : A.grownBy B none) (r : Option Nat) : A.grownBy B r := ⟨h.os, h.tape, h.output, h.size, fun k hk _ => h.block k hk (by simp)⟩
set_option maxHeartbeats 8000000 in
set_option maxRecDepth 100000 in
/-- The function that strings.SplitSeq hands back, at a blank: each part between the blanks, in order. -/
theorem split_in (hF : Finds) (m l lo : Nat) (hm : 1 ≤ m) (s : ByteArray) (hs : s.size ≤ 281474976710656) (J Jx : List ByteArray → World → Prop) (hJ : ∀ pre A B, J pre A → A.grownBy B (some lo) → J pre B) (hJx : ∀ pre A B, Jx pre A → A.grownBy B (some lo) → Jx pre B)
    (hY : ∀ pre x A, x ∈ parts s → pre.length < (parts s).length → J pre A → YieldAt Fence.wide (m - 1) Tryz.prog l #[.string x] A fun e B => (e = .returned (.bool true) ∧ J (pre ++ [x]) B ∧ Keep3 lo A B) ∨ (e = .returned (.bool false) ∧ Jx (pre ++ [x]) B))
    (W : World) (b0 : Boxed W lo 9 (.string s)) (b1 : Boxed W (lo + 1) 9 (.string (⟨#[32]⟩ : ByteArray))) (b2 : Boxed W (lo + 2) 3 (.int .i64 0)) (h0 : J [] W) :
    CallsIn Fence.wide m Tryz.prog 52 #[.func (.yield l) #[] #[], .pointer (some ⟨lo + 1, 0, none⟩), .pointer (some ⟨lo, 0, none⟩), .pointer (some ⟨lo + 2, 0, none⟩)] W fun e W' => (∃ v, e = .returned v) ∧ (J (parts s) W' ∨ ∃ pre, Jx pre W') := by
  have c0 := b0.cell
  have c1 := b1.cell
  have c2 := b2.cell
  refine callsIn_of_wp Tryz.func52 rfl trivial ?_ rfl
  simp only [Tryz.ntmps52, List.size_toArray, List.length_cons, List.length_nil, Nat.reduceAdd, Nat.reduceSub, Array.replicate_succ, Array.replicate_zero, List.push_toArray, List.append_toArray, List.nil_append, List.cons_append]
  have hne : ((⟨#[32]⟩ : ByteArray).size : Int) = 1 := rfl
  gi_wp2
  gi_loopw [7, 8] (fun v7 v8 wr => ∃ (pre : List ByteArray) (rest : ByteArray), Boxed wr lo 9 (.string rest) ∧ Boxed wr (lo + 1) 9 (.string (⟨#[32]⟩ : ByteArray)) ∧ Boxed wr (lo + 2) 3 (.int .i64 0) ∧ pre ++ parts rest = parts s ∧ rest.size ≤ 281474976710656 ∧ J pre wr) (fun v7 v8 wr => left lo wr)
  case atStart => exact ⟨[], s, b0, b1, b2, rfl, hs, h0⟩
  case round =>
    have t1 : Fence.wide.fn 54 := trivial
    obtain ⟨pre, rest, d0, d1, d2, hp, hsz, hj⟩ := hrel
    have e0 := d0.cell
    have e1 := d1.cell
    have e2 := d2.cell
    have hIx := index_in hF rest hsz wr
    have hprt := parts_none rest
    have hprs := parts_some rest
    have hge := Lib.indexByte_ge rest.data.toList 32
    generalize Lib.indexByte rest.data.toList 32 = x at hIx hprt hprs hge
    by_cases hx : x < 0
    · have hd : decide (x < 0) = true := decide_eq_true hx
      have hps := hprt hx
      clear hprt hprs hge b0 b1 b2 c0 c1 c2 hx
      gi_wp2_with (gi_at_call 54; refine (callsIn_wide.2 hIx).mono ?_; rintro e w1 ⟨rfl, hg⟩; have f0 := (grown_box d0 hg (by simp)).cell; have f1 := (grown_box d1 hg (by simp)).cell; have f2 := (grown_box d2 hg (by simp)).cell; obtain ⟨fn, tmps, assign, body, hy, hR⟩ := hY pre rest w1 (by rw [← hp, hps]; simp) (by rw [← hp, hps]; simp) (hJ _ _ _ hj (grown_some hg _)))
      refine hR.mono ?_
      rintro e W3 (⟨rfl, hJ3, hk3⟩ | ⟨rfl, hJx3⟩)
      · gi_wp2
        go_end0
        exact ⟨⟨_, rfl⟩, .inl (by rw [← hp, hps]; exact hJ3)⟩
      · gi_wp2
        go_end0
        exact ⟨⟨_, rfl⟩, .inr ⟨_, hJx3⟩⟩
    · obtain ⟨i, rfl⟩ : ∃ i : Nat, x = i := ⟨x.toNat, by omega⟩
      obtain ⟨hlt, hps⟩ := hprs i rfl
      have hd : decide ((i : Int) < 0) = false := decide_eq_false hx
      clear hprt hprs hge b0 b1 b2 c0 c1 c2
      have p1 : (0 ≤ (i : Int)) = True := eq_true (by omega)
      have p2 : ((i : Int) ≤ (rest.size : Int)) = True := eq_true (by omega)
      have p3 : wrap64 ((i : Int) + 0) = (i : Int) := by unfold wrap64; omega
      have p4 : wrap64 ((i : Int) + 1) = ((i + 1 : Nat) : Int) := by unfold wrap64; omega
      have p5 : (0 ≤ ((i + 1 : Nat) : Int)) = True := eq_true (by omega)
      have p6 : (((i + 1 : Nat) : Int) ≤ (rest.size : Int)) = True := eq_true (by omega)
      gi_wp2_with (gi_at_call 54; refine (callsIn_wide.2 hIx).mono ?_; rintro e w1 ⟨rfl, hg⟩; have f0 := (grown_box d0 hg (by simp)).cell; have f1 := (grown_box d1 hg (by simp)).cell; have f2 := (grown_box d2 hg (by simp)).cell; obtain ⟨fn, tmps, assign, body, hy, hR⟩ := hY pre (rest.extract 0 i) w1 (by rw [← hp, hps]; simp) (by rw [← hp, hps]; simp) (hJ _ _ _ hj (grown_some hg _)))
      refine hR.mono ?_
      rintro e W3 (⟨rfl, hJ3, hk3⟩ | ⟨rfl, hJx3⟩)
      · have g0 := keep_box (grown_box d0 hg (by simp)) hk3 (Nat.le_refl _) (by omega)
        have g1 := keep_box (grown_box d1 hg (by simp)) hk3 (by omega) (by omega)
        have g2 := keep_box (grown_box d2 hg (by simp)) hk3 (by omega) (by omega)
        have k0 := g0.cell
        have k1 := g1.cell
        have k2 := g2.cell
        have kf := g0.frozen
        gi_wp2
        go_roundw
        case rel =>
          have hg3 := grownBy_setCell' W3 lo (.string (rest.extract (i + 1) rest.size))
          refine ⟨pre ++ [rest.extract 0 i], rest.extract (i + 1) rest.size, g0.set _, grown_box g1 hg3 (fun e_ => by have := Option.some.inj e_; omega), grown_box g2 hg3 (fun e_ => by have := Option.some.inj e_; omega), ?_, ?_, hJ _ _ _ hJ3 hg3⟩
          · rw [← hp, hps]; simp
          · rw [ByteArray.size_extract]; omega
        case measure =>
          rw [left_eq (g0.set (.string (rest.extract (i + 1) rest.size))).cell, left_eq e0, ByteArray.size_extract]
          omega
      · gi_wp2
        refine bodyPost_ret (results_none rfl _ _ _) rfl ?_
        exact ⟨⟨_, rfl⟩, .inr ⟨_, hJx3⟩⟩
theorem seq_calls (s : ByteArray) (w : World) : Calls Tryz.prog 18 #[.string s, .string (⟨#[32]⟩ : ByteArray)] w fun e w' => e = .returned (.func (.func 52) #[] #[.pointer (some ⟨w.heap.size + 1, 0, none⟩), .pointer (some ⟨w.heap.size, 0, none⟩), .pointer (some ⟨w.heap.size + 2, 0, none⟩)]) ∧
    w' = ((w.alloc (.cells #[.string s] 9)).alloc (.cells #[.string (⟨#[32]⟩ : ByteArray)] 9)).alloc (.cells #[.int .i64 0] 3) := by
  have h : Calls Tryz.prog 31 #[.string s, .string (⟨#[32]⟩ : ByteArray), .int .i64 0] w fun e w' => e = .returned (.func (.func 52) #[] #[.pointer (some ⟨w.heap.size + 1, 0, none⟩), .pointer (some ⟨w.heap.size, 0, none⟩), .pointer (some ⟨w.heap.size + 2, 0, none⟩)]) ∧
      w' = ((w.alloc (.cells #[.string s] 9)).alloc (.cells #[.string (⟨#[32]⟩ : ByteArray)] 9)).alloc (.cells #[.int .i64 0] 3) := by
    go_enter Tryz.func31, Tryz.ntmps31
    go_wp2
    go_ret
    exact ⟨rfl, rfl⟩
  go_enter Tryz.func18, Tryz.ntmps18
  go_wp2_with (go_at_call 31; refine h.mono ?_; rintro e w' ⟨rfl, rfl⟩)
  go_ret
  exact ⟨rfl, rfl⟩
theorem cut_length : ∀ s : List UInt8, (cut s).length ≤ s.length + 1
  | [] => by simp [cut]
  | b :: s => by
    have h := cut_length s
    show (if b = 32 then [] :: cut s else match cut s with | [] => [[b]] | p :: r => (b :: p) :: r).length ≤ _
    split
    · simp; omega
    · split
      · simp
      · rename_i p r hpr
        rw [hpr] at h
        simp at h ⊢
        omega
theorem cut_size : ∀ (s : List UInt8) (p : List UInt8), p ∈ cut s → p.length ≤ s.length
  | [], p, h => by simp [cut] at h; subst h; simp
  | b :: s, p, h => by
    have ih := cut_size s
    have h2 : p ∈ (if b = 32 then [] :: cut s else match cut s with | [] => [[b]] | p :: r => (b :: p) :: r) := h
    split at h2
    · rcases List.mem_cons.1 h2 with rfl | h3
      · simp
      · have := ih p h3; simp; omega
    · split at h2
      · simp at h2; subst h2; simp
      · rename_i q r hqr
        rw [hqr] at ih
        rcases List.mem_cons.1 h2 with rfl | h3
        · have := ih q (by simp); simp; omega
        · have := ih p (by simp [h3]); simp; omega
theorem parts_length (s : ByteArray) : (parts s).length ≤ s.size + 1 := by
  have h := cut_length s.data.toList
  have hs : s.data.toList.length = s.size := Array.length_toList
  unfold parts
  rw [List.length_map]
  omega
theorem parts_size (s t : ByteArray) (h : t ∈ parts s) : t.size ≤ s.size := by
  unfold parts at h
  obtain ⟨p, hp, rfl⟩ := List.mem_map.1 h
  have := cut_size _ p hp
  have hs : s.data.toList.length = s.size := Array.length_toList
  have ht : (⟨p.toArray⟩ : ByteArray).size = p.length := by simp [ByteArray.size]
  omega
/-- A label's cells, as what is told of its text says. -/
def labCells (pf : ByteArray → Int × Int × Option Int) (pre : List ByteArray) : List Value := pre.flatMap fun t => [.int .i64 (pf t).1, .int .u32 (pf t).2.1]
theorem labCells_snoc (pf : ByteArray → Int × Int × Option Int) (pre : List ByteArray) (x : ByteArray) : labCells pf (pre ++ [x]) = labCells pf pre ++ [.int .i64 (pf x).1, .int .u32 (pf x).2.1] := by simp [labCells]
/-- Between two rounds. -/
def Mid (pf : ByteArray → Int × Int × Option Int) (w : World) (pre : List ByteArray) (W : World) : Prop :=
  ∃ v, (∀ t ∈ pre, (pf t).2.2 = none) ∧ Boxed W w.heap.size 22 (.pointer none) ∧ Boxed W (w.heap.size + 1) 24 .nilIface ∧ Boxed W (w.heap.size + 2) 27 v ∧ W.ownsRow (w.heap.size + 8) 37 2 v pre.length (labCells pf pre) ∧ Below w.heap.size w W ∧ w.heap.size + 8 ≤ W.heap.size
/-- Behind a text that is no label's. -/
def Bad (pf : ByteArray → Int × Int × Option Int) (s : ByteArray) (w : World) (_pre : List ByteArray) (W : World) : Prop :=
  (∃ t ∈ parts s, (pf t).2.2 ≠ none) ∧ Boxed W w.heap.size 22 (.pointer none) ∧ Boxed W (w.heap.size + 1) 24 (.iface 53 (.int .i64 3)) ∧ Below w.heap.size w W
theorem mid_turn (pf : ByteArray → Int × Int × Option Int) (w : World) (pre : List ByteArray) (A B : World) (k : Nat) (hk : k = w.heap.size + 3 ∨ k = w.heap.size + 3 + 4) (h : Mid pf w pre A) (hg : A.grownBy B (some k)) (hc : k = w.heap.size + 3 ∨ True) : Mid pf w pre B := by
  obtain ⟨v, h1, h2, h3, h4, h5, h6, h7⟩ := h
  refine ⟨v, h1, grown_box h2 hg (fun e => by have := Option.some.inj e; omega), grown_box h3 hg (fun e => by have := Option.some.inj e; omega), grown_box h4 hg (fun e => by have := Option.some.inj e; omega), ?_, h6.grown hg h6.size (fun j e => by have := Option.some.inj e; omega), Nat.le_trans h7 hg.size⟩
  refine h5.kept hg ?_
  rcases h5.2 with ⟨rfl, _⟩ | ⟨g, cap, cur, rfl, hb, _⟩
  · exact .inl rfl
  · exact .inr (fun e => by have := Option.some.inj e; simp at this; omega)
theorem bad_turn (pf : ByteArray → Int × Int × Option Int) (s : ByteArray) (w : World) (pre : List ByteArray) (A B : World) (k : Nat) (hk : k = w.heap.size + 3 ∨ k = w.heap.size + 3 + 4) (h : Bad pf s w pre A) (hg : A.grownBy B (some k)) : Bad pf s w pre B := by
  obtain ⟨h1, h2, h3, h6⟩ := h
  exact ⟨h1, grown_box h2 hg (fun e => by have := Option.some.inj e; omega), grown_box h3 hg (fun e => by have := Option.some.inj e; omega), h6.grown hg h6.size (fun j e => by have := Option.some.inj e; omega)⟩
theorem row_grown {W B : World} {base e size n : Nat} {v : Value} {xs : List Value} (h : W.ownsRow base e size v n xs) {r : Option Nat} (hg : W.grownBy B r) (hr : ∀ k, base ≤ k → some k ≠ r) : B.ownsRow base e size v n xs := by
  refine h.kept hg ?_
  rcases h.2 with ⟨rfl, _⟩ | ⟨g, cap, cur, rfl, hb, _⟩
  · exact .inl rfl
  · exact .inr (hr g hb)
theorem row_ne {W : World} {base e size n k : Nat} {v : Value} {xs : List Value} (h : W.ownsRow base e size v n xs) (hk : k < base) : some k ≠ v.ownBlock := by
  rcases h.2 with ⟨rfl, _⟩ | ⟨g, cap, cur, rfl, hb, _⟩
  · simp [Value.ownBlock]
  · intro e_
    have := Option.some.inj e_
    simp at this
    omega
theorem cell_two_new (w : World) (x y : Value) (t : TypeId) : ∀ j u, [x, y][j]? = some u → (w.alloc (.cells #[x, y] t)).cell? ((⟨w.heap.size, 0, none⟩ : Addr).add j) = some u := by
  intro j u hj
  have hh := World.alloc_heap_new w (.cells #[x, y] t)
  match j, hj with
  | 0, hj =>
    obtain rfl := Option.some.inj (show some x = some u from hj)
    exact (blk_cell hh 0).trans rfl
  | 1, hj =>
    obtain rfl := Option.some.inj (show some y = some u from hj)
    exact (blk_cell hh 1).trans rfl
theorem infoL : (Tryz.prog.info? 37).map (fun i => (i.zero, i.size, i.bytes)) = some (some (.agg #[.int .i64 0, .int .u32 0]), 2, 16) := by kernel_rfl
theorem loadVar_one {P : Program} {t : TypeId} {w : World} {g : Nat} {v : Value} (ha : ∀ w, (isAgg t).run P w = .ok false w) (hc : w.cell? ⟨g, 0, none⟩ = some v) : (loadVar t ⟨g, 0, none⟩).run P w = .ok v w := by
  unfold loadVar
  rw [Sem.run_bind, ha w]
  simp [Result.andThen, run_load, hc]
theorem results_two {P : Program} {fn : Func} {p q : Tmp} {t t' : TypeId} (h : fn.results = #[.cell p t, .cell q t']) (tmps : Array Value) (w : World) (g g' : Nat) (v v' : Value) (hp : tmps.getD p undef = .pointer (some ⟨g, 0, none⟩)) (hq : tmps.getD q undef = .pointer (some ⟨g', 0, none⟩))
    (h1 : (loadVar t ⟨g, 0, none⟩).run P w = .ok v w) (h2 : (loadVar t' ⟨g', 0, none⟩).run P w = .ok v' w) : (results fn tmps).run P w = .ok (.tuple #[v, v']) w := by
  have h3 : tmps[p]?.getD undef = .pointer (some ⟨g, 0, none⟩) := by simpa using hp
  have h4 : tmps[q]?.getD undef = .pointer (some ⟨g', 0, none⟩) := by simpa using hq
  simp [results, h, h3, h4, asAddr, h1, h2]
set_option maxHeartbeats 16000000 in
set_option maxRecDepth 100000 in
theorem parse_in (hF : Finds) (pf : ByteArray → Int × Int × Option Int) (ev : ByteArray → Value) (hE0 : ∀ t, (pf t).2.2 = none → ev t = .nilIface) (hE1 : ∀ t, (pf t).2.2 ≠ none → ∃ c, ev t = .iface 53 (.int .i64 c)) (s : ByteArray) (hs : s.size ≤ 1048576) (w : World)
    (hP : ∀ (t : ByteArray) (W : World), t ∈ parts s → Below w.heap.size w W → Calls Tryz.prog 19 #[.string t] W fun e w' => e = .returned (.tuple #[.agg #[.int .i64 (pf t).1, .int .u32 (pf t).2.1], ev t]) ∧ Below W.heap.size W w')
    (R : Value → World → Prop) (er : Value) (her : er = .nilIface ∨ ∃ c, er = .iface 53 (.int .i64 c)) (hN : ∀ (v : Value) (W : World), (∀ t ∈ parts s, (pf t).2.2 = none) → Below w.heap.size w W → w.heap.size + 8 ≤ W.heap.size → W.ownsRow (w.heap.size + 8) 37 2 v (parts s).length (labCells pf (parts s)) → Calls Tryz.prog 12 #[v] W fun e w' => ∃ A, e = .returned (.tuple #[.pointer A, er]) ∧ R (.pointer A) w' ∧ Below W.heap.size W w')
    (hR : ∀ v0 A B k, R v0 A → k < w.heap.size + 8 → A.grownBy B (some k) → R v0 B) :
    Calls Tryz.prog 5 #[.string s] w fun e w' => Below w.heap.size w w' ∧ (((∀ t ∈ parts s, (pf t).2.2 = none) ∧ ∃ A, e = .returned (.tuple #[.pointer A, er]) ∧ R (.pointer A) w') ∨ ((∃ t ∈ parts s, (pf t).2.2 ≠ none) ∧ e = .returned (.tuple #[.pointer none, .iface 53 (.int .i64 3)]))) := by
  have hu := Tryz.underlying37
  have hu2 := Tryz.underlying24
  obtain ⟨i0, hi, hz0, hz1, hz2⟩ := info_parts infoL
  refine callsIn_wide (n := 9).1 ?_
  refine callsIn_of_wp_marks Tryz.func5 rfl trivial ?_ rfl
  simp only [Tryz.ntmps5, List.size_toArray, List.length_cons, List.length_nil, Nat.reduceAdd, Nat.reduceSub, Array.replicate_succ, Array.replicate_zero, List.push_toArray, List.append_toArray, List.nil_append, List.cons_append]
  have t1 : Fence.wide.fn 18 := trivial
  gi_wp2_with (gi_at_call 18; refine (callsIn_wide.2 (seq_calls s _)).mono ?_; rintro e w' ⟨rfl, rfl⟩)
  obtain ⟨V, hV⟩ : ∃ V, V = (((((w.alloc (.cells #[.pointer none] 22)).alloc (.cells #[.nilIface] 24)).alloc (.cells #[.slice none 0 0] 27)).alloc (.cells #[.string s] 9)).alloc (.cells #[.string (⟨#[32]⟩ : ByteArray)] 9)).alloc (.cells #[.int .i64 0] 3) := ⟨_, rfl⟩
  have hVs : V.heap.size = w.heap.size + 3 + 3 := by rw [hV]; simp
  have hVb : Below w.heap.size w V := by rw [hV]; exact below_alloc (below_alloc (below_alloc (below_alloc (below_alloc (below_alloc (Below.refl _ _) _) _) _) _) _) _
  have q0 : Boxed V w.heap.size 22 (.pointer none) := by rw [hV]; exact (((((Boxed.new w _ _).alloc _).alloc _).alloc _).alloc _).alloc _
  have q1 : Boxed V (w.heap.size + 1) 24 .nilIface := by
    have h := Boxed.new (w.alloc (.cells #[.pointer none] 22)) 24 .nilIface
    rw [World.size_alloc] at h
    rw [hV]; exact (((h.alloc _).alloc _).alloc _).alloc _
  have q2 : Boxed V (w.heap.size + 2) 27 (.slice none 0 0) := by
    have h := Boxed.new ((w.alloc (.cells #[.pointer none] 22)).alloc (.cells #[.nilIface] 24)) 27 (.slice none 0 0)
    rw [World.size_alloc, World.size_alloc] at h
    rw [hV]; exact ((h.alloc _).alloc _).alloc _
  have q3 : Boxed V (w.heap.size + 3) 9 (.string s) := by
    have h := Boxed.new (((w.alloc (.cells #[.pointer none] 22)).alloc (.cells #[.nilIface] 24)).alloc (.cells #[.slice none 0 0] 27)) 9 (.string s)
    rw [World.size_alloc, World.size_alloc, World.size_alloc] at h
    rw [hV]; exact (h.alloc _).alloc _
  have q4 : Boxed V (w.heap.size + 3 + 1) 9 (.string (⟨#[32]⟩ : ByteArray)) := by
    have h := Boxed.new ((((w.alloc (.cells #[.pointer none] 22)).alloc (.cells #[.nilIface] 24)).alloc (.cells #[.slice none 0 0] 27)).alloc (.cells #[.string s] 9)) 9 (.string (⟨#[32]⟩ : ByteArray))
    rw [World.size_alloc, World.size_alloc, World.size_alloc, World.size_alloc] at h
    rw [hV]; exact h.alloc _
  have q5 : Boxed V (w.heap.size + 3 + 2) 3 (.int .i64 0) := by
    have h := Boxed.new (((((w.alloc (.cells #[.pointer none] 22)).alloc (.cells #[.nilIface] 24)).alloc (.cells #[.slice none 0 0] 27)).alloc (.cells #[.string s] 9)).alloc (.cells #[.string (⟨#[32]⟩ : ByteArray)] 9)) 3 (.int .i64 0)
    rw [World.size_alloc, World.size_alloc, World.size_alloc, World.size_alloc, World.size_alloc] at h
    rw [hV]; exact h
  rw [← hV]
  clear hV
  have hln := parts_length s
  refine range_law 52 (w.heap.size + 3) #[.pointer (some ⟨w.heap.size + 3 + 1, 0, none⟩), .pointer (some ⟨w.heap.size + 3, 0, none⟩), .pointer (some ⟨w.heap.size + 3 + 2, 0, none⟩)] hVs rfl (enters_of Tryz.func52 (by kernel_rfl) rfl) (fun x => #[.string x]) (fun _ => rfl) (parts s) ?hit
    (Mid pf w) (Bad pf s w) (fun pre A B k hk h hg => mid_turn pf w pre A B k hk h hg (.inr trivial)) (fun pre A B k hk h hg => bad_turn pf s w pre A B k hk h hg) ?h0
    (fun x => { tmps := #[.string s, undef, .pointer (some ⟨w.heap.size, 0, none⟩), .pointer (some ⟨w.heap.size + 1, 0, none⟩), .pointer (some ⟨w.heap.size + 1 + 1, 0, none⟩), .string x, undef, undef, .string s, .func (.func 52) #[] #[.pointer (some ⟨w.heap.size + 3 + 1, 0, none⟩), .pointer (some ⟨w.heap.size + 3, 0, none⟩), .pointer (some ⟨w.heap.size + 3 + 2, 0, none⟩)], .string x, undef, undef, undef, undef, undef, undef, undef, undef, undef, undef, undef, undef, undef, undef, undef, undef], defers := [] }) ?assign ?body ?done ?stop
  case hit =>
    intro J Jx W hJ hJx hY hold h0
    exact split_in hF 8 _ _ (by omega) s (by omega) J Jx hJ hJx hY W ((hold _ (by omega) (by omega)).trans q3) ((hold _ (by omega) (by omega)).trans q4) ((hold _ (by omega) (by omega)).trans q5) h0
  case h0 =>
    intro B hB h8
    exact ⟨_, fun t ht => by simp at ht, grown_box q0 hB (by simp), grown_box q1 hB (by simp), grown_box q2 hB (by simp), World.ownsRow_nil _ _ _ _, hVb.grown hB hVb.size (fun j e => by cases e), h8⟩
  case assign =>
    intro x W K hK
    gi_wp2
    exact hK
  case body =>
    intro pre x W hx hpl hm hlt
    obtain ⟨v, h1, h2, h3, h4, h5, h6, h7⟩ := hm
    have hpx := hP x W hx h6
    by_cases hq : (pf x).2.2 = none
    · rw [hE0 x hq] at hpx
      have hbx : ∀ w1, Below W.heap.size W w1 → Boxed w1 (w.heap.size + 2) 27 v := fun w1 hb => grown_box h4 (grown_below hb none) (by simp)
      have hrw : ∀ w1, Below W.heap.size W w1 → w1.ownsRow (w.heap.size + 8) 37 2 v pre.length (labCells pf pre) := fun w1 hb => row_grown h5 (grown_below hb none) (fun _ _ => by simp)
      have hrow1 : pre.length ≤ 1048577 := by omega
      gi_wp2_with (first | (refine ⟨trivial, ?_⟩; gi_at_call 19; refine (CallsIn.inRound _ (callsIn_wide.2 hpx)).mono ?_; rintro e w1 ⟨rfl, hb⟩; have b4 := hbx w1 hb; have r4 := hrw w1 hb; have c4 := (b4.alloc (.cells #[.int .i64 (pf x).1, .int .u32 (pf x).2.1] 37)).cell) | (gi_at_builtin; refine wpListIn_append_own _ rfl _ _ 27 rfl (w.heap.size + 8) 37 i0 (.agg #[.int .i64 0, .int .u32 0]) 2 16 Tryz.underlying27 hi hz0 hz1 hz2 rfl (by decide) v pre.length (labCells pf pre) rfl ((r4.alloc _).alloc _) ⟨w1.heap.size + 1, 0, none⟩ 1 1 [.int .i64 (pf x).1, .int .u32 (pf x).2.1] rfl rfl ?nw (by simp [Value.oneCell']) (by unfold maxLen; omega) (by omega) (by have := hb.size; simp; omega) ?_; (case nw => have h_ := cell_two_new (w1.alloc (.cells #[.int .i64 (pf x).1, .int .u32 (pf x).2.1] 37)) (.int .i64 (pf x).1) (.int .u32 (pf x).2.1) 37; rw [World.size_alloc] at h_; exact h_); intro v' w4 hown' hgrow _; obtain ⟨g', cap', rfl⟩ := ownsRow_succ hown'; have b5 := grown_box ((b4.alloc _).alloc _) hgrow (row_ne r4 (by omega)); have c5 := b5.cell; have f5 := b5.frozen))
      have hsb := hb.size
      have key : ∀ k, k < W.heap.size → some k ≠ v.ownBlock → w4.heap[k]? = W.heap[k]? := fun k hk hne => (hgrow.block k (by simp; omega) hne).trans ((below_alloc (below_alloc hb (.cells #[.int .i64 (pf x).1, .int .u32 (pf x).2.1] 37)) (.cells #[.int .i64 (pf x).1, .int .u32 (pf x).2.1] 37)).block k hk)
      have key2 : ∀ k, k < w.heap.size + 8 → k ≠ w.heap.size + 2 → (w4.setCell ⟨w.heap.size + 1 + 1, 0, none⟩ (.slice (some ⟨g', 0, none⟩) (pre.length + 1) cap')).heap[k]? = W.heap[k]? := fun k hk hne => (Below.heap_setCell w4 ⟨w.heap.size + 1 + 1, 0, none⟩ _ k (by simp; omega)).trans (key k (by omega) (row_ne h5 hk))
      have hgs := grownBy_setCell' w4 (w.heap.size + 2) (.slice (some ⟨g', 0, none⟩) (pre.length + 1) cap')
      have hsg := hgrow.size
      simp at hsg
      refine ⟨fun k k1 k2 => key2 k (by omega) (by omega), _, ?_, (key2 _ (by omega) (by omega)).trans h2, (key2 _ (by omega) (by omega)).trans h3, b5.set _, ?_, ?_, ?_⟩
      · intro t ht
        rcases List.mem_append.1 ht with h | h
        · exact h1 t h
        · rw [List.mem_singleton.1 h]; exact hq
      · have h_ := row_grown hown' hgs (fun k hk e => by have := Option.some.inj e; omega)
        rw [labCells_snoc, List.length_append]
        exact h_
      · exact below_set ((below_alloc (below_alloc (below_step h6 hb) _) _).grown hgrow (by simp; omega) (fun j e => by
          rcases h5.2 with ⟨rfl, _⟩ | ⟨g, cap, cur, rfl, hb_, _⟩
          · cases e
          · have := Option.some.inj e; simp at this; omega)) (by omega)
      · rw [World.size_setCell]; omega
    · obtain ⟨c, hc⟩ := hE1 x hq
      rw [hc] at hpx
      have hbx : ∀ w1, Below W.heap.size W w1 → Boxed w1 w.heap.size 22 (.pointer none) ∧ Boxed w1 (w.heap.size + 1) 24 .nilIface := fun w1 hb => ⟨grown_box h2 (grown_below hb none) (by simp), grown_box h3 (grown_below hb none) (by simp)⟩
      gi_wp2_with (refine ⟨trivial, ?_⟩; gi_at_call 19; refine (CallsIn.inRound _ (callsIn_wide.2 hpx)).mono ?_; rintro e w1 ⟨rfl, hb⟩; obtain ⟨b2, b3⟩ := hbx w1 hb; have d2 := b2.alloc (.cells #[.int .i64 (pf x).1, .int .u32 (pf x).2.1] 37); have d3 := b3.alloc (.cells #[.int .i64 (pf x).1, .int .u32 (pf x).2.1] 37); have e2 := d2.cell; have e3 := d3.cell; have f2 := d2.frozen; have f3 := d3.frozen; have hne : w.heap.size + 1 ≠ w.heap.size := (by omega))
      refine ⟨fun k k1 k2 => ?_, ⟨x, hx, hq⟩, (d2.set _).other (by omega) _, (d3.other (by omega) _).set _, below_set (below_set (below_alloc (below_step h6 hb) _) (Nat.le_refl _)) (by omega)⟩
      exact (Below.heap_setCell _ _ _ k (by simp; omega)).trans ((Below.heap_setCell _ _ _ k (by simp; omega)).trans ((below_alloc hb _).block k (by omega)))
  case done =>
    intro W hm hK
    obtain ⟨v, h1, h2, h3, h4, h5, h6, h7⟩ := hm
    have hnw := hN v W h1 h6 h7 h5
    have c4 := h4.cell
    have hbx : ∀ w1, Below W.heap.size W w1 → Boxed w1 w.heap.size 22 (.pointer none) ∧ Boxed w1 (w.heap.size + 1) 24 .nilIface ∧ w1.heap[w.heap.size + 3 + 3]? = some (.deferred (some [])) := fun w1 hb => ⟨grown_box h2 (grown_below hb none) (by simp), grown_box h3 (grown_below hb none) (by simp), (hb.block _ (Array.getElem?_eq_some_iff.1 hK).1).trans hK⟩
    rcases her with rfl | ⟨c, rfl⟩
    · gi_wp2_with (refine ⟨trivial, ?_⟩; gi_at_call 12; refine (callsIn_wide.2 hnw).mono ?_; rintro e w5 ⟨A, rfl, hR0, hb⟩; obtain ⟨b2, b3, bK⟩ := hbx w5 hb; have e2 := b2.cell; have e3 := b3.cell; have f2 := b2.frozen; have f3 := b3.frozen; have hne : w.heap.size + 1 ≠ w.heap.size := (by omega))
      have k2 : Boxed ((w5.setCell ⟨w.heap.size, 0, none⟩ (.pointer A)).setCell ⟨w.heap.size + 1, 0, none⟩ .nilIface) w.heap.size 22 (.pointer A) := (b2.set _).other (by omega) _
      have k3 : Boxed ((w5.setCell ⟨w.heap.size, 0, none⟩ (.pointer A)).setCell ⟨w.heap.size + 1, 0, none⟩ .nilIface) (w.heap.size + 1) 24 .nilIface := (b3.other (by omega) _).set _
      have kK : ((w5.setCell ⟨w.heap.size, 0, none⟩ (.pointer A)).setCell ⟨w.heap.size + 1, 0, none⟩ .nilIface).heap[w.heap.size + 3 + 3]? = some (.deferred (some [])) := (Below.heap_setCell _ _ _ _ (by first | (simp; done) | (simp; omega))).trans ((Below.heap_setCell _ _ _ _ (by first | (simp; done) | (simp; omega))).trans bK)
      have kB : Below w.heap.size w ((w5.setCell ⟨w.heap.size, 0, none⟩ (.pointer A)).setCell ⟨w.heap.size + 1, 0, none⟩ .nilIface) := below_set (below_set (below_step h6 hb) (Nat.le_refl _)) (by omega)
      have hRf := hR _ _ _ _ (hR _ _ _ _ hR0 (by omega) (grownBy_setCell' w5 w.heap.size (.pointer A))) (by omega) (grownBy_setCell' _ (w.heap.size + 1) .nilIface)
      generalize (w5.setCell ⟨w.heap.size, 0, none⟩ (.pointer A)).setCell ⟨w.heap.size + 1, 0, none⟩ .nilIface = Wf at k2 k3 kK kB hRf ⊢
      have hgp := grownBy_putObj' Wf (w.heap.size + 3 + 3) (.deferred none)
      refine ⟨by simp, .inl ⟨_, _, rfl, run_takeDeferred kK, ?_⟩⟩
      exact ⟨_, results_two rfl _ _ w.heap.size (w.heap.size + 1) _ _ rfl rfl (loadVar_one Tryz.isAgg22 (grown_box k2 hgp (fun e => by have := Option.some.inj e; omega)).cell) (loadVar_one Tryz.isAgg24 (grown_box k3 hgp (fun e => by have := Option.some.inj e; omega)).cell), kB.grown hgp kB.size (fun j e => by have := Option.some.inj e; omega), .inl ⟨h1, A, rfl, hR _ _ _ _ hRf (by omega) hgp⟩⟩
    · gi_wp2_with (refine ⟨trivial, ?_⟩; gi_at_call 12; refine (callsIn_wide.2 hnw).mono ?_; rintro e w5 ⟨A, rfl, hR0, hb⟩; obtain ⟨b2, b3, bK⟩ := hbx w5 hb; have e2 := b2.cell; have e3 := b3.cell; have f2 := b2.frozen; have f3 := b3.frozen; have hne : w.heap.size + 1 ≠ w.heap.size := (by omega))
      have k2 : Boxed ((w5.setCell ⟨w.heap.size, 0, none⟩ (.pointer A)).setCell ⟨w.heap.size + 1, 0, none⟩ (.iface 53 (.int .i64 c))) w.heap.size 22 (.pointer A) := (b2.set _).other (by omega) _
      have k3 : Boxed ((w5.setCell ⟨w.heap.size, 0, none⟩ (.pointer A)).setCell ⟨w.heap.size + 1, 0, none⟩ (.iface 53 (.int .i64 c))) (w.heap.size + 1) 24 (.iface 53 (.int .i64 c)) := (b3.other (by omega) _).set _
      have kK : ((w5.setCell ⟨w.heap.size, 0, none⟩ (.pointer A)).setCell ⟨w.heap.size + 1, 0, none⟩ (.iface 53 (.int .i64 c))).heap[w.heap.size + 3 + 3]? = some (.deferred (some [])) := (Below.heap_setCell _ _ _ _ (by first | (simp; done) | (simp; omega))).trans ((Below.heap_setCell _ _ _ _ (by first | (simp; done) | (simp; omega))).trans bK)
      have kB : Below w.heap.size w ((w5.setCell ⟨w.heap.size, 0, none⟩ (.pointer A)).setCell ⟨w.heap.size + 1, 0, none⟩ (.iface 53 (.int .i64 c))) := below_set (below_set (below_step h6 hb) (Nat.le_refl _)) (by omega)
      have hRf := hR _ _ _ _ (hR _ _ _ _ hR0 (by omega) (grownBy_setCell' w5 w.heap.size (.pointer A))) (by omega) (grownBy_setCell' _ (w.heap.size + 1) (.iface 53 (.int .i64 c)))
      generalize (w5.setCell ⟨w.heap.size, 0, none⟩ (.pointer A)).setCell ⟨w.heap.size + 1, 0, none⟩ (.iface 53 (.int .i64 c)) = Wf at k2 k3 kK kB hRf ⊢
      have hgp := grownBy_putObj' Wf (w.heap.size + 3 + 3) (.deferred none)
      refine ⟨by simp, .inl ⟨_, _, rfl, run_takeDeferred kK, ?_⟩⟩
      exact ⟨_, results_two rfl _ _ w.heap.size (w.heap.size + 1) _ _ rfl rfl (loadVar_one Tryz.isAgg22 (grown_box k2 hgp (fun e => by have := Option.some.inj e; omega)).cell) (loadVar_one Tryz.isAgg24 (grown_box k3 hgp (fun e => by have := Option.some.inj e; omega)).cell), kB.grown hgp kB.size (fun j e => by have := Option.some.inj e; omega), .inl ⟨h1, A, rfl, hR _ _ _ _ hRf (by omega) hgp⟩⟩
  case stop =>
    rintro pre W ⟨hbad, b2, b3, hB⟩ hK
    have hgp := grownBy_putObj' W (w.heap.size + 3 + 3) (.deferred none)
    gi_wp2
    refine ⟨by simp, .inl ⟨_, _, rfl, run_takeDeferred hK, ?_⟩⟩
    exact ⟨_, results_two rfl _ _ w.heap.size (w.heap.size + 1) _ _ rfl rfl (loadVar_one Tryz.isAgg22 (grown_box b2 hgp (fun e => by have := Option.some.inj e; omega)).cell) (loadVar_one Tryz.isAgg24 (grown_box b3 hgp (fun e => by have := Option.some.inj e; omega)).cell), hB.grown hgp hB.size (fun j e => by have := Option.some.inj e; omega), .inr ⟨hbad, rfl⟩⟩
end Go.Proofs.YtgcaalgaellciaaGreatDoor.Rng
