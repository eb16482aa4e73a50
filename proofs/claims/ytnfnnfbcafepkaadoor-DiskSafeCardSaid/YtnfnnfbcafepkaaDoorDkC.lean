/- A loop over what an iterator tells; slices.AppendSeq, Collect and SortedFunc at places. -/
import Derived.Test.YtnfnnfbcafepkaaDoorDkK
import Derived.Test.YtnfnnfbcafepkaaDoorDkB
import Derived.Test.YtnfnnfbcafepkaaDoorXPs
import Derived.RangeFuncNested
import Derived.RangeFuncBound
import Derived.RangeFuncCalls
import Derived.RangeFuncBox
import Derived.Maps.AppendAt
import Derived.Shelf.Abstract
namespace Go.Proofs.YtnfnnfbcafepkaaDoor.Dk
open Go Go.RowKit Go.Shelf
set_option linter.unusedVariables false
set_option linter.unusedSimpArgs false
set_option maxRecDepth 100000
attribute [local go_sem] Oper.semAt_some
theorem put_grown (A : World) (l : Nat) (o : Obj) : A.grownBy (A.putObj l o) (some l) := ⟨rfl, rfl, rfl, by simp, fun k _ hk => World.putObj_heap_other (fun e => hk (by rw [e]))⟩
/-- A block that is no row of cells. -/
def Odd (A : World) (k : Nat) : Prop := ∃ o, A.heap[k]? = some o ∧ ∀ cs t fr, o ≠ .cells cs t fr
theorem odd_walk {A : World} {k : Nat} (h : ∃ o : Obj, A.heap[k]? = some o ∧ o.isWalk = true) : Odd A k := by
  obtain ⟨o, ho, hw⟩ := h
  exact ⟨o, ho, fun cs t fr e => by rw [e] at hw; cases hw⟩
/-- A loop over what an iterator tells, whose body goes on always. -/
theorem seq_law {P : Program} {n : Nat} {g : Operand} {p : Tmp} {assign body : Code} {Q : Exit → Act → World → Prop} {a : Act} {w : World} {α : Type} (gf : Nat) (lb : Array Value) (hn : 1 ≤ n)
    (hg : a.eval g = .func (.func gf) #[] lb) (eg : ∀ args w, (callFunc gf args).run P w = .ok (.enter gf args) w)
    (enc : α → Value) (S : List α → Prop) (N : Nat) (hseq : SeqGives Fence.wide (n - 1) P gf lb enc S N w)
    (I : List α → World → Prop) (hI : ∀ pre A B row, I pre A → A.grownBy B row → (∀ k, row = some k → w.heap.size ≤ k ∧ Odd A k) → I pre B) (h0 : I [] w)
    (a₁ : α → Nat → Act) (I1 : List α → α → Nat → World → Prop)
    (hassign : ∀ pre x (A : World) (l : Nat) (K : Act → World → Prop), I pre A → w.heap.size ≤ l → l < A.heap.size → (∀ A', I1 pre x A.heap.size A' → A.grownBy A' none → K (a₁ x A.heap.size) A') → assign.wpIn (Fence.wide.inRound l) (n - 1 - 1) P (Exit.then K (fun _ _ _ => False)) { tmps := ((#[p] : Array Tmp).zip #[enc x]).foldl (fun t (p, v) => t.setIfInBounds p v) a.tmps, defers := [] } A)
    (hI1 : ∀ pre x k A B l, I1 pre x k A → A.grownBy B (some l) → w.heap.size ≤ l → Odd A l → I1 pre x k B)
    (hbody : ∀ pre x k (A : World) (l D : Nat) (rc : Loop), I1 pre x k A → pre.length < N → A.heap[l]? = some (.loop rc) → A.heap[D]? = some (.deferred (some [])) → w.heap.size ≤ D → w.heap.size ≤ l → l ≠ D →
      body.wpIn (Fence.wide.inRound l) (n - 1 - 1) P (fun e a' B => e = .normal ∧ I (pre ++ [x]) B ∧ KeepsWalks A B ∧ B.heap[l]? = A.heap[l]? ∧ B.heap[D]? = A.heap[D]?) (a₁ x k) A)
    (hdone : ∀ xs (W : World) D, S xs → I xs W → W.heap[D]? = some (.deferred (some [])) → w.heap.size ≤ D → Q .normal { a with defers := { target := .collected D, args := #[] } :: a.defers } W) :
    (Code.rangeFunc g #[p] assign body).wpIn Fence.wide n P Q a w := by
  refine wpIn_rangeFunc fun fn hfn => ?_
  obtain ⟨rc, hrc⟩ : ∃ rc : LoopState → Option Code → Loop, rc = fun st pe => { state := st, pending := pe, fn, tmps := a.tmps, params := #[p], assign, body, defers := w.heap.size } := ⟨_, rfl⟩
  obtain ⟨V, hV⟩ : ∃ V, V = (w.alloc (.deferred (some []))).alloc (.loop (rc .ready none)) := ⟨_, rfl⟩
  have hgr : w.grownBy V none := by rw [hV]; exact (World.grownBy_alloc w _ none).trans (World.grownBy_alloc _ _ none)
  have hVL : V.heap[w.heap.size + 1]? = some (.loop (rc .ready none)) := by
    have h := World.alloc_heap_new (w.alloc (.deferred (some []))) (.loop (rc .ready none))
    rw [World.size_alloc] at h
    rw [hV]
    exact h
  have hVK : V.heap[w.heap.size]? = some (.deferred (some [])) := by
    rw [hV]
    exact (Below.heap_alloc _ _ _ (by simp)).trans (World.alloc_heap_new w (.deferred (some [])))
  have hVs : V.heap.size = w.heap.size + 2 := by rw [hV]; simp
  have hbl : Below w.heap.size w V := ⟨hgr.os, hgr.tape, hgr.output, hgr.size, fun k hk => hgr.block k hk (by simp)⟩
  refine ⟨w.heap.size + 1, [{ target := .collected w.heap.size, args := #[] }], V, { target := .fn (.func gf) lb, args := #[.func (.yield (w.heap.size + 1)) #[] #[]] }, V, gf, #[.func (.yield (w.heap.size + 1)) #[] #[]] ++ lb, V, ?_, ?_, fun _ _ => trivial, ?_, fun h => by simp [Fence.wide] at h, ?_⟩
  · have h := run_enterLoop_outer (P := P) (w := w) fn a.tmps #[p] assign body
    rw [hV, hrc]
    exact h
  · simp only [resolve, hg]
    simp [go_sem]
  · simp [invoke, go_sem, eg]
  · refine (hseq (w.heap.size + 1) (fun pre A => I pre A ∧ A.heap[w.heap.size + 1]? = some (.loop (rc .ready none)) ∧ A.heap[w.heap.size]? = some (.deferred (some []))) V hbl ?_ ?_ ⟨hI [] w V none h0 hgr (fun k e => by cases e), hVL, hVK⟩).mono ?_
    · intro pre A B row hj hb hrow
      have ho : ∀ {k : Nat} {o : Obj}, A.heap[k]? = some o → o.isWalk = false → B.heap[k]? = some o := fun hk hw => (grownBy_keeps hb (fun r e => (hrow r e).2) hk hw).trans hk
      exact ⟨hI pre A B row hj.1 hb (fun k e => ⟨by have := (hrow k e).1; omega, odd_walk (hrow k e).2⟩), ho hj.2.1 rfl, ho hj.2.2 rfl⟩
    · rintro pre x A ⟨hi, hl, hk⟩ hplen
      have hy := run_yield (P := P) (args := #[enc x]) hl (by rw [hrc]; rfl)
      rw [hrc] at hy
      refine ⟨fn, _, assign, body, hy, roundIn_of_wpIn hfn (hassign pre x A (w.heap.size + 1) _ hi (by omega) (Array.getElem?_eq_some_iff.1 hl).1 fun A' hi1 hA' => ?_)⟩
      have hl' : A'.heap[w.heap.size + 1]? = some (.loop (rc .ready none)) := (hA'.block _ (Array.getElem?_eq_some_iff.1 hl).1 (by simp)).trans hl
      have hk' : A'.heap[w.heap.size]? = some (.deferred (some [])) := (hA'.block _ (Array.getElem?_eq_some_iff.1 hk).1 (by simp)).trans hk
      refine ⟨_, run_beginRound hl' (by rw [hrc]), ?_⟩
      have hlt : w.heap.size + 1 < A'.heap.size := (Array.getElem?_eq_some_iff.1 hl').1
      have hA := put_grown A' (w.heap.size + 1) (.loop { rc .ready none with state := .busy })
      have hl2 : (A'.putObj (w.heap.size + 1) (.loop { rc .ready none with state := .busy })).heap[w.heap.size + 1]? = some (.loop { rc .ready none with state := .busy }) := World.putObj_heap_same hlt
      have hkw : KeepsWalks A (A'.putObj (w.heap.size + 1) (.loop { rc .ready none with state := .busy })) := (KeepsWalks.of_grownBy hA' (fun j o e => by cases e)).trans (KeepsWalks.putObj _ hl' rfl)
      generalize A'.putObj (w.heap.size + 1) (.loop { rc .ready none with state := .busy }) = A1 at hA hl2 hkw ⊢
      have hk2 : A1.heap[w.heap.size]? = some (.deferred (some [])) := (hA.block _ (by omega) (by simp)).trans hk'
      refine wpIn_mono (hbody pre x A.heap.size A1 (w.heap.size + 1) w.heap.size _ (hI1 _ _ _ _ _ _ hi1 hA (by omega) ⟨_, hl', fun cs t fr e => by cases e⟩) hplen hl2 hk2 (Nat.le_refl _) (by omega) (by omega)) ?_
      rintro e a3 B ⟨rfl, hi3, hkw3, hl3, hk3⟩
      rw [hl2] at hl3
      rw [hk2] at hk3
      have hr := run_endRound (P := P) none hl3
      have hB := put_grown B (w.heap.size + 1) (.loop { { rc .ready none with state := .busy } with state := if (none : Option Code).isNone then .ready else .done, pending := none })
      have hl4 : (B.putObj (w.heap.size + 1) (.loop { { rc .ready none with state := .busy } with state := if (none : Option Code).isNone then .ready else .done, pending := none })).heap[w.heap.size + 1]? = some (.loop (rc .ready none)) := by
        rw [World.putObj_heap_same (Array.getElem?_eq_some_iff.1 hl3).1, hrc]
        rfl
      refine ⟨_, _, hr, rfl, ⟨hI _ _ _ _ hi3 hB (fun k e => by cases e; exact ⟨by omega, _, hl3, fun cs t fr e => by cases e⟩), hl4, (World.putObj_heap_other (by omega)).trans hk3⟩, (hkw.trans hkw3).trans (KeepsWalks.putObj _ hl3 rfl)⟩
    · rintro e B ⟨⟨v, rfl⟩, xs, hS, hi, hl, hk⟩
      have h := run_endLoop (P := P) hl (by rw [hrc]; simp)
      rw [hrc] at h
      refine ⟨none, _, h, hdone xs _ w.heap.size hS (hI _ _ _ _ hi (put_grown _ _ _) (fun k e => by cases e; exact ⟨by omega, _, hl, fun cs t fr e => by cases e⟩)) ((World.putObj_heap_other (by omega)).trans hk) (Nat.le_refl _)⟩
/-- The cells of places. -/
def flatPl (ps : List Pl) : List Value := ps.flatMap fun p => [.int .i64 p.1, .int .i64 p.2]
theorem flatPl_snoc (ps : List Pl) (p : Pl) : flatPl (ps ++ [p]) = flatPl ps ++ [.int .i64 p.1, .int .i64 p.2] := by simp [flatPl]
theorem flatPl_len (ps : List Pl) : (flatPl ps).length = ps.length * 2 := by
  induction ps with
  | nil => rfl
  | cons p ps ih => simp [flatPl] at ih ⊢; omega
/-- What has been gathered. -/
structure Gath (w : World) (pre : List Pl) (v : Value) (A : World) : Prop where
  box : A.heap[w.heap.size]? = some (.cells #[v] 73 (0, 0))
  row : A.ownsRow w.heap.size 69 2 v pre.length (flatPl pre)
  below : Below w.heap.size w A
theorem row_odd {A : World} {base : Nat} {e : TypeId} {size : Nat} {v : Value} {m : Nat} {xs : List Value} (h : A.ownsRow base e size v m xs) {k : Nat} (hk : ∀ cs, A.heap[k]? ≠ some (.cells cs e (0, 0))) : v.ownBlock ≠ some k := by
  rcases h.2 with ⟨rfl, _⟩ | ⟨g, cap, cur, rfl, _, hgb, _⟩
  · simp [Value.ownBlock]
  · intro e'
    have : g = k := by simpa [Value.ownBlock] using e'
    subst this
    exact hk _ hgb
theorem row_kept {A B : World} {base : Nat} {e : TypeId} {size : Nat} {v : Value} {m : Nat} {xs : List Value} {row : Option Nat} (h : A.ownsRow base e size v m xs) (hg : A.grownBy B row) (hk : ∀ k, row = some k → v.ownBlock ≠ some k) : B.ownsRow base e size v m xs :=
  h.kept hg (by
    cases row with
    | none => rcases h.2 with ⟨rfl, _⟩ | ⟨g, cap, cur, rfl, _⟩
              · exact .inl rfl
              · exact .inr (by simp [Value.ownBlock])
    | some k => exact .inr (hk k rfl))
theorem box_ne {A : World} {k : Nat} {o : Obj} (h : A.heap[k]? = some o) {e : TypeId} (ho : ∀ cs, o ≠ .cells cs e (0, 0)) : ∀ cs, A.heap[k]? ≠ some (.cells cs e (0, 0)) := fun cs e2 => by
  rw [h] at e2
  exact ho cs (Option.some.inj e2)
theorem grown_set (W : World) (b i : Nat) (v : Value) : W.grownBy (W.setCell ⟨b, i, none⟩ v) (some b) := ⟨rfl, rfl, rfl, by simp [World.setCell], fun k _ hk => Below.heap_setCell _ _ _ k (fun e => hk (by rw [e]))⟩
theorem row_walk {W : World} {base : Nat} {e : TypeId} {size : Nat} {v : Value} {k : Nat} {xs : List Value} (h : W.ownsRow base e size v k xs) : ∀ (j : Nat) (o : Obj), v.ownBlock = some j → W.heap[j]? = some o → o.isWalk = false := by
  intro j o hj ho
  rcases h.2 with ⟨rfl, _⟩ | ⟨g, cap, cur, rfl, _, hgb, _⟩
  · simp [Value.ownBlock] at hj
  · have : g = j := by simpa [Value.ownBlock] using hj
    subst this
    rw [hgb] at ho
    cases ho
    rfl
theorem cell_two_new (w : World) (x y : Value) (t : TypeId) : ∀ j u, [x, y][j]? = some u → (w.alloc (.cells #[x, y] t)).cell? ((⟨w.heap.size, 0, none⟩ : Addr).add j) = some u := by
  intro j u hj
  obtain ⟨c0, c1⟩ := pl_cells2 (World.alloc_heap_new w (.cells #[x, y] t))
  match j, hj with
  | 0, hj =>
    obtain rfl := Option.some.inj (show some x = some u from hj)
    exact c0
  | 1, hj =>
    obtain rfl := Option.some.inj (show some y = some u from hj)
    exact c1
theorem pl_info : (Tryd.prog.info? 69).map (fun i => (i.zero, i.size, i.bytes)) = some (some (.agg #[.int .i64 0, .int .i64 0]), 2, 16) := by kernel_rfl
theorem pl_ne_sl : (73 : TypeId) ≠ 69 := by decide
theorem Gath.step {w A B : World} {pre : List Pl} {v : Value} {row : Option Nat} (h : Gath w pre v A) (hg : A.grownBy B row) (hr : ∀ k, row = some k → w.heap.size < k ∧ ∀ cs, A.heap[k]? ≠ some (.cells cs 69 (0, 0))) : Gath w pre v B :=
  ⟨(hg.block _ (Array.getElem?_eq_some_iff.1 h.box).1 (fun e => by have := (hr _ e.symm).1; omega)).trans h.box, row_kept h.row hg (fun k e => row_odd h.row (hr k e).2), h.below.grown hg h.below.size (fun k e => by have := (hr k e).1; omega)⟩
theorem box4 {w A w4 : World} {pre : List Pl} {v : Value} {o : Obj} (h : Gath w pre v A) (hg : (A.alloc o).grownBy w4 v.ownBlock) : w4.heap[w.heap.size]? = some (.cells #[v] 73 (0, 0)) ∧ w4.cell? ⟨w.heap.size, 0, none⟩ = some v ∧ w4.frozen? ⟨w.heap.size, 0, none⟩ = false := by
  have h1 := (Array.getElem?_eq_some_iff.1 h.box).1
  have h2 : w4.heap[w.heap.size]? = some (.cells #[v] 73 (0, 0)) := (hg.block _ (by simp; omega) (fun e => row_odd h.row (box_ne h.box (fun cs e => pl_ne_sl (Obj.cells.inj e).2.1)) e.symm)).trans ((Below.heap_alloc A _ _ h1).trans h.box)
  exact ⟨h2, by simp [World.cell?, h2], by simp [World.frozen?, h2]⟩
set_option maxHeartbeats 8000000 in
theorem append_in (n : Nat) (hn : 2 ≤ n) (g : Nat) (lb : Array Value) (eg : ∀ args w, (callFunc g args).run Tryd.prog w = .ok (.enter g args) w) (S : List Pl → Prop) (N : Nat) (hN : N ≤ 262144) (w : World) (hseq : SeqGives Fence.wide (n - 1) Tryd.prog g lb plV S N w) :
    CallsIn Fence.wide n Tryd.prog 51 #[.slice none 0 0, .func (.func g) #[] lb] w fun e w' => ∃ (v : Value) (ps : List Pl), e = .returned v ∧ S ps ∧ w'.ownsRow w.heap.size 69 2 v ps.length (flatPl ps) ∧ Below w.heap.size w w' := by
  refine callsIn_of_wp_marks Tryd.func51 rfl trivial ?_ rfl
  simp only [Tryd.ntmps51, List.size_toArray, List.length_cons, List.length_nil, Nat.reduceAdd, Nat.reduceSub, Array.replicate_succ, Array.replicate_zero, List.push_toArray, List.append_toArray, List.nil_append, List.cons_append]
  gi_wp2
  have hb0 : Below w.heap.size w (w.alloc (.cells #[.slice none 0 0] 73)) := (Below.refl _ w).alloc (Nat.le_refl _) _
  have hs0 : (w.alloc (.cells #[.slice none 0 0] 73)).heap.size = w.heap.size + 1 := by simp
  have hv0 := World.alloc_heap_new w (.cells #[.slice none 0 0] 73)
  generalize w.alloc (.cells #[.slice none 0 0] 73) = W0 at hb0 hs0 hv0 ⊢
  refine seq_law (w := W0) g lb (by omega) rfl eg plV S N (hseq.later hb0) (fun pre A => ∃ v, Gath w pre v A) ?_ ⟨_, hv0, ⟨rfl, .inl ⟨rfl, rfl⟩⟩, hb0⟩
    (fun x k => { tmps := #[.slice none 0 0, .func (.func g) #[] lb, .pointer (some ⟨w.heap.size, 0, none⟩), undef, .slice none 0 0, .pointer (some ⟨k, 0, none⟩), .func (.func g) #[] lb, plV x, undef, undef, undef, undef, undef], defers := [] })
    (fun pre x k A => ∃ v, Gath w pre v A ∧ A.heap[k]? = some (.cells #[.int .i64 x.1, .int .i64 x.2] 69 (0, 0)) ∧ v.ownBlock ≠ some k ∧ w.heap.size < k) ?_ ?_ ?_ ?_
  · rintro pre A B row ⟨v, h⟩ hg hr
    refine ⟨v, h.step hg (fun k e => ⟨by have := (hr k e).1; omega, ?_⟩)⟩
    obtain ⟨o, ho, hno⟩ := (hr k e).2
    exact box_ne ho (fun cs => hno cs _ _)
  · rintro pre x A l K ⟨v, h⟩ hl hlA hK
    have hsz := (Array.getElem?_eq_some_iff.1 h.box).1
    have hg := World.grownBy_alloc A (.cells #[.int .i64 x.1, .int .i64 x.2] 69) none
    have h1 := hK (A.alloc (.cells #[.int .i64 x.1, .int .i64 x.2] 69)) ⟨v, h.step hg (fun k e => by cases e), World.alloc_heap_new A _, row_odd h.row (fun cs e => by simp at e), hsz⟩ hg
    have HK := Asd.mk h1
    clear hK h1 hg h hsz
    simp only [List.zip_toArray, List.zip_cons_cons, List.zip_nil_right, List.foldl_toArray, List.foldl_cons, List.foldl_nil, List.setIfInBounds_toArray, List.set_cons_succ, List.set_cons_zero, plV]
    gi_wp2
    exact HK.out
  · rintro pre x k A B l ⟨v, h, hk, hv, hlt⟩ hg hl ho
    obtain ⟨o, ho, hno⟩ := ho
    exact ⟨v, h.step hg (fun k e => by cases e; exact ⟨by omega, box_ne ho (fun cs => hno cs _ _)⟩), (hg.block k (Array.getElem?_eq_some_iff.1 hk).1 (fun e => by cases e; rw [ho] at hk; exact hno _ _ _ (Option.some.inj hk))).trans hk, hv, hlt⟩
  · rintro pre x k A l D rc ⟨v, h, hk, hv, hlt⟩ hplen hl hD hDl hl2 hne
    obtain ⟨y0, y1⟩ := pl_cells2 hk
    have c0 : A.cell? ⟨w.heap.size, 0, none⟩ = some v := by have := h.box; simp [World.cell?, this]
    have HH := Asd.mk h
    have HK := Asd.mk hk
    clear h hk
    obtain ⟨i0, hi, hz0, hz1, hz2⟩ := info_parts pl_info
    have hbs := HH.out.below.size
    gi_wp2_with (gi_at_builtin; refine wpListIn_append_own _ rfl _ _ 73 rfl w.heap.size 69 i0 (.agg #[.int .i64 0, .int .i64 0]) 2 16 Tryd.underlying73 hi hz0 hz1 hz2 rfl (by decide) v pre.length (flatPl pre) rfl (HH.out.row.alloc _) ⟨A.heap.size, 0, none⟩ 1 1 [.int .i64 x.1, .int .i64 x.2] rfl rfl (cell_two_new A (.int .i64 x.1) (.int .i64 x.2) 69) (by simp [Value.oneCell']) (by unfold maxLen; omega) (by omega) (by simp; omega) ?_; intro v' w4 hown' hgrow _; obtain ⟨g', cap', rfl⟩ := ownsRow_succ hown'; obtain ⟨hb4, c4, f4⟩ := box4 HH.out hgrow; go_frame)
    have hg4 := grown_set w4 w.heap.size 0 (.slice (some ⟨g', 0, none⟩) (pre.length + 1) cap')
    have hb5 := heap_setCell_same w4 w.heap.size 0 #[v] 73 (.slice (some ⟨g', 0, none⟩) (pre.length + 1) cap') hb4
    have hr5 := row_kept hown' hg4 (fun k e => by cases e; exact row_odd hown' (box_ne hb4 (fun cs e => pl_ne_sl (Obj.cells.inj e).2.1)))
    have hgA := HH.out.row
    have hlA := (Array.getElem?_eq_some_iff.1 hl).1
    have hDA := (Array.getElem?_eq_some_iff.1 hD).1
    have hbl : Below w.heap.size w w4 := (HH.out.below.alloc HH.out.below.size _).grown hgrow (by simp; omega) (fun k e => (HH.out.row.lt k e).1)
    have hkw : KeepsWalks A w4 := (KeepsWalks.alloc A _).trans (KeepsWalks.of_grownBy hgrow (row_walk (HH.out.row.alloc _)))
    have odd : ∀ {j : Nat} {o : Obj}, A.heap[j]? = some o → (∀ cs t fr, o ≠ .cells cs t fr) → w.heap.size < j → (w4.setCell ⟨w.heap.size, 0, none⟩ (.slice (some ⟨g', 0, none⟩) (pre.length + 1) cap')).heap[j]? = some o := fun hj hno hlj => by
      refine (hg4.block _ ?_ (by simp; omega)).trans ((hgrow.block _ ?_ (fun e => row_odd hgA (box_ne hj (fun cs => hno cs _ _)) e.symm)).trans ((Below.heap_alloc A _ _ (Array.getElem?_eq_some_iff.1 hj).1).trans hj))
      · have s1 := hgrow.size; have s2 := (Array.getElem?_eq_some_iff.1 hj).1; rw [World.size_alloc] at s1; omega
      · have s2 := (Array.getElem?_eq_some_iff.1 hj).1; rw [World.size_alloc]; omega
    exact ⟨⟨_, hb5, by rw [List.length_append, flatPl_snoc]; exact hr5, hbl.grown hg4 hbl.size (fun k e => by cases e; exact Nat.le_refl _)⟩, hkw.trans (KeepsWalks.setCell _ _ _), odd hl (fun cs t fr e => by cases e) (by omega), odd hD (fun cs t fr e => by cases e) (by omega)⟩
  · rintro ps W D hS ⟨v, h⟩ hD hDl
    have c0 : W.cell? ⟨w.heap.size, 0, none⟩ = some v := by have := h.box; simp [World.cell?, this]
    have HH := Asd.mk h
    have HS := Asd.mk hS
    clear h hS
    gi_wp2
    refine ⟨by simp, .inl ⟨_, _, rfl, run_takeDeferred hD, ?_⟩⟩
    exact ⟨_, results_tmp rfl _ _ _, v, ps, rfl, HS.out, row_kept HH.out.row (put_grown _ _ _) (fun k e => by cases e; exact row_odd HH.out.row (box_ne hD (fun cs e => by cases e))), HH.out.below.grown (put_grown _ _ _) HH.out.below.size (fun k e => by cases e; omega)⟩
set_option maxHeartbeats 4000000 in
theorem collect_in (n : Nat) (hn : 3 ≤ n) (g : Nat) (lb : Array Value) (eg : ∀ args w, (callFunc g args).run Tryd.prog w = .ok (.enter g args) w) (S : List Pl → Prop) (N : Nat) (hN : N ≤ 262144) (w : World) (hseq : SeqGives Fence.wide (n - 1 - 1) Tryd.prog g lb plV S N w) :
    CallsIn Fence.wide n Tryd.prog 38 #[.func (.func g) #[] lb] w fun e w' => ∃ (v : Value) (ps : List Pl), e = .returned v ∧ S ps ∧ w'.ownsRow w.heap.size 69 2 v ps.length (flatPl ps) ∧ Below w.heap.size w w' := by
  have t1 : Fence.wide.fn 51 := trivial
  have HA := Asd.mk (append_in (n - 1) (by omega) g lb eg S N hN w hseq)
  clear hseq eg
  have h1 : 1 ≤ n := by omega
  refine callsIn_of_wp Tryd.func38 rfl trivial ?_ rfl
  simp only [Tryd.ntmps38, List.size_toArray, List.length_cons, List.length_nil, Nat.reduceAdd, Nat.reduceSub, Array.replicate_succ, Array.replicate_zero, List.push_toArray, List.append_toArray, List.nil_append, List.cons_append]
  gi_wp2_with (gi_at_call 51; refine HA.out.mono ?_; rintro e w' ⟨v, ps, rfl, hS, hrow, hb⟩)
  go_ret
  exact ⟨v, ps, rfl, hS, hrow, hb⟩
end Go.Proofs.YtnfnnfbcafepkaaDoor.Dk
