/- The device: Restart. -/
import Derived.Test.YtnfnnfbcafepkaaDoorDkT
import Derived.Deep.DeepCutAuto
namespace Go.Proofs.YtnfnnfbcafepkaaDoor.Dk
open Go Go.RowKit Go.Proofs.YtnfnnfbcafepkaaDoorW.PrintLast
set_option linter.unusedVariables false
set_option linter.unusedSimpArgs false
set_option maxRecDepth 100000
/-- What a sector holds behind a restart, as it was chosen. -/
def applyC (c : Int) (now old : List UInt8) : List UInt8 := if c = 2 then now.take 32 ++ old.drop 32 else if c = 1 then now else old
/-- What is safe when the first k of the places are done. -/
def resK (d : DSt) (ps : List Pl) (cs : List Int) (k : Nat) (p : Pl) : List UInt8 := if p ∈ ps.take k then applyC (cs.getD (ps.idxOf p) 0) ((d.pend p).getD []) (d.safe p) else d.safe p
def resSt (d : DSt) (ps : List Pl) (cs : List Int) : DSt := { d with safe := resK d ps cs ps.length, pend := fun _ => none, crashed := false, armed := false }
theorem resK_zero (d : DSt) (ps : List Pl) (cs : List Int) (p : Pl) : d.safe p = resK d ps cs 0 p := by unfold resK; rw [if_neg (by simp)]
theorem idx_nodup : ∀ (ps : List Pl) (k : Nat) (h : k < ps.length), ps.Nodup → ps.idxOf ps[k] = k
  | [], k, h, _ => absurd h (by simp)
  | p :: ps, 0, _, _ => by simp [List.idxOf_cons]
  | p :: ps, k + 1, h, hn => by
    have hn2 := List.nodup_cons.1 hn
    have hk : k < ps.length := by simpa using h
    have ih := idx_nodup ps k hk hn2.2
    have hne : p ≠ ps[k] := fun e => hn2.1 (by rw [e]; exact List.getElem_mem hk)
    rw [List.getElem_cons_succ, List.idxOf_cons, ih]
    rw [show (p == ps[k]) = false from beq_eq_false_iff_ne.2 hne]
    rfl
theorem take_mem (ps : List Pl) (k : Nat) (h : k < ps.length) (p : Pl) : p ∈ ps.take (k + 1) ↔ p ∈ ps.take k ∨ p = ps[k] := by
  rw [List.take_succ_eq_append_getElem h, List.mem_append, List.mem_singleton]
theorem not_in_take (ps : List Pl) (k : Nat) (h : k < ps.length) (hn : ps.Nodup) : ps[k] ∉ ps.take k := by
  intro hm
  obtain ⟨i, hi, e⟩ := List.mem_take_iff_getElem.1 hm
  have h1 := idx_nodup ps i (by omega) hn
  rw [e, idx_nodup ps k h hn] at h1
  omega
theorem resK_here (d : DSt) (ps : List Pl) (cs : List Int) (k : Nat) (h : k < ps.length) (hn : ps.Nodup) : resK d ps cs k ps[k] = d.safe ps[k] := by
  unfold resK; rw [if_neg (not_in_take ps k h hn)]
theorem resK_step (d : DSt) (ps : List Pl) (cs : List Int) (k : Nat) (h : k < ps.length) (hn : ps.Nodup) (p : Pl) :
    putS (resK d ps cs k) ps[k] (applyC (cs.getD k 0) ((d.pend ps[k]).getD []) (d.safe ps[k])) p = resK d ps cs (k + 1) p := by
  unfold putS
  by_cases e : p = ps[k]
  · rw [if_pos e]
    unfold resK
    rw [if_pos ((take_mem ps k h p).2 (.inr e)), e, idx_nodup ps k h hn]
  · rw [if_neg e]
    unfold resK
    by_cases hm : p ∈ ps.take k
    · rw [if_pos hm, if_pos ((take_mem ps k h p).2 (.inl hm))]
    · rw [if_neg hm, if_neg (fun h2 => ((take_mem ps k h p).1 h2).elim hm e)]
theorem resK_same (d : DSt) (ps : List Pl) (cs : List Int) (k : Nat) (h : k < ps.length) (hn : ps.Nodup) (hc1 : cs.getD k 0 ≠ 1) (hc2 : cs.getD k 0 ≠ 2) (p : Pl) : resK d ps cs k p = resK d ps cs (k + 1) p := by
  rw [← resK_step d ps cs k h hn p]
  unfold putS applyC
  rw [if_neg hc2, if_neg hc1]
  by_cases e : p = ps[k]
  · rw [if_pos e, e, resK_here d ps cs k h hn]
  · rw [if_neg e]
theorem owns_clear {W : World} {m n : Nat} {D : DataW Unit} (h : owns W m n D) (ty : TypeId) : ∃ W', (Builtin.clear_ #[63] ty #[.map (some m)]).run Tryd.prog W = .ok (.tuple #[]) W' ∧ owns W' m 0 (.map []) ∧ W.mapTurned W' m := by
  obtain ⟨es, clock, hb, F, hs, rfl⟩ := h
  refine ⟨ChangeMaps.setBlock W m (.map #[] clock), ?_, ⟨#[], clock, (MapKept.heap_set hb).1, ⟨by simp, (MapKept.stamped_iff _ _).2 ⟨by simp, by simp, by simp⟩, by simp⟩, by simp, rfl⟩, ⟨es, clock, #[], clock, hb, rfl⟩⟩
  simp [Builtin.clear_, run_underlying Tryd.underlying63, MapKept.run_getObj_map hb, MapKept.run_setObj_map _ hb, Result.andThen, ChangeMaps.setBlock]
theorem pend_look {W : World} {m : Nat} {M : Pl → Option (List UInt8)} (h : PendM W m M) {p : Pl} (hp : In p) {b : List UInt8} (hb : M p = some b) :
    (Instr.lookup 63 (.map (some m)) (.agg #[.int .i64 p.1, .int .i64 p.2]) false).run Tryd.prog W = .ok (.agg (secC b)) W := by
  obtain ⟨D, hown, hk, hno, hD⟩ := h
  obtain ⟨v, ps, hrun, hRv⟩ := hown.lookup pl_law Tryd.underlying63 (sec_zero W) (secR_mk zeros_len) (pl_key p hp.wf)
  obtain ⟨b1, hb1, rfl, hz⟩ := secR_inv hRv
  have := ((hD p hp).2 b hb).2 (.lit (.string zeros))
  rw [this] at hz
  have := congrArg Prod.fst hz
  simp at this
  subst this
  exact hrun
theorem safe_look {W : World} {m : Nat} {S : Pl → List UInt8} (h : SafeM W m S) {p : Pl} (hp : In p) :
    (Instr.lookup 63 (.map (some m)) (.agg #[.int .i64 p.1, .int .i64 p.2]) false).run Tryd.prog W = .ok (.agg (secC (S p))) W := by
  obtain ⟨D, hown, hk, hD⟩ := h
  obtain ⟨v, ps, hrun, hRv⟩ := hown.lookup pl_law Tryd.underlying63 (sec_zero W) (secR_mk zeros_len) (pl_key p hp.wf)
  obtain ⟨b1, hb1, rfl, hz⟩ := secR_inv hRv
  have := (hD p hp).2
  unfold zd0 at this
  rw [this] at hz
  have := congrArg Prod.fst hz
  simp at this
  subst this
  exact hrun
/-- A row of numbers in memory. -/
def IntC (W : World) (A : Option Addr) (cs : List Int) : Prop := 0 < cs.length → ∃ g cur, A = some ⟨g, 0, none⟩ ∧ W.heap[g]? = some (.cells cur 3 (0, 0)) ∧ cur.toList.take cs.length = cs.map (Value.int .i64)
theorem IntC.cell {W : World} {A : Option Addr} {cs : List Int} (h : IntC W A cs) {k : Nat} (hk : k < cs.length) : ∃ g, A = some ⟨g, 0, none⟩ ∧ W.cell? ⟨g, k, none⟩ = some (.int .i64 cs[k]) := by
  obtain ⟨g, cur, e, hb, ht⟩ := h (by omega)
  refine ⟨g, e, ?_⟩
  have h1 : (cur.toList.take cs.length)[k]? = (cs.map (Value.int .i64))[k]? := by rw [ht]
  rw [List.getElem?_take_of_lt hk] at h1
  simp only [World.cell?, hb]
  simp only [Option.isSome_none, Bool.false_eq_true, if_false]
  rw [← Array.getElem?_toList, h1]
  simp [hk]
theorem IntC.frm {W W' : World} {A : Option Addr} {cs : List Int} {g ms mp : Nat} {d : DSt} (h : IntC W A cs) (hD : DiskC W g ms mp d) (hf : Frm (own g ms mp) W W') : IntC W' A cs := fun hp => by
  obtain ⟨k, cur, e, hb, ht⟩ := h hp
  refine ⟨k, cur, e, (hf.block k (Array.getElem?_eq_some_iff.1 hb).1 ?_).trans hb, ht⟩
  obtain ⟨D, ⟨es, clock, h1, _⟩, _⟩ := hD.safe
  obtain ⟨D2, ⟨es2, clock2, h2, _⟩, _⟩ := hD.pend
  rintro (rfl | rfl | rfl)
  · have := hD.blk
    rw [hb] at this
    unfold dkO at this
    exact absurd (Obj.cells.inj (Option.some.inj this)).2.1 (by decide)
  · rw [hb] at h1; cases h1
  · rw [hb] at h2; cases h2
theorem one_cell {W : World} {g : Nat} {x : Value} {t : TypeId} (hb : W.heap[g]? = some (.cells #[x] t (0, 0))) : W.cell? ⟨g, 0, none⟩ = some x := by
  simp [World.cell?, hb]
/-- What is read at a place. -/
structure RB (W : World) (g ms mp kp : Nat) (d : DSt) (S : Pl → List UInt8) (p : Pl) : Prop where
  blk : W.heap[g]? = some (dkO ms mp d)
  pl : W.heap[kp]? = some (.cells #[.int .i64 p.1, .int .i64 p.2] 69 (0, 0))
  safe : SafeM W ms S
  pend : PendM W mp d.pend
theorem RB.drew {W : World} {g ms mp kp : Nat} {d : DSt} {S : Pl → List UInt8} {p : Pl} (h : RB W g ms mp kp d S p) : RB W.drew g ms mp kp d S p := ⟨h.blk, h.pl, h.safe.step rfl, h.pend.step rfl⟩
theorem RB.bel {W W' : World} {g ms mp kp : Nat} {d : DSt} {S : Pl → List UInt8} {p : Pl} (h : RB W g ms mp kp d S p) (hb : Below W.heap.size W W') : RB W' g ms mp kp d S p :=
  ⟨(hb.block g (blk_lt h.blk)).trans h.blk, (hb.block kp (blk_lt h.pl)).trans h.pl, h.safe.step (hb.block ms h.safe.lt), h.pend.step (hb.block mp h.pend.lt)⟩
theorem RB.alloc {W : World} {g ms mp kp : Nat} {d : DSt} {S : Pl → List UInt8} {p : Pl} (h : RB W g ms mp kp d S p) (o : Obj) : RB (W.alloc o) g ms mp kp d S p := h.bel ((Below.refl _ W).alloc (Nat.le_refl _) o)
theorem RB.facts {W : World} {g ms mp kp : Nat} {d : DSt} {S : Pl → List UInt8} {p : Pl} (h : RB W g ms mp kp d S p) (hp : In p) {b : List UInt8} (hb : d.pend p = some b) :
    W.cell? ⟨g, 2, none⟩ = some (.map (some ms)) ∧ W.cell? ⟨g, 3, none⟩ = some (.map (some mp)) ∧ W.cell? ⟨kp, 0, none⟩ = some (.int .i64 p.1) ∧ W.cell? ⟨kp, 1, none⟩ = some (.int .i64 p.2) ∧
    (Instr.lookup 63 (.map (some mp)) (.agg #[.int .i64 p.1, .int .i64 p.2]) false).run Tryd.prog W = .ok (.agg (secC b)) W ∧
    (Instr.lookup 63 (.map (some ms)) (.agg #[.int .i64 p.1, .int .i64 p.2]) false).run Tryd.prog W = .ok (.agg (secC (S p))) W :=
  ⟨(dk_cells h.blk).2.2.1, (dk_cells h.blk).2.2.2.1, (pl_cells2 h.pl).1, (pl_cells2 h.pl).2, pend_look h.pend hp hb, safe_look h.safe hp⟩
theorem safe_len {W : World} {m : Nat} {S : Pl → List UInt8} (h : SafeM W m S) {p : Pl} (hp : In p) : (S p).length = 64 := by
  obtain ⟨D, _, _, h3⟩ := h
  exact (h3 p hp).1
theorem RB.grown {W W' : World} {g ms mp kp : Nat} {d : DSt} {S : Pl → List UInt8} {p : Pl} {j : Nat} (h : RB W g ms mp kp d S p) (hg : W.grownBy W' (some j)) (hj : g ≠ j ∧ ms ≠ j ∧ mp ≠ j ∧ kp ≠ j) : RB W' g ms mp kp d S p :=
  ⟨(hg.block g (blk_lt h.blk) (fun e => hj.1 (Option.some.inj e))).trans h.blk, (hg.block kp (blk_lt h.pl) (fun e => hj.2.2.2 (Option.some.inj e))).trans h.pl, h.safe.step (hg.block ms h.safe.lt (fun e => hj.2.1 (Option.some.inj e))), h.pend.step (hg.block mp h.pend.lt (fun e => hj.2.2.1 (Option.some.inj e)))⟩
/-- Two new sectors. -/
structure Two (W W' : World) (a b : Nat) : Prop where
  za : W'.heap[a]? = some (.cells (secC zeros) 67 (0, 0))
  zb : W'.heap[b]? = some (.cells (secC zeros) 67 (0, 0))
  ne : a ≠ b
  la : W.heap.size ≤ a
  lb : W.heap.size ≤ b
  bel : Below W.heap.size W W'
theorem two_ab (W : World) : Two W ((W.alloc (.cells (secC zeros) 67 (0, 0))).alloc (.cells (secC zeros) 67 (0, 0))) W.heap.size (W.heap.size + 1) := by
  have h1 := World.alloc_heap_new (W.alloc (.cells (secC zeros) 67 (0, 0))) (.cells (secC zeros) 67 (0, 0))
  rw [World.size_alloc] at h1
  exact ⟨(Below.heap_alloc _ _ _ (by simp)).trans (World.alloc_heap_new W _), h1, by omega, by omega, by omega, ((Below.refl _ W).alloc (Nat.le_refl _) _).alloc (by simp) _⟩
theorem Two.swap {W W' : World} {a b : Nat} (h : Two W W' a b) : Two W W' b a := ⟨h.zb, h.za, h.ne.symm, h.lb, h.la, h.bel⟩
theorem store_sec (w : World) (g : Nat) (b old : List UInt8) (hbk : w.heap[g]? = some (.cells (secC old) 67 (0, 0))) (hb : b.length = 64) (hold : old.length = 64) :
    ∃ w', (storeVar 67 ⟨g, 0, none⟩ (.agg (secC b))).run Tryd.prog w = .ok () w' ∧ w'.heap[g]? = some (.cells (secC b) 67 (0, 0)) ∧ w.grownBy w' (some g) :=
  ⟨_, run_storeVar_row w g 67 67 (secC old) (secC b) hbk (by rw [dk_s43, secC_size, hb]) (by rw [secC_size, secC_size, hb, hold]) (secC_all b), setRow_heap w g _ _ 67 (0, 0) hbk, ⟨rfl, rfl, rfl, by simp [World.setRow], fun k _ hk => setRow_other w g k _ (fun e => hk (by rw [e]))⟩⟩
theorem exec_store {P : Program} {w w' : World} {ev : Operand → Value} {o : Oper} (ty : TypeId) (x y : Operand) (ho : o.op = .store ty x y) {g : Nat} {v : Value} (hx : ev x = .pointer (some ⟨g, 0, none⟩)) (hy : ev y = v) (hl : (storeVar ty ⟨g, 0, none⟩ v).run P w = .ok () w') : (execOp ev o).run P w = .ok .skip w' := by
  unfold execOp
  simp only [ho, hx, hy, Instr.storeAt, Instr.sureAddr, Sem.run_bind, Sem.run_pure, Result.andThen_ok, hl]
/-- Where the places are gone through. -/
structure ResRel (w wr : World) (g ms mp : Nat) (d : DSt) (ps : List Pl) (cs : List Int) (k : Nat) (v : Value) (A : Option Addr) : Prop where
  blk : wr.heap[g]? = some (dkO ms mp d)
  safe : SafeM wr ms (resK d ps cs k)
  pend : PendM wr mp d.pend
  row : PlRow w.heap.size wr v ps
  ints : IntC wr A cs
  frm : Frm (own g ms mp) w wr
theorem cells_same {W W' : World} {g : Nat} (h : W'.heap[g]? = W.heap[g]?) (i : Nat) : W'.cell? ⟨g, i, none⟩ = W.cell? ⟨g, i, none⟩ := by simp [World.cell?, h]
/-- One place is done. -/
theorem ResRel.later {w wr w' : World} {g ms mp : Nat} {d : DSt} {ps : List Pl} {cs : List Int} {k : Nat} {v : Value} {A : Option Addr} (h : ResRel w wr g ms mp d ps cs k v A) (hD : DiskC w g ms mp d) (hf : Frm (fun j => j = ms) wr w') (hs : SafeM w' ms (resK d ps cs (k + 1))) : ResRel w w' g ms mp d ps cs (k + 1) v A := by
  have hsl := hD.safe.lt
  have hsz := h.frm.size
  refine ⟨(hf.block g (blk_lt h.blk) hD.neg.1).trans h.blk, hs, h.pend.step (hf.block mp h.pend.lt hD.ne.symm), ?_, fun hp => ?_, h.frm.then_ (hf.mono (fun j e => .inr (.inl e)))⟩
  · obtain ⟨R, cap, e, hl, hr⟩ := h.row
    refine ⟨R, cap, e, hl, fun hp => ?_⟩
    obtain ⟨gr, eR, h1, h2, h3⟩ := hr hp
    have hb := hf.block gr h2 (by omega)
    exact ⟨gr, eR, h1, Nat.lt_of_lt_of_le h2 hf.size, fun i hi => by rw [cells_same hb, cells_same hb]; exact h3 i hi⟩
  · obtain ⟨gi, cur, e, hb, ht⟩ := h.ints hp
    refine ⟨gi, cur, e, (hf.block gi (Array.getElem?_eq_some_iff.1 hb).1 (fun e2 => ?_)).trans hb, ht⟩
    obtain ⟨D, ⟨es, clock, h1, _⟩, _⟩ := h.safe
    rw [e2, h1] at hb
    cases hb
theorem secC_get (b : List UInt8) (j : Nat) : (secC b)[j]? = b[j]?.map fun x => Value.int .u8 x.toNat := by unfold secC; simp
/-- The second half of one sector is laid over that of another. -/
theorem copy_half (w : World) (ka kb : Nat) (b o : List UInt8) (hb : b.length = 64) (ho : o.length = 64) (ha : w.heap[ka]? = some (.cells (secC b) 67 (0, 0))) (hk : w.heap[kb]? = some (.cells (secC o) 67 (0, 0))) :
    ∃ w', (Builtin.copy_ #[30, 30] 3 #[.slice (some ⟨ka, 32, none⟩) 32 32, .slice (some ⟨kb, 32, none⟩) 32 32]).run Tryd.prog w = .ok (goInt 32) w' ∧ w'.heap[ka]? = some (.cells (secC (b.take 32 ++ o.drop 32)) 67 (0, 0)) ∧ w.grownBy w' (some ka) := by
  have hl : ((o.drop 32).map fun x => Value.int .u8 x.toNat).length = 32 := by simp [ho]
  have hrun := run_copy_row (P := Tryd.prog) w 30 30 3 5 ka 32 32 32 ⟨kb, 32, none⟩ 32 32 (secC b) 67 ((o.drop 32).map fun x => Value.int .u8 x.toNat) dk_u8 dk_s8 ha hl (fun j v hj => by
    rw [List.getElem?_map, List.getElem?_drop] at hj
    rw [Addr.add_lit]
    have h2 : (secC o)[32 + j]? = some v := by rw [secC_get]; exact hj
    simp [World.cell?, hk, h2]) (by rw [secC_size, hl, hb]; decide) (secC_one _)
  rw [hl] at hrun
  refine ⟨_, hrun, ?_, ⟨rfl, rfl, rfl, by simp [World.setRow], fun k _ hk => setRow_other w ka k _ (fun e => hk (by rw [e]))⟩⟩
  rw [setRow_heap w ka _ _ 67 (0, 0) ha]
  congr 2
  unfold secC
  have hd : ((List.map (fun x : UInt8 => Value.int IntKind.u8 (x.toNat : Int)) b).toArray.toList.drop (32 + 32)) = [] := by simp [hb]
  rw [hd, List.append_nil, List.map_append, List.map_take]
set_option maxHeartbeats 8000000 in
theorem restart_c (g ms mp : Nat) (d : DSt) (A : Option Addr) (c : Nat) (cs : List Int) (w : World) (h : DiskC w g ms mp d) (hI : IntC w A cs) (hcl : cs.length ≤ 9223372036854775807) :
    Calls Tryd.prog 13 #[.pointer (some ⟨g, 0, none⟩), .slice A cs.length c] w fun e w' => e = .returned (.tuple #[]) ∧ (∃ ps, ps.Nodup ∧ (∀ p, p ∈ ps ↔ (d.pend p).isSome = true) ∧ ps.Pairwise ltPl ∧ DiskC w' g ms mp (resSt d ps cs)) ∧ Frm (own g ms mp) w w' := by
  obtain ⟨h0, h1, h2, h3, h4, h5, h6⟩ := h.cells
  have up := Tryd.underlying22
  have HD := Asd.mk h
  have HI := Asd.mk hI
  obtain ⟨D0, hown, hk, hno, hp⟩ := h.pend
  have HP : Asd (PendD D0 d.pend) := ⟨hk, hno, hp⟩
  have HK := Asd.mk (callsIn_wide.1 (keys_c (some mp) 1 w))
  have hown2 : owns (w.alloc (.cells #[.map (some mp)] 63)) mp (Maps.size D0) D0 := hown.alloc _
  have HS := Asd.mk (sorted_c w.heap.size mp (Maps.size D0) D0 hk (w.alloc (.cells #[.map (some mp)] 63)) (by simp) (one_cell (World.alloc_heap_new w (.cells #[.map (some mp)] 63))) hown2)
  clear h hI hown hk hno hp hown2
  go_enter Tryd.func13, Tryd.ntmps13
  go_wp2_with (first
    | (go_at_call 27; refine HK.out.mono ?_; rintro e w2 ⟨rfl, rfl⟩)
    | (go_at_call 26; refine HS.out.mono ?_; rintro e w3 ⟨v, ps, rfl, hA, hP, ⟨R, cap, rfl, hpl, hrow⟩, hb⟩; have HA := Asd.mk hA; have HPW := Asd.mk hP; have HRW := Asd.mk hrow; have HB := Asd.mk hb; clear hA hP hrow hb))
  have hbl : Below w.heap.size w w3 := ((Below.refl _ w).alloc (Nat.le_refl _) _).trans (HB.out.mono (by simp))
  have hf3 : Frm (own g ms mp) w w3 := Frm.of_below hbl
  have HD3 := Asd.mk (HD.out.frm (S := fun _ => False) (Frm.of_below hbl) (fun _ _ h => h))
  have HI3 := Asd.mk (HI.out.frm HD.out hf3)
  have HR3 : Asd (PlRow w.heap.size w3 (.slice R ps.length cap) ps) := ⟨R, cap, rfl, hpl, fun hp => by
    obtain ⟨k, e, h1, h2, h3⟩ := HRW.out hp
    exact ⟨k, e, by rw [World.size_alloc] at h1; omega, h2, h3⟩⟩
  have HF3 := Asd.mk hf3
  clear h0 h1 h2 h3 h4 h5 h6 HB HRW hbl hf3 HK HS
  go_loopw [18] (fun i wr => ∃ k : Nat, k ≤ ps.length ∧ i = .int .i64 k ∧ ResRel w wr g ms mp d ps cs k (.slice R ps.length cap) A) (fun i _ => ps.length - (intOf i).toNat)
  case atStart => exact ⟨0, Nat.zero_le _, rfl, ⟨HD3.out.blk, HD3.out.safe.congr (fun p _ => resK_zero d ps cs p), HD3.out.pend, HR3.out, HI3.out, HF3.out⟩⟩
  case round =>
    obtain ⟨k, hk, rfl, hrel⟩ := hrel
    have HRel := Asd.mk hrel
    clear hrel
    by_cases hlt : k < ps.length
    · obtain ⟨R', cap', eR, hpl2, hrow⟩ := HRel.out.row
      obtain ⟨rfl, _, rfl⟩ : R = R' ∧ True ∧ cap = cap' := by injection eR with e1 e2 e3; exact ⟨e1, trivial, e3⟩
      obtain ⟨gr, rfl, hgB, hgl, hcell⟩ := hrow (by omega)
      obtain ⟨y0, y1⟩ := hcell k hlt
      obtain ⟨p, hp⟩ : ∃ p, ps[k] = p := ⟨_, rfl⟩
      rw [hp] at y0 y1
      have HPk := Asd.mk hp
      have hmem : p ∈ ps := by rw [← hp]; exact List.getElem_mem hlt
      have hin : In p := HA.out.2.1 p hmem
      obtain ⟨b, hb⟩ : ∃ b, d.pend p = some b := by
        have h1 := (HP.out.2.2 p hin).1
        rw [(HA.out.2.2 p hin).1 hmem] at h1
        exact Option.isSome_iff_exists.1 h1.symm
      have HB := Asd.mk hb
      have hbl : b.length = 64 := ((HP.out.2.2 p hin).2 b hb).1
      have hSl : (resK d ps cs k p).length = 64 := safe_len HRel.out.safe hin
      have HGB := Asd.mk hgB
      have HLT := Asd.mk hlt
      obtain ⟨W1, hW1⟩ : ∃ W1, wr.alloc (.cells #[.int .i64 p.1, .int .i64 p.2] 69) = W1 := ⟨_, rfl⟩
      have HW1 := Asd.mk hW1
      have hcs : k < cs.length → ∃ gc, A = some ⟨gc, 0, none⟩ ∧ wr.cell? ⟨gc, k, none⟩ = some (.int .i64 (cs.getD k 0)) := fun h => by
        obtain ⟨gc, e, hc⟩ := HRel.out.ints.cell h
        exact ⟨gc, e, by rw [hc]; simp [List.getD, h]⟩
      have i1 : (0 : Int) ≤ (k : Int) := by omega
      have i2 : (k : Int) < (ps.length : Int) := by omega
      obtain ⟨ch, hch⟩ : ∃ ch, cs.getD k 0 = ch := ⟨_, rfl⟩
      rw [hch] at hcs
      have HCH := Asd.mk hch
      have HCS := Asd.mk hcs
      clear hch
      clear hcell hrow eR hp hmem hb hW1 hcs hgB
      go_upto_if 26 with (fail)
      go_cut [6] (fun s6 wx => s6 = .int .i64 ch ∧ wx = W1)
      case first =>
        by_cases hci : k < cs.length
        · obtain ⟨gc, rfl, hc⟩ := HCS.out hci
          have i3 : (k : Int) < (cs.length : Int) := by omega
          have e3 : decide (k < cs.length) = true := decide_eq_true hci
          have hlt6 := World.block_lt_of_cell? wr _ hc
          dsimp only at hlt6
          go_wp2_with fail
          go_meet
          case rel => exact ⟨rfl, HW1.out⟩
        · have e3 : decide (k < cs.length) = false := decide_eq_false hci
          have hz : Asd (ch = 0) := ⟨by rw [← HCH.out]; simp [List.getD, List.getElem?_eq_none (Nat.le_of_not_lt hci)]⟩
          go_wp2_with fail
          go_meet
          case rel => exact ⟨by rw [hz.out], HW1.out⟩
      case rest =>
        obtain ⟨rfl, rfl⟩ := hcut
        have hbc : Below wr.heap.size wr wc := by
          rw [← HW1.out]
          exact (Below.refl _ wr).alloc (Nat.le_refl _) _
        have hpc : wc.heap[wr.heap.size]? = some (.cells #[.int .i64 p.1, .int .i64 p.2] 69 (0, 0)) := by
          rw [← HW1.out]
          exact World.alloc_heap_new wr _
        have HRB : Asd (RB wc g ms mp wr.heap.size d (resK d ps cs k) p) := ⟨⟨(hbc.block g (blk_lt HRel.out.blk)).trans HRel.out.blk, hpc, HRel.out.safe.step (hbc.block ms HRel.out.safe.lt), HRel.out.pend.step (hbc.block mp HRel.out.pend.lt)⟩⟩
        have HBC := Asd.mk hbc
        clear hbc hpc y0 y1 i1 i2 HLT HCS HW1
        go_wp2_with fail
        have HRB2 := Asd.mk (HRB.out.drew)
        have HBD : Asd (Below wc.heap.size wc wc.drew) := ⟨⟨rfl, rfl, rfl, Nat.le_refl _, fun _ _ => rfl⟩⟩
        obtain ⟨f1, f2, f3, f4, f5, f6⟩ := HRB2.out.facts hin HB.out
        refine start_ (n := 16) (S := fun w' => w'.cell? ⟨g, 2, none⟩ = some (.map (some ms)) ∧ w'.cell? ⟨g, 3, none⟩ = some (.map (some mp)) ∧ w'.cell? ⟨wr.heap.size, 0, none⟩ = some (.int .i64 p.1) ∧ w'.cell? ⟨wr.heap.size, 1, none⟩ = some (.int .i64 p.2) ∧ (Instr.lookup 63 (.map (some mp)) (.agg #[.int .i64 p.1, .int .i64 p.2]) false).run Tryd.prog w' = .ok (.agg (secC b)) w' ∧ (Instr.lookup 63 (.map (some ms)) (.agg #[.int .i64 p.1, .int .i64 p.2]) false).run Tryd.prog w' = .ok (.agg (secC (resK d ps cs k p))) w') (ds := [14, 15]) #[false, false, false, false, false, false, false, false, false, false, false, false, false, false, false, false] (by kernel_rfl) rfl rfl ⟨f1, f2, f3, f4, f5, f6⟩ (fun hHeld => ?_)
        generalize wc.drew = w5 at f1 f2 f3 f4 f5 f6 HRB2 HBD hHeld ⊢
        refine pure_ (i := 0) (N := some 31) (v := ?_) (a' := ?_) #[true, false, false, false, false, false, false, false, false, false, false, false, false, false, false, false] rfl rfl (by kernel_rfl) (fun _ _ _ h => h) (Or.inl ⟨by rfl, ?_⟩) ?_ ?_
        rotate_left
        · intro w'
          go_simp
          with_reducible rfl
        rotate_left
        · simp only [Act.put, List.setIfInBounds_toArray, List.set_cons_zero, List.set_cons_succ, i64_w, i32_w]
          rfl
        refine pure_ (i := 1) (N := some 32) (v := ?_) (a' := ?_) #[true, true, false, false, false, false, false, false, false, false, false, false, false, false, false, false] rfl rfl (by kernel_rfl) (fun _ _ _ h => h) (Or.inl ⟨by rfl, ?_⟩) ?_ ?_
        rotate_left
        · intro w'
          go_simp
          with_reducible rfl
        rotate_left
        · simp only [Act.put, List.setIfInBounds_toArray, List.set_cons_zero, List.set_cons_succ, i64_w, i32_w]
          rfl
        refine pure_ (i := 2) (N := some 33) (v := ?_) (a' := ?_) #[true, true, true, false, false, false, false, false, false, false, false, false, false, false, false, false] rfl rfl (by kernel_rfl) (fun _ _ _ h => h) (Or.inl ⟨by rfl, ?_⟩) ?_ ?_
        rotate_left
        · intro w'
          go_simp
          with_reducible rfl
        rotate_left
        · simp only [Act.put, List.setIfInBounds_toArray, List.set_cons_zero, List.set_cons_succ, i64_w, i32_w]
          rfl
        refine pure_ (i := 6) (N := some 37) (v := ?_) (a' := ?_) #[true, true, true, false, false, false, true, false, false, false, false, false, false, false, false, false] rfl rfl (by kernel_rfl) (fun _ _ _ h => h) (Or.inl ⟨by rfl, ?_⟩) ?_ ?_
        rotate_left
        · intro w'
          go_simp
          with_reducible rfl
        rotate_left
        · simp only [Act.put, List.setIfInBounds_toArray, List.set_cons_zero, List.set_cons_succ, i64_w, i32_w]
          rfl
        refine pure_ (i := 7) (N := some 38) (v := ?_) (a' := ?_) #[true, true, true, false, false, false, true, true, false, false, false, false, false, false, false, false] rfl rfl (by kernel_rfl) (fun _ _ _ h => h) (Or.inl ⟨by rfl, ?_⟩) ?_ ?_
        rotate_left
        · intro w'
          go_simp
          with_reducible rfl
        rotate_left
        · simp only [Act.put, List.setIfInBounds_toArray, List.set_cons_zero, List.set_cons_succ, i64_w, i32_w]
          rfl
        refine pure_ (i := 8) (N := some 39) (v := ?_) (a' := ?_) #[true, true, true, false, false, false, true, true, true, false, false, false, false, false, false, false] rfl rfl (by kernel_rfl) (fun _ _ _ h => h) (Or.inl ⟨by rfl, ?_⟩) ?_ ?_
        rotate_left
        · intro w'
          go_simp
          with_reducible rfl
        rotate_left
        · simp only [Act.put, List.setIfInBounds_toArray, List.set_cons_zero, List.set_cons_succ, i64_w, i32_w]
          rfl
        refine take_ (i := 3) (N := some 34) (v := ?_) (a' := ?_) #[true, true, true, true, false, false, true, true, true, false, false, false, false, false, false, false] rfl rfl (by kernel_rfl) (fun _ _ _ h => h) (Or.inl ⟨by rfl, ?_⟩) hHeld ?_ ?_
        rotate_left
        · rintro w' ⟨s0, s1, s2, s3, s4, s5⟩
          go_simp
          with_reducible rfl
        rotate_left
        · simp only [Act.put, List.setIfInBounds_toArray, List.set_cons_zero, List.set_cons_succ, i64_w, i32_w]
          rfl
        refine take_ (i := 4) (N := some 35) (v := ?_) (a' := ?_) #[true, true, true, true, true, false, true, true, true, false, false, false, false, false, false, false] rfl rfl (by kernel_rfl) (fun _ _ _ h => h) (Or.inl ⟨by rfl, ?_⟩) hHeld ?_ ?_
        rotate_left
        · rintro w' ⟨s0, s1, s2, s3, s4, s5⟩
          go_simp
          with_reducible rfl
        rotate_left
        · simp only [Act.put, List.setIfInBounds_toArray, List.set_cons_zero, List.set_cons_succ, i64_w, i32_w]
          rfl
        refine take_ (i := 5) (N := some 36) (v := ?_) (a' := ?_) #[true, true, true, true, true, true, true, true, true, false, false, false, false, false, false, false] rfl rfl (by kernel_rfl) (fun _ _ _ h => h) (Or.inl ⟨by rfl, ?_⟩) hHeld ?_ ?_
        rotate_left
        · rintro w' ⟨s0, s1, s2, s3, s4, s5⟩
          go_simp
          with_reducible rfl
        rotate_left
        · simp only [Act.put, List.setIfInBounds_toArray, List.set_cons_zero, List.set_cons_succ, i64_w, i32_w]
          rfl
        refine take_ (i := 9) (N := some 40) (v := ?_) (a' := ?_) #[true, true, true, true, true, true, true, true, true, true, false, false, false, false, false, false] rfl rfl (by kernel_rfl) (fun _ _ _ h => h) (Or.inl ⟨by rfl, ?_⟩) hHeld ?_ ?_
        rotate_left
        · rintro w' ⟨s0, s1, s2, s3, s4, s5⟩
          go_simp
          with_reducible rfl
        rotate_left
        · simp only [Act.put, List.setIfInBounds_toArray, List.set_cons_zero, List.set_cons_succ, i64_w, i32_w]
          rfl
        refine take_ (i := 10) (N := some 41) (v := ?_) (a' := ?_) #[true, true, true, true, true, true, true, true, true, true, true, false, false, false, false, false] rfl rfl (by kernel_rfl) (fun _ _ _ h => h) (Or.inl ⟨by rfl, ?_⟩) hHeld ?_ ?_
        rotate_left
        · rintro w' ⟨s0, s1, s2, s3, s4, s5⟩
          go_simp
          with_reducible rfl
        rotate_left
        · simp only [Act.put, List.setIfInBounds_toArray, List.set_cons_zero, List.set_cons_succ, i64_w, i32_w]
          rfl
        refine take_ (i := 11) (N := some 42) (v := ?_) (a' := ?_) #[true, true, true, true, true, true, true, true, true, true, true, true, false, false, false, false] rfl rfl (by kernel_rfl) (fun _ _ _ h => h) (Or.inl ⟨by rfl, ?_⟩) hHeld ?_ ?_
        rotate_left
        · rintro w' ⟨s0, s1, s2, s3, s4, s5⟩
          go_simp
          with_reducible rfl
        rotate_left
        · simp only [Act.put, List.setIfInBounds_toArray, List.set_cons_zero, List.set_cons_succ, i64_w, i32_w]
          rfl
        refine join_ (σ := Nat × Nat) 2 #[true, true, true, true, true, true, true, true, true, true, true, true, true, true, false, false] (fun s => [(7, .pointer (some ⟨s.1, 0, none⟩)), (8, .pointer (some ⟨s.2, 0, none⟩))]) (fun s w' => Two w5 w' s.1 s.2) ?_ ?_
        rotate_left
        · intro hCont
          refine two_ (i := 12) (j := 13) (Ni := some 7) (Nj := some 8) #[true, true, true, true, true, true, true, true, true, true, true, true, true, false, false, false] #[true, true, true, true, true, true, true, true, true, true, true, true, false, true, false, false] rfl rfl rfl rfl (by kernel_rfl) (by decide) (by decide) (fun K hK => ?_) (fun K hK => ?_)
          · skip
            refine value_ (w1 := ?_) (v := ?_) (by rfl) rfl ?_ ?_
            rotate_left 2
            · go_simp
              constructor
              · rfl
              · rfl
            refine hK.out _ _ ⟨((HRB2.out.alloc _).facts hin HB.out).1, ((HRB2.out.alloc _).facts hin HB.out).2.1, ((HRB2.out.alloc _).facts hin HB.out).2.2.1, ((HRB2.out.alloc _).facts hin HB.out).2.2.2.1, ((HRB2.out.alloc _).facts hin HB.out).2.2.2.2.1, ((HRB2.out.alloc _).facts hin HB.out).2.2.2.2.2⟩ (fun hHeld => ?_)
            clear hK K
            refine norm_ (a' := ?_) ?_ ?_
            rotate_left
            · show Act.put _ (some 7) _ = _
              simp only [Act.put, List.setIfInBounds_toArray, List.set_cons_zero, List.set_cons_succ, i64_w, i32_w]
              rfl
            refine one_ (i := 13) (N := some 8) #[true, true, true, true, true, true, true, true, true, true, true, true, true, true, false, false] rfl rfl (by kernel_rfl) (by decide) (fun K hK => ?_)
            refine value_ (w1 := ?_) (v := ?_) (by rfl) rfl ?_ ?_
            rotate_left 2
            · go_simp
              constructor
              · rfl
              · rfl
            refine hK.out _ _ ⟨(((HRB2.out.alloc _).alloc _).facts hin HB.out).1, (((HRB2.out.alloc _).alloc _).facts hin HB.out).2.1, (((HRB2.out.alloc _).alloc _).facts hin HB.out).2.2.1, (((HRB2.out.alloc _).alloc _).facts hin HB.out).2.2.2.1, (((HRB2.out.alloc _).alloc _).facts hin HB.out).2.2.2.2.1, (((HRB2.out.alloc _).alloc _).facts hin HB.out).2.2.2.2.2⟩ (fun hHeld => ?_)
            clear hK K
            refine norm_ (a' := ?_) ?_ ?_
            rotate_left
            · show Act.put _ (some 8) _ = _
              simp only [Act.put, List.setIfInBounds_toArray, List.set_cons_zero, List.set_cons_succ, i64_w, i32_w]
              rfl
            exact norm_ (by simp only [putAll, Act.put, List.setIfInBounds_toArray, List.set_cons_zero, List.set_cons_succ]) (hCont (w5.heap.size, w5.heap.size + 1) _ (two_ab w5))
          · skip
            refine value_ (w1 := ?_) (v := ?_) (by rfl) rfl ?_ ?_
            rotate_left 2
            · go_simp
              constructor
              · rfl
              · rfl
            refine hK.out _ _ ⟨((HRB2.out.alloc _).facts hin HB.out).1, ((HRB2.out.alloc _).facts hin HB.out).2.1, ((HRB2.out.alloc _).facts hin HB.out).2.2.1, ((HRB2.out.alloc _).facts hin HB.out).2.2.2.1, ((HRB2.out.alloc _).facts hin HB.out).2.2.2.2.1, ((HRB2.out.alloc _).facts hin HB.out).2.2.2.2.2⟩ (fun hHeld => ?_)
            clear hK K
            refine norm_ (a' := ?_) ?_ ?_
            rotate_left
            · show Act.put _ (some 8) _ = _
              simp only [Act.put, List.setIfInBounds_toArray, List.set_cons_zero, List.set_cons_succ, i64_w, i32_w]
              rfl
            refine one_ (i := 12) (N := some 7) #[true, true, true, true, true, true, true, true, true, true, true, true, true, true, false, false] rfl rfl (by kernel_rfl) (by decide) (fun K hK => ?_)
            refine value_ (w1 := ?_) (v := ?_) (by rfl) rfl ?_ ?_
            rotate_left 2
            · go_simp
              constructor
              · rfl
              · rfl
            refine hK.out _ _ ⟨(((HRB2.out.alloc _).alloc _).facts hin HB.out).1, (((HRB2.out.alloc _).alloc _).facts hin HB.out).2.1, (((HRB2.out.alloc _).alloc _).facts hin HB.out).2.2.1, (((HRB2.out.alloc _).alloc _).facts hin HB.out).2.2.2.1, (((HRB2.out.alloc _).alloc _).facts hin HB.out).2.2.2.2.1, (((HRB2.out.alloc _).alloc _).facts hin HB.out).2.2.2.2.2⟩ (fun hHeld => ?_)
            clear hK K
            refine norm_ (a' := ?_) ?_ ?_
            rotate_left
            · show Act.put _ (some 7) _ = _
              simp only [Act.put, List.setIfInBounds_toArray, List.set_cons_zero, List.set_cons_succ, i64_w, i32_w]
              rfl
            exact norm_ (by simp only [putAll, Act.put, List.setIfInBounds_toArray, List.set_cons_zero, List.set_cons_succ]) (hCont (w5.heap.size + 1, w5.heap.size) _ (two_ab w5).swap)
        rintro ⟨ka, kb⟩ w8 HTW
        dsimp only at HTW
        have HRB8 := Asd.mk (HRB2.out.bel HTW.bel)
        have hHeld := HRB8.out.facts hin HB.out
        obtain ⟨w9, hs9, ha9, hg9⟩ := store_sec w8 ka b zeros HTW.za hbl zeros_len
        obtain ⟨w10, hs10, hb10, hg10⟩ := store_sec w9 kb (resK d ps cs k p) zeros ((hg9.block kb (blk_lt HTW.zb) (by simp; exact HTW.ne.symm)).trans HTW.zb) hSl zeros_len
        refine norm_ (a' := ?_) ?_ ?_
        rotate_left
        · simp only [putAll, Act.put, List.setIfInBounds_toArray, List.set_cons_zero, List.set_cons_succ]
          rfl
        refine last_ (i := 14) (N := none) #[true, true, true, true, true, true, true, true, true, true, true, true, true, true, true, false] rfl rfl (by kernel_rfl) (by decide) (fun K hK => ?_)
        refine skip_ (w1 := w9) (by rfl) rfl ?_ ?_
        · exact exec_store 67 (.tmp 7) (.tmp 36) rfl rfl rfl hs9
        refine hK.out _ _ ?_
        clear hK K
        refine last_ (i := 15) (N := none) #[true, true, true, true, true, true, true, true, true, true, true, true, true, true, true, true] rfl rfl (by kernel_rfl) (by decide) (fun K hK => ?_)
        refine skip_ (w1 := w10) (by rfl) rfl ?_ ?_
        · exact exec_store 67 (.tmp 8) (.tmp 42) rfl rfl rfl hs10
        refine hK.out _ _ ?_
        clear hK K
        refine done_ (by kernel_rfl) ?_
        clear f1 f2 f3 f4 f5 f6 hHeld hs9 hs10
        have hs5 := HBD.out.size
        have hb8 : Below wc.heap.size wc w8 := HBD.out.trans (HTW.bel.mono hs5)
        have hb9 : Below wc.heap.size wc w9 := hb8.grown hg9 hb8.size (fun j e => by cases e; have := HTW.la; omega)
        have hb10' : Below wc.heap.size wc w10 := hb9.grown hg10 hb9.size (fun j e => by cases e; have := HTW.lb; omega)
        have HRBX := Asd.mk (HRB.out.bel hb10')
        have HBX : Asd (Below wr.heap.size wr w10) := ⟨HBC.out.trans (hb10'.mono HBC.out.size)⟩
        have HAX := Asd.mk ((hg10.block ka (Array.getElem?_eq_some_iff.1 ha9).1 (by simp; exact HTW.ne)).trans ha9)
        have HKX := Asd.mk hb10
        have HLA : Asd (wr.heap.size < ka) := ⟨by have := HTW.la; have := blk_lt HRB.out.pl; omega⟩
        clear hs5 hb8 hb9 hb10' HTW ha9 hg9 hb10 hg10 HRB2 HRB8 HRB HBD HBC
        clear hHeld
        clear w9 w8 w5
        by_cases h2 : ch = 2
        · subst h2
          obtain ⟨w12, hcp, ha12, hg12'⟩ := copy_half w10.drew ka kb b (resK d ps cs k p) hbl hSl HAX.out HKX.out
          have hg12 : w10.grownBy w12 (some ka) := undrew_grown hg12'
          have HAY := Asd.mk ha12
          have hap : g ≠ ka ∧ ms ≠ ka ∧ mp ≠ ka ∧ wr.heap.size ≠ ka := by
            have h1 := HLA.out
            have h2 := blk_lt HRel.out.blk
            have h3 := HRel.out.safe.lt
            have h4 := HRel.out.pend.lt
            omega
          have HRBY := Asd.mk (HRBX.out.grown hg12 hap)
          have hnl : (b.take 32 ++ (resK d ps cs k p).drop 32).length = 64 := by simp [hbl, hSl]
          have hbw := HBX.out.size
          have HBY : Asd (Below wr.heap.size wr w12) := ⟨HBX.out.grown hg12 hbw (fun j e => by cases e; have := HLA.out; omega)⟩
          have HNB : Asd (b.take 32 ++ (resK d ps cs k p).drop 32 = applyC (cs.getD k 0) ((d.pend ps[k]).getD []) (d.safe ps[k])) := ⟨by
            rw [HPk.out, HB.out, HCH.out]
            have := resK_here d ps cs k hlt HA.out.1
            rw [HPk.out] at this
            rw [this]
            rfl⟩
          generalize hnb : b.take 32 ++ (resK d ps cs k p).drop 32 = nb at HAY hnl HNB ha12
          clear ha12 hg12 hg12' HAX HKX HRBX HBX hbw hap hnb
          go_wp2_with fail
          refine start_ (n := 3) (S := fun w' => True) (ds := []) #[false, false, false] (by kernel_rfl) rfl rfl trivial (fun hHeld => ?_)
          generalize w10.drew = w11 at hcp ⊢
          refine pure_ (i := 0) (N := some 48) (v := ?_) (a' := ?_) #[true, false, false] rfl rfl (by kernel_rfl) (fun _ _ _ h => h) (Or.inl ⟨by rfl, ?_⟩) ?_ ?_
          rotate_left
          · intro w'
            go_simp
            with_reducible rfl
          rotate_left
          · simp only [Act.put, List.setIfInBounds_toArray, List.set_cons_zero, List.set_cons_succ, i64_w, i32_w]
            rfl
          refine pure_ (i := 1) (N := some 49) (v := ?_) (a' := ?_) #[true, true, false] rfl rfl (by kernel_rfl) (fun _ _ _ h => h) (Or.inl ⟨by rfl, ?_⟩) ?_ ?_
          rotate_left
          · intro w'
            go_simp
            with_reducible rfl
          rotate_left
          · simp only [Act.put, List.setIfInBounds_toArray, List.set_cons_zero, List.set_cons_succ, i64_w, i32_w]
            rfl
          refine one_ (i := 2) (N := some 50) #[true, true, true] rfl rfl (by kernel_rfl) (by decide) (fun K hK => ?_)
          refine value_ (w1 := w12) (v := goInt 32) (by rfl) rfl ?_ ?_
          · go_simp
          refine hK.out _ _ trivial (fun hHeld => ?_)
          clear hK K
          refine norm_ (a' := ?_) ?_ ?_
          rotate_left
          · show Act.put _ (some 50) _ = _
            simp only [Act.put, List.setIfInBounds_toArray, List.set_cons_zero, List.set_cons_succ, i64_w, i32_w]
            rfl
          refine done_ (by kernel_rfl) ?_
          clear hcp
          try clear hHeld
          try clear hHeld
          have c2 := (dk_cells HRBY.out.blk).2.2.1
          obtain ⟨y0, y1⟩ := pl_cells2 HRBY.out.pl
          obtain ⟨Ds, howns, hks, hps⟩ := HRBY.out.safe
          obtain ⟨w14, hup0, hown14, hturn14⟩ := (show owns w12.drew ms (Maps.size Ds) Ds from howns).store pl_law Tryd.underlying63 (by have := size_few howns hks; unfold maxLen; omega) (pl_key p hin.wf) (secR_mk hnl)
          have hup : (Instr.mapUpdate 63 (.map (some ms)) (.agg #[.int .i64 p.1, .int .i64 p.2]) (.agg (secC nb))).run Tryd.prog w12.drew = .ok () w14 := hup0
          have hls := load_sec (W := w12.drew) hnl HAY.out
          have hgr14 : w12.grownBy w14 (some ms) := undrew_grown hturn14.grown
          have hS14 : SafeM w14 ms (putS (resK d ps cs k) p nb) := ⟨_, owns_size hown14, keys_put hks howns.isMap hin _, pl_put howns.isMap hps hin hnl⟩
          have HS14 : Asd (SafeM w14 ms (resK d ps cs (k + 1))) := ⟨hS14.congr (fun q _ => by rw [← resK_step d ps cs k hlt HA.out.1 q, ← HNB.out, HPk.out])⟩
          have HF14 : Asd (Frm (fun j => j = ms) wr w14) := ⟨(Frm.of_below (S := fun j => j = ms) HBY.out).grown hgr14 (fun j e => .inl (Option.some.inj e).symm)⟩
          have z2d : w12.drew.cell? ⟨g, 2, none⟩ = some (.map (some ms)) := c2
          have y0d : w12.drew.cell? ⟨wr.heap.size, 0, none⟩ = some (.int .i64 p.1) := y0
          have y1d : w12.drew.cell? ⟨wr.heap.size, 1, none⟩ = some (.int .i64 p.2) := y1
          clear howns hks hps hown14 hturn14 hgr14 hup0 hS14 HAY HRBY HBY HNB c2 y0 y1
          go_wp2_with fail
          refine start_ (n := 7) (S := fun w' => w'.cell? ⟨g, 2, none⟩ = some (.map (some ms)) ∧ w'.cell? ⟨wr.heap.size, 0, none⟩ = some (.int .i64 p.1) ∧ w'.cell? ⟨wr.heap.size, 1, none⟩ = some (.int .i64 p.2)) (ds := [6]) #[false, false, false, false, false, false, false] (by kernel_rfl) rfl rfl ⟨z2d, y0d, y1d⟩ (fun hHeld => ?_)
          generalize w12.drew = w13 at z2d y0d y1d hls hup hHeld ⊢
          refine pure_ (i := 0) (N := some 51) (v := ?_) (a' := ?_) #[true, false, false, false, false, false, false] rfl rfl (by kernel_rfl) (fun _ _ _ h => h) (Or.inl ⟨by rfl, ?_⟩) ?_ ?_
          rotate_left
          · intro w'
            go_simp
            with_reducible rfl
          rotate_left
          · simp only [Act.put, List.setIfInBounds_toArray, List.set_cons_zero, List.set_cons_succ, i64_w, i32_w]
            rfl
          refine pure_ (i := 1) (N := some 52) (v := ?_) (a' := ?_) #[true, true, false, false, false, false, false] rfl rfl (by kernel_rfl) (fun _ _ _ h => h) (Or.inl ⟨by rfl, ?_⟩) ?_ ?_
          rotate_left
          · intro w'
            go_simp
            with_reducible rfl
          rotate_left
          · simp only [Act.put, List.setIfInBounds_toArray, List.set_cons_zero, List.set_cons_succ, i64_w, i32_w]
            rfl
          refine pure_ (i := 2) (N := some 53) (v := ?_) (a' := ?_) #[true, true, true, false, false, false, false] rfl rfl (by kernel_rfl) (fun _ _ _ h => h) (Or.inl ⟨by rfl, ?_⟩) ?_ ?_
          rotate_left
          · intro w'
            go_simp
            with_reducible rfl
          rotate_left
          · simp only [Act.put, List.setIfInBounds_toArray, List.set_cons_zero, List.set_cons_succ, i64_w, i32_w]
            rfl
          refine take_ (i := 3) (N := some 54) (v := ?_) (a' := ?_) #[true, true, true, true, false, false, false] rfl rfl (by kernel_rfl) (fun _ _ _ h => h) (Or.inl ⟨by rfl, ?_⟩) hHeld ?_ ?_
          rotate_left
          · rintro w' ⟨s0, s1, s2⟩
            go_simp
            with_reducible rfl
          rotate_left
          · simp only [Act.put, List.setIfInBounds_toArray, List.set_cons_zero, List.set_cons_succ, i64_w, i32_w]
            rfl
          refine take_ (i := 4) (N := some 55) (v := ?_) (a' := ?_) #[true, true, true, true, true, false, false] rfl rfl (by kernel_rfl) (fun _ _ _ h => h) (Or.inl ⟨by rfl, ?_⟩) hHeld ?_ ?_
          rotate_left
          · rintro w' ⟨s0, s1, s2⟩
            go_simp
            with_reducible rfl
          rotate_left
          · simp only [Act.put, List.setIfInBounds_toArray, List.set_cons_zero, List.set_cons_succ, i64_w, i32_w]
            rfl
          refine one_ (i := 5) (N := some 56) #[true, true, true, true, true, true, false] rfl rfl (by kernel_rfl) (by decide) (fun K hK => ?_)
          refine value_ (w1 := w13) (v := .agg (secC nb)) (by rfl) rfl ?_ ?_
          · exact exec_load 67 (.tmp 7) rfl rfl hls
          refine hK.out _ _ ⟨z2d, y0d, y1d⟩ (fun hHeld => ?_)
          clear hK K
          refine norm_ (a' := ?_) ?_ ?_
          rotate_left
          · show Act.put _ (some 56) _ = _
            simp only [Act.put, List.setIfInBounds_toArray, List.set_cons_zero, List.set_cons_succ, i64_w, i32_w]
            rfl
          refine last_ (i := 6) (N := none) #[true, true, true, true, true, true, true] rfl rfl (by kernel_rfl) (by decide) (fun K hK => ?_)
          refine skip_ (w1 := w14) (by rfl) rfl ?_ ?_
          · go_simp
          refine hK.out _ _ ?_
          clear hK K
          refine done_ (by kernel_rfl) ?_
          clear hls hup z2d y0d y1d hHeld
          clear hHeld
          clear w13
          go_wp2_with fail
          exact ⟨⟨k + 1, by omega, by go_num, HRel.out.later HD.out HF14.out HS14.out⟩, by simp [intOf]; omega⟩
        · by_cases h1 : ch = 1
          · subst h1
            obtain ⟨w12, rfl⟩ : ∃ w12, w12 = w10 := ⟨_, rfl⟩
            have HAY := Asd.mk HAX.out
            have HRBY := Asd.mk HRBX.out
            have HBY := Asd.mk HBX.out
            have hnl := hbl
            have HNB : Asd (b = applyC (cs.getD k 0) ((d.pend ps[k]).getD []) (d.safe ps[k])) := ⟨by rw [HPk.out, HB.out, HCH.out]; rfl⟩
            obtain ⟨nb, hnb⟩ : ∃ nb, b = nb := ⟨_, rfl⟩
            rw [hnb] at HAY hnl HNB
            clear HAX HKX HRBX HBX hnb
            have c2 := (dk_cells HRBY.out.blk).2.2.1
            obtain ⟨y0, y1⟩ := pl_cells2 HRBY.out.pl
            obtain ⟨Ds, howns, hks, hps⟩ := HRBY.out.safe
            obtain ⟨w14, hup0, hown14, hturn14⟩ := (show owns w12.drew ms (Maps.size Ds) Ds from howns).store pl_law Tryd.underlying63 (by have := size_few howns hks; unfold maxLen; omega) (pl_key p hin.wf) (secR_mk hnl)
            have hup : (Instr.mapUpdate 63 (.map (some ms)) (.agg #[.int .i64 p.1, .int .i64 p.2]) (.agg (secC nb))).run Tryd.prog w12.drew = .ok () w14 := hup0
            have hls := load_sec (W := w12.drew) hnl HAY.out
            have hgr14 : w12.grownBy w14 (some ms) := undrew_grown hturn14.grown
            have hS14 : SafeM w14 ms (putS (resK d ps cs k) p nb) := ⟨_, owns_size hown14, keys_put hks howns.isMap hin _, pl_put howns.isMap hps hin hnl⟩
            have HS14 : Asd (SafeM w14 ms (resK d ps cs (k + 1))) := ⟨hS14.congr (fun q _ => by rw [← resK_step d ps cs k hlt HA.out.1 q, ← HNB.out, HPk.out])⟩
            have HF14 : Asd (Frm (fun j => j = ms) wr w14) := ⟨(Frm.of_below (S := fun j => j = ms) HBY.out).grown hgr14 (fun j e => .inl (Option.some.inj e).symm)⟩
            have z2d : w12.drew.cell? ⟨g, 2, none⟩ = some (.map (some ms)) := c2
            have y0d : w12.drew.cell? ⟨wr.heap.size, 0, none⟩ = some (.int .i64 p.1) := y0
            have y1d : w12.drew.cell? ⟨wr.heap.size, 1, none⟩ = some (.int .i64 p.2) := y1
            clear howns hks hps hown14 hturn14 hgr14 hup0 hS14 HAY HRBY HBY HNB c2 y0 y1
            go_wp2_with fail
            refine start_ (n := 7) (S := fun w' => w'.cell? ⟨g, 2, none⟩ = some (.map (some ms)) ∧ w'.cell? ⟨wr.heap.size, 0, none⟩ = some (.int .i64 p.1) ∧ w'.cell? ⟨wr.heap.size, 1, none⟩ = some (.int .i64 p.2)) (ds := [6]) #[false, false, false, false, false, false, false] (by kernel_rfl) rfl rfl ⟨z2d, y0d, y1d⟩ (fun hHeld => ?_)
            generalize w12.drew = w13 at z2d y0d y1d hls hup hHeld ⊢
            refine pure_ (i := 0) (N := some 51) (v := ?_) (a' := ?_) #[true, false, false, false, false, false, false] rfl rfl (by kernel_rfl) (fun _ _ _ h => h) (Or.inl ⟨by rfl, ?_⟩) ?_ ?_
            rotate_left
            · intro w'
              go_simp
              with_reducible rfl
            rotate_left
            · simp only [Act.put, List.setIfInBounds_toArray, List.set_cons_zero, List.set_cons_succ, i64_w, i32_w]
              rfl
            refine pure_ (i := 1) (N := some 52) (v := ?_) (a' := ?_) #[true, true, false, false, false, false, false] rfl rfl (by kernel_rfl) (fun _ _ _ h => h) (Or.inl ⟨by rfl, ?_⟩) ?_ ?_
            rotate_left
            · intro w'
              go_simp
              with_reducible rfl
            rotate_left
            · simp only [Act.put, List.setIfInBounds_toArray, List.set_cons_zero, List.set_cons_succ, i64_w, i32_w]
              rfl
            refine pure_ (i := 2) (N := some 53) (v := ?_) (a' := ?_) #[true, true, true, false, false, false, false] rfl rfl (by kernel_rfl) (fun _ _ _ h => h) (Or.inl ⟨by rfl, ?_⟩) ?_ ?_
            rotate_left
            · intro w'
              go_simp
              with_reducible rfl
            rotate_left
            · simp only [Act.put, List.setIfInBounds_toArray, List.set_cons_zero, List.set_cons_succ, i64_w, i32_w]
              rfl
            refine take_ (i := 3) (N := some 54) (v := ?_) (a' := ?_) #[true, true, true, true, false, false, false] rfl rfl (by kernel_rfl) (fun _ _ _ h => h) (Or.inl ⟨by rfl, ?_⟩) hHeld ?_ ?_
            rotate_left
            · rintro w' ⟨s0, s1, s2⟩
              go_simp
              with_reducible rfl
            rotate_left
            · simp only [Act.put, List.setIfInBounds_toArray, List.set_cons_zero, List.set_cons_succ, i64_w, i32_w]
              rfl
            refine take_ (i := 4) (N := some 55) (v := ?_) (a' := ?_) #[true, true, true, true, true, false, false] rfl rfl (by kernel_rfl) (fun _ _ _ h => h) (Or.inl ⟨by rfl, ?_⟩) hHeld ?_ ?_
            rotate_left
            · rintro w' ⟨s0, s1, s2⟩
              go_simp
              with_reducible rfl
            rotate_left
            · simp only [Act.put, List.setIfInBounds_toArray, List.set_cons_zero, List.set_cons_succ, i64_w, i32_w]
              rfl
            refine one_ (i := 5) (N := some 56) #[true, true, true, true, true, true, false] rfl rfl (by kernel_rfl) (by decide) (fun K hK => ?_)
            refine value_ (w1 := w13) (v := .agg (secC nb)) (by rfl) rfl ?_ ?_
            · exact exec_load 67 (.tmp 7) rfl rfl hls
            refine hK.out _ _ ⟨z2d, y0d, y1d⟩ (fun hHeld => ?_)
            clear hK K
            refine norm_ (a' := ?_) ?_ ?_
            rotate_left
            · show Act.put _ (some 56) _ = _
              simp only [Act.put, List.setIfInBounds_toArray, List.set_cons_zero, List.set_cons_succ, i64_w, i32_w]
              rfl
            refine last_ (i := 6) (N := none) #[true, true, true, true, true, true, true] rfl rfl (by kernel_rfl) (by decide) (fun K hK => ?_)
            refine skip_ (w1 := w14) (by rfl) rfl ?_ ?_
            · go_simp
            refine hK.out _ _ ?_
            clear hK K
            refine done_ (by kernel_rfl) ?_
            clear hls hup z2d y0d y1d hHeld
            clear hHeld
            clear w13
            go_wp2_with fail
            exact ⟨⟨k + 1, by omega, by go_num, HRel.out.later HD.out HF14.out HS14.out⟩, by simp [intOf]; omega⟩
          · have e2 : (ch == 2) = false := by simpa using h2
            have e1 : (ch == 1) = false := by simpa using h1
            have H12 := Asd.mk (And.intro h1 h2)
            clear h1 h2
            go_wp2_with fail
            have hs := HRBX.out.safe.congr (fun p _ => resK_same d ps cs k hlt HA.out.1 (by rw [HCH.out]; exact H12.out.1) (by rw [HCH.out]; exact H12.out.2) p)
            exact ⟨⟨k + 1, by omega, by go_num, HRel.out.later HD.out (Frm.of_below HBX.out) hs⟩, by simp [intOf]; omega⟩
    · obtain rfl : k = ps.length := by omega
      have z3 := (dk_cells HRel.out.blk).2.2.2.1
      obtain ⟨D1, hown1, hk1, hno1, hp1⟩ := HRel.out.pend
      obtain ⟨w5, hclr, hown5, hturn⟩ := owns_clear hown1 0
      have hgr := hturn.grown
      have hgn := HD.out.neg
      have HD5 := Asd.mk (DiskC.mk (W := w5) (d := { d with safe := resK d ps cs ps.length, pend := fun _ => none }) ((hgr.block g (blk_lt HRel.out.blk) (fun e => hgn.2 (Option.some.inj e))).trans HRel.out.blk) (HRel.out.safe.step (hgr.block ms HRel.out.safe.lt (fun e => HD.out.ne (Option.some.inj e)))) (pend_new hown5) HD.out.ne HD.out.reg HD.out.sec HD.out.left (fun p hp => by cases hp))
      have HF5 := Asd.mk (HRel.out.frm.grown hgr (fun k e => .inl (.inr (.inr (Option.some.inj e).symm))))
      have c4 := HD5.out.cells.2.2.2.2.1
      have c5 := HD5.out.cells.2.2.2.2.2.1
      have z4 := HD5.out.frozen 4
      have z5 := HD5.out.frozen 5
      have hAll : Asd (∀ p, p ∈ ps ↔ (d.pend p).isSome = true) := ⟨fun p => by
        by_cases hp : In p
        · rw [HA.out.2.2 p hp, (HP.out.2.2 p hp).1]
        · rw [HP.out.2.1 p hp]
          exact ⟨fun h => absurd (HA.out.2.1 p h) hp, fun h => by cases h⟩⟩
      clear hown1 hk1 hno1 hp1 hown5 hturn hgr hgn hlt hk
      dsimp only at c4 c5
      go_wp2
      go_end0
      refine ⟨rfl, ⟨ps, HA.out.1, hAll.out, HPW.out, ?_⟩, (HF5.out.set ⟨g, 4, none⟩ _ (.inl (.inl rfl))).set ⟨g, 5, none⟩ _ (.inl (.inl rfl))⟩
      have hx := DiskC.set (d' := { d with safe := resK d ps cs ps.length, pend := fun _ => none, crashed := false }) HD5.out 4 (.bool false) rfl rfl rfl rfl HD.out.left (by rfl)
      exact DiskC.set (d' := resSt d ps cs) hx 5 (.bool false) rfl rfl rfl rfl HD.out.left (by rfl)
end Go.Proofs.YtnfnnfbcafepkaaDoor.Dk
