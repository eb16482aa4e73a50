/- The device: Write. -/
import Derived.Test.YtnfnnfbcafepkaaDoorDkW
import Derived.Test.YtnfnnfbcafepkaaDoorWLast
import Derived.Laws.CopyRow
import Derived.Laws.CopyOwn
import Derived.Laws.Tables
import Derived.Laws.Rows
import Derived.OwnWalk
namespace Go.Proofs.YtnfnnfbcafepkaaDoor.Dk
open Go Go.RowKit Go.Proofs.YtnfnnfbcafepkaaDoorW.PrintLast
set_option linter.unusedVariables false
set_option linter.unusedSimpArgs false
set_option maxRecDepth 100000
/-- A text with noughts behind it, a sector long. -/
def fill (b : List UInt8) : List UInt8 := b ++ List.replicate (64 - b.length) 0
/-- What Write does and says. -/
def writeSt (d : DSt) (p : Pl) (b : List UInt8) : DSt := { d with pend := putM d.pend p (fill b), left := if d.armed then wrap64 (d.left - 1) else d.left, crashed := d.armed && decide (wrap64 (d.left - 1) < 0) }
/-- The error of a device that has crashed. -/
def crashE (c : Bool) : Value := if c = true then .iface 62 (.int .i64 60) else .nilIface
/-- A slice of bytes, read. -/
def BytesC (W : World) (A : Option Addr) (b : List UInt8) : Prop := 0 < b.length → ∃ ad, A = some ad ∧ ∀ (j : Nat) (v : Value), (b.map fun x => Value.int .u8 x.toNat)[j]? = some v → W.cell? (ad.add j) = some v
theorem BytesC.below {W W' : World} {A : Option Addr} {b : List UInt8} (hb : Below W.heap.size W W') (h : BytesC W A b) : BytesC W' A b := fun hp => by
  obtain ⟨ad, e, hc⟩ := h hp
  exact ⟨ad, e, fun j v hj => (hb.cell (World.block_lt_of_cell? W _ (hc j v hj))).trans (hc j v hj)⟩
theorem dk_u8 : Tryd.prog.underlying 30 = some (.slice 5) := Tryd.underlying30
theorem dk_s8 : (Tryd.prog.info? 5).map (·.size) = some 1 := by kernel_rfl
theorem dk_s43 : (Tryd.prog.info? 67).map (·.size) = some 64 := by kernel_rfl
theorem zerosC : (#[Value.int IntKind.u8 0] : Array Value) = #[Value.int IntKind.u8 0] := rfl
theorem splice_fill (b : List UInt8) (h : b.length ≤ 64) : splice (zeros.map fun x => Value.int .u8 x.toNat) 0 (b.map fun x => Value.int .u8 x.toNat) = (fill b).map fun x => Value.int .u8 x.toNat := by
  unfold splice fill zeros
  rw [List.map_append, List.take_zero, List.nil_append, Nat.zero_add, List.map_replicate, List.drop_replicate, List.map_replicate, List.length_map]
theorem fill_len (b : List UInt8) (h : b.length ≤ 64) : (fill b).length = 64 := by unfold fill; simp; omega
theorem secC_one (b : List UInt8) : ∀ v ∈ b.map (fun x => Value.int .u8 x.toNat), v.oneCell' = true := by
  intro v hv
  obtain ⟨x, _, rfl⟩ := List.mem_map.1 hv
  rfl
theorem DiskC.in_ {W : World} {g ms mp : Nat} {d : DSt} (h : DiskC W g ms mp d) {r s : Int} (hr : hasB d r s = true) : In (r, s) := by
  unfold hasB at hr
  simp only [Bool.and_eq_true, decide_eq_true_iff] at hr
  have := h.reg
  have := h.sec
  exact ⟨hr.1.1.1, by show r < 16; omega, hr.1.2, by show s < 16384; omega⟩
theorem had_put {d : DSt} (h : ∀ p, (d.pend p).isSome = true → 0 ≤ p.1 ∧ p.1 < d.reg ∧ 0 ≤ p.2 ∧ p.2 < d.sec) {r s : Int} (hr : hasB d r s = true) {b : List UInt8} : ∀ p, (putM d.pend (r, s) b p).isSome = true → 0 ≤ p.1 ∧ p.1 < d.reg ∧ 0 ≤ p.2 ∧ p.2 < d.sec := by
  intro p hp
  unfold putM at hp
  by_cases e : p = (r, s)
  · subst e
    unfold hasB at hr
    simp only [Bool.and_eq_true, decide_eq_true_iff] at hr
    exact ⟨hr.1.1.1, hr.1.1.2, hr.1.2, hr.2⟩
  · rw [if_neg e] at hp
    exact h p hp
theorem pend_put {W W1 : World} {m n n1 : Nat} {D : DataW Unit} {M : Pl → Option (List UInt8)} {p : Pl} {b : List UInt8} (h : owns W m n D) (h1 : owns W1 m n1 (D.put (plKey p) (.lit (.string b)))) (hk : Keys D) (hno : ∀ p, ¬ In p → M p = none)
    (hp : ∀ p, In p → Maps.has D (plKey p) = (M p).isSome ∧ ∀ b, M p = some b → b.length = 64 ∧ ∀ zd, D.atKey (plKey p) zd = .lit (.string b)) (hin : In p) (hb : b.length = 64) : PendM W1 m (putM M p b) := by
  refine ⟨_, owns_size h1, keys_put hk h.isMap hin _, fun q hq => ?_, fun q hq => ?_⟩
  · unfold putM
    rw [if_neg (fun e => hq (by rw [e]; exact hin))]
    exact hno q hq
  · unfold putM
    by_cases e : q = p
    · subst e
      rw [if_pos rfl]
      exact ⟨by rw [Maps.has_put_same h.isMap (pl_keylit _ hq.wf)]; rfl, fun c hc => by injection hc with hc; subst hc; exact ⟨hb, fun zd => Maps.atKey_put_same h.isMap (pl_keylit _ hq.wf) _ _⟩⟩
    · have hne : plKey q ≠ plKey p := fun e1 => e (pl_key_inj hq.wf hin.wf e1)
      rw [if_neg e, Maps.has_put_other hne]
      exact ⟨(hp q hq).1, fun c hc => ⟨((hp q hq).2 c hc).1, fun zd => (Maps.atKey_put_other hne _ _).trans (((hp q hq).2 c hc).2 zd)⟩⟩
theorem secC_size (b : List UInt8) : (secC b).size = b.length := by unfold secC; simp
theorem undrew_grown {w w' : World} {row : Option Nat} (h : w.drew.grownBy w' row) : w.grownBy w' row := ⟨h.os, h.tape, h.output, h.size, h.block⟩
theorem exec_load {P : Program} {w : World} {ev : Operand → Value} {o : Oper} (ty : TypeId) (x : Operand) (ho : o.op = .load ty x) {g : Nat} {cs : Array Value} (hx : ev x = .pointer (some ⟨g, 0, none⟩)) (hl : (loadVar ty ⟨g, 0, none⟩).run P w = .ok (.agg cs) w) : (execOp ev o).run P w = .ok (.value (.agg cs)) w := by
  unfold execOp
  simp only [ho, hx, Instr.loadAt, Instr.sureAddr, Sem.run_bind, Sem.run_pure, Result.andThen_ok, hl]
/-- A cell of the device is written. -/
theorem DiskC.set {W : World} {g ms mp : Nat} {d d' : DSt} (h : DiskC W g ms mp d) (i : Nat) (v : Value) (hs : d'.safe = d.safe) (hp : d'.pend = d.pend) (hreg : d'.reg = d.reg) (hsec : d'.sec = d.sec) (hl : -9223372036854775808 ≤ d'.left ∧ d'.left ≤ 9223372036854775807)
    (hv : (#[.int .i64 d.reg, .int .i64 d.sec, .map (some ms), .map (some mp), .bool d.crashed, .bool d.armed, .int .i64 d.left] : Array Value).setIfInBounds i v = #[.int .i64 d'.reg, .int .i64 d'.sec, .map (some ms), .map (some mp), .bool d'.crashed, .bool d'.armed, .int .i64 d'.left]) : DiskC (W.setCell ⟨g, i, none⟩ v) g ms mp d' := by
  have hb := h.blk
  unfold dkO at hb
  have hn := h.neg
  have e := setCell_eq_setRow W g i _ _ (0, 0) v hb
  have eo : ∀ k, k ≠ g → (W.setCell ⟨g, i, none⟩ v).heap[k]? = W.heap[k]? := fun k hk => Below.heap_setCell W ⟨g, i, none⟩ v k hk
  refine ⟨?_, by rw [hs]; exact h.safe.step (eo ms (fun e => hn.1 e.symm)), by rw [hp]; exact h.pend.step (eo mp (fun e => hn.2 e.symm)), h.ne, by rw [hreg]; exact h.reg, by rw [hsec]; exact h.sec, hl, by rw [hp, hreg, hsec]; exact h.had⟩
  rw [e, setRow_heap W g _ _ 65 (0, 0) hb, hv]
  rfl
def Halt (p : Prop) : Prop := p
theorem halt_dst {P : Program} {w : World} {ops : Array Oper} {rest : List Oper} {o : Oper} {a : Act} {Q : Exit → Act → World → Prop} (N : Tmp) (ho : o.dst = some N)
    (h : Halt (wpList P ops Q (o :: rest) a w)) : wpList P ops Q (o :: rest) a w := h
set_option maxHeartbeats 8000000 in
theorem write_c (g ms mp : Nat) (d : DSt) (r s : Int) (A : Option Addr) (c : Nat) (b : List UInt8) (w : World) (h : DiskC w g ms mp d) (hr : hasB d r s = true) (hb : b.length ≤ 64) (hc : d.crashed = false) (hbc : BytesC w A b) (hbl : b.length ≤ c) :
    Calls Tryd.prog 8 #[.pointer (some ⟨g, 0, none⟩), .int .i64 r, .int .i64 s, .slice A b.length c] w fun e w' => e = .returned (crashE (writeSt d (r, s) b).crashed) ∧ DiskC w' g ms mp (writeSt d (r, s) b) ∧ Frm (own g ms mp) w w' := by
  obtain ⟨h0, h1, h2, h3, h4, h5, h6⟩ := h.cells
  have up := Tryd.underlying22
  have e2 : decide (b.length > 64) = false := decide_eq_false (by omega)
  have e2' : decide (64 < b.length) = false := decide_eq_false (by omega)
  have HD := Asd.mk h
  have HB := Asd.mk hbc
  rw [hc] at h4
  clear h hbc
  go_enter Tryd.func8, Tryd.ntmps8
  go_wp2_with (first
    | (go_at_call 24; refine (has_c g ms mp d r s w HD.out).mono ?_; rintro e w2 ⟨rfl, rfl⟩; rw [hr])
    | (with_reducible refine halt_dst 30 rfl ?_))
  unfold Halt
  refine wpList_copy_splice rfl _ _ 30 30 rfl 5 dk_u8 dk_s8 _ _ 64 64 b.length c rfl rfl w2.heap.size 0 (zeros.map fun x => Value.int .u8 x.toNat) 67 (MapKept.heap_alloc w2 _).1 (b.map fun x => Value.int .u8 x.toNat) (by rw [List.length_map]; exact (Nat.min_eq_left hb).symm) (fun hp => ⟨rfl, BytesC.below ((Below.refl _ w2).alloc (Nat.le_refl _) _) HB.out (by simpa using hp)⟩) (by simp [zeros]; omega) (secC_one b) w2.heap.size w2 ((Below.refl _ w2).alloc (Nat.le_refl _) _) (Nat.le_refl _) ?_
  intro w3 BK3 HB3
  have BK := Asd.mk BK3
  have HD3 := Asd.mk (HD.out.frm (S := fun _ => False) (Frm.of_below HB3) (fun _ _ h => h))
  have HF3 := Asd.mk HB3
  clear HD HB BK3 HB3
  clear h0 h1 h2 h3 h4 h5 h6
  obtain ⟨h0, h1, h2, h3, h4, h5, h6⟩ := HD3.out.cells
  rw [hc] at h4
  go_wp2_with fail
  simp only [goInt, Act.put, List.setIfInBounds_toArray, List.set_cons_zero, List.set_cons_succ]
  have hin := HD3.out.in_ hr
  obtain ⟨D, hown, hk, hno, hp⟩ := HD3.out.pend
  obtain ⟨w6, hup0, hown6, hturn⟩ := (show owns w3.drew mp (Maps.size D) D from hown).store pl_law Tryd.underlying63 (by have := size_few hown hk; unfold maxLen; omega) (pl_key (r, s) hin.wf) (secR_mk (fill_len b hb))
  have hl : (loadVar 67 ⟨w2.heap.size, 0, none⟩).run Tryd.prog w3.drew = .ok (.agg (secC (fill b))) w3.drew := by
    refine run_loadVar_row w3.drew w2.heap.size 67 67 (secC (fill b)) (0, 0) _ ?_ Tryd.underlying67 rfl (by rw [dk_s43, secC_size, fill_len b hb])
    have := BK.out
    unfold Hid at this
    rw [splice_fill b hb] at this
    exact this
  have hup : (Instr.mapUpdate 63 (.map (some mp)) (.agg #[.int .i64 r, .int .i64 s]) (.agg (secC (fill b)))).run Tryd.prog w3.drew = .ok () w6 := hup0
  have hgr : w3.grownBy w6 (some mp) := undrew_grown hturn.grown
  have hng := HD3.out.neg
  have HD6 := Asd.mk (DiskC.mk (W := w6) (d := { d with pend := putM d.pend (r, s) (fill b) }) ((hgr.block g (blk_lt HD3.out.blk) (fun e => hng.2 (Option.some.inj e))).trans HD3.out.blk) (HD3.out.safe.step (hgr.block ms HD3.out.safe.lt (fun e => HD3.out.ne (Option.some.inj e)))) (pend_put hown hown6 hk hno hp hin (fill_len b hb)) HD3.out.ne HD3.out.reg HD3.out.sec HD3.out.left (had_put HD3.out.had hr))
  have HF6 := Asd.mk ((Frm.of_below (S := own g ms mp) HF3.out).grown hgr (fun k e => .inl (.inr (.inr (Option.some.inj e).symm))))
  have z3 : w3.drew.cell? ⟨g, 3, none⟩ = some (.map (some mp)) := h3
  clear h0 h1 h2 h3 h4 h5 h6 BK HD3 HF3 hown hown6 hturn hgr hp hno hk hup0
  refine start_ (n := 9) (S := fun w' => w'.cell? ⟨g, 3, none⟩ = some (.map (some mp))) (ds := [8]) #[false, false, false, false, false, false, false, false, false] (by kernel_rfl) rfl rfl (z3) (fun hHeld => ?_)
  generalize w3.drew = w5 at z3 hl hup hHeld ⊢
  refine pure_ (i := 0) (N := some 31) (v := ?_) (a' := ?_) #[true, false, false, false, false, false, false, false, false] rfl rfl (by kernel_rfl) (fun _ _ _ h => h) (Or.inl ⟨by rfl, ?_⟩) ?_ ?_
  rotate_left
  · intro w'
    go_simp
    with_reducible rfl
  rotate_left
  · simp only [Act.put, List.setIfInBounds_toArray, List.set_cons_zero, List.set_cons_succ, i64_w, i32_w]
    rfl
  refine pure_ (i := 1) (N := some 32) (v := ?_) (a' := ?_) #[true, true, false, false, false, false, false, false, false] rfl rfl (by kernel_rfl) (fun _ _ _ h => h) (Or.inl ⟨by rfl, ?_⟩) ?_ ?_
  rotate_left
  · intro w'
    go_simp
    with_reducible rfl
  rotate_left
  · simp only [Act.put, List.setIfInBounds_toArray, List.set_cons_zero, List.set_cons_succ, i64_w, i32_w]
    rfl
  refine pure_ (i := 2) (N := some 33) (v := ?_) (a' := ?_) #[true, true, true, false, false, false, false, false, false] rfl rfl (by kernel_rfl) (fun _ _ _ h => h) (Or.inl ⟨by rfl, ?_⟩) ?_ ?_
  rotate_left
  · intro w'
    go_simp
    with_reducible rfl
  rotate_left
  · simp only [Act.put, List.setIfInBounds_toArray, List.set_cons_zero, List.set_cons_succ, i64_w, i32_w]
    rfl
  refine pure_ (i := 4) (N := some 35) (v := ?_) (a' := ?_) #[true, true, true, false, true, false, false, false, false] rfl rfl (by kernel_rfl) (fun _ _ _ h => h) (Or.inl ⟨by rfl, ?_⟩) ?_ ?_
  rotate_left
  · intro w'
    go_simp
    with_reducible rfl
  rotate_left
  · simp only [Act.put, List.setIfInBounds_toArray, List.set_cons_zero, List.set_cons_succ, i64_w, i32_w]
    rfl
  refine pure_ (i := 5) (N := some 36) (v := ?_) (a' := ?_) #[true, true, true, false, true, true, false, false, false] rfl rfl (by kernel_rfl) (fun _ _ _ h => h) (Or.inl ⟨by rfl, ?_⟩) ?_ ?_
  rotate_left
  · intro w'
    go_simp
    with_reducible rfl
  rotate_left
  · simp only [Act.put, List.setIfInBounds_toArray, List.set_cons_zero, List.set_cons_succ, i64_w, i32_w]
    rfl
  refine pure_ (i := 6) (N := some 37) (v := ?_) (a' := ?_) #[true, true, true, false, true, true, true, false, false] rfl rfl (by kernel_rfl) (fun _ _ _ h => h) (Or.inl ⟨by rfl, ?_⟩) ?_ ?_
  rotate_left
  · intro w'
    go_simp
    with_reducible rfl
  rotate_left
  · simp only [Act.put, List.setIfInBounds_toArray, List.set_cons_zero, List.set_cons_succ, i64_w, i32_w]
    rfl
  refine take_ (i := 3) (N := some 34) (v := ?_) (a' := ?_) #[true, true, true, true, true, true, true, false, false] rfl rfl (by kernel_rfl) (fun _ _ _ h => h) (Or.inl ⟨by rfl, ?_⟩) hHeld ?_ ?_
  rotate_left
  · intro w' s0
    go_simp
    with_reducible rfl
  rotate_left
  · simp only [Act.put, List.setIfInBounds_toArray, List.set_cons_zero, List.set_cons_succ, i64_w, i32_w]
    rfl
  refine one_ (i := 7) (N := some 38) #[true, true, true, true, true, true, true, true, false] rfl rfl (by kernel_rfl) (by decide) (fun K hK => ?_)
  refine value_ (w1 := w5) (v := .agg (secC (fill b))) (by rfl) rfl ?_ ?_
  · exact exec_load 67 (.tmp 9) rfl rfl hl
  refine hK.out _ _ (z3) (fun hHeld => ?_)
  clear hK K
  refine norm_ (a' := ?_) ?_ ?_
  rotate_left
  · show Act.put _ (some 38) _ = _
    simp only [Act.put, List.setIfInBounds_toArray, List.set_cons_zero, List.set_cons_succ, i64_w, i32_w]
    rfl
  refine last_ (i := 8) (N := none) #[true, true, true, true, true, true, true, true, true] rfl rfl (by kernel_rfl) (by decide) (fun K hK => ?_)
  refine skip_ (w1 := w6) (by rfl) rfl ?_ ?_
  · go_simp
  refine hK.out _ _ ?_
  clear hK K
  refine done_ (by kernel_rfl) ?_
  clear hl hup z3 hHeld
  obtain ⟨h0, h1, h2, h3, h4, h5, h6⟩ := HD6.out.cells
  have z4 := HD6.out.frozen 4
  have z6 := HD6.out.frozen 6
  simp only at h4 h5 h6
  rw [hc] at h4
  cases ha : d.armed with
  | false =>
    rw [ha] at h5
    go_wp2
    go_ret
    have e : writeSt d (r, s) b = { d with pend := putM d.pend (r, s) (fill b) } := by
      unfold writeSt
      rw [ha, Bool.false_and]
      cases d
      simp at hc ha ⊢
      exact hc
    rw [e]
    refine ⟨by rw [show ({ d with pend := putM d.pend (r, s) (fill b) } : DSt).crashed = false from hc]; rfl, HD6.out, HF6.out⟩
  | true =>
    rw [ha] at h5
    have hlw : -9223372036854775808 ≤ wrap64 (d.left - 1) ∧ wrap64 (d.left - 1) ≤ 9223372036854775807 := by unfold wrap64; omega
    have HD7 := Asd.mk (DiskC.set (d' := { d with pend := putM d.pend (r, s) (fill b), left := wrap64 (d.left - 1) }) HD6.out 6 (.int .i64 (wrap64 (d.left - 1))) rfl rfl rfl rfl hlw (by rfl))
    have HF7 := Asd.mk (HF6.out.set ⟨g, 6, none⟩ (.int .i64 (wrap64 (d.left - 1))) (.inl (.inl rfl)))
    have e : Asd (∀ c : Bool, decide (wrap64 (d.left - 1) < 0) = c → writeSt d (r, s) b = { d with pend := putM d.pend (r, s) (fill b), left := wrap64 (d.left - 1), crashed := c }) := ⟨fun c hc => by
      unfold writeSt
      rw [ha, hc]
      cases c <;> rfl⟩
    clear ha
    by_cases hneg : wrap64 (d.left - 1) < 0
    · have hd := decide_eq_true hneg
      go_wp2
      go_ret
      rw [e.out true hd]
      exact ⟨rfl, DiskC.set (d' := { d with pend := putM d.pend (r, s) (fill b), left := wrap64 (d.left - 1), crashed := true }) HD7.out 4 (.bool true) rfl rfl rfl rfl hlw (by rfl), HF7.out.set ⟨g, 4, none⟩ _ (.inl (.inl rfl))⟩
    · have hd := decide_eq_false hneg
      go_wp2
      go_ret
      rw [e.out false hd]
      exact ⟨rfl, DiskC.set (d' := { d with pend := putM d.pend (r, s) (fill b), left := wrap64 (d.left - 1), crashed := false }) HD7.out 4 (.bool false) rfl rfl rfl rfl hlw (by rfl), HF7.out.set ⟨g, 4, none⟩ _ (.inl (.inl rfl))⟩
/-- What Write says where it does nothing. -/
def writeBad (d : DSt) (r s : Int) (n : Nat) : Option Int := if hasB d r s = false then some 1 else if 64 < n then some 2 else if d.crashed = true then some 60 else none
set_option maxHeartbeats 4000000 in
theorem write_bad (g ms mp : Nat) (d : DSt) (r s : Int) (A : Option Addr) (n c : Nat) (w : World) (h : DiskC w g ms mp d) (m : Int) (hm : writeBad d r s n = some m) :
    Calls Tryd.prog 8 #[.pointer (some ⟨g, 0, none⟩), .int .i64 r, .int .i64 s, .slice A n c] w fun e w' => e = .returned (.iface 62 (.int .i64 m)) ∧ w' = w := by
  obtain ⟨_, _, _, _, h4, _, _⟩ := h.cells
  have HD := Asd.mk h
  clear h
  unfold writeBad at hm
  cases hr : hasB d r s with
  | false =>
    rw [hr, if_pos rfl] at hm
    cases hm
    go_enter Tryd.func8, Tryd.ntmps8
    go_wp2_with (go_at_call 24; refine (has_c g ms mp d r s w HD.out).mono ?_; rintro e w2 ⟨rfl, rfl⟩; rw [hr])
    go_ret
    exact ⟨rfl, rfl⟩
  | true =>
    rw [hr, if_neg (by simp)] at hm
    by_cases hl : 64 < n
    · rw [if_pos hl] at hm
      cases hm
      have e2 : decide ((n : Int) > 64) = true := decide_eq_true (by omega)
      have e2' : decide ((64 : Int) < (n : Int)) = true := decide_eq_true (by omega)
      go_enter Tryd.func8, Tryd.ntmps8
      go_wp2_with (go_at_call 24; refine (has_c g ms mp d r s w HD.out).mono ?_; rintro e w2 ⟨rfl, rfl⟩; rw [hr])
      go_ret
      exact ⟨rfl, rfl⟩
    · rw [if_neg hl] at hm
      have e2 : decide ((n : Int) > 64) = false := decide_eq_false (by omega)
      have e2' : decide ((64 : Int) < (n : Int)) = false := decide_eq_false (by omega)
      cases hc : d.crashed with
      | false => rw [hc, if_neg (by simp)] at hm; cases hm
      | true =>
        rw [hc, if_pos rfl] at hm
        cases hm
        rw [hc] at h4
        go_enter Tryd.func8, Tryd.ntmps8
        go_wp2_with (go_at_call 24; refine (has_c g ms mp d r s w HD.out).mono ?_; rintro e w2 ⟨rfl, rfl⟩; rw [hr])
        go_ret
        exact ⟨rfl, rfl⟩
end Go.Proofs.YtnfnnfbcafepkaaDoor.Dk
