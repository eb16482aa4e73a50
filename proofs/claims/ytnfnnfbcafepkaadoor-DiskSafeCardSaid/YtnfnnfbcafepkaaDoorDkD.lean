/- The device: Read. -/
import Derived.Test.YtnfnnfbcafepkaaDoorDkR
namespace Go.Proofs.YtnfnnfbcafepkaaDoor.Dk
open Go Go.RowKit Go.Proofs.YtnfnnfbcafepkaaDoorW.PrintLast
set_option linter.unusedVariables false
set_option linter.unusedSimpArgs false
set_option maxRecDepth 100000
def readB (d : DSt) (p : Pl) : List UInt8 := (d.pend p).getD (d.safe p)
theorem sec_zero (w : World) : (zeroValue 67).run Tryd.prog w = .ok (secV zeros) w := by kernel_rfl
theorem halt_store {P : Program} {w : World} {ops : Array Oper} {rest : List Oper} {o : Oper} {a : Act} {Q : Exit → Act → World → Prop} (ty : TypeId) (x y : Operand) (ho : o.op = .store ty x y)
    (h : Halt (wpList P ops Q (o :: rest) a w)) : wpList P ops Q (o :: rest) a w := h
theorem zeros_len : zeros.length = 64 := by simp [zeros]
theorem secC_all (b : List UInt8) : (secC b).all (·.oneCell') = true := by
  rw [Array.all_eq_true_iff_forall_mem]
  intro v hv
  unfold secC at hv
  exact secC_one b v (by simpa using hv)
/-- A sector is stored whole. -/
theorem wpList_sec {w : World} {ops : Array Oper} {rest : List Oper} {o : Oper} {a : Act} {Q : Exit → Act → World → Prop} (x y : Operand) (hg : o.guard = none) (ho : o.op = .store 67 x y) (g : Nat) (b old : List UInt8)
    (hx : a.eval x = .pointer (some ⟨g, 0, none⟩)) (hy : a.eval y = .agg (secC b)) (hb : b.length = 64) (hold : old.length = 64) (hbk : w.heap[g]? = some (.cells (secC old) 67 (0, 0)))
    (h : ∀ w', w'.heap[g]? = some (.cells (secC b) 67 (0, 0)) → w.grownBy w' (some g) → wpList Tryd.prog ops Q rest (a.put o.dst undef) w') : wpList Tryd.prog ops Q (o :: rest) a w :=
  wpList_plain hg fun K hK => wp_store_row 67 x y ho g (secC b) hx hy 67 (secC old) hbk (by rw [dk_s43, secC_size, hb]) (by rw [secC_size, secC_size, hb, hold]) (secC_all b)
    (hK _ _ (h _ (setRow_heap w g _ _ 67 (0, 0) hbk) ⟨rfl, rfl, rfl, by simp [World.setRow], fun k _ hk => setRow_other w g k _ (fun e => hk (by rw [e]))⟩))
set_option maxHeartbeats 8000000 in
theorem read_c (g ms mp : Nat) (d : DSt) (r s : Int) (w : World) (h : DiskC w g ms mp d) (hr : hasB d r s = true) (hc : d.crashed = false) :
    Calls Tryd.prog 11 #[.pointer (some ⟨g, 0, none⟩), .int .i64 r, .int .i64 s] w fun e w' => ∃ k, e = .returned (.tuple #[.slice (some ⟨k, 0, none⟩) 64 64, .nilIface]) ∧ w'.heap[k]? = some (.cells (secC (readB d (r, s))) 67 (0, 0)) ∧ w.heap.size ≤ k ∧ Below w.heap.size w w' := by
  obtain ⟨h0, h1, h2, h3, h4, h5, h6⟩ := h.cells
  have hin := h.in_ hr
  have HD := Asd.mk h
  obtain ⟨D, hown, hk, hno, hp⟩ := h.pend
  obtain ⟨Ds, howns, hks, hps⟩ := h.safe
  obtain ⟨v, ps, hrun0, hRv⟩ := hown.look_ok pl_law Tryd.underlying63 (sec_zero w) (secR_mk zeros_len) (pl_key (r, s) hin.wf)
  obtain ⟨b1, hb1, rfl, hb1z⟩ := secR_inv hRv
  rw [hc] at h4
  cases hm : d.pend (r, s) with
  | some b =>
    have hhas : Maps.has D (plKey (r, s)) = true := by rw [(hp _ hin).1, hm]; rfl
    have heq : b1 = b := by
      have := ((hp _ hin).2 b hm).2 (.lit (.string zeros))
      rw [this] at hb1z
      have := congrArg Prod.fst hb1z
      simp at this
      exact this.symm
    subst heq
    have hrd : Asd (readB d (r, s) = b1) := ⟨by unfold readB; rw [hm]; rfl⟩
    rw [hhas] at hrun0
    have hrun : (Instr.lookup 63 (.map (some mp)) (.agg #[.int .i64 r, .int .i64 s]) true).run Tryd.prog w = .ok (.tuple #[.agg (secC b1), .bool true]) w := hrun0
    clear h hown hk hno hp howns hks hps hrun0 hRv hb1z hhas hm
    go_enter Tryd.func11, Tryd.ntmps11
    go_wp2_with (first
      | (go_at_call 24; refine (has_c g ms mp d r s w HD.out).mono ?_; rintro e w2 ⟨rfl, rfl⟩; rw [hr])
      | (with_reducible refine halt_store 67 (.tmp 8) (.tmp 32) rfl ?_))
    unfold Halt
    refine wpList_sec (.tmp 8) (.tmp 32) rfl rfl w2.heap.size b1 zeros rfl rfl hb1 zeros_len (MapKept.heap_alloc w2 _).1 ?_
    intro w3 hb3 hg3
    have HB3 := Asd.mk hb3
    have HG3 := Asd.mk (((Below.refl _ w2).alloc (Nat.le_refl _) (.cells (secC zeros) 67 (0, 0))).grown hg3 (by simp) (fun k e => by cases e; exact Nat.le_refl _))
    clear hb3 hg3
    go_wp2
    go_ret2
    exact ⟨_, rfl, by rw [hrd.out]; exact HB3.out, Nat.le_refl _, HG3.out⟩
  | none =>
    have hhas : Maps.has D (plKey (r, s)) = false := by rw [(hp _ hin).1, hm]; rfl
    have hrd : Asd (readB d (r, s) = d.safe (r, s)) := ⟨by unfold readB; rw [hm]; rfl⟩
    rw [hhas] at hrun0
    have hrun : (Instr.lookup 63 (.map (some mp)) (.agg #[.int .i64 r, .int .i64 s]) true).run Tryd.prog w = .ok (.tuple #[.agg (secC b1), .bool false]) w := hrun0
    clear h hown hk hno hp hrun0 hRv hb1z hhas hm howns hks hps
    go_enter Tryd.func11, Tryd.ntmps11
    go_wp2_with (first
      | (go_at_call 24; refine (has_c g ms mp d r s w HD.out).mono ?_; rintro e w2 ⟨rfl, rfl⟩; rw [hr])
      | (with_reducible refine halt_store 67 (.tmp 8) (.tmp 32) rfl ?_))
    unfold Halt
    refine wpList_sec (.tmp 8) (.tmp 32) rfl rfl w2.heap.size b1 zeros rfl rfl hb1 zeros_len (MapKept.heap_alloc w2 _).1 ?_
    intro w3 hb3 hg3
    have hbl3 := ((Below.refl _ w2).alloc (Nat.le_refl _) (.cells (secC zeros) 67 (0, 0))).grown hg3 (by simp) (fun k e => by cases e; exact Nat.le_refl _)
    have HD3 := Asd.mk (HD.out.frm (S := fun _ => False) (Frm.of_below hbl3) (fun _ _ h => h))
    have HB3 := Asd.mk hb3
    have HG3 := Asd.mk hbl3
    clear hb3 hg3 hbl3 HD h0 h1 h2 h3 h4 h5 h6
    obtain ⟨h0, h1, h2, h3, h4, h5, h6⟩ := HD3.out.cells
    obtain ⟨Ds, howns, hks, hps⟩ := HD3.out.safe
    obtain ⟨v2, ps2, hrun1, hRv2⟩ := howns.lookup pl_law Tryd.underlying63 (sec_zero w3) (secR_mk zeros_len) (pl_key (r, s) hin.wf)
    obtain ⟨b2, hb2, rfl, hb2z⟩ := secR_inv hRv2
    have heq : b2 = d.safe (r, s) := by
      have := (hps _ hin).2
      unfold zd0 at this
      rw [this] at hb2z
      have := congrArg Prod.fst hb2z
      simp at this
      exact this.symm
    subst heq
    have hrun2 : (Instr.lookup 63 (.map (some ms)) (.agg #[.int .i64 r, .int .i64 s]) false).run Tryd.prog w3 = .ok (.agg (secC (d.safe (r, s)))) w3 := hrun1
    clear hrun hrun1 howns hks hps hRv2 hb2z
    go_wp2_with (first
      | (with_reducible refine halt_store 67 (.tmp 8) (.tmp 43) rfl ?_))
    unfold Halt
    refine wpList_sec (.tmp 8) (.tmp 43) rfl rfl w2.heap.size (d.safe (r, s)) b1 rfl rfl hb2 hb1 HB3.out ?_
    intro w4 hb4 hg4
    have HB4 := Asd.mk hb4
    have HG4 := Asd.mk (HG3.out.grown hg4 HG3.out.size (fun k e => by cases e; exact Nat.le_refl _))
    clear hb4 hg4 HG3 HB3 h0 h1 h2 h3 h4 h5 h6
    go_wp2
    go_ret2
    exact ⟨_, rfl, by rw [hrd.out]; exact HB4.out, Nat.le_refl _, HG4.out⟩
/-- What Read says where it reads nothing. -/
def readBad (d : DSt) (r s : Int) : Option Int := if hasB d r s = false then some 1 else if d.crashed = true then some 60 else none
set_option maxHeartbeats 4000000 in
theorem read_bad (g ms mp : Nat) (d : DSt) (r s : Int) (w : World) (h : DiskC w g ms mp d) (m : Int) (hm : readBad d r s = some m) :
    Calls Tryd.prog 11 #[.pointer (some ⟨g, 0, none⟩), .int .i64 r, .int .i64 s] w fun e w' => e = .returned (.tuple #[.slice none 0 0, .iface 62 (.int .i64 m)]) ∧ w' = w := by
  obtain ⟨_, _, _, _, h4, _, _⟩ := h.cells
  have HD := Asd.mk h
  clear h
  unfold readBad at hm
  cases hr : hasB d r s with
  | false =>
    rw [hr, if_pos rfl] at hm
    cases hm
    go_enter Tryd.func11, Tryd.ntmps11
    go_wp2_with (go_at_call 24; refine (has_c g ms mp d r s w HD.out).mono ?_; rintro e w2 ⟨rfl, rfl⟩; rw [hr])
    go_ret2
    exact ⟨rfl, rfl⟩
  | true =>
    rw [hr, if_neg (by simp)] at hm
    cases hc : d.crashed with
    | false => rw [hc, if_neg (by simp)] at hm; cases hm
    | true =>
      rw [hc, if_pos rfl] at hm
      cases hm
      rw [hc] at h4
      go_enter Tryd.func11, Tryd.ntmps11
      go_wp2_with (go_at_call 24; refine (has_c g ms mp d r s w HD.out).mono ?_; rintro e w2 ⟨rfl, rfl⟩; rw [hr])
      go_ret2
      exact ⟨rfl, rfl⟩
end Go.Proofs.YtnfnnfbcafepkaaDoor.Dk
