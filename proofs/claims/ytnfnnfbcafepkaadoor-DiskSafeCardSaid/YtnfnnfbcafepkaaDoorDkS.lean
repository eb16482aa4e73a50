/- The device: Sync. -/
import Derived.Test.YtnfnnfbcafepkaaDoorDkD
import Derived.Maps.RangeWalk
namespace Go.Proofs.YtnfnnfbcafepkaaDoor.Dk
open Go Go.RowKit Go.Proofs.YtnfnnfbcafepkaaDoorW.PrintLast
set_option linter.unusedVariables false
set_option linter.unusedSimpArgs false
set_option maxRecDepth 100000
/-- What a map of what is pending holds. -/
def PendD (D : DataW Unit) (M : Pl → Option (List UInt8)) : Prop := Keys D ∧ (∀ p, ¬ In p → M p = none) ∧ ∀ p, In p → Maps.has D (plKey p) = (M p).isSome ∧ ∀ b, M p = some b → b.length = 64 ∧ ∀ zd, D.atKey (plKey p) zd = .lit (.string b)
abbrev rng (W : World) (m r n : Nat) (D : DataW Unit) (left : Lit → Bool) (cnt : Nat) : Prop := W.ranges Tryd.prog 69 secR m r n D left cnt
theorem rng_has {W : World} {m r n : Nat} {D : DataW Unit} {left : Lit → Bool} {cnt : Nat} (h : rng W m r n D left cnt) {kl : Lit} (hk : left kl = true) : Maps.has D kl = true := by
  obtain ⟨es, clock, since, seen, c0, hb, F, hs, rfl, hr, _, _, _, hl2, _⟩ := h
  obtain ⟨x, hx, rfl⟩ := hl2 kl hk
  obtain ⟨y, hy⟩ := F.reads x hx
  exact List.any_eq_true.2 ⟨WideElems.rg Tryd.prog 69 secR x, mem_sorted.2 (List.mem_map.2 ⟨x, hx, rfl⟩), WideAt.sameKey_self (by rw [WideElems.rg_of hy]; exact pl_law.key (WideElems.rd_key hy))⟩
theorem SafeM.congr {W : World} {m : Nat} {S S2 : Pl → List UInt8} (h : SafeM W m S) (e : ∀ p, In p → S p = S2 p) : SafeM W m S2 := by
  obtain ⟨D, h1, h2, h3⟩ := h
  exact ⟨D, h1, h2, fun p hp => by rw [← e p hp]; exact h3 p hp⟩
theorem PendD.congr {D : DataW Unit} {M M2 : Pl → Option (List UInt8)} (h : PendD D M) (e : ∀ p, M p = M2 p) : PendD D M2 := by
  have : M = M2 := funext e
  rw [← this]; exact h
/-- A key whose place is another. -/
theorem key_other {p q : Pl} (hp : In p) (hq : In q) (h : q ≠ p) : (plKey q).sameKey (plKey p) = false := by
  cases e : (plKey q).sameKey (plKey p) with
  | false => rfl
  | true => exact absurd (pl_key_inj hq.wf hp.wf (WideAt.sameKey_eq e)) h
theorem key_self {p : Pl} (hp : In p) : (plKey p).sameKey (plKey p) = true := WideAt.sameKey_self (pl_keylit p hp.wf)
/-- What is safe and pending while a region is made safe. -/
noncomputable def synS (d : DSt) (r : Int) (left : Lit → Bool) (p : Pl) : List UInt8 := if p.1 = r ∧ left (plKey p) = false then (d.pend p).getD (d.safe p) else d.safe p
noncomputable def synM (d : DSt) (r : Int) (left : Lit → Bool) (p : Pl) : Option (List UInt8) := if p.1 = r ∧ left (plKey p) = false then none else d.pend p
def syncSt (d : DSt) (r : Int) : DSt := { d with safe := fun p => if p.1 = r then (d.pend p).getD (d.safe p) else d.safe p, pend := fun p => if p.1 = r then none else d.pend p }
theorem syn_has {d : DSt} {r : Int} {D : DataW Unit} (hD : PendD D d.pend) {p : Pl} (hp : In p) (h : Maps.has D (plKey p) = false) : d.pend p = none := by
  have := (hD.2.2 p hp).1
  rw [h] at this
  cases e : d.pend p with
  | none => rfl
  | some b => rw [e] at this; cases this
theorem synS_start {d : DSt} {r : Int} {D : DataW Unit} (hD : PendD D d.pend) : ∀ p, In p → d.safe p = synS d r (Maps.has D) p := by
  intro p hp
  unfold synS
  by_cases h : p.1 = r ∧ Maps.has D (plKey p) = false
  · rw [if_pos h, syn_has (r := r) hD hp h.2]; rfl
  · rw [if_neg h]
theorem synM_start {d : DSt} {r : Int} {D : DataW Unit} (hD : PendD D d.pend) : ∀ p, d.pend p = synM d r (Maps.has D) p := by
  intro p
  unfold synM
  by_cases h : p.1 = r ∧ Maps.has D (plKey p) = false
  · rw [if_pos h]
    by_cases hp : In p
    · exact syn_has (r := r) hD hp h.2
    · exact hD.2.1 p hp
  · rw [if_neg h]
abbrev struck (left : Lit → Bool) (kl : Lit) : Lit → Bool := fun z => left z && !z.sameKey kl
theorem struck_self {left : Lit → Bool} {p : Pl} (hp : In p) : struck left (plKey p) (plKey p) = false := by unfold struck; rw [key_self hp]; simp
theorem struck_other {left : Lit → Bool} {p q : Pl} (hp : In p) (hq : In q) (h : q ≠ p) : struck left (plKey p) (plKey q) = left (plKey q) := by unfold struck; rw [key_other hp hq h]; simp
theorem synS_other {d : DSt} {r : Int} {left : Lit → Bool} {p : Pl} (hp : In p) (h : p.1 ≠ r) : ∀ q, In q → synS d r left q = synS d r (struck left (plKey p)) q := by
  intro q hq
  unfold synS
  by_cases e : q = p
  · subst e; rw [if_neg (fun h2 => h h2.1), if_neg (fun h2 => h h2.1)]
  · rw [struck_other hp hq e]
theorem synM_other {d : DSt} {r : Int} {left : Lit → Bool} {p : Pl} (hp : In p) (hno : ∀ p, ¬ In p → d.pend p = none) (h : p.1 ≠ r) : ∀ q, synM d r left q = synM d r (struck left (plKey p)) q := by
  intro q
  by_cases hq : In q
  · unfold synM
    by_cases e : q = p
    · subst e; rw [if_neg (fun h2 => h h2.1), if_neg (fun h2 => h h2.1)]
    · rw [struck_other hp hq e]
  · unfold synM
    rw [hno q hq]; simp
theorem synS_put {d : DSt} {r : Int} {left : Lit → Bool} {p : Pl} (hp : In p) (h : p.1 = r) {b : List UInt8} (hb : d.pend p = some b) : ∀ q, In q → putS (synS d r left) p b q = synS d r (struck left (plKey p)) q := by
  intro q hq
  unfold putS synS
  by_cases e : q = p
  · subst e; rw [if_pos rfl, if_pos ⟨h, struck_self hp⟩, hb]; rfl
  · rw [if_neg e, struck_other hp hq e]
theorem synM_del {d : DSt} {r : Int} {left : Lit → Bool} {p : Pl} (hp : In p) (hno : ∀ p, ¬ In p → d.pend p = none) (h : p.1 = r) : ∀ q, delM (synM d r left) p q = synM d r (struck left (plKey p)) q := by
  intro q
  unfold delM synM
  by_cases e : q = p
  · subst e; rw [if_pos rfl, if_pos ⟨h, struck_self hp⟩]
  · rw [if_neg e]
    by_cases hq : In q
    · rw [struck_other hp hq e]
    · rw [hno q hq]; simp
theorem PendD.del {D : DataW Unit} {M : Pl → Option (List UInt8)} (h : PendD D M) {p : Pl} (hp : In p) : PendD (D.del (plKey p)) (delM M p) := by
  refine ⟨keys_del h.1 _, fun q hq => ?_, fun q hq => ?_⟩
  · unfold delM; rw [h.2.1 q hq]; simp
  · unfold delM
    by_cases e : q = p
    · subst e; rw [if_pos rfl, Maps.has_del_same]; exact ⟨rfl, fun b hb => by cases hb⟩
    · have hne : plKey q ≠ plKey p := fun e1 => e (pl_key_inj hq.wf hp.wf e1)
      rw [if_neg e, Maps.has_del_other hne]
      exact ⟨(h.2.2 q hq).1, fun c hc => ⟨((h.2.2 q hq).2 c hc).1, fun zd => (Maps.atKey_del_other hne _).trans (((h.2.2 q hq).2 c hc).2 zd)⟩⟩
theorem pl_size : (Tryd.prog.info? 69).map (·.size) = some 2 := by kernel_rfl
theorem load_pl {W : World} {g : Nat} {p : Pl} (h : W.heap[g]? = some (.cells #[.int .i64 p.1, .int .i64 p.2] 69 (0, 0))) : (loadVar 69 ⟨g, 0, none⟩).run Tryd.prog W = .ok (.agg #[.int .i64 p.1, .int .i64 p.2]) W :=
  run_loadVar_row W g 69 69 #[.int .i64 p.1, .int .i64 p.2] (0, 0) _ h Tryd.underlying69 rfl (by rw [pl_size]; rfl)
theorem load_sec {W : World} {g : Nat} {b : List UInt8} (hb : b.length = 64) (h : W.heap[g]? = some (.cells (secC b) 67 (0, 0))) : (loadVar 67 ⟨g, 0, none⟩).run Tryd.prog W = .ok (.agg (secC b)) W :=
  run_loadVar_row W g 67 67 (secC b) (0, 0) _ h Tryd.underlying67 rfl (by rw [dk_s43, secC_size, hb])
theorem dk_cells {W : World} {g ms mp : Nat} {d : DSt} (hb : W.heap[g]? = some (dkO ms mp d)) : W.cell? ⟨g, 0, none⟩ = some (.int .i64 d.reg) ∧ W.cell? ⟨g, 1, none⟩ = some (.int .i64 d.sec) ∧ W.cell? ⟨g, 2, none⟩ = some (.map (some ms)) ∧ W.cell? ⟨g, 3, none⟩ = some (.map (some mp)) ∧
    W.cell? ⟨g, 4, none⟩ = some (.bool d.crashed) ∧ W.cell? ⟨g, 5, none⟩ = some (.bool d.armed) ∧ W.cell? ⟨g, 6, none⟩ = some (.int .i64 d.left) := by
  unfold dkO at hb
  simp [World.cell?, hb]
theorem pl_cells2 {W : World} {g : Nat} {x y : Value} {t : TypeId} (hb : W.heap[g]? = some (.cells #[x, y] t (0, 0))) : W.cell? ⟨g, 0, none⟩ = some x ∧ W.cell? ⟨g, 1, none⟩ = some y := by
  simp [World.cell?, hb]
/-- Where a region is made safe. -/
structure SynRel (w wr : World) (g ms mp n r0 : Nat) (d : DSt) (r : Int) : Prop where
  ex : ∃ left cnt D, rng wr mp r0 n D left cnt ∧ PendD D (synM d r left)
    ∧ SafeM wr ms (synS d r left)
  blk : wr.heap[g]? = some (dkO ms mp d)
  frm : Frm (own g ms mp) w wr
set_option maxHeartbeats 8000000 in
theorem sync_c (g ms mp : Nat) (d : DSt) (r : Int) (w : World) (h : DiskC w g ms mp d) (hr : hasB d r 0 = true) (hc : d.crashed = false) :
    Calls Tryd.prog 12 #[.pointer (some ⟨g, 0, none⟩), .int .i64 r] w fun e w' => e = .returned .nilIface ∧ DiskC w' g ms mp (syncSt d r) ∧ Frm (own g ms mp) w w' := by
  obtain ⟨h0, h1, h2, h3, h4, h5, h6⟩ := h.cells
  have HD := Asd.mk h
  obtain ⟨D0, hown, hk, hno, hp⟩ := h.pend
  have hD0 : PendD D0 d.pend := ⟨hk, hno, hp⟩
  have HP := Asd.mk hD0
  rw [hc] at h4
  clear h hk hp hD0
  have HN := Asd.mk hno
  clear hno
  go_enter Tryd.func12, Tryd.ntmps12
  go_wp2_with (first
    | (go_at_call 24; refine (has_c g ms mp d r 0 w HD.out).mono ?_; rintro e w2 ⟨rfl, rfl⟩; rw [hr])
    | (at_range; refine wpList_range_own _ rfl _ 63 rfl 69 67 pl_law Tryd.underlying63 secR mp (Maps.size D0) _ rfl hown ?_; intro w0 hrg0 hg0 hs0)
    | go_in)
  go_frame
  clear hown h0 h1 h2 h3 h4 h5 h6
  go_loopw [5, 6] (fun _ _ wr => SynRel w2 wr g ms mp (Maps.size D0) w2.heap.size d r) (fun _ _ wr => wr.rangeLeft mp w2.heap.size)
  case atStart =>
    have hf : Frm (own g ms mp) w2 w0 := (Frm.refl _ w2).grown hg0 (fun k e => by cases e)
    exact ⟨⟨_, _, _, hrg0, HP.out.congr (synM_start HP.out), (HD.out.safe.step (hg0.block ms HD.out.safe.lt (by simp))).congr (synS_start HP.out)⟩, (hg0.block g (blk_lt HD.out.blk) (by simp)).trans HD.out.blk, hf⟩
  case round =>
    obtain ⟨⟨left, cnt, D, hrg, hPD, hSM⟩, hblk, hfrm⟩ := hrel
    have HPD := Asd.mk hPD
    have HSM := Asd.mk hSM
    have HBK := Asd.mk hblk
    have HFR := Asd.mk hfrm
    have HRG := Asd.mk hrg
    clear hPD hSM hblk hfrm
    go_wp2_with (first
      | (at_next; refine wpList_next_ranges _ rfl _ rfl 69 pl_law secR (id : Value → Value) (id : Value → Value) (fun key kl _ => ⟨key, rfl⟩) (fun v y _ => ⟨v, rfl⟩) mp w2.heap.size (Maps.size D0) _ _ _ rfl hrg ?_ ?_)
      | go_in)
    · intro hc0 hl0
      have HL := Asd.mk hl0
      clear hl0
      go_wp2
      go_ret
      have eS : ∀ p, In p → synS d r left p = (syncSt d r).safe p := fun p _ => by
        show (if p.1 = r ∧ left (plKey p) = false then _ else _) = if p.1 = r then _ else _
        rw [HL.out]; simp
      have eM : ∀ p, synM d r left p = (syncSt d r).pend p := fun p => by
        show (if p.1 = r ∧ left (plKey p) = false then _ else _) = if p.1 = r then _ else _
        rw [HL.out]; simp
      have hP2 := HPD.out.congr eM
      refine ⟨rfl, ⟨HBK.out, HSM.out.congr eS, ⟨D, owns_size hrg.owns, hP2.1, hP2.2.1, hP2.2.2⟩, HD.out.ne, HD.out.reg, HD.out.sec, HD.out.left, fun p hp => HD.out.had p ?_⟩, HFR.out⟩
      have hp2 : (if p.1 = r then none else d.pend p).isSome = true := hp
      by_cases e : p.1 = r
      · rw [if_pos e] at hp2; cases hp2
      · rw [if_neg e] at hp2; exact hp2
    · intro x c kl yd yp w3 cnt3 hkey hlk hv hat hrg3 hlt hg3 hs3 hen
      obtain ⟨p, hin, rfl⟩ := HPD.out.1 kl (rng_has hrg hlk)
      obtain rfl : x = plV p := pl_law.inj hkey (pl_key p hin.wf)
      obtain ⟨b, hb, rfl, hyz⟩ := secR_inv hv
      obtain rfl := (Prod.mk.inj hyz).1
      have hpb : Asd (d.pend p = some b) := ⟨by
        have h1 := HPD.out.2.2 p hin
        rw [rng_has hrg hlk] at h1
        cases e : synM d r left p with
        | none => rw [e] at h1; cases h1.1
        | some b2 =>
          have h2 := (h1.2 b2 e).2 zd0
          rw [hat] at h2
          injection h2 with h2
          injection h2 with h2
          unfold synM at e
          rw [if_neg (fun h => by rw [hlk] at h; cases h.2)] at e
          rw [e, h2]⟩
      have hlk2 := Asd.mk hlk
      have HF3 := Asd.mk (HFR.out.grown hg3 (fun k e => by cases e; exact .inr (Nat.le_refl _)))
      have hlt2 := Asd.mk hlt
      have HB3 := Asd.mk ((hg3.block g (blk_lt HBK.out) (by have := blk_lt HD.out.blk; simp; omega)).trans HBK.out)
      have HS3 := Asd.mk (HSM.out.step (hg3.block ms HSM.out.lt (by have := HD.out.safe.lt; simp; omega)))
      have HR3 := Asd.mk hrg3
      have HW3 := Asd.mk HF3.out.size
      clear hlk hkey hv hat hlt hg3 hs3 hrg hrg3
      unfold plV at hen
      go_wp2_with (with_reducible refine halt_store 67 (.tmp 6) (.tmp 28) rfl ?_)
      unfold Halt
      obtain ⟨W4, hW4⟩ : ∃ W4, (w3.alloc (Obj.cells #[Value.int IntKind.i64 p.fst, Value.int IntKind.i64 p.snd] 69)).alloc (.cells (secC zeros) 67 (0, 0)) = W4 := ⟨_, rfl⟩
      have hz4 : W4.heap[w3.heap.size + 1]? = some (.cells (secC zeros) 67 (0, 0)) := by
        rw [← hW4]
        have := (MapKept.heap_alloc (w3.alloc (Obj.cells #[Value.int IntKind.i64 p.fst, Value.int IntKind.i64 p.snd] 69)) (.cells (secC zeros) 67 (0, 0))).1
        rwa [World.size_alloc] at this
      have hq4 : W4.heap[w3.heap.size]? = some (.cells #[Value.int IntKind.i64 p.fst, Value.int IntKind.i64 p.snd] 69 (0, 0)) := by
        rw [← hW4]
        exact (Below.heap_alloc _ _ _ (by simp)).trans (MapKept.heap_alloc w3 _).1
      have hl4 : Below w3.heap.size w3 W4 := by
        rw [← hW4]
        exact ((Below.refl _ w3).alloc (Nat.le_refl _) _).alloc (by simp) _
      have hs4 : W4.heap.size = w3.heap.size + 2 := by rw [← hW4]; simp
      refine Eq.mp (congrArg (fun W => wpList _ _ _ _ _ W) hW4.symm) ?_
      refine wpList_sec (.tmp 6) (.tmp 28) rfl rfl (w3.heap.size + 1) b zeros rfl rfl hb zeros_len hz4 ?_
      intro w5 hb5 hg5
      have hq5 : w5.heap[w3.heap.size]? = some (.cells #[Value.int IntKind.i64 p.fst, Value.int IntKind.i64 p.snd] 69 (0, 0)) := (hg5.block _ (by omega) (by simp)).trans hq4
      have hl5 : Below w3.heap.size w3 w5 := hl4.grown hg5 (by omega) (fun k e => by cases e; omega)
      have hs5 := hg5.size
      have hgb := blk_lt HB3.out
      have hsb := HS3.out.lt
      have hrb := HR3.out.lt
      have hmb := HR3.out.owns.lt
      have HB5 := Asd.mk ((hl5.block g hgb).trans HB3.out)
      have HS5 := Asd.mk (HS3.out.step (hl5.block ms hsb))
      have HR5 := Asd.mk (HR3.out.kept (row := none) ⟨hl5.os, hl5.tape, hl5.output, hl5.size, fun k hk _ => hl5.block k hk⟩ (by simp) (by simp))
      have HF5 := Asd.mk (HF3.out.trans (Frm.of_below (S := own g ms mp) hl5) (fun _ h => .inl h))
      have HQ5 := Asd.mk hq5
      have HC5 := Asd.mk hb5
      have hsz5 : Asd (w3.heap.size + 2 ≤ w5.heap.size) := ⟨by omega⟩
      have z2 := (dk_cells HB5.out).2.2.1
      have z3 := (dk_cells HB5.out).2.2.2.1
      obtain ⟨y0, y1⟩ := pl_cells2 hq5
      clear hz4 hq4 hl4 hs4 hb5 hg5 hq5 hl5 hs5 hgb hsb hrb hmb HB3 HS3 HR3 HF3 hW4
      clear W4
      by_cases hpr : p.1 = r
      · have hpe : (p.1 == r) = true := by simpa using hpr
        have HPR := Asd.mk hpr
        clear hpr
        go_wp2
        obtain ⟨Ds, howns, hks, hps⟩ := HS5.out
        obtain ⟨w6, hup0, hown6, hturn6⟩ := (show owns w5.drew ms (Maps.size Ds) Ds from howns).store pl_law Tryd.underlying63 (by have := size_few howns hks; unfold maxLen; omega) (pl_key p hin.wf) (secR_mk hb)
        have hup : (Instr.mapUpdate 63 (.map (some ms)) (.agg #[.int .i64 p.1, .int .i64 p.2]) (.agg (secC b))).run Tryd.prog w5.drew = .ok () w6 := hup0
        have hls := load_sec (W := w5.drew) hb HC5.out
        have hgr6 : w5.grownBy w6 (some ms) := undrew_grown hturn6.grown
        have z2d : w5.drew.cell? ⟨g, 2, none⟩ = some (.map (some ms)) := z2
        have y0d : w5.drew.cell? ⟨w3.heap.size, 0, none⟩ = some (.int .i64 p.1) := y0
        have y1d : w5.drew.cell? ⟨w3.heap.size, 1, none⟩ = some (.int .i64 p.2) := y1
        have hmn := HD.out.safe.lt
        have hgn := HD.out.neg
        have h23 := HW3.out
        have HB6 := Asd.mk ((hgr6.block g (blk_lt HB5.out) (by have := hgn.1; simp; exact this)).trans HB5.out)
        have HS6 := Asd.mk (show SafeM w6 ms (putS (synS d r left) p b) from ⟨_, owns_size hown6, keys_put hks howns.isMap hin _, pl_put howns.isMap hps hin hb⟩)
        have HR6 := Asd.mk (HR5.out.kept hgr6 (by have := HD.out.ne; simp; omega) (by simp; omega))
        have HF6 := Asd.mk (HF5.out.grown hgr6 (fun k e => .inl (.inr (.inl (Option.some.inj e).symm))))
        have HQ6 := Asd.mk ((hgr6.block w3.heap.size (by have := hsz5.out; omega) (by simp; omega)).trans HQ5.out)
        have hs56 := Asd.mk hgr6.size
        clear howns hks hps hown6 hturn6 hgr6 hup0 hmn hgn h23 z2 z3 y0 y1 HB5 HS5 HR5 HF5 HQ5 HC5
        refine start_ (n := 7) (S := fun w' => w'.cell? ⟨g, 2, none⟩ = some (.map (some ms)) ∧ w'.cell? ⟨w3.heap.size, 0, none⟩ = some (.int .i64 p.1) ∧ w'.cell? ⟨w3.heap.size, 1, none⟩ = some (.int .i64 p.2)) (ds := [6]) #[false, false, false, false, false, false, false] (by kernel_rfl) rfl rfl ⟨z2d, y0d, y1d⟩ (fun hHeld => ?_)
        generalize w5.drew = w7 at z2d y0d y1d hls hup hHeld ⊢
        refine pure_ (i := 0) (N := some 33) (v := ?_) (a' := ?_) #[true, false, false, false, false, false, false] rfl rfl (by kernel_rfl) (fun _ _ _ h => h) (Or.inl ⟨by rfl, ?_⟩) ?_ ?_
        rotate_left
        · intro w'
          go_simp
          with_reducible rfl
        rotate_left
        · simp only [Act.put, List.setIfInBounds_toArray, List.set_cons_zero, List.set_cons_succ, i64_w, i32_w]
          rfl
        refine pure_ (i := 1) (N := some 34) (v := ?_) (a' := ?_) #[true, true, false, false, false, false, false] rfl rfl (by kernel_rfl) (fun _ _ _ h => h) (Or.inl ⟨by rfl, ?_⟩) ?_ ?_
        rotate_left
        · intro w'
          go_simp
          with_reducible rfl
        rotate_left
        · simp only [Act.put, List.setIfInBounds_toArray, List.set_cons_zero, List.set_cons_succ, i64_w, i32_w]
          rfl
        refine pure_ (i := 2) (N := some 35) (v := ?_) (a' := ?_) #[true, true, true, false, false, false, false] rfl rfl (by kernel_rfl) (fun _ _ _ h => h) (Or.inl ⟨by rfl, ?_⟩) ?_ ?_
        rotate_left
        · intro w'
          go_simp
          with_reducible rfl
        rotate_left
        · simp only [Act.put, List.setIfInBounds_toArray, List.set_cons_zero, List.set_cons_succ, i64_w, i32_w]
          rfl
        refine take_ (i := 3) (N := some 36) (v := ?_) (a' := ?_) #[true, true, true, true, false, false, false] rfl rfl (by kernel_rfl) (fun _ _ _ h => h) (Or.inl ⟨by rfl, ?_⟩) hHeld ?_ ?_
        rotate_left
        · rintro w' ⟨s0, s1, s2⟩
          go_simp
          with_reducible rfl
        rotate_left
        · simp only [Act.put, List.setIfInBounds_toArray, List.set_cons_zero, List.set_cons_succ, i64_w, i32_w]
          rfl
        refine take_ (i := 4) (N := some 37) (v := ?_) (a' := ?_) #[true, true, true, true, true, false, false] rfl rfl (by kernel_rfl) (fun _ _ _ h => h) (Or.inl ⟨by rfl, ?_⟩) hHeld ?_ ?_
        rotate_left
        · rintro w' ⟨s0, s1, s2⟩
          go_simp
          with_reducible rfl
        rotate_left
        · simp only [Act.put, List.setIfInBounds_toArray, List.set_cons_zero, List.set_cons_succ, i64_w, i32_w]
          rfl
        refine one_ (i := 5) (N := some 38) #[true, true, true, true, true, true, false] rfl rfl (by kernel_rfl) (by decide) (fun K hK => ?_)
        refine value_ (w1 := w7) (v := .agg (secC b)) (by rfl) rfl ?_ ?_
        · exact exec_load 67 (.tmp 6) rfl rfl hls
        refine hK.out _ _ ⟨z2d, y0d, y1d⟩ (fun hHeld => ?_)
        clear hK K
        refine norm_ (a' := ?_) ?_ ?_
        rotate_left
        · show Act.put _ (some 38) _ = _
          simp only [Act.put, List.setIfInBounds_toArray, List.set_cons_zero, List.set_cons_succ, i64_w, i32_w]
          rfl
        refine last_ (i := 6) (N := none) #[true, true, true, true, true, true, true] rfl rfl (by kernel_rfl) (by decide) (fun K hK => ?_)
        refine skip_ (w1 := w6) (by rfl) rfl ?_ ?_
        · go_simp
        refine hK.out _ _ ?_
        clear hK K
        refine done_ (by kernel_rfl) ?_
        clear hls hup z2d y0d y1d hHeld
        clear hHeld
        clear w7
        have z3 := (dk_cells HB6.out).2.2.2.1
        obtain ⟨y0, y1⟩ := pl_cells2 HQ6.out
        go_wp2
        have z3d : w6.drew.cell? ⟨g, 3, none⟩ = some (.map (some mp)) := z3
        have y0d : w6.drew.cell? ⟨w3.heap.size, 0, none⟩ = some (.int .i64 p.1) := y0
        have y1d : w6.drew.cell? ⟨w3.heap.size, 1, none⟩ = some (.int .i64 p.2) := y1
        obtain ⟨w8, cnt8, hdel0, hrg8, hle8, hturn8⟩ := (show rng w6.drew mp w2.heap.size (Maps.size D0) D (struck left (plKey p)) cnt3 from HR6.out).drop pl_law Tryd.underlying63 (pl_key p hin.wf) 0
        have hdel : (Builtin.delete_ #[63, 69] 0 #[.map (some mp), .agg #[.int .i64 p.1, .int .i64 p.2]]).run Tryd.prog w6.drew = .ok (.tuple #[]) w8 := hdel0
        have hgr8 : w6.grownBy w8 (some mp) := undrew_grown hturn8.grown
        have hgn := HD.out.neg
        have h23 := HW3.out
        have HB8 := Asd.mk ((hgr8.block g (blk_lt HB6.out) (by have := hgn.2; simp; exact this)).trans HB6.out)
        have HS8 := Asd.mk (HS6.out.step (hgr8.block ms HS6.out.lt (by have := HD.out.ne; simp; exact this)))
        have HR8 := Asd.mk hrg8
        have HF8 := Asd.mk (HF6.out.grown hgr8 (fun k e => .inl (.inr (.inr (Option.some.inj e).symm))))
        have HL8 := Asd.mk hle8
        clear hturn8 hgr8 hdel0 hgn h23 z3 y0 y1 HB6 HS6 HR6 HF6 HQ6 hle8 hrg8
        refine start_ (n := 6) (S := fun w' => w'.cell? ⟨g, 3, none⟩ = some (.map (some mp)) ∧ w'.cell? ⟨w3.heap.size, 0, none⟩ = some (.int .i64 p.1) ∧ w'.cell? ⟨w3.heap.size, 1, none⟩ = some (.int .i64 p.2)) (ds := [5]) #[false, false, false, false, false, false] (by kernel_rfl) rfl rfl ⟨z3d, y0d, y1d⟩ (fun hHeld => ?_)
        generalize w6.drew = w7 at z3d y0d y1d hdel hHeld ⊢
        refine pure_ (i := 0) (N := some 39) (v := ?_) (a' := ?_) #[true, false, false, false, false, false] rfl rfl (by kernel_rfl) (fun _ _ _ h => h) (Or.inl ⟨by rfl, ?_⟩) ?_ ?_
        rotate_left
        · intro w'
          go_simp
          with_reducible rfl
        rotate_left
        · simp only [Act.put, List.setIfInBounds_toArray, List.set_cons_zero, List.set_cons_succ, i64_w, i32_w]
          rfl
        refine pure_ (i := 1) (N := some 40) (v := ?_) (a' := ?_) #[true, true, false, false, false, false] rfl rfl (by kernel_rfl) (fun _ _ _ h => h) (Or.inl ⟨by rfl, ?_⟩) ?_ ?_
        rotate_left
        · intro w'
          go_simp
          with_reducible rfl
        rotate_left
        · simp only [Act.put, List.setIfInBounds_toArray, List.set_cons_zero, List.set_cons_succ, i64_w, i32_w]
          rfl
        refine pure_ (i := 2) (N := some 41) (v := ?_) (a' := ?_) #[true, true, true, false, false, false] rfl rfl (by kernel_rfl) (fun _ _ _ h => h) (Or.inl ⟨by rfl, ?_⟩) ?_ ?_
        rotate_left
        · intro w'
          go_simp
          with_reducible rfl
        rotate_left
        · simp only [Act.put, List.setIfInBounds_toArray, List.set_cons_zero, List.set_cons_succ, i64_w, i32_w]
          rfl
        refine take_ (i := 3) (N := some 42) (v := ?_) (a' := ?_) #[true, true, true, true, false, false] rfl rfl (by kernel_rfl) (fun _ _ _ h => h) (Or.inl ⟨by rfl, ?_⟩) hHeld ?_ ?_
        rotate_left
        · rintro w' ⟨s0, s1, s2⟩
          go_simp
          with_reducible rfl
        rotate_left
        · simp only [Act.put, List.setIfInBounds_toArray, List.set_cons_zero, List.set_cons_succ, i64_w, i32_w]
          rfl
        refine take_ (i := 4) (N := some 43) (v := ?_) (a' := ?_) #[true, true, true, true, true, false] rfl rfl (by kernel_rfl) (fun _ _ _ h => h) (Or.inl ⟨by rfl, ?_⟩) hHeld ?_ ?_
        rotate_left
        · rintro w' ⟨s0, s1, s2⟩
          go_simp
          with_reducible rfl
        rotate_left
        · simp only [Act.put, List.setIfInBounds_toArray, List.set_cons_zero, List.set_cons_succ, i64_w, i32_w]
          rfl
        refine last_ (i := 5) (N := none) #[true, true, true, true, true, true] rfl rfl (by kernel_rfl) (by decide) (fun K hK => ?_)
        refine value_ (w1 := w8) (v := .tuple #[]) (by rfl) rfl ?_ ?_
        · go_simp
        refine hK.out _ _ ?_
        clear hK K
        refine done_ (by kernel_rfl) ?_
        clear hdel z3d y0d y1d hHeld
        clear w7
        dsimp only [Act.put]
        go_roundw
        case rel =>
          have e2 := (HPD.out.del hin).congr (synM_del (left := left) hin HN.out HPR.out)
          rw [show (fun x => struck left (plKey p) x && !x.sameKey (plKey p)) = struck left (plKey p) from Maps.strike_twice left (plKey p)] at HR8
          have hrel : SynRel w2 w8 g ms mp (Maps.size D0) w2.heap.size d r := ⟨⟨_, cnt8, _, HR8.out, e2, HS8.out.congr (synS_put hin HPR.out hpb.out)⟩, HB8.out, HF8.out⟩
          (repeat apply Exists.intro)
          exact ⟨hrel, rfl⟩
        case measure => rw [HR8.out.left_eq, HRG.out.left_eq]; exact Nat.lt_of_le_of_lt HL8.out hlt2.out
      · have hpe : (p.1 == r) = false := by simpa using hpr
        have HPR := Asd.mk hpr
        clear hpr
        go_wp2
        go_roundw
        case rel =>
          have e2 := HPD.out.congr (synM_other (left := left) hin HN.out HPR.out)
          exact ⟨⟨_, cnt3, D, HR5.out, e2, HS5.out.congr (synS_other hin HPR.out)⟩, HB5.out, HF5.out⟩
        case measure => rw [HR5.out.left_eq, HRG.out.left_eq]; exact hlt2.out
end Go.Proofs.YtnfnnfbcafepkaaDoor.Dk
