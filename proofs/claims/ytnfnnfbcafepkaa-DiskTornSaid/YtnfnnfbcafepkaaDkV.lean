/- DiskTorn: the law's walk. -/
import Derived.Test.YtnfnnfbcafepkaaDkL
namespace Go.Proofs.Ytnfnnfbcafepkaa.Dk
open Go Go.RowKit Go.Proofs.YtnfnnfbcafepkaaW.PrintLast
set_option linter.unusedVariables false
set_option linter.unusedSimpArgs false
set_option maxRecDepth 100000
/-- A sector that was read. -/
def Kp (W : World) (k : Nat) (b : List UInt8) : Prop := W.heap[k]? = some (.cells (secC b) 43 (0, 0))
theorem Kp.below {W W' : World} {k : Nat} {b : List UInt8} (h : Kp W k b) (hb : Below W.heap.size W W') : Kp W' k b := (hb.block k (Array.getElem?_eq_some_iff.1 h).1).trans h
theorem Kp.turn {W W' : World} {k : Nat} {b : List UInt8} {g ms mp : Nat} {d : DSt} (h : Kp W k b) (hD : DiskC W g ms mp d) (hf : Frm (own g ms mp) W W') : Kp W' k b := by
  refine (hf.block k (Array.getElem?_eq_some_iff.1 h).1 ?_).trans h
  unfold Kp at h
  obtain ⟨D, ⟨es, clock, h1, _⟩, _⟩ := hD.safe
  obtain ⟨D2, ⟨es2, clock2, h2, _⟩, _⟩ := hD.pend
  rintro (rfl | rfl | rfl)
  · have := hD.blk
    rw [h] at this
    unfold dkO at this
    exact absurd (Obj.cells.inj (Option.some.inj this)).2.1 (by decide)
  · rw [h] at h1; cases h1
  · rw [h] at h2; cases h2
theorem take_le (b : List UInt8) : (b.take 64).length ≤ 64 := by rw [List.length_take]; omega
/-- A device that has not crashed and is not armed. -/
structure Quiet (d : DSt) (r s : Int) : Prop where
  crashed : d.crashed = false
  armed : d.armed = false
  reg : d.reg = r
  sec : d.sec = s
theorem Quiet.has {d : DSt} {r s : Int} (h : Quiet d r s) {x y : Int} (hx : 0 ≤ x ∧ x < r) (hy : 0 ≤ y ∧ y < s) : hasB d x y = true := by
  unfold hasB
  rw [h.reg, h.sec]
  simp [hx.1, hx.2, hy.1, hy.2]
def wrSt (d : DSt) (p : Pl) (b : List UInt8) : DSt := { d with pend := putM d.pend p (fill b) }
theorem Quiet.wr {d : DSt} {r s : Int} (h : Quiet d r s) (p : Pl) (b : List UInt8) : Quiet (wrSt d p b) r s := ⟨h.crashed, h.armed, h.reg, h.sec⟩
theorem Quiet.syn {d : DSt} {r s : Int} (h : Quiet d r s) (x : Int) : Quiet (syncSt d x) r s := ⟨h.crashed, h.armed, h.reg, h.sec⟩
theorem Quiet.res {d : DSt} {r s : Int} (h : Quiet d r s) (ps : List Pl) (cs : List Int) : Quiet (resSt d ps cs) r s := ⟨rfl, rfl, h.reg, h.sec⟩
theorem Quiet.wr_eq {d : DSt} {r s : Int} (h : Quiet d r s) (p : Pl) (b : List UInt8) : writeSt d p b = wrSt d p b := by
  unfold writeSt wrSt
  rw [h.armed, Bool.false_and]
  have := h.crashed
  cases d
  simp at this ⊢
  exact this
theorem new_quiet (r s : Int) : Quiet (newSt r s) r s := ⟨rfl, rfl, rfl, rfl⟩
theorem write_q (g ms mp : Nat) (d : DSt) (rr ss r s : Int) (A : Option Addr) (c : Nat) (b : List UInt8) (w : World) (h : DiskC w g ms mp d) (hq : Quiet d rr ss) (hr : 0 ≤ r ∧ r < rr) (hs : 0 ≤ s ∧ s < ss) (hb : b.length ≤ 64) (hbc : BytesC w A b) (hbl : b.length ≤ c) :
    Calls Try.prog 5 #[.pointer (some ⟨g, 0, none⟩), .int .i64 r, .int .i64 s, .slice A b.length c] w fun e w' => e = .returned .nilIface ∧ DiskC w' g ms mp (wrSt d (r, s) b) ∧ Frm (own g ms mp) w w' := by
  refine (write_c g ms mp d r s A c b w h (hq.has hr hs) hb hq.crashed hbc hbl).mono ?_
  rintro e w' ⟨rfl, h2, h3⟩
  rw [hq.wr_eq] at h2 ⊢
  refine ⟨?_, h2, h3⟩
  rw [show (wrSt d (r, s) b).crashed = false from hq.crashed]
  rfl
theorem read_q (g ms mp : Nat) (d : DSt) (rr ss r s : Int) (w : World) (h : DiskC w g ms mp d) (hq : Quiet d rr ss) (hr : 0 ≤ r ∧ r < rr) (hs : 0 ≤ s ∧ s < ss) :
    Calls Try.prog 8 #[.pointer (some ⟨g, 0, none⟩), .int .i64 r, .int .i64 s] w fun e w' => ∃ k, e = .returned (.tuple #[.slice (some ⟨k, 0, none⟩) 64 64, .nilIface]) ∧ Kp w' k (readB d (r, s)) ∧ w.heap.size ≤ k ∧ Below w.heap.size w w' :=
  read_c g ms mp d r s w h (hq.has hr hs) hq.crashed
theorem sync_q (g ms mp : Nat) (d : DSt) (rr ss r : Int) (w : World) (h : DiskC w g ms mp d) (hq : Quiet d rr ss) (hr : 0 ≤ r ∧ r < rr) (hs : 0 < ss) :
    Calls Try.prog 7 #[.pointer (some ⟨g, 0, none⟩), .int .i64 r] w fun e w' => e = .returned .nilIface ∧ DiskC w' g ms mp (syncSt d r) ∧ Frm (own g ms mp) w w' :=
  sync_c g ms mp d r w h (hq.has hr ⟨by omega, hs⟩) hq.crashed
theorem cut_q (A : Option Addr) (c : Nat) (b : List UInt8) (w : World) (hb : BytesC w A b) (hc : b.length ≤ c) (hl : c ≤ maxLen) (hA : A = none → c = 0) :
    Calls Try.prog 6 #[.slice A b.length c] w fun e w' => ∃ q A' c', Asd (q = b.take 64) ∧ e = .returned (.slice A' q.length c') ∧ q.length ≤ c' ∧ q.length ≤ 64 ∧ BytesC w' A' q ∧ Below w.heap.size w w' :=
  (cut_c A c b w hb hc hl hA).mono fun e w' ⟨A', c', h1, h2, h3, h4⟩ => ⟨_, A', c', ⟨rfl⟩, h1, h2, take_le b, h3, h4⟩
theorem torn_facts {d0 d2 d3 : DSt} {q0 q1 : List UInt8} (e0 : newSt 1 1 = d0) (e2 : syncSt (wrSt d0 (0, 0) q0) 0 = d2) (e3 : wrSt d2 (0, 0) q1 = d3) :
    readB d2 (0, 0) = fill q0 ∧ readB d3 (0, 0) = fill q1 ∧ (∀ p, (d3.pend p).isSome = true ↔ p = (0, 0)) ∧ ∀ ch, readB (resSt d3 [(0, 0)] [ch]) (0, 0) = applyC ch (fill q1) (fill q0) := by
  subst e0 e2 e3
  refine ⟨rfl, rfl, fun p => ?_, fun ch => rfl⟩
  show (putM (fun p => if p.1 = 0 then none else putM (fun _ => none) (0, 0) (fill q0) p) (0, 0) (fill q1) p).isSome = true ↔ _
  unfold putM
  by_cases e : p = (0, 0)
  · rw [if_pos e]; simp [e]
  · rw [if_neg e]
    dsimp only
    by_cases e1 : p.1 = 0
    · rw [if_pos e1]; simp [e]
    · rw [if_neg e1, if_neg e]; simp [e]
/-- string(x[a:]) and its like. -/
theorem conv_sec {W : World} {k : Nat} {b : List UInt8} (h : Kp W k b) (o m : Nat) (c : Nat) (q : List UInt8) (hq : q <+: b.drop o) (hm : q.length = m) :
    (convert 22 9 (.slice (some ⟨k, o, none⟩) m c)).run Try.prog W = .ok (.string ⟨q.toArray⟩) W := by
  subst hm
  exact conv_c W ⟨k, o, none⟩ q c (sec_cells h o q hq)
set_option maxHeartbeats 8000000 in
theorem torn_c (A0 : Option Addr) (c0 : Nat) (b0 : List UInt8) (A1 : Option Addr) (c1 : Nat) (b1 : List UInt8) (ch : Int) (w : World) (hb0 : BytesC w A0 b0) (hc0 : b0.length ≤ c0) (hl0 : c0 ≤ maxLen) (hA0 : A0 = none → c0 = 0) (hb1 : BytesC w A1 b1) (hc1 : b1.length ≤ c1) (hl1 : c1 ≤ maxLen) (hA1 : A1 = none → c1 = 0) :
    Calls Try.prog 3 #[.slice A0 b0.length c0, .slice A1 b1.length c1, .int .i64 ch] w fun e w' => e = .returned (.bool true) ∧ Below w.heap.size w w' := by
  have up := Try.underlying23
  have H0 := Asd.mk (And.intro hb0 (And.intro hc0 (And.intro hl0 hA0)))
  have H1 := Asd.mk (And.intro hb1 (And.intro hc1 (And.intro hl1 hA1)))
  clear hb0 hc0 hl0 hA0 hb1 hc1 hl1 hA1
  have z1 : (0 : Int) ≤ 0 ∧ (0 : Int) < 1 := by omega
  have Z1 := Asd.mk z1
  clear z1
  go_enter Try.func3, Try.ntmps3
  go_wp2_with (go_at_call 4; refine (new_c 1 1 w (by omega) (by omega) (by omega) (by omega)).mono ?_; rintro e w1 ⟨g, ms, mp, rfl, hD, hg, hs, hp, hb⟩; have HV := Asd.mk (DevAt.mk hD ⟨hg, hs, hp⟩ hb); clear hD hg hs hp hb)
  have Q0 := Asd.mk (new_quiet 1 1)
  obtain ⟨d0, hd0⟩ : ∃ d0, newSt 1 1 = d0 := ⟨_, rfl⟩
  rw [hd0] at HV Q0
  have E0 := Asd.mk hd0
  clear hd0
  refine (cut_q A0 c0 b0 w1 (H0.out.1.below HV.out.bel) H0.out.2.1 H0.out.2.2.1 H0.out.2.2.2).mono ?_
  rintro e w2 ⟨q0, A2, c2, hq0, rfl, hc2, hc2', hB2, hb2⟩
  have HV2 := Asd.mk (HV.out.more hb2)
  have HC2 := Asd.mk (And.intro hc2 (And.intro hc2' hB2))
  clear hc2 hc2' hB2 hb2 HV
  go_wp2_with fail
  refine (write_q g ms mp d0 1 1 0 0 A2 c2 q0 w2 HV2.out.dev Q0.out Z1.out Z1.out HC2.out.2.1 HC2.out.2.2 HC2.out.1).mono ?_
  rintro e w3 ⟨rfl, hD3, hf3⟩
  have Q1 := Asd.mk (Q0.out.wr (0, 0) q0)
  have HV3 := Asd.mk (HV2.out.turn hD3 hf3)
  clear hD3 hf3 HV2 HC2
  trace "1"
  go_wp2_with fail
  refine (sync_q g ms mp _ 1 1 0 w3 HV3.out.dev Q1.out Z1.out (by decide)).mono ?_
  rintro e w4 ⟨rfl, hD4, hf4⟩
  have Q2 := Asd.mk (Q1.out.syn 0)
  have HV4 := Asd.mk (HV3.out.turn hD4 hf4)
  clear hD4 hf4 HV3
  obtain ⟨d2, hd2⟩ : ∃ d2, syncSt (wrSt d0 (0, 0) q0) 0 = d2 := ⟨_, rfl⟩
  rw [hd2] at HV4 Q2
  have E2 := Asd.mk hd2
  clear hd2 Q1
  trace "2"
  go_wp2_with fail
  refine (read_q g ms mp _ 1 1 0 0 w4 HV4.out.dev Q2.out Z1.out Z1.out).mono ?_
  rintro e w5 ⟨kx, rfl, hk5, _, hb5⟩
  have HV5 := Asd.mk (HV4.out.more hb5)
  have HX5 := Asd.mk hk5
  clear hk5 hb5 HV4
  trace "3"
  go_wp2_with fail
  refine (cut_q A1 c1 b1 w5 (H1.out.1.below HV5.out.bel) H1.out.2.1 H1.out.2.2.1 H1.out.2.2.2).mono ?_
  rintro e w6 ⟨q1, A6, c6, hq1, rfl, hc6, hc6', hB6, hb6⟩
  have HV6 := Asd.mk (HV5.out.more hb6)
  have HC6 := Asd.mk (And.intro hc6 (And.intro hc6' hB6))
  have HX6 := Asd.mk (HX5.out.below hb6)
  clear hc6 hc6' hB6 hb6 HV5 HX5
  go_wp2_with fail
  refine (write_q g ms mp _ 1 1 0 0 A6 c6 q1 w6 HV6.out.dev Q2.out Z1.out Z1.out HC6.out.2.1 HC6.out.2.2 HC6.out.1).mono ?_
  rintro e w7 ⟨rfl, hD7, hf7⟩
  have Q3 := Asd.mk (Q2.out.wr (0, 0) q1)
  have HX7 := Asd.mk (HX6.out.turn HV6.out.dev hf7)
  have HV7 := Asd.mk (HV6.out.turn hD7 hf7)
  obtain ⟨d3, hd3⟩ : ∃ d3, wrSt d2 (0, 0) q1 = d3 := ⟨_, rfl⟩
  rw [hd3] at HV7 Q3
  have E3 := Asd.mk hd3
  clear hD7 hf7 HV6 HC6 HX6 hd3 Q2
  trace "4"
  go_wp2_with fail
  refine (read_q g ms mp _ 1 1 0 0 w7 HV7.out.dev Q3.out Z1.out Z1.out).mono ?_
  rintro e w8 ⟨ky, rfl, hk8, _, hb8⟩
  have HV8 := Asd.mk (HV7.out.more hb8)
  have HX8 := Asd.mk (HX7.out.below hb8)
  have HY8 := Asd.mk hk8
  clear hk8 hb8 HV7 HX7
  obtain ⟨r2, r3, r4, r5⟩ := torn_facts E0.out E2.out E3.out
  rw [r2] at HX8
  rw [r3] at HY8
  have F4 := Asd.mk r4
  have F5 := Asd.mk (r5 ch)
  have L0 : Asd ((fill q0).length = 64) := ⟨fill_len _ (by have h := hq0.out; rw [h]; exact take_le b0)⟩
  have L1 : Asd ((fill q1).length = 64) := ⟨fill_len _ (by have h := hq1.out; rw [h]; exact take_le b1)⟩
  clear r2 r3 r4 r5 E0 E2 E3
  go_wp2_with fail
  refine (restart_c g ms mp d3 (some ⟨w8.heap.size, 0, none⟩) 1 [ch] _ (HV8.out.alloc _).dev (fun _ => ⟨w8.heap.size, #[.int .i64 ch], rfl, World.alloc_heap_new w8 _, rfl⟩) (by simp)).mono ?_
  rintro e w9 ⟨rfl, ⟨ps, hps1, hps2, _, hD9⟩, hf9⟩
  obtain rfl : ps = [(0, 0)] := single hps1 (fun p => (hps2 p).trans (F4.out p))
  have Q4 := Asd.mk (Q3.out.res [(0, 0)] [ch])
  have HX9 := Asd.mk ((HX8.out.below ((Below.refl _ w8).alloc (Nat.le_refl _) _)).turn (HV8.out.alloc _).dev hf9)
  have HY9 := Asd.mk ((HY8.out.below ((Below.refl _ w8).alloc (Nat.le_refl _) _)).turn (HV8.out.alloc _).dev hf9)
  have HV9 := Asd.mk ((HV8.out.alloc _).turn hD9 hf9)
  clear hps1 hps2 hD9 hf9 HV8 HX8 HY8 F4
  go_wp2_with fail
  refine (read_q g ms mp _ 1 1 0 0 w9 HV9.out.dev Q4.out Z1.out Z1.out).mono ?_
  rintro e w10 ⟨kz, rfl, hk10, _, hb10⟩
  have HV10 := Asd.mk (HV9.out.more hb10)
  have HX10 := Asd.mk (HX9.out.below hb10)
  have HY10 := Asd.mk (HY9.out.below hb10)
  have HZ10 := Asd.mk hk10
  rw [F5.out] at HZ10
  clear hk10 hb10 HV9 HX9 HY9 Q4 Q3
  generalize fill q0 = X at *
  generalize fill q1 = Y at *
  have ZZ : Asd ((applyC ch Y X).length = 64) := ⟨by
    have h0 := L0.out
    have h1 := L1.out
    unfold applyC
    split
    · simp; omega
    · split <;> assumption⟩
  obtain ⟨Z, hZ⟩ : ∃ Z, applyC ch Y X = Z := ⟨_, rfl⟩
  rw [hZ] at ZZ HZ10
  have EZ := Asd.mk hZ
  clear hZ F5
  have cx : ∀ n, (convert 22 9 (.slice (some ⟨kx, 0, none⟩) 64 64)).run Try.prog (w10.drewN n) = .ok (.string ⟨X.toArray⟩) (w10.drewN n) := fun n => conv_sec (W := w10.drewN n) HX10.out 0 64 64 X (List.prefix_refl _) L0.out
  have cy : ∀ n, (convert 22 9 (.slice (some ⟨ky, 0, none⟩) 64 64)).run Try.prog (w10.drewN n) = .ok (.string ⟨Y.toArray⟩) (w10.drewN n) := fun n => conv_sec (W := w10.drewN n) HY10.out 0 64 64 Y (List.prefix_refl _) L1.out
  have cz : ∀ n, (convert 22 9 (.slice (some ⟨kz, 0, none⟩) 64 64)).run Try.prog (w10.drewN n) = .ok (.string ⟨Z.toArray⟩) (w10.drewN n) := fun n => conv_sec (W := w10.drewN n) HZ10.out 0 64 64 Z (List.prefix_refl _) ZZ.out
  have cy2 : ∀ n, (convert 22 9 (.slice (some ⟨ky, 0, none⟩) 32 64)).run Try.prog (w10.drewN n) = .ok (.string ⟨(Y.take 32).toArray⟩) (w10.drewN n) := fun n => conv_sec (W := w10.drewN n) HY10.out 0 32 64 (Y.take 32) (by rw [List.drop_zero]; exact List.take_prefix _ _) (by rw [List.length_take, L1.out]; rfl)
  have cx2 : ∀ n, (convert 22 9 (.slice (some ⟨kx, 32, none⟩) 32 32)).run Try.prog (w10.drewN n) = .ok (.string ⟨(X.drop 32).toArray⟩) (w10.drewN n) := fun n => conv_sec (W := w10.drewN n) HX10.out 32 32 32 (X.drop 32) (List.prefix_refl _) (by rw [List.length_drop, L0.out])
  have cx0 : (convert 22 9 (.slice (some ⟨kx, 0, none⟩) 64 64)).run Try.prog w10 = .ok (.string ⟨X.toArray⟩) w10 := cx 0
  have cy0 : (convert 22 9 (.slice (some ⟨ky, 0, none⟩) 64 64)).run Try.prog w10 = .ok (.string ⟨Y.toArray⟩) w10 := cy 0
  have cz0 : (convert 22 9 (.slice (some ⟨kz, 0, none⟩) 64 64)).run Try.prog w10 = .ok (.string ⟨Z.toArray⟩) w10 := cz 0
  by_cases h1 : ch = 1
  · subst h1
    have EY : Y = Z := by rw [← EZ.out]; rfl
    subst EY
    clear cx cy cz cy2 cx2 EZ
    go_wp2_with (go_at_call 10; refine (sure_c w10).mono ?_; rintro e w11 ⟨rfl, hb⟩; have HB11 := Asd.mk hb; clear hb)
    go_ret
    exact ⟨rfl, HV10.out.bel.trans (HB11.out.mono HV10.out.bel.size)⟩
  · by_cases h2 : ch = 2
    · subst h2
      have EZ2 : (⟨Z.toArray⟩ : ByteArray) = ⟨(Y.take 32).toArray⟩ ++ ⟨(X.drop 32).toArray⟩ := by
        rw [← EZ.out]
        apply ByteArray.ext
        apply Array.toList_inj.1
        simp [applyC]
      obtain ⟨sz, hsz⟩ : ∃ s : ByteArray, (⟨Z.toArray⟩ : ByteArray) = s := ⟨_, rfl⟩
      obtain ⟨sy, hsy⟩ : ∃ s : ByteArray, (⟨(Y.take 32).toArray⟩ : ByteArray) = s := ⟨_, rfl⟩
      obtain ⟨sx, hsx⟩ : ∃ s : ByteArray, (⟨(X.drop 32).toArray⟩ : ByteArray) = s := ⟨_, rfl⟩
      rw [hsz] at cz cz0 EZ2
      rw [hsy] at cy2 EZ2
      rw [hsx] at cx2 EZ2
      have hssz : Asd (sy.size + sx.size = 64) := ⟨by rw [← hsy, ← hsx]; simp [ByteArray.size, L1.out, L0.out]⟩
      have b1 : sy.size + sx.size ≤ 64 := by have := hssz.out; omega
      have b2 : ¬ 281474976710656 < sy.size + sx.size := by have := hssz.out; omega
      have b3 : ¬ 9223372036854775807 < sy.size + sx.size := by have := hssz.out; omega
      subst EZ2
      clear cx cy cz0 cy0 EZ hsz hsy hsx h1
      go_wp2_with fail
      go_quiet (fail)
      have cz1 := cz nq
      have HV11 := Asd.mk (HV10.out.more (W' := w10.drewN nq) ⟨rfl, rfl, rfl, Nat.le_refl _, fun _ _ => rfl⟩)
      generalize w10.drewN nq = w12 at cz1 HV11 ⊢
      clear cz cy2 cx2 cx0 b1 b2 b3
      go_wp2_with (go_at_call 10; refine (sure_c w12).mono ?_; rintro e w11 ⟨rfl, hb⟩; have HB11 := Asd.mk hb; clear hb)
      go_ret
      exact ⟨rfl, HV11.out.bel.trans (HB11.out.mono HV11.out.bel.size)⟩
    · have e1 : (ch == 1) = false := by simpa using h1
      have e2 : (ch == 2) = false := by simpa using h2
      have EX : X = Z := by rw [← EZ.out]; unfold applyC; rw [if_neg h2, if_neg h1]
      subst EX
      clear cx cy cz cy2 cx2 EZ h1 h2
      go_wp2_with (go_at_call 10; refine (sure_c w10).mono ?_; rintro e w11 ⟨rfl, hb⟩; have HB11 := Asd.mk hb; clear hb)
      go_ret
      exact ⟨rfl, HV10.out.bel.trans (HB11.out.mono HV10.out.bel.size)⟩
end Go.Proofs.Ytnfnnfbcafepkaa.Dk
