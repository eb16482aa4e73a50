/- DiskArmed: the law's walk. -/
import Derived.Test.YtnfnnfbcafepkaaDoorDkE
import Derived.Test.YtnfnnfbcafepkaaDoorDkA
import Derived.Test.YtnfnnfbcafepkaaDoorDkV0
namespace Go.Proofs.YtnfnnfbcafepkaaDoor.Dk
open Go Go.RowKit Go.Proofs.YtnfnnfbcafepkaaDoorW.PrintLast Go.Proofs.YtnfnnfbcafepkaaDoor.As
set_option linter.unusedVariables false
set_option linter.unusedSimpArgs false
set_option maxRecDepth 100000
/-- An armed device when i writes are over. -/
structure ArmSt (d : DSt) (k i : Nat) : Prop where
  reg : d.reg = 1
  sec : d.sec = 4
  armed : d.armed = true
  live : i ≤ k → d.crashed = false ∧ d.left = (k : Int) - i
  dead : k < i → d.crashed = true
theorem ArmSt.has {d : DSt} {k i : Nat} (h : ArmSt d k i) {x : Int} (hx : 0 ≤ x ∧ x < 4) : hasB d 0 x = true := by
  unfold hasB
  rw [h.reg, h.sec]
  simp [hx.1, hx.2]
theorem left_ok {k i : Nat} (hk : k < 20) (hi : i ≤ k) : wrap64 ((k : Int) - i - 1) = (k : Int) - i - 1 := by unfold wrap64; omega
theorem ArmSt.write {d : DSt} {k i : Nat} (h : ArmSt d k i) (hk : k < 20) (hi : i ≤ k) (p : Pl) (b : List UInt8) : ArmSt (writeSt d p b) k (i + 1) ∧ (writeSt d p b).crashed = decide (i = k) := by
  have hl := (h.live hi).2
  have hc : (writeSt d p b).crashed = decide (i = k) := by
    show (d.armed && decide (wrap64 (d.left - 1) < 0)) = _
    rw [h.armed, hl, left_ok hk hi, Bool.true_and]
    apply decide_eq_decide.2
    omega
  refine ⟨⟨h.reg, h.sec, h.armed, fun h1 => ⟨?_, ?_⟩, fun h1 => ?_⟩, hc⟩
  · rw [hc]; exact decide_eq_false (by omega)
  · show (if d.armed = true then wrap64 (d.left - 1) else d.left) = _
    rw [h.armed, if_pos rfl, hl, left_ok hk hi]; omega
  · rw [hc]; exact decide_eq_true (by omega)
theorem ArmSt.more {d : DSt} {k i : Nat} (h : ArmSt d k i) (hi : k < i) : ArmSt d k (i + 1) := ⟨h.reg, h.sec, h.armed, fun h1 => absurd h1 (by omega), fun _ => h.dead hi⟩
theorem u_pos (n : Int) : 0 ≤ IntKind.u64.wrap n := by
  simp [IntKind.wrap, IntKind.bits, IntKind.signed]
  omega
theorem u_rem (n : Int) (m : Nat) (hm : 0 < m) (hm2 : m ≤ 1000) : ∃ k : Nat, k < m ∧ wrap64 ((IntKind.u64.wrap n).tmod (m : Int)) = (k : Int) := by
  have h0 := u_pos n
  generalize IntKind.u64.wrap n = u at h0
  have h1 := Int.tmod_nonneg (m : Int) h0
  have h2 := Int.tmod_lt_of_pos u (show (0 : Int) < (m : Int) by omega)
  refine ⟨(u.tmod m).toNat, by omega, ?_⟩
  generalize u.tmod m = v at h1 h2
  unfold wrap64
  omega
theorem u_at (n : Int) (m : Nat) (hm : 0 < m) (hm2 : m ≤ 1000) : 0 ≤ wrap64 ((IntKind.u64.wrap n).tmod (m : Int)) ∧ wrap64 ((IntKind.u64.wrap n).tmod (m : Int)) < (m : Int) := by
  obtain ⟨k, h1, h2⟩ := u_rem n m hm hm2
  rw [h2]
  omega
set_option maxHeartbeats 8000000 in
theorem armed_c (n many : Int) (w : World) (hG : GE w) (hm : -9223372036854775808 ≤ many ∧ many ≤ 9223372036854775807) :
    Calls Tryd.prog 3 #[.int .i64 n, .int .i64 many] w fun e w' => e = .returned (.bool true) ∧ Below w.heap.size w w' := by
  have up := Tryd.underlying22
  have kc := fun (w : World) (C : Array Value) (n c : Nat) => Lib.run_convert_bytes_const (P := Tryd.prog) w 30 5 C n c Tryd.underlying30 Tryd.underlying5
  have HG := Asd.mk hG
  clear hG
  go_enter Tryd.func3, Tryd.ntmps3
  go_wp2_with (go_at_call 6; refine (new_c 1 4 w (by omega) (by omega) (by omega) (by omega)).mono ?_; rintro e w1 ⟨g, ms, mp, rfl, hD, hg, hs, hp, hb⟩; have HV := Asd.mk (DevAt.mk hD ⟨hg, hs, hp⟩ hb); clear hD hg hs hp hb)
  obtain ⟨k, hk, hkw⟩ := u_rem n 20 (by omega) (by omega)
  have hkw2 : wrap64 ((IntKind.u64.wrap n).tmod 20) = (k : Int) := hkw
  simp only [hkw2]
  clear hkw hkw2
  refine (arm_c g ms mp (newSt 1 4) (k : Int) w1 HV.out.dev (by omega) (by omega)).mono ?_
  rintro e w2 ⟨rfl, hD2, hf2⟩
  have HV2 := Asd.mk (HV.out.turn hD2 hf2)
  have HS2 : Asd (ArmSt (armSt (newSt 1 4) (k : Int)) k 0) := ⟨⟨rfl, rfl, rfl, fun _ => ⟨rfl, by show (k : Int) = k - 0; omega⟩, fun h => by omega⟩⟩
  clear hD2 hf2 HV
  obtain ⟨d2, hd2⟩ : ∃ d2, armSt (newSt 1 4) (k : Int) = d2 := ⟨_, rfl⟩
  rw [hd2] at HV2 HS2
  clear hd2
  go_wp2_with fail
  go_loopw [8] (fun i wr => ∃ (j : Nat) (d : DSt), j ≤ 25 ∧ i = .int .i64 j ∧ DevAt w wr g ms mp d ∧ ArmSt d k j) (fun i _ => 25 - (intOf i).toNat)
  case atStart => exact ⟨0, d2, by omega, rfl, HV2.out, HS2.out⟩
  case round =>
    obtain ⟨j, d, hj, rfl, hV, hS⟩ := hrel
    have HV := Asd.mk hV
    have HS := Asd.mk hS
    clear hV hS HV2 HS2
    clear d2
    by_cases hlt : j < 25
    · go_wp2_with fail
      have hx : 0 ≤ wrap64 ((IntKind.u64.wrap (wrap64 (many + (j : Int)))).tmod 4) ∧ wrap64 ((IntKind.u64.wrap (wrap64 (many + (j : Int)))).tmod 4) < 4 := u_at _ 4 (by omega) (by omega)
      generalize wrap64 ((IntKind.u64.wrap (wrap64 (many + (j : Int)))).tmod 4) = x at hx ⊢
      have HX := Asd.mk hx
      clear hx
      have HB := Asd.mk (bytes_block (b := [120]) (World.alloc_heap_new wr (.cells #[.int .u8 120] 5 (1, 2))) rfl)
      by_cases hjk : j ≤ k
      · have hw := HS.out.write hk hjk (0, x) [120]
        have HW := Asd.mk hw
        clear hw
        refine (write_c g ms mp d 0 x (some ⟨wr.heap.size, 0, none⟩) 1 [120] _ (HV.out.alloc _).dev (HS.out.has HX.out) (by decide) (HS.out.live hjk).1 HB.out (by decide)).mono ?_
        rintro e w3 ⟨rfl, hD3, hf3⟩
        rw [HW.out.2]
        have HV3 := Asd.mk ((HV.out.alloc _).turn hD3 hf3)
        clear hD3 hf3
        have cr : (writeSt d (0, x) [120]).crashed = decide (j = k) := HW.out.2
        obtain ⟨d3, hd3⟩ : ∃ d3, writeSt d (0, x) [120] = d3 := ⟨_, rfl⟩
        rw [hd3] at HV3 HW cr
        clear hd3
        by_cases he : j = k
        · subst he
          have e1 : decide (j = j) = true := decide_eq_true rfl
          rw [e1] at cr ⊢
          have e2 : decide (j < j) = false := decide_eq_false (by omega)
          have e3 : decide (j ≤ j) = true := decide_eq_true (Nat.le_refl _)
          have e4 : decide (j ≥ j) = true := decide_eq_true (Nat.le_refl _)
          have CR := Asd.mk cr
          rw [show crashE true = .iface 62 (.int .i64 60) from rfl]
          clear cr e1
          go_wp2_with (first
            | (go_at_call 9; refine (crashed_c g ms mp d3 w3 HV3.out.dev).mono ?_; rintro e w4 ⟨rfl, rfl⟩; rw [CR.out])
            | (go_at_call 10; refine (num_err 60 _ (HG.out.below HV3.out.bel)).mono ?_; rintro e w5 ⟨rfl, hb⟩; have HV5 := Asd.mk (HV3.out.more hb); clear hb))
          go_roundw
          case rel => exact ⟨j + 1, d3, by omega, by go_num, HV5.out, HW.out.1⟩
          case measure => simp [intOf]; omega
        · have e1 : decide (j = k) = false := decide_eq_false he
          have hjl : j < k := by omega
          rw [e1] at cr ⊢
          have e2 : decide (j < k) = true := decide_eq_true hjl
          have e3 : decide (k ≤ j) = false := decide_eq_false (by omega)
          have e4 : decide (j ≥ k) = false := decide_eq_false (by omega)
          have CR := Asd.mk cr
          rw [show crashE false = .nilIface from rfl]
          clear cr e1
          go_wp2_with (go_at_call 9; refine (crashed_c g ms mp d3 w3 HV3.out.dev).mono ?_; rintro e w4 ⟨rfl, rfl⟩; rw [CR.out])
          go_roundw
          case rel => exact ⟨j + 1, d3, by omega, by go_num, HV3.out, HW.out.1⟩
          case measure => simp [intOf]; omega
      · have hjl : k < j := by omega
        have CR := Asd.mk (HS.out.dead hjl)
        refine (write_bad g ms mp d 0 x (some ⟨wr.heap.size, 0, none⟩) 1 1 _ (HV.out.alloc _).dev 60 (by unfold writeBad; rw [HS.out.has HX.out, CR.out]; rfl)).mono ?_
        rintro e w3 ⟨rfl, rfl⟩
        have HV3 := Asd.mk (HV.out.alloc (.cells #[.int .u8 120] 5 (1, 2)))
        have HM := Asd.mk (HS.out.more hjl)
        generalize wr.alloc (.cells #[.int .u8 120] 5 (1, 2)) = w3 at HV3 HB ⊢
        have e2 : decide (j < k) = false := decide_eq_false (by omega)
        have e3 : decide (k ≤ j) = true := decide_eq_true (by omega)
        have e4 : decide (j ≥ k) = true := decide_eq_true (by omega)
        go_wp2_with (first
          | (go_at_call 9; refine (crashed_c g ms mp d w3 HV3.out.dev).mono ?_; rintro e w4 ⟨rfl, rfl⟩; rw [CR.out])
          | (go_at_call 10; refine (num_err 60 _ (HG.out.below HV3.out.bel)).mono ?_; rintro e w5 ⟨rfl, hb⟩; have HV5 := Asd.mk (HV3.out.more hb); clear hb))
        go_roundw
        case rel => exact ⟨j + 1, d, by omega, by go_num, HV5.out, HM.out⟩
        case measure => simp [intOf]; omega
    · obtain rfl : j = 25 := by omega
      go_wp2_with fail
      have CR := Asd.mk (HS.out.dead (by omega))
      refine (read_bad g ms mp d 0 0 wr HV.out.dev 60 (by unfold readBad; rw [HS.out.has (by omega), CR.out]; rfl)).mono ?_
      rintro e w3 ⟨rfl, rfl⟩
      go_wp2_with fail
      refine (sync_bad g ms mp d 0 w3 HV.out.dev 60 (by unfold readBad; rw [HS.out.has (by omega), CR.out]; rfl)).mono ?_
      rintro e w4 ⟨rfl, rfl⟩
      go_wp2_with fail
      refine (restart_c g ms mp d none 0 [] w4 HV.out.dev (fun h => absurd h (by simp)) (by simp)).mono ?_
      rintro e w5 ⟨rfl, ⟨ps, _, _, _, hD5⟩, hf5⟩
      have HV5 := Asd.mk (HV.out.turn hD5 hf5)
      have Q5 : Asd (Quiet (resSt d ps []) 1 4) := ⟨⟨rfl, rfl, HS.out.reg, HS.out.sec⟩⟩
      obtain ⟨d5, hd5⟩ : ∃ d5, resSt d ps [] = d5 := ⟨_, rfl⟩
      rw [hd5] at HV5 Q5
      clear hd5 hD5 hf5 HV CR HS
      go_wp2_with fail
      refine (read_q g ms mp d5 1 4 0 0 w5 HV5.out.dev Q5.out (by omega) (by omega)).mono ?_
      rintro e w6 ⟨kz, rfl, _, _, hb6⟩
      have HV6 := Asd.mk (HV5.out.more hb6)
      clear hb6 HV5
      go_wp2_with (go_at_call 10; refine (num_err 60 _ (HG.out.below HV6.out.bel)).mono ?_; rintro e w7 ⟨rfl, hb⟩; have HV7 := Asd.mk (HV6.out.more hb); clear hb HV6)
      refine (num_err 60 _ (HG.out.below HV7.out.bel)).mono ?_
      rintro e w8 ⟨rfl, hb⟩
      have HV8 := Asd.mk (HV7.out.more hb)
      clear hb HV7
      go_wp2_with fail
      refine (crashed_c g ms mp d5 w8 HV8.out.dev).mono ?_
      rintro e w9 ⟨rfl, rfl⟩
      rw [Q5.out.crashed]
      go_wp2_with fail
      refine (write_q g ms mp d5 1 4 0 0 none 0 [] w9 HV8.out.dev Q5.out (by omega) (by omega) (by decide) (fun h => absurd h (by simp)) (by decide)).mono ?_
      rintro e w10 ⟨rfl, hD10, hf10⟩
      have HV10 := Asd.mk (HV8.out.turn hD10 hf10)
      clear hD10 hf10
      go_wp2_with (go_at_call 14; refine (sure_c w10).mono ?_; rintro e w11 ⟨rfl, hb⟩; have HB11 := Asd.mk hb; clear hb)
      go_ret
      exact ⟨rfl, HV10.out.bel.trans (HB11.out.mono HV10.out.bel.size)⟩
theorem armed_row (W : World) (hG : GE W) (n : Int) (g0 : (Lit.int .i64 n).wf = true) (many : Int) (g1 : (Lit.int .i64 many).wf = true) :
    Calls Tryd.prog 3 #[.int .i64 n, .int .i64 many] W fun e w' => e = .returned (.bool true) ∧ Below W.heap.size W w' :=
  armed_c n many W hG (by simp [Lit.wf, IntKind.min, IntKind.max, IntKind.signed, IntKind.bits] at g1; omega)
end Go.Proofs.YtnfnnfbcafepkaaDoor.Dk
