/- DiskSafe: the law's walk. -/
import Derived.Test.YtnfnnfbcafepkaaDoorDkE
import Derived.Test.YtnfnnfbcafepkaaDoorDkA
import Derived.Test.YtnfnnfbcafepkaaDoorDkI
namespace Go.Proofs.YtnfnnfbcafepkaaDoor.Dk
open Go Go.RowKit Go.Proofs.YtnfnnfbcafepkaaDoorW.PrintLast Go.Proofs.YtnfnnfbcafepkaaDoor.As
set_option linter.unusedVariables false
set_option linter.unusedSimpArgs false
set_option maxRecDepth 100000
set_option maxHeartbeats 4000000 in
theorem clone_nil (w : World) :
    Calls Tryd.prog 16 #[.pointer none] w fun e w' => e = .returned (.pointer none) ∧ w' = w := by
  have up := Tryd.underlying22
  go_enter Tryd.func16, Tryd.ntmps16
  go_wp2
  go_ret
  exact ⟨rfl, rfl⟩
theorem u_rem (n : Int) (m : Nat) (hm : 0 < m) (hm2 : m ≤ 1000) : 0 ≤ wrap64 ((IntKind.u64.wrap n).tmod (m : Int)) ∧ wrap64 ((IntKind.u64.wrap n).tmod (m : Int)) < (m : Int) := by
  have h0 : 0 ≤ IntKind.u64.wrap n := by
    simp [IntKind.wrap, IntKind.bits, IntKind.signed]
    omega
  generalize IntKind.u64.wrap n = u at h0
  have h1 := Int.tmod_nonneg (m : Int) h0
  have h2 := Int.tmod_lt_of_pos u (show (0 : Int) < (m : Int) by omega)
  generalize u.tmod m = v at h1 h2
  unfold wrap64
  omega
theorem u_rem8 (n : Int) : 0 ≤ wrap64 ((IntKind.u64.wrap n).tmod 8) ∧ wrap64 ((IntKind.u64.wrap n).tmod 8) < 8 := u_rem n 8 (by omega) (by omega)
theorem cell_up {W W' : World} {p : Addr} {v : Value} (hb : Below W.heap.size W W') (h : W.cell? p = some v) : W'.cell? p = some v := (hb.cell (World.block_lt_of_cell? W _ h)).trans h
theorem drew_bel (W : World) : Below W.heap.size W W.drew := ⟨rfl, rfl, rfl, Nat.le_refl _, fun _ _ => rfl⟩
theorem int_info : (Tryd.prog.info? 3).map (fun i => (i.zero, i.size, i.bytes)) = some (some (.int .i64 0), 1, 8) := by kernel_rfl
/-- A row of numbers that is owned, read. -/
theorem IntC.own {W : World} {base : Nat} {v : Value} {b : List Int} {m : Nat} (hm : m = b.length) (h : W.ownsRow base 3 1 v m (b.map (Value.int .i64))) : ∃ A c, v = .slice A b.length c ∧ b.length ≤ c ∧ IntC W A b := by
  subst hm
  rcases h.2 with ⟨rfl, hz⟩ | ⟨g, cap, cur, rfl, hbase, hgb, r1, r2, r3, r4⟩
  · exact ⟨none, 0, by rw [hz], by omega, fun hp => by omega⟩
  · exact ⟨_, cap, rfl, r1, fun hp => ⟨g, cur, rfl, hgb, by rw [Nat.mul_one] at r4; exact r4⟩⟩
theorem int_nil {W : World} : IntC W none [] := fun h => absurd h (by simp)
theorem syn_none (d : DSt) (r s : Int) : (syncSt d r).pend (r, s) = none := by
  show (if r = r then none else d.pend (r, s)) = none
  rw [if_pos rfl]
theorem wr_other (d : DSt) (p p' : Pl) (q : List UInt8) (h : p' ≠ p) : (wrSt d p q).pend p' = d.pend p' := by
  show putM d.pend p (fill q) p' = _
  unfold putM
  rw [if_neg h]
set_option maxHeartbeats 16000000 in
theorem safe_c (A0 : Option Addr) (c0 : Nat) (l : List ActV) (sector : Int) (A2 : Option Addr) (c2 : Nat) (cs : List Int) (w : World) (hG : GE w) (hA : ActsC w A0 l) (hl : l.length ≤ c0) (hl2 : c0 ≤ maxLen)
    (hN : NumC w A2 cs) (hc : cs.length ≤ c2) (hc2 : c2 ≤ maxLen) (hA2 : A2 = none → c2 = 0) (hc8 : cs.length * 8 ≤ 140737488351232) :
    Calls Tryd.prog 4 #[.slice A0 l.length c0, .int .i64 sector, .slice A2 cs.length c2] w fun e w' => e = .returned (.bool true) ∧ Below w.heap.size w w' := by
  have up := Tryd.underlying22
  unfold maxLen at hl2 hc2
  have HG := Asd.mk hG
  have HA := Asd.mk hA
  have HN := Asd.mk hN
  have HC := Asd.mk (And.intro hc (And.intro hc2 (And.intro hA2 hc8)))
  clear hG hA hN hc hc2 hA2 hc8
  go_enter Tryd.func4, Tryd.ntmps4
  go_wp2_with (go_at_call 6; refine (new_c 2 8 w (by omega) (by omega) (by omega) (by omega)).mono ?_; rintro e w1 ⟨g, ms, mp, rfl, hD, hg, hs, hp, hb⟩; have HV := Asd.mk (DevAt.mk hD ⟨hg, hs, hp⟩ hb); clear hD hg hs hp hb)
  have hx := u_rem8 sector
  generalize wrap64 ((IntKind.u64.wrap sector).tmod 8) = at_ at hx ⊢
  have HT := Asd.mk hx
  clear hx
  have HQ0 := Asd.mk (new_quiet 2 8)
  obtain ⟨d0, hd0⟩ : ∃ d0, newSt 2 8 = d0 := ⟨_, rfl⟩
  rw [hd0] at HV HQ0
  clear hd0
  go_loopw [10] (fun i wr => ∃ (j : Nat) (d : DSt), j ≤ l.length ∧ i = .int .i64 j ∧ DevAt w wr g ms mp d ∧ Quiet d 2 8) (fun i _ => l.length - (intOf i).toNat)
  case atStart => exact ⟨0, d0, by omega, rfl, HV.out, HQ0.out⟩
  case round =>
    obtain ⟨j, d, hj, rfl, hV, hQ⟩ := hrel
    clear HV HQ0
    clear d0
    have HV := Asd.mk hV
    have HQ := Asd.mk hQ
    clear hV hQ
    by_cases hlt : j < l.length ∧ j < 30
    · obtain ⟨hlt, h30⟩ := hlt
      obtain ⟨ad, rfl, hact⟩ := HA.out (by omega)
      have hac := (hact j hlt).below HV.out.bel
      obtain ⟨a, ha⟩ : ∃ a, l[j] = a := ⟨_, rfl⟩
      rw [ha] at hac
      obtain ⟨Ad, cd, f3, hfd⟩ := hac.data
      have f2 := hac.at_
      have HFD := Asd.mk hfd
      have hx := u_rem8 a.at_
      have HX := Asd.mk hx
      have i1 : (0 : Int) ≤ (j : Int) := by omega
      have i2 : (j : Int) < (l.length : Int) := by omega
      have i3 : (j : Int) < 30 := by omega
      clear hact hac hfd hx ha
      go_wp2_with fail
      have HV5 := Asd.mk (HV.out.more (drew_bel wr))
      have f2d := cell_up (drew_bel wr) f2
      have f3d := cell_up (drew_bel wr) f3
      have HFD5 := Asd.mk (HFD.out.1.below (drew_bel wr))
      refine start_ (n := 16) (S := fun w' => w'.cell? ⟨(ad.add (j * 5)).block, (ad.add (j * 5)).off + 2, none⟩ = some (.int .i64 a.at_) ∧ w'.cell? ⟨(ad.add (j * 5)).block, (ad.add (j * 5)).off + 3, none⟩ = some (.slice Ad a.data.length cd)) (ds := [15]) #[false, false, false, false, false, false, false, false, false, false, false, false, false, false, false, false] (by kernel_rfl) rfl rfl ⟨f2d, f3d⟩ (fun hHeld => ?_)
      generalize wr.drew = w5 at f2d f3d HV5 HFD5 hHeld ⊢
      refine pure_ (i := 0) (N := some 45) (v := ?_) (a' := ?_) #[true, false, false, false, false, false, false, false, false, false, false, false, false, false, false, false] rfl rfl (by kernel_rfl) (fun _ _ _ h => h) (Or.inl ⟨by rfl, ?_⟩) ?_ ?_
      rotate_left
      · intro w'
        go_simp
        with_reducible rfl
      rotate_left
      · simp only [Act.put, List.setIfInBounds_toArray, List.set_cons_zero, List.set_cons_succ, i64_w, i32_w]
        rfl
      refine pure_ (i := 1) (N := some 46) (v := ?_) (a' := ?_) #[true, true, false, false, false, false, false, false, false, false, false, false, false, false, false, false] rfl rfl (by kernel_rfl) (fun _ _ _ h => h) (Or.inl ⟨by rfl, ?_⟩) ?_ ?_
      rotate_left
      · intro w'
        go_simp
        with_reducible rfl
      rotate_left
      · simp only [Act.put, List.setIfInBounds_toArray, List.set_cons_zero, List.set_cons_succ, i64_w, i32_w]
        rfl
      refine pure_ (i := 2) (N := some 47) (v := ?_) (a' := ?_) #[true, true, true, false, false, false, false, false, false, false, false, false, false, false, false, false] rfl rfl (by kernel_rfl) (fun _ _ _ h => h) (Or.inl ⟨by rfl, ?_⟩) ?_ ?_
      rotate_left
      · intro w'
        go_simp
        with_reducible rfl
      rotate_left
      · simp only [Act.put, List.setIfInBounds_toArray, List.set_cons_zero, List.set_cons_succ, i64_w, i32_w]
        rfl
      refine pure_ (i := 3) (N := some 48) (v := ?_) (a' := ?_) #[true, true, true, true, false, false, false, false, false, false, false, false, false, false, false, false] rfl rfl (by kernel_rfl) (fun _ _ _ h => h) (Or.inl ⟨by rfl, ?_⟩) ?_ ?_
      rotate_left
      · intro w'
        go_simp
        with_reducible rfl
      rotate_left
      · simp only [Act.put, List.setIfInBounds_toArray, List.set_cons_zero, List.set_cons_succ, i64_w, i32_w]
        rfl
      refine pure_ (i := 4) (N := some 49) (v := ?_) (a' := ?_) #[true, true, true, true, true, false, false, false, false, false, false, false, false, false, false, false] rfl rfl (by kernel_rfl) (fun _ _ _ h => h) (Or.inl ⟨by rfl, ?_⟩) ?_ ?_
      rotate_left
      · intro w'
        go_simp
        with_reducible rfl
      rotate_left
      · simp only [Act.put, List.setIfInBounds_toArray, List.set_cons_zero, List.set_cons_succ, i64_w, i32_w]
        rfl
      refine pure_ (i := 9) (N := some 54) (v := ?_) (a' := ?_) #[true, true, true, true, true, false, false, false, false, true, false, false, false, false, false, false] rfl rfl (by kernel_rfl) (fun _ _ _ h => h) (Or.inl ⟨by rfl, ?_⟩) ?_ ?_
      rotate_left
      · intro w'
        go_simp
        with_reducible rfl
      rotate_left
      · simp only [Act.put, List.setIfInBounds_toArray, List.set_cons_zero, List.set_cons_succ, i64_w, i32_w]
        rfl
      refine pure_ (i := 10) (N := some 55) (v := ?_) (a' := ?_) #[true, true, true, true, true, false, false, false, false, true, true, false, false, false, false, false] rfl rfl (by kernel_rfl) (fun _ _ _ h => h) (Or.inl ⟨by rfl, ?_⟩) ?_ ?_
      rotate_left
      · intro w'
        go_simp
        with_reducible rfl
      rotate_left
      · simp only [Act.put, List.setIfInBounds_toArray, List.set_cons_zero, List.set_cons_succ, i64_w, i32_w]
        rfl
      refine pure_ (i := 11) (N := some 56) (v := ?_) (a' := ?_) #[true, true, true, true, true, false, false, false, false, true, true, true, false, false, false, false] rfl rfl (by kernel_rfl) (fun _ _ _ h => h) (Or.inl ⟨by rfl, ?_⟩) ?_ ?_
      rotate_left
      · intro w'
        go_simp
        with_reducible rfl
      rotate_left
      · simp only [Act.put, List.setIfInBounds_toArray, List.set_cons_zero, List.set_cons_succ, i64_w, i32_w]
        rfl
      refine pure_ (i := 12) (N := some 57) (v := ?_) (a' := ?_) #[true, true, true, true, true, false, false, false, false, true, true, true, true, false, false, false] rfl rfl (by kernel_rfl) (fun _ _ _ h => h) (Or.inl ⟨by rfl, ?_⟩) ?_ ?_
      rotate_left
      · intro w'
        go_simp
        with_reducible rfl
      rotate_left
      · simp only [Act.put, List.setIfInBounds_toArray, List.set_cons_zero, List.set_cons_succ, i64_w, i32_w]
        rfl
      refine take_ (i := 5) (N := some 50) (v := ?_) (a' := ?_) #[true, true, true, true, true, true, false, false, false, true, true, true, true, false, false, false] rfl rfl (by kernel_rfl) (fun _ _ _ h => h) (Or.inl ⟨by rfl, ?_⟩) hHeld ?_ ?_
      rotate_left
      · rintro w' ⟨s0, s1⟩
        go_simp
        with_reducible rfl
      rotate_left
      · simp only [Act.put, List.setIfInBounds_toArray, List.set_cons_zero, List.set_cons_succ, i64_w, i32_w]
        rfl
      refine pure_ (i := 6) (N := some 51) (v := ?_) (a' := ?_) #[true, true, true, true, true, true, true, false, false, true, true, true, true, false, false, false] rfl rfl (by kernel_rfl) (fun _ _ _ h => h) (Or.inl ⟨by rfl, ?_⟩) ?_ ?_
      rotate_left
      · intro w'
        go_simp
        with_reducible rfl
      rotate_left
      · simp only [Act.put, List.setIfInBounds_toArray, List.set_cons_zero, List.set_cons_succ, i64_w, i32_w]
        rfl
      refine pure_ (i := 7) (N := some 52) (v := ?_) (a' := ?_) #[true, true, true, true, true, true, true, true, false, true, true, true, true, false, false, false] rfl rfl (by kernel_rfl) (fun _ _ _ h => h) (Or.inl ⟨by rfl, ?_⟩) ?_ ?_
      rotate_left
      · intro w'
        go_simp
        with_reducible rfl
      rotate_left
      · simp only [Act.put, List.setIfInBounds_toArray, List.set_cons_zero, List.set_cons_succ, i64_w, i32_w]
        rfl
      refine pure_ (i := 8) (N := some 53) (v := ?_) (a' := ?_) #[true, true, true, true, true, true, true, true, true, true, true, true, true, false, false, false] rfl rfl (by kernel_rfl) (fun _ _ _ h => h) (Or.inl ⟨by rfl, ?_⟩) ?_ ?_
      rotate_left
      · intro w'
        go_simp
        with_reducible rfl
      rotate_left
      · simp only [Act.put, List.setIfInBounds_toArray, List.set_cons_zero, List.set_cons_succ, i64_w, i32_w]
        rfl
      refine take_ (i := 13) (N := some 58) (v := ?_) (a' := ?_) #[true, true, true, true, true, true, true, true, true, true, true, true, true, true, false, false] rfl rfl (by kernel_rfl) (fun _ _ _ h => h) (Or.inl ⟨by rfl, ?_⟩) hHeld ?_ ?_
      rotate_left
      · rintro w' ⟨s0, s1⟩
        go_simp
        with_reducible rfl
      rotate_left
      · simp only [Act.put, List.setIfInBounds_toArray, List.set_cons_zero, List.set_cons_succ, i64_w, i32_w]
        rfl
      refine one_ (i := 14) (N := some 59) #[true, true, true, true, true, true, true, true, true, true, true, true, true, true, true, false] rfl rfl (by kernel_rfl) (by decide) (fun K hK => ?_)
      refine goes_ Tryd.func15 (by kernel_rfl) rfl #[.slice Ad a.data.length cd] (by rfl) rfl rfl (by simp only [List.map_toArray, List.map_cons, List.map_nil]; rfl) ?_
      with_reducible refine (cut_q Ad cd a.data w5 HFD5.out HFD.out.2.1 HFD.out.2.2.1 HFD.out.2.2.2).mono ?_
      rintro e w6 ⟨q, Aq, cq, hq, rfl, hcq, hq64, hBq, hbq⟩
      refine ⟨_, rfl, ?_⟩
      refine hK.out _ _ ⟨(cell_up hbq f2d), (cell_up hbq f3d)⟩ (fun hHeld => ?_)
      clear hK K
      refine norm_ (a' := ?_) ?_ ?_
      rotate_left
      · show Act.put _ (some 59) _ = _
        simp only [Act.put, List.setIfInBounds_toArray, List.set_cons_zero, List.set_cons_succ, i64_w, i32_w]
        rfl
      refine last_ (i := 15) (N := some 60) #[true, true, true, true, true, true, true, true, true, true, true, true, true, true, true, true] rfl rfl (by kernel_rfl) (by decide) (fun K hK => ?_)
      refine goes_ Tryd.func8 (by kernel_rfl) rfl #[.pointer (some ⟨g, 0, none⟩), .int .i64 0, .int .i64 (wrap64 ((IntKind.u64.wrap a.at_).tmod 8)), .slice Aq q.length cq] (by rfl) rfl rfl (by simp only [List.map_toArray, List.map_cons, List.map_nil]; rfl) ?_
      with_reducible refine (write_q g ms mp d 2 8 0 (wrap64 ((IntKind.u64.wrap a.at_).tmod 8)) Aq cq q w6 (HV5.out.more hbq).dev HQ.out (by omega) HX.out hq64 hBq hcq).mono ?_
      rintro e w7 ⟨rfl, hD7, hf7⟩
      refine ⟨_, rfl, ?_⟩
      refine hK.out _ _ ?_
      clear hK K
      refine norm_ (a' := ?_) ?_ ?_
      rotate_left
      · show Act.put _ (some 60) _ = _
        simp only [Act.put, List.setIfInBounds_toArray, List.set_cons_zero, List.set_cons_succ, i64_w, i32_w]
        rfl
      refine done_ (by kernel_rfl) ?_
      have HV7 := Asd.mk ((HV5.out.more hbq).turn hD7 hf7)
      have HQ7 := Asd.mk (HQ.out.wr (0, wrap64 ((IntKind.u64.wrap a.at_).tmod 8)) q)
      clear hD7 hf7 hbq hBq hcq hq64 hq HV5 HFD5 f2 f3 f2d f3d hHeld
      try clear hHeld
      go_wp2_with fail
      first
        | exact ⟨⟨j + 1, _, by omega, by go_num, HV7.out, HQ7.out⟩, by simp [intOf]; omega⟩
        | (go_roundw
           case rel => exact ⟨j + 1, _, by omega, by go_num, HV7.out, HQ7.out⟩
           case measure => simp [intOf]; omega)
    · have hor : ¬ j < l.length ∨ (j < l.length ∧ ¬ j < 30) := by omega
      clear hlt
      rcases hor with hn | ⟨hn, hn2⟩
      all_goals
        go_wp2_with fail
        refine (sync_q g ms mp d 2 8 0 wr HV.out.dev HQ.out (by omega) (by omega)).mono ?_
        rintro e w3 ⟨rfl, hD3, hf3⟩
        have HV3 := Asd.mk (HV.out.turn hD3 hf3)
        have HQ3 := Asd.mk (HQ.out.syn 0)
        have HE3 : Asd ((syncSt d 0).pend (0, at_) = none) := ⟨syn_none d 0 at_⟩
        obtain ⟨d3, hd3⟩ : ∃ d3, syncSt d 0 = d3 := ⟨_, rfl⟩
        rw [hd3] at HV3 HQ3 HE3
        clear hD3 hf3 hd3 HV HQ
        clear d
        go_wp2_with fail
        refine (read_q g ms mp d3 2 8 0 at_ w3 HV3.out.dev HQ3.out (by omega) HT.out).mono ?_
        rintro e w4 ⟨kb, rfl, hk4, _, hb4⟩
        have HX : Asd (readB d3 (0, at_) = d3.safe (0, at_)) := ⟨by unfold readB; rw [HE3.out]; rfl⟩
        rw [HX.out] at hk4
        have HK4 := Asd.mk hk4
        have HV4 := Asd.mk (HV3.out.more hb4)
        have HL4 : Asd ((d3.safe (0, at_)).length = 64) := ⟨safe_len HV3.out.dev.safe (HV3.out.dev.in_ (HQ3.out.has (by omega) HT.out))⟩
        obtain ⟨X, hX⟩ : ∃ X, d3.safe (0, at_) = X := ⟨_, rfl⟩
        rw [hX] at HK4 HL4
        have HS4 := Asd.mk hX
        clear hk4 hb4 HX HV3 hX
        go_wp2_with fail
        go_loopw [13] (fun i wr => ∃ (j : Nat) (d : DSt), j ≤ l.length ∧ i = .int .i64 j ∧ DevAt w wr g ms mp d ∧ Quiet d 2 8 ∧ d.pend (0, at_) = none ∧ d.safe (0, at_) = X ∧ Kp wr kb X) (fun i _ => l.length - (intOf i).toNat)
        case atStart => exact ⟨0, d3, by omega, rfl, HV4.out, HQ3.out, HE3.out, HS4.out, HK4.out⟩
        case round =>
          obtain ⟨j, d, hj, rfl, hV, hQ, hE, hS, hK⟩ := hrel
          clear HV4 HQ3 HE3 HS4 HK4
          have HV := Asd.mk hV
          have HQ := Asd.mk hQ
          have HE := Asd.mk (And.intro hE hS)
          have HK := Asd.mk hK
          clear hV hQ hE hS hK
          by_cases hlt : j < l.length ∧ j < 30
          · obtain ⟨hlt, h30⟩ := hlt
            obtain ⟨ad, hade, hact⟩ := HA.out (by omega)
            have hac := hact j hlt
            obtain ⟨a, ha⟩ : ∃ a, l[j] = a := ⟨_, rfl⟩
            rw [ha] at hac
            obtain ⟨Ad, cd, f3w, hfd⟩ := hac.data
            have F1 := Asd.mk hac.reg
            have F3 := Asd.mk f3w
            have HFD := Asd.mk hfd
            have HX := Asd.mk (u_rem8 a.reg)
            have i1 : (0 : Int) ≤ (j : Int) := by omega
            have i2 : (j : Int) < (l.length : Int) := by omega
            have i3 : (j : Int) < 30 := by omega
            subst hade
            clear hact hac hfd ha f3w
            have f1 := cell_up HV.out.bel F1.out
            have f3 := cell_up HV.out.bel F3.out
            by_cases hk : wrap64 ((IntKind.u64.wrap a.reg).tmod 8) = at_
            · have e1 : (wrap64 ((IntKind.u64.wrap a.reg).tmod 8) != at_) = false := by simp [hk]
              clear hk
              go_wp2_with fail
              refine (cut_q Ad cd a.data wr (HFD.out.1.below HV.out.bel) HFD.out.2.1 HFD.out.2.2.1 HFD.out.2.2.2).mono ?_
              rintro e w6 ⟨q, Aq, cq, hq, rfl, hcq, hq64, hBq, hbq⟩
              have HC6 := Asd.mk (And.intro hcq (And.intro hq64 hBq))
              have HV6 := Asd.mk (HV.out.more hbq)
              have HK6 := Asd.mk (HK.out.below hbq)
              clear hcq hq64 hBq hbq f1 f3 hq
              go_wp2_with fail
              refine (write_q g ms mp d 2 8 1 at_ Aq cq q w6 HV6.out.dev HQ.out (by omega) HT.out HC6.out.2.1 HC6.out.2.2 HC6.out.1).mono ?_
              rintro e w7 ⟨rfl, hD7, hf7⟩
              have HV7 := Asd.mk (HV6.out.turn hD7 hf7)
              have HK7 := Asd.mk (HK6.out.turn HV6.out.dev hf7)
              have HQ7 := Asd.mk (HQ.out.wr (1, at_) q)
              have HE7 : Asd ((wrSt d (1, at_) q).pend (0, at_) = none ∧ (wrSt d (1, at_) q).safe (0, at_) = X) := ⟨⟨(wr_other d (1, at_) (0, at_) q (by simp)).trans HE.out.1, HE.out.2⟩⟩
              clear hD7 hf7
              go_wp2_with fail
              first
                | exact ⟨⟨j + 1, _, by omega, by go_num, HV7.out, HQ7.out, HE7.out.1, HE7.out.2, HK7.out⟩, by simp [intOf]; omega⟩
                | (go_roundw
                   case rel => exact ⟨j + 1, _, by omega, by go_num, HV7.out, HQ7.out, HE7.out.1, HE7.out.2, HK7.out⟩
                   case measure => simp [intOf]; omega)
            · have e1 : (wrap64 ((IntKind.u64.wrap a.reg).tmod 8) != at_) = true := by simp [hk]
              have HNE := Asd.mk hk
              clear hk
              go_wp2_with fail
              refine (cut_q Ad cd a.data wr (HFD.out.1.below HV.out.bel) HFD.out.2.1 HFD.out.2.2.1 HFD.out.2.2.2).mono ?_
              rintro e w6 ⟨q, Aq, cq, hq, rfl, hcq, hq64, hBq, hbq⟩
              have HC6 := Asd.mk (And.intro hcq (And.intro hq64 hBq))
              have HV6 := Asd.mk (HV.out.more hbq)
              have HK6 := Asd.mk (HK.out.below hbq)
              clear hcq hq64 hBq hbq f1 f3 hq
              go_wp2_with fail
              refine (write_q g ms mp d 2 8 0 (wrap64 ((IntKind.u64.wrap a.reg).tmod 8)) Aq cq q w6 HV6.out.dev HQ.out (by omega) HX.out HC6.out.2.1 HC6.out.2.2 HC6.out.1).mono ?_
              rintro e w7 ⟨rfl, hD7, hf7⟩
              have HV7 := Asd.mk (HV6.out.turn hD7 hf7)
              have HK7 := Asd.mk (HK6.out.turn HV6.out.dev hf7)
              have HQ7 := Asd.mk (HQ.out.wr (0, wrap64 ((IntKind.u64.wrap a.reg).tmod 8)) q)
              have HE7 : Asd ((wrSt d (0, wrap64 ((IntKind.u64.wrap a.reg).tmod 8)) q).pend (0, at_) = none ∧ (wrSt d (0, wrap64 ((IntKind.u64.wrap a.reg).tmod 8)) q).safe (0, at_) = X) := ⟨⟨(wr_other d (0, wrap64 ((IntKind.u64.wrap a.reg).tmod 8)) (0, at_) q (fun e => HNE.out (congrArg Prod.snd e).symm)).trans HE.out.1, HE.out.2⟩⟩
              clear hD7 hf7 HV6 HK6 HC6
              have f3 := cell_up HV7.out.bel F3.out
              go_wp2_with fail
              refine (cut_q Ad cd a.data w7 (HFD.out.1.below HV7.out.bel) HFD.out.2.1 HFD.out.2.2.1 HFD.out.2.2.2).mono ?_
              rintro e w8 ⟨q2, Aq2, cq2, hq2, rfl, hcq, hq64, hBq, hbq⟩
              have HC8 := Asd.mk (And.intro hcq (And.intro hq64 hBq))
              have HV8 := Asd.mk (HV7.out.more hbq)
              have HK8 := Asd.mk (HK7.out.below hbq)
              clear hcq hq64 hBq hbq f3 hq2
              go_wp2_with fail
              refine (write_q g ms mp _ 2 8 1 at_ Aq2 cq2 q2 w8 HV8.out.dev HQ7.out (by omega) HT.out HC8.out.2.1 HC8.out.2.2 HC8.out.1).mono ?_
              rintro e w9 ⟨rfl, hD9, hf9⟩
              have HV9 := Asd.mk (HV8.out.turn hD9 hf9)
              have HK9 := Asd.mk (HK8.out.turn HV8.out.dev hf9)
              have HQ9 := Asd.mk (HQ7.out.wr (1, at_) q2)
              have HE9 : Asd ((wrSt (wrSt d (0, wrap64 ((IntKind.u64.wrap a.reg).tmod 8)) q) (1, at_) q2).pend (0, at_) = none ∧ (wrSt (wrSt d (0, wrap64 ((IntKind.u64.wrap a.reg).tmod 8)) q) (1, at_) q2).safe (0, at_) = X) := ⟨⟨(wr_other _ (1, at_) (0, at_) q2 (by simp)).trans HE7.out.1, HE7.out.2⟩⟩
              clear hD9 hf9
              go_wp2_with fail
              first
                | exact ⟨⟨j + 1, _, by omega, by go_num, HV9.out, HQ9.out, HE9.out.1, HE9.out.2, HK9.out⟩, by simp [intOf]; omega⟩
                | (go_roundw
                   case rel => exact ⟨j + 1, _, by omega, by go_num, HV9.out, HQ9.out, HE9.out.1, HE9.out.2, HK9.out⟩
                   case measure => simp [intOf]; omega)
          · have hor : ¬ j < l.length ∨ (j < l.length ∧ ¬ j < 30) := by omega
            clear hlt
            obtain ⟨i0, hi, hz0, hz1, hz2⟩ := info_parts int_info
            rcases hor with hq | ⟨hq, hq2⟩
            all_goals
              cases A2 with
              | none =>
                obtain rfl := HC.out.2.2.1 rfl
                have hcs0 : cs = [] := List.eq_nil_of_length_eq_zero (by have := HC.out.1; omega)
                subst hcs0
                go_wp2_with fail
                refine (restart_c g ms mp d none 0 [] wr HV.out.dev int_nil (by simp)).mono ?_
                rintro e w5 ⟨rfl, ⟨ps, hps1, hps2, _, hD5⟩, hf5⟩
                have HS5 : Asd (readB (resSt d ps []) (0, at_) = X) := ⟨by
                  show resK d ps [] ps.length (0, at_) = X
                  have hno : (0, at_) ∉ ps := fun hm => by
                    have h1 := (hps2 (0, at_)).1 hm
                    rw [HE.out.1] at h1
                    cases h1
                  unfold resK
                  rw [List.take_length, if_neg hno]
                  exact HE.out.2⟩
                have HV5 := Asd.mk (HV.out.turn hD5 hf5)
                have HK5 := Asd.mk (HK.out.turn HV.out.dev hf5)
                have HQ5 := Asd.mk (HQ.out.res ps [])
                clear hD5 hf5 hps1 hps2
                go_wp2_with fail
                refine (read_q g ms mp _ 2 8 0 at_ w5 HV5.out.dev HQ5.out (by omega) HT.out).mono ?_
                rintro e w6 ⟨kc, rfl, hk6, _, hb6⟩
                rw [HS5.out] at hk6
                have HVw6 := Asd.mk (HV5.out.more hb6)
                have HKb := Asd.mk (HK5.out.below hb6)
                have HKc := Asd.mk hk6
                clear hk6 hb6 HV5 HK5 HQ5 HS5
                go_wp2_with fail
                refine (read_nil 0 0 w6).mono ?_
                rintro e w7 ⟨rfl, rfl⟩
                have cb : (convert 30 9 (.slice (some ⟨kb, 0, none⟩) 64 64)).run Tryd.prog w7 = .ok (.string ⟨X.toArray⟩) w7 := conv_sec (W := w7) HKb.out 0 64 64 X (List.prefix_refl _) HL4.out
                have cc : (convert 30 9 (.slice (some ⟨kc, 0, none⟩) 64 64)).run Tryd.prog w7 = .ok (.string ⟨X.toArray⟩) w7 := conv_sec (W := w7) HKc.out 0 64 64 X (List.prefix_refl _) HL4.out
                go_wp2_with fail
                refine (num_err 1 w7 (HG.out.below HVw6.out.bel)).mono ?_
                rintro e w8 ⟨rfl, hb⟩
                have HVw8 := Asd.mk (HVw6.out.more hb)
                clear hb HVw6 cb cc
                go_wp2_with fail
                refine (write_nil 0 0 none 0 0 w8).mono ?_
                rintro e w9 ⟨rfl, rfl⟩
                go_wp2_with fail
                refine (num_err 1 w9 (HG.out.below HVw8.out.bel)).mono ?_
                rintro e w10 ⟨rfl, hb⟩
                have HVw10 := Asd.mk (HVw8.out.more hb)
                clear hb HVw8
                go_wp2_with fail
                refine (sync_nil 0 w10).mono ?_
                rintro e w11 ⟨rfl, rfl⟩
                go_wp2_with fail
                refine (num_err 1 w11 (HG.out.below HVw10.out.bel)).mono ?_
                rintro e w12 ⟨rfl, hb⟩
                have HVw12 := Asd.mk (HVw10.out.more hb)
                clear hb HVw10
                go_wp2_with fail
                refine (arm_nil 1 w12).mono ?_
                rintro e w13 ⟨rfl, rfl⟩
                go_wp2_with fail
                refine (num_err 1 w13 (HG.out.below HVw12.out.bel)).mono ?_
                rintro e w14 ⟨rfl, hb⟩
                have HVw14 := Asd.mk (HVw12.out.more hb)
                clear hb HVw12
                go_wp2_with fail
                refine (crashed_nil w14).mono ?_
                rintro e w15 ⟨rfl, rfl⟩
                go_wp2_with fail
                refine (clone_nil w15).mono ?_
                rintro e w16 ⟨rfl, rfl⟩
                go_wp2_with (go_at_call 14; refine (sure_c w16).mono ?_; rintro e w17 ⟨rfl, hb⟩; have HB17 := Asd.mk hb; clear hb)
                go_ret
                exact ⟨rfl, HVw14.out.bel.trans (HB17.out.mono HVw14.out.bel.size)⟩
              | some ad2 =>
                have HNN : Asd (∀ (j : Nat) (u : Value), (cs.map (Value.int .i64))[j]? = some u → wr.cell? (ad2.add j) = some u) := ⟨fun j u hj => by
                  obtain ⟨ad', e, hc⟩ := HN.out (by have := (List.getElem?_eq_some_iff.1 hj).1; rw [List.length_map] at this; omega)
                  obtain rfl := Option.some.inj e
                  exact cell_up HV.out.bel (hc j u hj)⟩
                have hcl1 := HC.out.2.1
                have hcl2 := HC.out.1
                have hcl3 := HC.out.2.2.2
                go_wp2_with (at_builtin; refine wpList_append_own _ rfl _ _ 38 rfl w.heap.size 3 i0 (.int .i64 0) 1 8 Tryd.underlying38 hi hz0 hz1 hz2 rfl (by decide) (.slice none 0 0) 0 [] rfl ⟨rfl, .inl ⟨rfl, rfl⟩⟩ ad2 cs.length c2 (cs.map (Value.int .i64)) rfl (by simp) HNN.out (ints_oneCell .i64 cs) (by unfold maxLen; omega) (by omega) HV.out.bel.size ?_; intro v' wA hown' hgrow _; have HO := Asd.mk (And.intro hown' hgrow); clear hown' hgrow; obtain ⟨AX, cX, rfl, hcX, hIX⟩ := IntC.own (by rw [Nat.zero_add]) HO.out.1; have HIX := Asd.mk hIX; clear hIX)
                have HVA := Asd.mk (HV.out.more (W' := wA) ((Below.refl _ wr).grown HO.out.2 (Nat.le_refl _) (fun k e => by cases e)))
                have HKA := Asd.mk (HK.out.below (W' := wA) ((Below.refl _ wr).grown HO.out.2 (Nat.le_refl _) (fun k e => by cases e)))
                refine (restart_c g ms mp d AX cX cs wA HVA.out.dev HIX.out (by omega)).mono ?_
                rintro e w5 ⟨rfl, ⟨ps, hps1, hps2, _, hD5⟩, hf5⟩
                have HS5 : Asd (readB (resSt d ps cs) (0, at_) = X) := ⟨by
                  show resK d ps cs ps.length (0, at_) = X
                  have hno : (0, at_) ∉ ps := fun hm => by
                    have h1 := (hps2 (0, at_)).1 hm
                    rw [HE.out.1] at h1
                    cases h1
                  unfold resK
                  rw [List.take_length, if_neg hno]
                  exact HE.out.2⟩
                have HV5 := Asd.mk (HVA.out.turn hD5 hf5)
                have HK5 := Asd.mk (HKA.out.turn HVA.out.dev hf5)
                have HQ5 := Asd.mk (HQ.out.res ps cs)
                clear hD5 hf5 hps1 hps2
                go_wp2_with fail
                refine (read_q g ms mp _ 2 8 0 at_ w5 HV5.out.dev HQ5.out (by omega) HT.out).mono ?_
                rintro e w6 ⟨kc, rfl, hk6, _, hb6⟩
                rw [HS5.out] at hk6
                have HVw6 := Asd.mk (HV5.out.more hb6)
                have HKb := Asd.mk (HK5.out.below hb6)
                have HKc := Asd.mk hk6
                clear hk6 hb6 HV5 HK5 HQ5 HS5
                go_wp2_with fail
                refine (read_nil 0 0 w6).mono ?_
                rintro e w7 ⟨rfl, rfl⟩
                have cb : (convert 30 9 (.slice (some ⟨kb, 0, none⟩) 64 64)).run Tryd.prog w7 = .ok (.string ⟨X.toArray⟩) w7 := conv_sec (W := w7) HKb.out 0 64 64 X (List.prefix_refl _) HL4.out
                have cc : (convert 30 9 (.slice (some ⟨kc, 0, none⟩) 64 64)).run Tryd.prog w7 = .ok (.string ⟨X.toArray⟩) w7 := conv_sec (W := w7) HKc.out 0 64 64 X (List.prefix_refl _) HL4.out
                go_wp2_with fail
                refine (num_err 1 w7 (HG.out.below HVw6.out.bel)).mono ?_
                rintro e w8 ⟨rfl, hb⟩
                have HVw8 := Asd.mk (HVw6.out.more hb)
                clear hb HVw6 cb cc
                go_wp2_with fail
                refine (write_nil 0 0 none 0 0 w8).mono ?_
                rintro e w9 ⟨rfl, rfl⟩
                go_wp2_with fail
                refine (num_err 1 w9 (HG.out.below HVw8.out.bel)).mono ?_
                rintro e w10 ⟨rfl, hb⟩
                have HVw10 := Asd.mk (HVw8.out.more hb)
                clear hb HVw8
                go_wp2_with fail
                refine (sync_nil 0 w10).mono ?_
                rintro e w11 ⟨rfl, rfl⟩
                go_wp2_with fail
                refine (num_err 1 w11 (HG.out.below HVw10.out.bel)).mono ?_
                rintro e w12 ⟨rfl, hb⟩
                have HVw12 := Asd.mk (HVw10.out.more hb)
                clear hb HVw10
                go_wp2_with fail
                refine (arm_nil 1 w12).mono ?_
                rintro e w13 ⟨rfl, rfl⟩
                go_wp2_with fail
                refine (num_err 1 w13 (HG.out.below HVw12.out.bel)).mono ?_
                rintro e w14 ⟨rfl, hb⟩
                have HVw14 := Asd.mk (HVw12.out.more hb)
                clear hb HVw12
                go_wp2_with fail
                refine (crashed_nil w14).mono ?_
                rintro e w15 ⟨rfl, rfl⟩
                go_wp2_with fail
                refine (clone_nil w15).mono ?_
                rintro e w16 ⟨rfl, rfl⟩
                go_wp2_with (go_at_call 14; refine (sure_c w16).mono ?_; rintro e w17 ⟨rfl, hb⟩; have HB17 := Asd.mk hb; clear hb)
                go_ret
                exact ⟨rfl, HVw14.out.bel.trans (HB17.out.mono HVw14.out.bel.size)⟩
theorem safe_row (W : World) (hG : GE W) (A0 : Option Addr) (c0 : Nat) (l : List ActV) (H0 : SlK W 5 (ActK W) A0 c0 l) (sector : Int) (g1 : (Lit.int .i64 sector).wf = true) (A2 : Option Addr) (c2 : Nat) (cs : List Int) (H2 : SlK W 1 (fun (n : Int) cs => cs = [.int .i64 n] ∧ (Lit.int .i64 n).wf = true) A2 c2 cs) (y2 : cs.length * 8 ≤ 140737488351232) :
    Calls Tryd.prog 4 #[.slice A0 l.length c0, .int .i64 sector, .slice A2 cs.length c2] W fun e w' => e = .returned (.bool true) ∧ Below W.heap.size W w' :=
  safe_c A0 c0 l sector A2 c2 cs W hG H0.acts H0.1 H0.2.1 H2.nums.1 H2.1 H2.2.1 H2.2.2.1 y2
end Go.Proofs.YtnfnnfbcafepkaaDoor.Dk
