/- Printed by this session's program (wip/print) out of the translation, for the statement named in the file's name. -/
import Derived.Test.YtgcaalgaellciaaGreatDoorXLarx0
import Derived.Test.YtgcaalgaellciaaGreatDoorXLarx4
namespace Go.Proofs.YtgcaalgaellciaaGreatDoor.XLar
open Go.RowKit Go.Proofs.YtgcaalgaellciaaGreatDoorW.PrintWords Go.Proofs.YtgcaalgaellciaaGreatDoorW.PrintLast Go.Proofs.YtgcaalgaellciaaGreatDoorW.PrintMore Go.Proofs.YtgcaalgaellciaaGreatDoor.Both
attribute [local go_sem] str_gtr str_leq str_geq max2_int min2_int max_two min_two max_three min_three max_four min_four   -- for this text's walks alone
set_option linter.unusedVariables false
set_option linter.unusedSimpArgs false
set_option linter.unnecessarySimpa false

/-! ### label_Parse: function 19 (by hand) -/
def parseOf (n : Int) (a0 : ByteArray) : Option Nat → Option (Int × Int × (Option Int))
  | none => some (0, 0, some 3)
  | some c => (label_Text.f n (c : Int)).bind fun y => if y.2.isNone = true ∧ y.1 = a0 then some (n, (c : Int), none) else some (0, 0, some 3)
def label_Parse.f (a0 : ByteArray) : Option (Int × Int × (Option Int)) :=
  (strings_Cut.f a0 ⟨#[58]⟩).bind fun z =>
    if z.1.size ≤ 140737488355328 ∧ z.2.1.size ≤ 140737488355328 then
      if (Lab.atoiOf z.1.data.toList).2 = true ∧ (Lab.atoiOf z.1.data.toList).1 ≤ 15 then
        parseOf (Lab.atoiOf z.1.data.toList).1 a0 (LabL.setCats z.2.1.data.toList 0)
      else some (0, 0, some 3)
    else none
theorem parse_end {w w2 : World} {o : Obj} {n : Nat} (hb : Below ((w.alloc o).drewN n).heap.size ((w.alloc o).drewN n) w2) : Below w.heap.size w w2 :=
  ((pw_below_drewN ((Below.refl _ _).alloc (Nat.le_refl _) _) n).trans (hb.mono (by simp)))
theorem parse_bit (c x : Nat) (hc : c < 67108864) (h0 : 97 ≤ x) (h1 : x ≤ 122) : Go.bits .or .u32 (c : Int) ((2 : Int) ^ min (((x : Int) - 97) % 256).toNat 32 % 4294967296) = ((c ||| 2 ^ (x - 97) : Nat) : Int) := by
  have e1 : (((x : Int) - 97) % 256).toNat = x - 97 := by omega
  have e2 : min (x - 97) 32 = x - 97 := by omega
  have e3 : 2 ^ (x - 97) < 67108864 := by
    have e : (2 : Nat) ^ 26 = 67108864 := by decide +kernel
    rw [← e]
    exact Nat.pow_lt_pow_right (by decide) (by omega)
  rw [e1, e2]
  clear e1 e2 h0 h1
  have e4 : (2 : Int) ^ (x - 97) = ((2 ^ (x - 97) : Nat) : Int) := by push_cast; rfl
  rw [e4]
  clear e4
  generalize 2 ^ (x - 97) = m at e3 ⊢
  have e5 : ((m : Nat) : Int) % 4294967296 = (m : Int) := by omega
  rw [e5]
  exact u32_or_nat c m (by omega) (by omega)
set_option maxHeartbeats 8000000 in
set_option maxRecDepth 100000 in
theorem label_Parse.calls (a0 : ByteArray) (r1 : Int) (r2 : Int) (r3 : Option Int) (w : World) (hG : GE w) (h : label_Parse.f a0 = some (r1, r2, r3)) :
    Calls Tryz.prog 19 #[.string a0] w fun e w' => e = .returned (.tuple #[.agg #[.int .i64 r1, .int .u32 r2], errW r3]) ∧ Below w.heap.size w w' := by
  have hu24 := Tryz.underlying37
  unfold label_Parse.f at h
  obtain ⟨⟨rank, cats, found⟩, hz, hh⟩ := Option.bind_eq_some_iff.mp h
  clear h
  have h := hh
  clear hh
  have HZ := Aside0.mk hz
  clear hz
  have hG1 : ∀ o, GE (w.alloc o) := fun o => hG.below ((Below.refl _ _).alloc (Nat.le_refl _) _)
  have HG := Aside0.mk hG
  have HG1 := Aside0.mk hG1
  clear hG hG1
  by_cases hs : rank.size ≤ 140737488355328 ∧ cats.size ≤ 140737488355328
  case neg => rw [if_neg hs] at h; cases h
  rw [if_pos hs] at h
  obtain ⟨hs1, hs2⟩ := hs
  by_cases hok : (Lab.atoiOf rank.data.toList).2 = true
  case neg =>
    rw [if_neg (fun hh => hok hh.1)] at h
    simp only [Option.some.injEq, Prod.mk.injEq] at h
    obtain ⟨rfl, rfl, rfl⟩ := h
    rw [errW_some]
    have HA := Aside0.mk (by simpa using hok : (Lab.atoiOf rank.data.toList).2 = false)
    clear hok
    go_enter Tryz.func19, Tryz.ntmps19
    go_wp2_with (first
      | (go_at_call 32; refine (strings_Cut.calls _ _ _ _ _ _ HZ.out).mono ?_; rintro e w1 ⟨rfl, ⟨nd, rfl⟩⟩)
      | (go_at_call 33; refine (Lab.atoi rank (by omega) _ ((HG1.out _).drewN _).lab).mono ?_; rw [HA.out]; rintro e w2 ⟨v, rfl, ⟨tv, pv, rfl⟩, hb⟩; have z0 := (hb.cell (p := ⟨w.heap.size, 0, none⟩) (by simp)).trans (show _ = some (Value.int .i64 0) by simp); have z1 := (hb.cell (p := ⟨w.heap.size, 1, none⟩) (by simp)).trans (show _ = some (Value.int .u32 0) by simp); have f0 := (hb.frozen (p := ⟨w.heap.size, 0, none⟩) (by simp)).trans (show _ = false by simp); have f1 := (hb.frozen (p := ⟨w.heap.size, 1, none⟩) (by simp)).trans (show _ = false by simp); have hwlt : w.heap.size < w2.heap.size := (by have := hb.size; simp at this; omega); have HB := Aside0.mk hb; clear hb))
    exact bodyPost_ret (v := .tuple #[.agg #[.int .i64 0, .int .u32 0], .iface 53 (.int .i64 3)]) (by simp [results, Tryz.results19, go_sem, z0, z1]) rfl ⟨rfl, ((parse_end HB.out).setCell (Nat.le_refl _) _).setCell (Nat.le_refl _) _⟩
  case pos =>
    obtain ⟨n, hn⟩ : ∃ n, n = (Lab.atoiOf rank.data.toList).1 := ⟨_, rfl⟩
    have HA := Aside0.mk (show Lab.atoiOf rank.data.toList = (n, true) from Prod.ext hn.symm hok)
    rw [← hn] at h
    clear hn
    by_cases h15 : n ≤ 15
    case neg =>
      rw [if_neg (fun hh => h15 hh.2)] at h
      simp only [Option.some.injEq, Prod.mk.injEq] at h
      obtain ⟨rfl, rfl, rfl⟩ := h
      have h15' : 15 < n := by omega
      clear hok h15
      rw [errW_some]
      go_enter Tryz.func19, Tryz.ntmps19
      go_wp2_with (first
        | (go_at_call 32; refine (strings_Cut.calls _ _ _ _ _ _ HZ.out).mono ?_; rintro e w1 ⟨rfl, ⟨nd, rfl⟩⟩)
        | (go_at_call 33; refine (Lab.atoi rank (by omega) _ ((HG1.out _).drewN _).lab).mono ?_; rw [HA.out]; rintro e w2 ⟨v, rfl, hv, hb⟩; obtain rfl := (show v = .nilIface from hv); clear hv; have z0 := (hb.cell (p := ⟨w.heap.size, 0, none⟩) (by simp)).trans (show _ = some (Value.int .i64 0) by simp); have z1 := (hb.cell (p := ⟨w.heap.size, 1, none⟩) (by simp)).trans (show _ = some (Value.int .u32 0) by simp); have f0 := (hb.frozen (p := ⟨w.heap.size, 0, none⟩) (by simp)).trans (show _ = false by simp); have f1 := (hb.frozen (p := ⟨w.heap.size, 1, none⟩) (by simp)).trans (show _ = false by simp); have hwlt : w.heap.size < w2.heap.size := (by have := hb.size; simp at this; omega); have HB := Aside0.mk hb; clear hb))
      exact bodyPost_ret (v := .tuple #[.agg #[.int .i64 0, .int .u32 0], .iface 53 (.int .i64 3)]) (by simp [results, Tryz.results19, go_sem, z0, z1]) rfl ⟨rfl, ((parse_end HB.out).setCell (Nat.le_refl _) _).setCell (Nat.le_refl _) _⟩
    case pos =>
      rw [if_pos (And.intro hok h15)] at h
      obtain ⟨l, hl⟩ : ∃ l, l = cats.data.toList := ⟨_, rfl⟩
      have hls : l.length = cats.size := by rw [hl]; rfl
      have hget : ∀ (i : Nat) (hi : i < cats.size), l.drop i = cats[i] :: l.drop (i + 1) := by
        intro i hi
        rw [List.drop_eq_getElem_cons (by omega)]
        subst hl
        rfl
      rw [← hl] at h
      have HL := Aside0.mk hl
      have HGET := Aside0.mk hget
      have H := Aside0.mk h
      have h15b : decide (15 < n) = false := by simpa using h15
      clear h hl hget hok
      go_enter Tryz.func19, Tryz.ntmps19
      go_wp2_with (first
        | (go_at_call 32; refine (strings_Cut.calls _ _ _ _ _ _ HZ.out).mono ?_; rintro e w1 ⟨rfl, ⟨nd, rfl⟩⟩)
        | (go_at_call 33; refine (Lab.atoi rank (by omega) _ ((HG1.out _).drewN _).lab).mono ?_; rw [HA.out]; rintro e w2 ⟨v, rfl, hv, hb⟩; obtain rfl := (show v = .nilIface from hv); clear hv; have z0 := (hb.cell (p := ⟨w.heap.size, 0, none⟩) (by simp)).trans (show _ = some (Value.int .i64 0) by simp); have z1 := (hb.cell (p := ⟨w.heap.size, 1, none⟩) (by simp)).trans (show _ = some (Value.int .u32 0) by simp); have f0 := (hb.frozen (p := ⟨w.heap.size, 0, none⟩) (by simp)).trans (show _ = false by simp); have f1 := (hb.frozen (p := ⟨w.heap.size, 1, none⟩) (by simp)).trans (show _ = false by simp); have hwlt : w.heap.size < w2.heap.size := (by have := hb.size; simp at this; omega); have HB := Aside0.mk hb; clear hb))
      have hbw := parse_end HB.out
      have HK := Aside0.mk ((HB.out.block w.heap.size (by simp)).trans (heap_alloc_new w _))
      have HW := Aside0.mk hbw
      clear hbw HB z0 z1 f0 f1
      go_loopw [36] (fun v36 wr => ∃ i c : Nat, i ≤ cats.size ∧ v36 = .int .i64 i ∧ LabL.setCats (l.drop i) c = LabL.setCats l 0 ∧ c < 67108864 ∧ wr.heap[w.heap.size]? = some (.cells #[.int .i64 0, .int .u32 0] 37 (0, 0)) ∧ wr.heap[w2.heap.size]? = some (.cells #[.int .i64 n, .int .u32 (c : Int)] 37 (0, 0)) ∧ Below w.heap.size w wr) (fun v36 _ => cats.size - (intOf v36).toNat)
      case atStart =>
        refine ⟨0, 0, by omega, rfl, by simp, by omega, ?_, ?_, HW.out.alloc (by omega) _⟩
        · exact (((Below.refl w2.heap.size w2).alloc (Nat.le_refl _) _).block _ hwlt).trans HK.out
        · simpa using heap_alloc_new w2 _
      case round =>
        obtain ⟨i, c, hi, rfl, hr, hc, hk0, hk1, hb⟩ := hrel
        have HR := Aside0.mk hr
        have K0 := Aside0.mk hk0
        have K1 := Aside0.mk hk1
        have HB := Aside0.mk hb
        have z0 := cell_of_row wr w.heap.size 0 _ _ _ hk0
        have z1 := cell_of_row wr w.heap.size 1 _ _ _ hk0
        have f0 := frozen_of_row wr w.heap.size 0 _ _ hk0
        have f1 := frozen_of_row wr w.heap.size 1 _ _ hk0
        have y0 := cell_of_row wr w2.heap.size 0 _ _ _ hk1
        have y1 := cell_of_row wr w2.heap.size 1 _ _ _ hk1
        have g0 := frozen_of_row wr w2.heap.size 0 _ _ hk1
        have g1 := frozen_of_row wr w2.heap.size 1 _ _ hk1
        simp at z0 z1 y0 y1
        clear hr hk0 hk1 hb
        by_cases hlt : i < cats.size
        · have hd := HGET.out i hlt
          have HD := Aside0.mk hd
          clear hd
          obtain ⟨x, hx⟩ : ∃ x : Nat, x = (cats[i]'hlt).toNat := ⟨_, rfl⟩
          have hxl : x < 256 := by rw [hx]; exact (cats[i]'hlt).toNat_lt
          by_cases h97 : x < 97
          · have t1 : decide (((cats[i]'hlt).toNat : Int) < 97) = true := by rw [← hx, decide_eq_true_iff]; omega
            have hnone : LabL.setCats l 0 = none := by
              have h1 := HR.out
              rw [HD.out, LabL.setCats, if_neg (by omega)] at h1
              exact h1.symm
            have h2 := H.out
            rw [hnone] at h2
            simp only [parseOf, Option.some.injEq, Prod.mk.injEq] at h2
            obtain ⟨rfl, rfl, rfl⟩ := h2
            have HX := Aside0.mk hx
            clear hx hnone
            go_wp2
            exact bodyPost_ret (v := .tuple #[.agg #[.int .i64 0, .int .u32 0], .iface 53 (.int .i64 3)]) (by simp [results, Tryz.results19, go_sem, z0, z1]) rfl ⟨rfl, (HB.out.setCell (Nat.le_refl _) _).setCell (Nat.le_refl _) _⟩
          · by_cases h122 : 122 < x
            · have t1 : decide (((cats[i]'hlt).toNat : Int) < 97) = false := by rw [← hx, decide_eq_false_iff_not]; omega
              have t2 : decide ((122 : Int) < ((cats[i]'hlt).toNat : Int)) = true := by rw [← hx, decide_eq_true_iff]; omega
              have hnone : LabL.setCats l 0 = none := by
                have h1 := HR.out
                rw [HD.out, LabL.setCats, if_neg (by omega)] at h1
                exact h1.symm
              have h2 := H.out
              rw [hnone] at h2
              simp only [parseOf, Option.some.injEq, Prod.mk.injEq] at h2
              obtain ⟨rfl, rfl, rfl⟩ := h2
              have HX := Aside0.mk hx
              clear hx hnone
              go_wp2
              exact bodyPost_ret (v := .tuple #[.agg #[.int .i64 0, .int .u32 0], .iface 53 (.int .i64 3)]) (by simp [results, Tryz.results19, go_sem, z0, z1]) rfl ⟨rfl, (HB.out.setCell (Nat.le_refl _) _).setCell (Nat.le_refl _) _⟩
            · have t1 : decide (((cats[i]'hlt).toNat : Int) < 97) = false := by rw [← hx, decide_eq_false_iff_not]; omega
              have t2 : decide ((122 : Int) < ((cats[i]'hlt).toNat : Int)) = false := by rw [← hx, decide_eq_false_iff_not]; omega
              have HX := Aside0.mk hx
              clear hx
              go_wp2
              go_still_tail 9, (by kernel_rfl)
              change wpList _ _ _ _ _ wr.drew
              have y1' : wr.drew.cell? ⟨w2.heap.size, 1, none⟩ = some (.int .u32 (c : Int)) := y1
              have g1' : wr.drew.frozen? ⟨w2.heap.size, 1, none⟩ = false := g1
              have k0' := Aside0.mk (show wr.drew.heap[w.heap.size]? = some (.cells #[.int .i64 0, .int .u32 0] 37 (0, 0)) from K0.out)
              have k1' := Aside0.mk (show wr.drew.heap[w2.heap.size]? = some (.cells #[.int .i64 n, .int .u32 (c : Int)] 37 (0, 0)) from K1.out)
              have hb' := Aside0.mk (below_drew1 HB.out)
              clear z0 z1 f0 f1 y0 y1 g0 g1 K0 K1 HB
              generalize wr.drew = w3 at y1' g1' k0' k1' hb' ⊢
              go_wp2
              rw [← HX.out, parse_bit c x hc (by omega) (by omega)]
              go_roundw
              case rel =>
                have h1 := HR.out
                rw [HD.out, LabL.setCats, ← HX.out, if_pos (by omega)] at h1
                refine ⟨i + 1, c ||| 2 ^ (x - 97), by omega, by go_num, h1, LabL.or_lt c (x - 97) hc (by omega), ?_, ?_, hb'.out.setCell (Nat.le_of_lt hwlt) _⟩
                · exact blk_far k0'.out (Nat.ne_of_lt hwlt) _
                · have h2 := blk_set k1'.out 1 (.int .u32 ((c ||| 2 ^ (x - 97) : Nat) : Int))
                  simpa using h2
              case measure => simp [intOf]; omega
        · obtain rfl : i = cats.size := by omega
          have hsome : LabL.setCats l 0 = some c := by
            have h1 := HR.out
            rw [List.drop_eq_nil_of_le (by omega), LabL.setCats] at h1
            exact h1.symm
          have h2 := H.out
          rw [hsome] at h2
          simp only [parseOf] at h2
          obtain ⟨⟨t, er⟩, hy, h3⟩ := Option.bind_eq_some_iff.mp h2
          have HY := Aside0.mk hy
          have H3 := Aside0.mk h3
          have hws : w2.heap.size < wr.heap.size := (Array.getElem?_eq_some_iff.1 K1.out).1
          clear hsome h2 hy h3
          cases er with
          | some x =>
            have h4 := H3.out
            simp only [Option.isNone_some, Bool.false_eq_true, false_and, if_false, Option.some.injEq, Prod.mk.injEq] at h4
            obtain ⟨rfl, rfl, rfl⟩ := h4
            go_wp2_with (go_at_call 24; refine (label_Text.calls _ _ _ _ _ (HG.out.below HB.out) HY.out).mono ?_; rw [errW_some]; rintro e w4 ⟨rfl, hb4⟩; have q0 := (hb4.cell (p := ⟨w.heap.size, 0, none⟩) (show w.heap.size < _ by omega)).trans z0; have q1 := (hb4.cell (p := ⟨w.heap.size, 1, none⟩) (show w.heap.size < _ by omega)).trans z1; have p0 := (hb4.frozen (p := ⟨w.heap.size, 0, none⟩) (show w.heap.size < _ by omega)).trans f0; have p1 := (hb4.frozen (p := ⟨w.heap.size, 1, none⟩) (show w.heap.size < _ by omega)).trans f1; have s0 := (hb4.cell (p := ⟨w2.heap.size, 0, none⟩) hws).trans y0; have s1 := (hb4.cell (p := ⟨w2.heap.size, 1, none⟩) hws).trans y1; have HQ := Aside0.mk (HB.out.trans (hb4.mono (by omega))); clear hb4)
            exact bodyPost_ret (v := .tuple #[.agg #[.int .i64 0, .int .u32 0], .iface 53 (.int .i64 3)]) (by simp [results, Tryz.results19, go_sem, q0, q1]) rfl ⟨rfl, (HQ.out.setCell (Nat.le_refl _) _).setCell (Nat.le_refl _) _⟩
          | none =>
            by_cases hta : t = a0
            · subst hta
              have h4 := H3.out
              simp only [Option.isNone_none, and_self, if_true, Option.some.injEq, Prod.mk.injEq] at h4
              obtain ⟨rfl, rfl, rfl⟩ := h4
              go_wp2_with (go_at_call 24; refine (label_Text.calls _ _ _ _ _ (HG.out.below HB.out) HY.out).mono ?_; rw [errW_none]; rintro e w4 ⟨rfl, hb4⟩; have q0 := (hb4.cell (p := ⟨w.heap.size, 0, none⟩) (show w.heap.size < _ by omega)).trans z0; have q1 := (hb4.cell (p := ⟨w.heap.size, 1, none⟩) (show w.heap.size < _ by omega)).trans z1; have p0 := (hb4.frozen (p := ⟨w.heap.size, 0, none⟩) (show w.heap.size < _ by omega)).trans f0; have p1 := (hb4.frozen (p := ⟨w.heap.size, 1, none⟩) (show w.heap.size < _ by omega)).trans f1; have s0 := (hb4.cell (p := ⟨w2.heap.size, 0, none⟩) hws).trans y0; have s1 := (hb4.cell (p := ⟨w2.heap.size, 1, none⟩) hws).trans y1; have HQ := Aside0.mk (HB.out.trans (hb4.mono (by omega))); clear hb4)
              exact bodyPost_ret (v := .tuple #[.agg #[.int .i64 n, .int .u32 (c : Int)], .nilIface]) (by simp [results, Tryz.results19, go_sem, q0, q1]) rfl ⟨rfl, (HQ.out.setCell (Nat.le_refl _) _).setCell (Nat.le_refl _) _⟩
            · have h4 := H3.out
              have hne : (t.toList == a0.toList) = false := by
                rw [beq_eq_false_iff_ne, ne_eq, Lib.toList_data, Lib.toList_data]
                exact fun hh => hta (ByteArray.ext (Array.toList_inj.1 hh))
              simp only [Option.isNone_none, true_and, if_neg hta, Option.some.injEq, Prod.mk.injEq] at h4
              obtain ⟨rfl, rfl, rfl⟩ := h4
              go_wp2_with (go_at_call 24; refine (label_Text.calls _ _ _ _ _ (HG.out.below HB.out) HY.out).mono ?_; rw [errW_none]; rintro e w4 ⟨rfl, hb4⟩; have q0 := (hb4.cell (p := ⟨w.heap.size, 0, none⟩) (show w.heap.size < _ by omega)).trans z0; have q1 := (hb4.cell (p := ⟨w.heap.size, 1, none⟩) (show w.heap.size < _ by omega)).trans z1; have p0 := (hb4.frozen (p := ⟨w.heap.size, 0, none⟩) (show w.heap.size < _ by omega)).trans f0; have p1 := (hb4.frozen (p := ⟨w.heap.size, 1, none⟩) (show w.heap.size < _ by omega)).trans f1; have s0 := (hb4.cell (p := ⟨w2.heap.size, 0, none⟩) hws).trans y0; have s1 := (hb4.cell (p := ⟨w2.heap.size, 1, none⟩) hws).trans y1; have HQ := Aside0.mk (HB.out.trans (hb4.mono (by omega))); clear hb4)
              exact bodyPost_ret (v := .tuple #[.agg #[.int .i64 0, .int .u32 0], .iface 53 (.int .i64 3)]) (by simp [results, Tryz.results19, go_sem, q0, q1]) rfl ⟨rfl, (HQ.out.setCell (Nat.le_refl _) _).setCell (Nat.le_refl _) _⟩

end Go.Proofs.YtgcaalgaellciaaGreatDoor.XLar
