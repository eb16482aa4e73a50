/- Printed by this session's program (wip/print) out of the translation, for the statement named in the file's name. -/
import Derived.Test.YtgcaalgaellciaaDoorXLatx0
import Derived.Test.YtgcaalgaellciaaDoorXLatx2
import Derived.Test.YtgcaalgaellciaaDoorXLatx5
import Derived.Test.YtgcaalgaellciaaDoorXLatx7
namespace Go.Proofs.YtgcaalgaellciaaDoor.XLat
open Go.RowKit Go.Proofs.YtgcaalgaellciaaDoorW.PrintWords Go.Proofs.YtgcaalgaellciaaDoorW.PrintLast Go.Proofs.YtgcaalgaellciaaDoorW.PrintMore Go.Proofs.YtgcaalgaellciaaDoor.Lab
attribute [local go_sem] str_gtr str_leq str_geq max2_int min2_int max_two min_two max_three min_three max_four min_four   -- for this text's walks alone
set_option linter.unusedVariables false
set_option linter.unusedSimpArgs false
set_option linter.unnecessarySimpa false

/-! ### lattice_Lattice_Len: function 12 (by hand) -/
/- behind lattice_Lattice_Below.f, lattice_New.f -/
def lattice_Lattice_Len.f (l0 : List S35) : Option Int := some l0.length
theorem lattice_Lattice_Len.calls (A0 : Option Addr) (l0 : List S35) (r : Int) (w : World) (hr0 : Kd.OC w A0 l0) (hc0 : True) (h : lattice_Lattice_Len.f l0 = some r) :
    Calls Tryd.prog 12 #[.pointer A0] w fun e w' => e = .returned (.int .i64 r) ∧ Below w.heap.size w w' := by
  obtain rfl := Option.some.inj h
  refine (lat_len A0 l0 w hr0).mono ?_
  rintro e w' ⟨rfl, rfl⟩
  exact ⟨rfl, Below.refl _ _⟩

/-! ### lattice_Lattice_Text: function 13 (by hand) -/
/- behind lattice_Lattice_Below.f, lattice_New.f, label_Text.f -/
def latTexts : List S35 → Option (List ByteArray)
  | [] => some []
  | x :: l => (label_Text.f x.f0 x.f1).bind fun t => (latTexts l).map fun r => t.1 :: r
theorem latTexts_len : ∀ (l : List S35) (r : List ByteArray), latTexts l = some r → r.length = l.length
  | [], r, h => by obtain rfl := Option.some.inj h; rfl
  | x :: l, r, h => by
    obtain ⟨t, ht, h2⟩ := Option.bind_eq_some_iff.1 (show (label_Text.f x.f0 x.f1).bind _ = some r from h)
    obtain ⟨q, hq, rfl⟩ := Option.map_eq_some_iff.1 h2
    rw [List.length_cons, List.length_cons, latTexts_len l q hq]
theorem latTexts_at : ∀ (l : List S35) (r : List ByteArray) (i : Nat) (h : i < l.length), latTexts l = some r → ∃ t : ByteArray × Option Int, label_Text.f l[i].f0 l[i].f1 = some t ∧ r.take (i + 1) = r.take i ++ [t.1]
  | [], r, i, h, _ => absurd h (by simp)
  | x :: l, r, 0, _, h => by
    obtain ⟨t, ht, h2⟩ := Option.bind_eq_some_iff.1 (show (label_Text.f x.f0 x.f1).bind _ = some r from h)
    obtain ⟨q, hq, rfl⟩ := Option.map_eq_some_iff.1 h2
    exact ⟨t, ht, by simp⟩
  | x :: l, r, i + 1, hi, h => by
    obtain ⟨t, ht, h2⟩ := Option.bind_eq_some_iff.1 (show (label_Text.f x.f0 x.f1).bind _ = some r from h)
    obtain ⟨q, hq, rfl⟩ := Option.map_eq_some_iff.1 h2
    obtain ⟨t2, h3, h4⟩ := latTexts_at l q i (by simpa using hi) hq
    exact ⟨t2, h3, by simp [h4]⟩
theorem lat_infoS : (Tryd.prog.info? 9).map (fun i => (i.zero, i.size, i.bytes)) = some (some (.string ⟨#[]⟩), 1, 16) := by kernel_rfl
def lattice_Lattice_Text.f (l0 : List S35) : Option ByteArray := (latTexts l0).bind fun l => if (Lib.join (l.map (·.data.toList)) [32]).length ≤ 140737488355328 then some ⟨(Lib.join (l.map (·.data.toList)) [32]).toArray⟩ else none
theorem lat_join (A : Option Addr) (c : Nat) (l : List ByteArray) (w : World) (hr : Kd.C Kd.string w A l.length l) (hc : l.length ≤ c) (hl : l.length ≤ 16) (hj : (Lib.join (l.map (·.data.toList)) [32]).length ≤ 140737488355328) :
    Calls Tryd.prog 32 #[.slice A l.length c, .string (⟨#[32]⟩ : ByteArray)] w fun e w' => e = .returned (.string ⟨(Lib.join (l.map (·.data.toList)) [32]).toArray⟩) ∧ Below w.heap.size w w' := by
  by_cases h0 : l = []
  · subst h0
    exact (Lat.joinNone A c _ w).mono fun _ _ ⟨h1, h2⟩ => ⟨h1, h2 ▸ Below.refl _ _⟩
  · have hp : 0 < l.length := List.length_pos_iff.2 h0
    obtain ⟨_, _, hx⟩ := hr
    obtain ⟨ad, rfl, hcell⟩ := hx hp
    have hjj : ∀ (j : Nat) x, l[j]? = some x → w.cell? (ad.add j) = some (.string x) := by
      intro j x hj
      obtain ⟨c, _, hK, hu⟩ := hcell j x hj
      obtain rfl : c = [.string x] := hK
      have := hu 0 (.string x) rfl
      simpa [show (Kd.string).sz = 1 from rfl] using this
    have h00 := hjj 0 l[0] (List.getElem?_eq_getElem hp)
    obtain ⟨b, o, s⟩ := ad
    have hlt := World.block_lt_of_cell? w _ h00
    obtain rfl : s = none := by
      cases s with
      | none => rfl
      | some s =>
        exfalso
        unfold World.cell? at h00
        split at h00 <;> simp [Addr.add] at h00
    refine Lat.join b o c l ⟨#[32]⟩ w (fun j x hjx => ?_) hlt (by omega) hc hj
    have h1 := hjj j x hjx
    have h2 : (⟨b, o, none⟩ : Addr).add j = ⟨b, o + j, none⟩ := by
      unfold Addr.add
      split
      · rename_i h; subst h; rfl
      · rfl
    rwa [h2] at h1
set_option maxHeartbeats 8000000 in
set_option maxRecDepth 100000 in
theorem lattice_Lattice_Text.calls (A0 : Option Addr) (l0 : List S35) (r : ByteArray) (w : World) (hr0 : Kd.OC w A0 l0) (hc0 : True) (hG : GE w) (h : lattice_Lattice_Text.f l0 = some r) :
    Calls Tryd.prog 13 #[.pointer A0] w fun e w' => e = .returned (.string r) ∧ Below w.heap.size w w' := by
  obtain ⟨ts, hts, h2⟩ := Option.bind_eq_some_iff.1 (show (latTexts l0).bind _ = some r from h)
  by_cases hj : (Lib.join (ts.map (·.data.toList)) [32]).length ≤ 140737488355328
  case neg => rw [if_neg hj] at h2; cases h2
  rw [if_pos hj] at h2
  obtain rfl := Option.some.inj h2
  clear h h2 hc0
  have hO : LatC w A0 l0 := hr0
  have hu := Tryd.underlying48
  have hul := Tryd.underlying35
  have HO1 := Aside0.mk hO
  have HTS := Aside0.mk hts
  have HTL := Aside0.mk (latTexts_len l0 ts hts)
  have HJ := Aside0.mk hj
  have H16 := Aside0.mk (latC_len hO)
  have HG := Aside0.mk hG
  have HL := Aside0.mk (lat_len A0 l0 w hO)
  obtain ⟨n, hn⟩ : ∃ n : Nat, n = l0.length := ⟨_, rfl⟩
  rw [← hn] at HL
  have HN := Aside0.mk hn
  have HB := Aside0.mk (Below.refl w.heap.size w)
  clear hr0 hG hts hj hO hn
  go_enter Tryd.func13, Tryd.ntmps13
  go_wp2_with (go_at_call 12; refine HL.out.mono ?_; rintro e w1 ⟨rfl, hw⟩; rw [hw]; clear hw)
  go_loopg [3, 4, 5, 6, 9] (n + 1) (fun kq v3 v4 v5 v6 v9 w' => ∃ i : Nat, v9 = .int .i64 i ∧ Aside0 (i + kq = n + 1) ∧ Aside0 (i ≤ n) ∧ Aside0 (Kd.R Kd.string 9 w' w.heap.size (fun _ => True) v3 (ts.take i)) ∧ Aside0 (Below w.heap.size w w'))
  case atStart => exact ⟨0, rfl, ⟨by omega⟩, ⟨by omega⟩, ⟨Kd.R_nil _ _ _ _ _⟩, ⟨Below.refl _ _⟩⟩
  case round =>
    clear HB HL
    obtain ⟨i, rfl, HI, HLE, HO, HB⟩ := hrel
    cases gk with
    | zero => exact absurd HI.out (by have := HLE.out; omega)
    | succ k1 =>
      by_cases ci : i < n
      · have ci0 : decide ((i : Int) < (n : Int)) = true := decide_eq_true (by omega)
        have ci2 : i < l0.length := by have := HN.out; omega
        rcases latC_below HO1.out HB.out with ⟨rfl, rfl⟩ | ⟨g, A1, c, m, nn, rfl, hne, h16, hwf, hc0, hc1, hlc, hC, hown⟩
        · exact absurd ci2 (by simp)
        obtain ⟨ad, eA, hx0, hx1⟩ := at_T35 hC (i : Int) (by omega) (by omega)
        cases eA
        obtain ⟨⟨t1, t2⟩, ht, htk⟩ := latTexts_at l0 ts i ci2 HTS.out
        have hrd : rd_T35 l0 (i : Int) = l0[i] := by
          unfold rd_T35
          rw [Int.toNat_natCast, List.getD_eq_getElem?_getD, List.getElem?_eq_getElem ci2]
          rfl
        rw [hrd] at hx0 hx1
        simp only [Int.toNat_natCast] at hx0 hx1
        generalize l0[i] = y at hx0 hx1 ht
        obtain ⟨x0, x1⟩ := y
        dsimp only at hx0 hx1 ht htk
        have hc00 : wr.cell? ⟨g, 0, none⟩ = some (.slice (some ad) n c) := by rw [hc0, HN.out]
        have p1 : (0 ≤ (i : Int)) = True := eq_true (by omega)
        have p2 : ((i : Int) < (n : Int)) = True := eq_true (by omega)
        have HT := Aside0.mk (label_Text.calls x0 x1 t1 t2 wr (GE.below HG.out HB.out) ht)
        have HTK := Aside0.mk htk
        have HLT := Aside0.mk (show (ts.take i).length < 17 by have := H16.out; have := HN.out; rw [List.length_take]; omega)
        have HCI := Aside0.mk ci
        clear hrd ht htk hc0 hc1 hlc hC hown hwf hne h16 ci ci2
        go_wp2_with (first | (go_at_call 31; refine HT.out.mono ?_; rintro e w7 ⟨rfl, hb⟩; have n0_ := Aside0.mk (Kd.R_below HO.out hb); have n1_ := Aside0.mk (below_step HB.out hb); clear HO HB; have HO := n0_; have HB := n1_; clear n0_ n1_ hb) | ((with_reducible refine gate_builtin (b := .append) (xs := #[.tmp 23, .tmp 25]) rfl ?_); at_builtin; refine Kd.R_append Kd.string (w0 := w) w.heap.size rfl (.tmp 23) (.tmp 25) 57 9 (.string ⟨#[]⟩) 16 rfl Tryd.underlying57 lat_infoS rfl (by decide) (by omega) u3 (ts.take i) t1 [.string t1] (fun _ => True) (fun _ => False) rfl rfl ?aP (fun _ hk => hk.elim) ?aF ?aO ?aB ?aS ?aL ?_; (case aP => exact rfl); (case aB => exact (by repeat (first | (with_reducible first | exact HB.out | apply below_alloc | apply pw_below_drewN | apply below_drew1) | exact HB.out | exact below_undrew HB.out))); (case aF => exact (fun _ _ => trivial)); (case aO => exact (by (with_reducible repeat (first | apply Kd.R_alloc | apply Kd.R_drewN | apply Kd.R_drew)); exact HO.out)); (case aS => exact (below_size (by repeat (first | (with_reducible first | exact HB.out | apply below_alloc | apply pw_below_drewN | apply below_drew1) | exact HB.out | exact below_undrew HB.out)))); (case aL => have := HLT.out; omega); intro v173 w8 ho hb hg hat; have n0_ := Aside0.mk (hb); have n1_ := Aside0.mk (ho); clear HB; clear HO; have HB := n0_; have HO := n1_; clear n0_ n1_; clear ho hb hg hat))
        go_roundg k1
        case measure => have := HI.out; omega
        case rel => exact ⟨i + 1, (by have := HN.out; have := H16.out; have := HLE.out; first | (simp [wrap64, IntKind.wrap]; done) | (simp [wrap64, IntKind.wrap]; omega)), ⟨by have := HI.out; omega⟩, ⟨by have := HCI.out; omega⟩, ⟨by rw [HTK.out]; exact HO.out⟩, ⟨(by repeat (first | (with_reducible first | exact HB.out | apply below_alloc | apply pw_below_drewN | apply below_drew1) | exact HB.out | exact below_undrew HB.out))⟩⟩
      · have ci0 : decide ((i : Int) < (n : Int)) = false := decide_eq_false (by omega)
        have htk : ts.take i = ts := List.take_of_length_le (by have := HTL.out; have := HN.out; have := HLE.out; omega)
        rw [htk] at HO
        obtain ⟨Ao, co, eo⟩ := Kd.R_slice HO.out
        subst eo
        have HJN := Aside0.mk (lat_join Ao co ts wr (Kd.R_reads' HO.out).2.2 (Kd.R_reads' HO.out).2.1 (by have := HTL.out; have := H16.out; omega) HJ.out)
        clear htk
        go_wp2_with (go_at_call 32; refine HJN.out.mono ?_; rintro e w8 ⟨rfl, hb⟩; have n1_ := Aside0.mk (below_step HB.out hb); clear HB hb; have HB := n1_; clear n1_)
        go_ret
        exact ⟨rfl, HB.out⟩

/-! ### barbicanref01_Has: function 46 -/
def barbicanref01_Has.f (a0_0 : Int) (a0_1 : Int) (a1 : Int) : Option (Bool) := if 0 ≤ (IntKind.u64.wrap (a1)) then (some ((Go.bits .and .u32 (shr .u32 a0_1 (IntKind.u64.wrap (a1))) 1) == 1)) else (none)
set_option maxHeartbeats 8000000 in
set_option maxRecDepth 100000 in
theorem barbicanref01_Has.calls (a0_0 : Int) (a0_1 : Int) (a1 : Int) (r : Bool) (w : World) (h : barbicanref01_Has.f a0_0 a0_1 a1 = some r) :
    Calls Tryd.prog 46 #[.agg #[.int .i64 a0_0, .int .u32 a0_1], .int .i64 a1] w fun e w' => e = .returned (.bool r) ∧ Below w.heap.size w w' := by
  have hu35 := Tryd.underlying35
  have HB := Aside0.mk (Below.refl w.heap.size w)
  have H : (if 0 ≤ (IntKind.u64.wrap (a1)) then (some ((Go.bits .and .u32 (shr .u32 a0_1 (IntKind.u64.wrap (a1))) 1) == 1)) else (none)) = some r := h
  clear h
  obtain ⟨ji3, hji3⟩ : ∃ j_ : Int, (IntKind.u64.wrap (a1)) = j_ := ⟨_, rfl⟩
  replace H : (if 0 ≤ (ji3) then (some ((Go.bits .and .u32 (shr .u32 a0_1 (ji3)) 1) == 1)) else (none)) = some r := by first | (rw [hji3] at H; exact H) | (simp only [hji3] at H ⊢; exact H)
  by_cases c4 : 0 ≤ (ji3)
  · rw [if_pos c4] at H
    have c4b0 := eq_true c4
    have c4b1 : decide (0 ≤ (ji3)) = true := decide_eq_true c4
    clear c4
    obtain ⟨ji5, hji5⟩ : ∃ j_ : Int, (shr .u32 a0_1 (ji3)) = j_ := ⟨_, rfl⟩
    replace H : (some ((Go.bits .and .u32 (ji5) 1) == 1)) = some r := by first | (rw [hji5] at H; exact H) | (simp only [hji5] at H ⊢; exact H)
    have hji5_ : (a0_1 / 2 ^ min (ji3).toNat 32) = ji5 := hji5
    have hji5z : (ji3) ≤ 32 → (a0_1 / 2 ^ (ji3).toNat) = ji5 := shr_small hji5
    obtain rfl := Option.some.inj H
    go_enter Tryd.func46, Tryd.ntmps46
    go_wp2_with (first | ((with_reducible refine gate_dst (N := 2) rfl ?_); refine box_event ?hg (N := 2) ?hd (cs := #[.int .i64 a0_0, .int .u32 a0_1]) (t := 35) ?hr ?_; (case hd => rfl); (case hg => rfl); (case hr => first | (go_simp; done) | (go_simp; rfl)); intro gb163 hg w6 hbox hb; have n0_ := Aside0.mk (below_step (by repeat (first | (with_reducible first | exact HB.out | apply below_alloc | apply pw_below_drewN | apply below_drew1) | exact HB.out | exact below_undrew HB.out)) hb); have n1_ := Aside0.mk (hbox); have n2_ := Aside0.mk ((by rw [hg]; exact (below_size (by repeat (first | (with_reducible first | exact HB.out | apply below_alloc | apply pw_below_drewN | apply below_drew1) | exact HB.out | exact below_undrew HB.out))) : w.heap.size ≤ gb163)); have n3_ := Aside0.mk ((by rw [hg]; exact (below_size (by repeat (first | (with_reducible first | exact HB.out | apply below_alloc | apply pw_below_drewN | apply below_drew1) | exact HB.out | exact below_undrew HB.out))) : w.heap.size ≤ gb163)); clear HB; have HB := n0_; have BK163 := n1_; have GW163 := n2_; have GE163 := n3_; clear n0_ n1_ n2_ n3_; clear hb hbox hg; have hcz7_0 : w6.cell? ⟨gb163, 0, none⟩ = some (.int .i64 a0_0) := (blk_cell BK163.out 0).trans rfl; have hcz7_1 : w6.cell? ⟨gb163, 1, none⟩ = some (.int .u32 a0_1) := (blk_cell BK163.out 1).trans rfl; have hfz7_0 := blk_frozen BK163.out 0; have hfz7_1 := blk_frozen BK163.out 1))
    go_ret
    exact ⟨by first | rfl | (simp [errW_none, errW_some] <;> rfl) | (simp only [← hji3, ← hji5]; first | rfl | (simp [errW_none, errW_some] <;> rfl)) | (simp [*, errW_none, errW_some] <;> rfl), by repeat (first | (with_reducible first | exact HB.out | apply below_alloc | apply pw_below_drewN | apply below_drew1 | refine below_set ?_ GE163.out) | exact HB.out | exact below_undrew HB.out)⟩
  · rw [if_neg c4] at H
    exact absurd H (by simp)

end Go.Proofs.YtgcaalgaellciaaDoor.XLat
