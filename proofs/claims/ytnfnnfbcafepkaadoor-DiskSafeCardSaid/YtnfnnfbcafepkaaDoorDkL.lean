/- The laws' own small functions: cut, sure. -/
import Derived.Test.YtnfnnfbcafepkaaDoorDkU
import Derived.Maps.AppendAt
import Derived.Lib.SlBytesConst
namespace Go.Proofs.YtnfnnfbcafepkaaDoor.Dk
open Go Go.RowKit Go.Proofs.YtnfnnfbcafepkaaDoorW.PrintLast
set_option linter.unusedVariables false
set_option linter.unusedSimpArgs false
set_option maxRecDepth 100000
theorem u8_info : (Tryd.prog.info? 5).map (fun i => (i.zero, i.size, i.bytes)) = some (some (.int .u8 0), 1, 1) := by kernel_rfl
/-- A row of bytes that is owned, read. -/
theorem BytesC.own {W : World} {base : Nat} {v : Value} {b : List UInt8} {m : Nat} (hm : m = b.length) (h : W.ownsRow base 5 1 v m (b.map fun x => Value.int .u8 x.toNat)) : ∃ A c, v = .slice A b.length c ∧ b.length ≤ c ∧ BytesC W A b := by
  subst hm
  rcases h.2 with ⟨rfl, hz⟩ | ⟨g, cap, cur, rfl, hbase, hgb, r1, r2, r3, r4⟩
  · exact ⟨none, 0, by rw [hz], by omega, fun hp => by omega⟩
  · refine ⟨_, cap, rfl, r1, fun hp => ⟨_, rfl, fun j v hj => ?_⟩⟩
    rw [Addr.add_lit, Nat.zero_add]
    have hjl : j < b.length := by have := (List.getElem?_eq_some_iff.1 hj).1; simpa using this
    rw [← r4, List.getElem?_take_of_lt (by omega)] at hj
    simp only [World.cell?, hgb]
    simp only [Option.isSome_none, Bool.false_eq_true, if_false]
    rw [← Array.getElem?_toList]
    exact hj
def MinIs (n m : Nat) : Prop := min (n : Int) 64 = (m : Int)
set_option maxHeartbeats 4000000 in
theorem cut_c (A : Option Addr) (c : Nat) (b : List UInt8) (w : World) (hb : BytesC w A b) (hc : b.length ≤ c) (hl : c ≤ maxLen) (hA : A = none → c = 0) :
    Calls Tryd.prog 15 #[.slice A b.length c] w fun e w' => ∃ A' c', e = .returned (.slice A' (b.take 64).length c') ∧ (b.take 64).length ≤ c' ∧ BytesC w' A' (b.take 64) ∧ Below w.heap.size w w' := by
  obtain ⟨i0, hi, hz0, hz1, hz2⟩ := info_parts u8_info
  unfold maxLen at hl
  have hml : (b.take 64).length = min 64 b.length := List.length_take
  obtain ⟨m, hm⟩ : ∃ m, (b.take 64).length = m := ⟨_, rfl⟩
  have HM := Asd.mk hm
  have hmin : min (b.length : Int) 64 = (m : Int) := by omega
  have m1 : m ≤ 64 := by omega
  have m2 : m ≤ b.length := by omega
  have m3 : m ≤ c := by omega
  have g1 : (0 : Int) ≤ (m : Int) := by omega
  have g2 : (m : Int) ≤ (c : Int) := by omega
  rw [hm]
  have HB := Asd.mk hb
  clear hb hm hml
  cases A with
  | none =>
    obtain rfl := hA rfl
    have hb0 : b = [] := List.eq_nil_of_length_eq_zero (by omega)
    subst hb0
    obtain rfl : m = 0 := by omega
    clear hmin
    have hmin : min (0 : Int) 64 = 0 := by omega
    clear hA
    go_enter Tryd.func15, Tryd.ntmps15
    go_wp2_with fail
    go_ret
    exact ⟨none, 0, rfl, by omega, fun h => absurd h (by simp), Below.refl _ _⟩
  | some ad =>
    clear hA
    have HN : Asd (∀ (j : Nat) (u : Value), ((b.take 64).map fun x => Value.int .u8 x.toNat)[j]? = some u → w.cell? (ad.add j) = some u) := ⟨fun j u hj => by
      have hjl : j < (b.take 64).length := by have := (List.getElem?_eq_some_iff.1 hj).1; simpa using this
      have h64 : j < 64 := by have := HM.out; omega
      obtain ⟨ad', e, hcell⟩ := HB.out (by have := HM.out; omega)
      obtain rfl := Option.some.inj e
      refine hcell j u ?_
      rw [List.getElem?_map] at hj ⊢
      rw [List.getElem?_take_of_lt h64] at hj
      exact hj⟩
    have hlen : Asd (((b.take 64).map fun x => Value.int .u8 x.toNat).length = m * 1) := ⟨by rw [List.length_map, HM.out]; omega⟩
    go_enter Tryd.func15, Tryd.ntmps15
    go_wp2_with (at_builtin; refine wpList_append_own _ rfl _ _ 30 rfl w.heap.size 5 i0 (.int .u8 0) 1 1 Tryd.underlying30 hi hz0 hz1 hz2 rfl (by decide) (.slice none 0 0) 0 [] rfl ⟨rfl, .inl ⟨rfl, rfl⟩⟩ ad m c ((b.take 64).map fun x => Value.int .u8 x.toNat) rfl hlen.out HN.out (secC_one _) (by unfold maxLen; omega) (by omega) (Nat.le_refl _) ?_; intro v' w3 hown' hgrow _; have HO := Asd.mk (And.intro hown' hgrow); clear hown' hgrow)
    obtain ⟨A', c', rfl, hc', hB'⟩ := BytesC.own (by rw [HM.out, Nat.zero_add]) HO.out.1
    have hbl : Below w.heap.size w w3 := (Below.refl _ w).grown HO.out.2 (Nat.le_refl _) (fun k e => by cases e)
    rw [HM.out] at hc' ⊢
    have HX := Asd.mk (And.intro hc' (And.intro hB' hbl))
    clear hc' hB' hbl
    go_ret
    exact ⟨A', c', rfl, HX.out.1, HX.out.2.1, HX.out.2.2⟩
theorem bytes_block {W : World} {k : Nat} {b : List UInt8} {cur : Array Value} {e : TypeId} {fr : Nat × Nat} (h : W.heap[k]? = some (.cells cur e fr)) (hc : cur.toList.take b.length = b.map fun x => Value.int .u8 x.toNat) : BytesC W (some ⟨k, 0, none⟩) b := fun _ => by
  refine ⟨_, rfl, fun j v hj => ?_⟩
  have hjl : j < b.length := by have := (List.getElem?_eq_some_iff.1 hj).1; simpa using this
  rw [Addr.add_lit, Nat.zero_add]
  rw [← hc, List.getElem?_take_of_lt hjl] at hj
  simp only [World.cell?, h]
  simp only [Option.isSome_none, Bool.false_eq_true, if_false]
  rw [← Array.getElem?_toList]
  exact hj
theorem push_all : ∀ (b : List UInt8) (s : ByteArray), (b.map fun x => (x.toNat : Int)).foldl (fun r n => r.push (UInt8.ofNat n.toNat)) s = ⟨s.data ++ b.toArray⟩
  | [], s => by simp
  | x :: b, s => by
    rw [List.map_cons, List.foldl_cons, push_all b]
    apply ByteArray.ext
    apply Array.toList_inj.1
    simp [ByteArray.push]
/-- string(b). -/
theorem conv_c (W : World) (ad : Addr) (b : List UInt8) (c : Nat) (hcell : ∀ (j : Nat) (v : Value), (b.map fun x => Value.int .u8 x.toNat)[j]? = some v → W.cell? (ad.add j) = some v) :
    (convert 30 9 (.slice (some ad) b.length c)).run Tryd.prog W = .ok (.string ⟨b.toArray⟩) W := by
  rw [run_convert_bytes_string W 30 9 5 (some ad) b.length c Tryd.underlying30 Tryd.underlying5 Tryd.underlying9]
  have hl := run_loadCells_list (P := Tryd.prog) W ad (b.map fun x => Value.int .u8 x.toNat) hcell
  rw [List.length_map] at hl
  have h2 := run_bytesToString (P := Tryd.prog) W ad b.length c (b.map fun x => (x.toNat : Int)) (by rw [List.map_map]; exact hl)
  rw [h2, push_all]
  congr 2
  apply ByteArray.ext
  apply Array.toList_inj.1
  simp
theorem sec_cells {W : World} {k : Nat} {b : List UInt8} (h : W.heap[k]? = some (.cells (secC b) 67 (0, 0))) (o : Nat) (q : List UInt8) (hq : q <+: b.drop o) : ∀ (j : Nat) (v : Value), (q.map fun x => Value.int .u8 x.toNat)[j]? = some v → W.cell? ((⟨k, o, none⟩ : Addr).add j) = some v := by
  obtain ⟨r, hr⟩ := hq
  intro j v hj
  rw [Addr.add_lit]
  have hjl : j < q.length := by have := (List.getElem?_eq_some_iff.1 hj).1; simpa using this
  have h2 : (secC b)[o + j]? = some v := by
    rw [secC_get]
    rw [List.getElem?_map] at hj
    have h3 : (b.drop o)[j]? = q[j]? := by rw [← hr, List.getElem?_append_left hjl]
    rw [List.getElem?_drop] at h3
    rw [h3]
    exact hj
  simp [World.cell?, h, h2]
/-- A device of the call's own. -/
structure DevAt (w W : World) (g ms mp : Nat) (d : DSt) : Prop where
  dev : DiskC W g ms mp d
  low : w.heap.size ≤ g ∧ w.heap.size ≤ ms ∧ w.heap.size ≤ mp
  bel : Below w.heap.size w W
theorem DevAt.more {w W W' : World} {g ms mp : Nat} {d : DSt} (h : DevAt w W g ms mp d) (hb : Below W.heap.size W W') : DevAt w W' g ms mp d :=
  ⟨h.dev.frm (S := fun _ => False) (Frm.of_below hb) (fun _ _ h => h), h.low, h.bel.trans (hb.mono h.bel.size)⟩
theorem DevAt.alloc {w W : World} {g ms mp : Nat} {d : DSt} (h : DevAt w W g ms mp d) (o : Obj) : DevAt w (W.alloc o) g ms mp d := h.more ((Below.refl _ W).alloc (Nat.le_refl _) o)
theorem DevAt.turn {w W W' : World} {g ms mp : Nat} {d d' : DSt} (h : DevAt w W g ms mp d) (hd : DiskC W' g ms mp d') (hf : Frm (own g ms mp) W W') : DevAt w W' g ms mp d' :=
  ⟨hd, h.low, h.bel.trans (hf.below _ h.bel.size (fun k hk => by rcases hk with rfl | rfl | rfl; exact h.low.1; exact h.low.2.1; exact h.low.2.2))⟩
theorem single {ps : List Pl} {q : Pl} (hn : ps.Nodup) (h : ∀ p, p ∈ ps ↔ p = q) : ps = [q] := by
  match ps, hn, h with
  | [], _, h => exact absurd ((h q).2 rfl) (by simp)
  | [a], _, h => rw [(h a).1 (by simp)]
  | a :: b :: r, hn, h =>
    have h1 := (h a).1 (by simp)
    have h2 := (h b).1 (by simp)
    rw [h1, h2] at hn
    simp at hn
set_option maxHeartbeats 8000000 in
theorem sure_c (w : World) : Calls Tryd.prog 14 #[] w fun e w' => e = .returned (.bool true) ∧ Below w.heap.size w w' := by
  have up := Tryd.underlying22
  have kc := fun (w : World) (C : Array Value) (n c : Nat) => Lib.run_convert_bytes_const (P := Tryd.prog) w 30 5 C n c Tryd.underlying30 Tryd.underlying5
  go_enter Tryd.func14, Tryd.ntmps14
  go_wp2_with (go_at_call 6; refine (new_c 1 4 w (by omega) (by omega) (by omega) (by omega)).mono ?_; rintro e w1 ⟨g, ms, mp, rfl, hD, hg, hs, hp, hb⟩; have HV := Asd.mk (DevAt.mk hD ⟨hg, hs, hp⟩ hb); clear hD hg hs hp hb)
  refine (write_c g ms mp (newSt 1 4) 0 3 (some ⟨w1.heap.size, 0, none⟩) 3 [110, 101, 119] _ (HV.out.alloc _).dev rfl (by decide) rfl (bytes_block (World.alloc_heap_new w1 _) rfl) (by decide)).mono ?_
  rintro e w2 ⟨he, hD2, hf2⟩
  obtain rfl : e = .returned .nilIface := he
  have HV2 := Asd.mk ((HV.out.alloc _).turn hD2 hf2)
  clear hD2 hf2
  go_wp2_with fail
  refine (restart_c g ms mp (writeSt (newSt 1 4) (0, 3) [110, 101, 119]) (some ⟨w2.heap.size, 0, none⟩) 1 [1] _ (HV2.out.alloc _).dev (fun _ => ⟨w2.heap.size, #[.int .i64 1], rfl, World.alloc_heap_new w2 _, rfl⟩) (by decide)).mono ?_
  rintro e w3 ⟨rfl, ⟨ps, hps1, hps2, _, hD3⟩, hf3⟩
  obtain rfl : ps = [(0, 3)] := single hps1 (fun p => by
    rw [hps2]
    show (putM (fun _ => none) (0, 3) (fill [110, 101, 119]) p).isSome = true ↔ _
    unfold putM
    by_cases e : p = (0, 3)
    · rw [if_pos e]; simp [e]
    · rw [if_neg e]; simp [e])
  have HV3 := Asd.mk ((HV2.out.alloc _).turn hD3 hf3)
  clear hps1 hps2 hD3 hf3
  go_wp2_with fail
  refine (read_c g ms mp _ 0 3 _ HV3.out.dev rfl rfl).mono ?_
  rintro e w4 ⟨k, rfl, hk, hlk, hb4⟩
  have HV4 := Asd.mk (HV3.out.more hb4)
  have hkr : w4.heap[k]? = some (.cells (secC (fill [110, 101, 119])) 67 (0, 0)) := hk
  have hcv : (convert 30 9 (.slice (some ⟨k, 0, none⟩) 3 64)).run Tryd.prog w4 = .ok (.string { data := #[110, 101, 119] }) w4 := conv_c w4 ⟨k, 0, none⟩ [110, 101, 119] 64 (sec_cells hkr 0 [110, 101, 119] ⟨_, rfl⟩)
  clear hk hlk hb4 hkr
  go_wp2_with fail
  go_ret
  exact ⟨rfl, HV4.out.bel⟩
end Go.Proofs.YtnfnnfbcafepkaaDoor.Dk
