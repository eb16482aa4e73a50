/- A catalog of tables as it lies in memory, and what may be asked of it: the walks. -/
import Derived.Test.YtkcbgnhgjlbmlaaDoorXTcx6
import Derived.Maps.OwnSet
namespace Go.Proofs.YtkcbgnhgjlbmlaaDoor.XTc
open Go.RowKit Go.Proofs.YtkcbgnhgjlbmlaaDoorW.PrintWords Go.Proofs.YtkcbgnhgjlbmlaaDoorW.PrintLast Go.Proofs.YtkcbgnhgjlbmlaaDoorW.PrintMore Go.Proofs.YtkcbgnhgjlbmlaaDoor.Str
open Go.Maps (Keyed IsMap)
attribute [local go_sem] str_gtr str_leq str_geq max2_int min2_int max_two min_two max_three min_three max_four min_four   -- for this text's walks alone
set_option linter.unusedVariables false
set_option linter.unusedSimpArgs false
set_option linter.unnecessarySimpa false
namespace TcO
abbrev T := S25
/-- A name as a map's key. -/
def key (s : ByteArray) : Lit := .string s.data.toList
/-- Tables and their places, as a map reads them. -/
def catL (D : DataW Unit) (l : List (T × Nat)) : DataW Unit := l.foldl (fun D p => D.put (key p.1.f0) (.lit (.int .i64 (p.2 : Int)))) D
def catD (ts : List T) : DataW Unit := catL (.map []) ts.zipIdx
theorem catD_snoc (ts : List T) (t : T) : catD (ts ++ [t]) = (catD ts).put (key t.f0) (.lit (.int .i64 (ts.length : Int))) := by
  unfold catD catL
  rw [List.zipIdx_append, List.foldl_append]
  simp
/-- The place of the last table of a name. -/
def posL (acc : Option Nat) (l : List (T × Nat)) (s : ByteArray) : Option Nat := l.foldl (fun acc p => if p.1.f0 = s then some p.2 else acc) acc
def pos (ts : List T) (s : ByteArray) : Option Nat := posL none ts.zipIdx s
theorem keyLit (s : ByteArray) : WideAt.IsKeyLit (key s) := trivial
theorem key_inj {a b : ByteArray} (h : key a = key b) : a = b := by
  unfold key at h
  injection h with h
  exact ByteArray.ext (Array.toList_inj.1 h)
theorem cat_pos (s : ByteArray) : ∀ (l : List (T × Nat)) (D : DataW Unit) (acc : Option Nat), IsMap D → Maps.has D (key s) = acc.isSome → D.atKey (key s) (.lit (.int .i64 0)) = .lit (.int .i64 (acc.getD 0 : Nat)) →
    IsMap (catL D l) ∧ Maps.has (catL D l) (key s) = (posL acc l s).isSome ∧ (catL D l).atKey (key s) (.lit (.int .i64 0)) = .lit (.int .i64 ((posL acc l s).getD 0 : Nat))
  | [], D, acc, h1, h2, h3 => ⟨h1, h2, h3⟩
  | p :: l, D, acc, h1, h2, h3 => by
    show IsMap (catL (D.put (key p.1.f0) _) l) ∧ _
    by_cases e : p.1.f0 = s
    · have e2 : posL acc (p :: l) s = posL (some p.2) l s := by show posL (if p.1.f0 = s then some p.2 else acc) l s = _; rw [if_pos e]
      rw [e2]
      subst e
      exact cat_pos _ l _ (some p.2) (h1.put _ _) (Maps.has_put_same h1 (keyLit _) _) (Maps.atKey_put_same h1 (keyLit _) _ _)
    · have e2 : posL acc (p :: l) s = posL acc l s := by show posL (if p.1.f0 = s then some p.2 else acc) l s = _; rw [if_neg e]
      rw [e2]
      have hne : key s ≠ key p.1.f0 := fun h => e (key_inj h).symm
      exact cat_pos _ l _ acc (h1.put _ _) ((Maps.has_put_other hne _).trans h2) ((Maps.atKey_put_other hne _ _).trans h3)
theorem catD_pos (ts : List T) (s : ByteArray) : Maps.has (catD ts) (key s) = (pos ts s).isSome ∧ (catD ts).atKey (key s) (.lit (.int .i64 0)) = .lit (.int .i64 ((pos ts s).getD 0 : Nat)) :=
  (cat_pos s ts.zipIdx (.map []) none Maps.isMap_empty rfl rfl).2
theorem law9 : Keyed Tryd.prog 9 := Maps.string_keyed Tryd.underlying9
theorem zero3 (w : World) : (zeroValue 3).run Tryd.prog w = .ok (.int .i64 0) w := by kernel_rfl
/-- A catalog, or none, at a pointer. -/
def CatNow (W : World) (v : Value) : Option (List T) → Prop
  | none => v = .pointer none
  | some ts => ∃ g A c m n, v = .pointer (some ⟨g, 0, none⟩) ∧ W.cell? ⟨g, 0, none⟩ = some (.slice A ts.length c) ∧ W.cell? ⟨g, 1, none⟩ = some (.map (some m)) ∧ ts.length ≤ c ∧ Kd.C k25 W A ts.length ts ∧ W.ownsMap Tryd.prog 9 (plainElem Tryd.prog 3) m n (catD ts)
/-- The place of a name, or the error. -/
def findQ : Option Nat → Int × Option Int
  | none => (0, some 30)
  | some i => (i, none)
def findP (o : Option (List T)) (s : ByteArray) : Int × Option Int := match o with
  | none => (0, some 30)
  | some ts => findQ (pos ts s)
theorem find_none (s : ByteArray) (w : World) : Calls Tryd.prog 7 #[.pointer none, .string s] w fun e w' => e = .returned (.tuple #[.int .i64 0, errW (some 30)]) ∧ w' = w := by
  rw [errW_some]
  go_enter Tryd.func7, Tryd.ntmps7
  go_wp2
  go_ret2
  exact ⟨rfl, rfl⟩
theorem len_none (w : World) : Calls Tryd.prog 9 #[.pointer none] w fun e w' => e = .returned (.int .i64 0) ∧ w' = w := by
  go_enter Tryd.func9, Tryd.ntmps9
  go_wp2
  go_ret
  exact ⟨rfl, rfl⟩
theorem len_some (g : Nat) (A : Option Addr) (n c : Nat) (w : World) (h0 : w.cell? ⟨g, 0, none⟩ = some (.slice A n c)) : Calls Tryd.prog 9 #[.pointer (some ⟨g, 0, none⟩)] w fun e w' => e = .returned (.int .i64 n) ∧ w' = w := by
  have hu := Tryd.underlying49
  go_enter Tryd.func9, Tryd.ntmps9
  go_wp2
  go_ret
  exact ⟨rfl, rfl⟩
theorem find_some (g m n : Nat) (D : DataW Unit) (s : ByteArray) (hs : s.size ≤ maxLen) (w : World) (h1 : w.cell? ⟨g, 1, none⟩ = some (.map (some m))) (hown : w.ownsMap Tryd.prog 9 (plainElem Tryd.prog 3) m n D) :
    Calls Tryd.prog 7 #[.pointer (some ⟨g, 0, none⟩), .string s] w fun e w' => ∃ c : Int, D.atKey (key s) (.lit (.int .i64 0)) = .lit (.int .i64 c) ∧ e = .returned (.tuple (if Maps.has D (key s) = true then #[.int .i64 c, errW none] else #[.int .i64 0, errW (some 30)])) ∧ w' = w := by
  have hu := Tryd.underlying49
  have hkey : keyOf Tryd.prog 9 (.string s) = some (key s) := Go.WideMaps.keyOf_string_mk Tryd.underlying9 hs
  by_cases hh : Maps.has D (key s) = true
  · simp only [hh, if_true, errW_none]
    go_enter Tryd.func7, Tryd.ntmps7
    go_wp2_with (at_lookup; refine wpList_lookup_own_ok_int _ rfl _ _ 47 rfl 9 3 .i64 law9 Tryd.underlying47 Tryd.underlying3 (zero3 _) m n D rfl hown _ _ rfl hkey ?_; intro c hat hwc; rw [hh])
    go_ret2
    exact ⟨_, hat, rfl, rfl⟩
  · have hh2 : Maps.has D (key s) = false := by simpa using hh
    simp only [hh2, Bool.false_eq_true, if_false, errW_some]
    go_enter Tryd.func7, Tryd.ntmps7
    go_wp2_with (at_lookup; refine wpList_lookup_own_ok_int _ rfl _ _ 47 rfl 9 3 .i64 law9 Tryd.underlying47 Tryd.underlying3 (zero3 _) m n D rfl hown _ _ rfl hkey ?_; intro c hat hwc; rw [hh2])
    go_ret2
    exact ⟨_, hat, rfl, rfl⟩
/-- Find, of a catalog or none. -/
theorem find_calls (v : Value) (o : Option (List T)) (s : ByteArray) (hs : s.size ≤ maxLen) (w : World) (h : CatNow w v o) :
    Calls Tryd.prog 7 #[v, .string s] w fun e w' => e = .returned (.tuple #[.int .i64 (findP o s).1, errW (findP o s).2]) ∧ w' = w := by
  cases o with
  | none =>
    obtain rfl : v = .pointer none := h
    exact find_none s w
  | some ts =>
    obtain ⟨g, A, c, m, n, rfl, h0, h1, hl, hC, hown⟩ := h
    refine (find_some g m n (catD ts) s hs w h1 hown).mono ?_
    rintro e w' ⟨c, hat, rfl, rfl⟩
    obtain ⟨p1, p2⟩ := catD_pos ts s
    rw [p2] at hat
    injection hat with hat
    injection hat with _ hat
    subst hat
    refine ⟨?_, rfl⟩
    rw [p1]
    show _ = Ending.returned (.tuple #[.int .i64 (findQ (pos ts s)).1, errW (findQ (pos ts s)).2])
    generalize pos ts s = q
    cases q with
    | none => rfl
    | some i => rfl
/-- How many tables. -/
def lenP : Option (List T) → Int
  | none => 0
  | some ts => ts.length
theorem len_calls (v : Value) (o : Option (List T)) (w : World) (h : CatNow w v o) : Calls Tryd.prog 9 #[v] w fun e w' => e = .returned (.int .i64 (lenP o)) ∧ w' = w := by
  cases o with
  | none =>
    obtain rfl : v = .pointer none := h
    exact len_none w
  | some ts =>
    obtain ⟨g, A, c, m, n, rfl, h0, h1, hl, hC, hown⟩ := h
    exact len_some g A ts.length c w h0
theorem heapC : Kd.Heap k39 := ⟨fun _ h => h⟩
theorem heapT : Kd.Heap k25 := ⟨by
  rintro w w1 x cs hb ⟨_, _, rfl, h1, ⟨A, c, rfl, hl, hr⟩⟩
  exact ⟨_, _, rfl, h1, ⟨A, c, rfl, hl, heapC.C hb hr⟩⟩⟩
/-- What was there stays there. -/
theorem CatNow.step {W W1 : World} {v : Value} {o : Option (List T)} (h : CatNow W v o) (hb : ∀ k, k < W.heap.size → W1.heap[k]? = W.heap[k]?) : CatNow W1 v o := by
  cases o with
  | none => exact h
  | some ts =>
    obtain ⟨g, A, c, m, n, rfl, h0, h1, hl, hC, hown⟩ := h
    refine ⟨g, A, c, m, n, rfl, Kd.cell_heap hb h0, Kd.cell_heap hb h1, hl, Kd.Heap.C heapT hb hC, ?_⟩
    obtain ⟨es, clock, hm, r⟩ := hown
    exact ⟨es, clock, (hb m (blk_lt hm)).trans hm, r⟩
theorem CatNow.below {W W1 : World} {v : Value} {o : Option (List T)} (h : CatNow W v o) (hb : Below W.heap.size W W1) : CatNow W1 v o := h.step fun k hk => hb.block k hk
set_option maxHeartbeats 8000000 in
set_option maxRecDepth 100000 in
theorem table_low (v : Value) (i : Int) (hi : i < 0) (w : World) :
    Calls Tryd.prog 12 #[v, .int .i64 i] w fun e w' => ∃ v1 : Value, e = .returned (.tuple #[.agg #[.string (⟨#[]⟩ : ByteArray), v1], errW (some 1)]) ∧ Kd.R k39 39 w' w.heap.size (fun _ => True) v1 [] ∧ Below w.heap.size w w' := by
  have hu := Tryd.underlying25
  have hd : decide (i < 0) = true := decide_eq_true hi
  rw [errW_some]
  go_enter Tryd.func12, Tryd.ntmps12
  go_wp2_with (first | ((with_reducible refine gate_dst (N := 4) rfl ?_); refine box_event ?hg (N := 4) ?hd (cs := #[.string (⟨#[]⟩ : ByteArray), .slice none 0 0]) (t := 25) ?hr ?_; (case hd => rfl); (case hg => rfl); (case hr => first | (go_simp; done) | (go_simp; rfl)); intro gb hg w1 hbox hb; have GE := Aside0.mk ((by rw [hg]; exact Nat.le_refl _) : w.heap.size ≤ gb); have HB := Aside0.mk hb; have BK := Aside0.mk hbox; clear hb hbox hg; have zw1_0 : w1.cell? ⟨gb, 0, none⟩ = some (.string (⟨#[]⟩ : ByteArray)) := (blk_cell BK.out 0).trans rfl; have zw1_1 : w1.cell? ⟨gb, 1, none⟩ = some (.slice none 0 0) := (blk_cell BK.out 1).trans rfl; have yw1_0 := blk_frozen BK.out 0; have yw1_1 := blk_frozen BK.out 1))
  refine bodyPost_ret (results_ct rfl _ _ gb 25 #[.string (⟨#[]⟩ : ByteArray), .slice none 0 0] (0, 0) _ rfl (by (with_reducible repeat (first | refine blk_drewN ?_ _ | refine blk_drew ?_ | refine blk_alloc ?_ _)); refine blk_put (cs := #[.string (⟨#[]⟩ : ByteArray), .slice none 0 0]) ?_ 1 _ rfl; (with_reducible repeat (first | refine blk_drewN ?_ _ | refine blk_drew ?_ | refine blk_alloc ?_ _)); refine blk_put (cs := #[.string (⟨#[]⟩ : ByteArray), .slice none 0 0]) ?_ 0 _ rfl; (with_reducible repeat (first | refine blk_drewN ?_ _ | refine blk_drew ?_ | refine blk_alloc ?_ _)); exact BK.out) Tryd.underlying25 rfl (by kernel_rfl)) rfl ?_
  exact ⟨_, rfl, Kd.R_nil _ _ _ _ _, (by repeat (first | (with_reducible first | exact HB.out | apply below_alloc | apply pw_below_drewN | apply below_drew1 | refine below_set ?_ GE.out) | exact HB.out | exact below_undrew HB.out))⟩
set_option maxHeartbeats 8000000 in
set_option maxRecDepth 100000 in
theorem table_high (v : Value) (o : Option (List T)) (i : Int) (hi : ¬ i < 0) (hl : i ≥ lenP o) (w : World) (h0 : CatNow w v o) :
    Calls Tryd.prog 12 #[v, .int .i64 i] w fun e w' => ∃ v1 : Value, e = .returned (.tuple #[.agg #[.string (⟨#[]⟩ : ByteArray), v1], errW (some 1)]) ∧ Kd.R k39 39 w' w.heap.size (fun _ => True) v1 [] ∧ Below w.heap.size w w' := by
  have hu := Tryd.underlying25
  have hd : decide (i < 0) = false := decide_eq_false hi
  have hd2 : decide (i ≥ lenP o) = true := decide_eq_true hl
  have hd3 : decide (lenP o ≤ i) = true := decide_eq_true hl
  have h := Aside0.mk h0
  clear h0
  rw [errW_some]
  go_enter Tryd.func12, Tryd.ntmps12
  go_wp2_with (first | ((with_reducible refine gate_dst (N := 4) rfl ?_); refine box_event ?hg (N := 4) ?hd (cs := #[.string (⟨#[]⟩ : ByteArray), .slice none 0 0]) (t := 25) ?hr ?_; (case hd => rfl); (case hg => rfl); (case hr => first | (go_simp; done) | (go_simp; rfl)); intro gb hg w1 hbox hb; have GE := Aside0.mk ((by rw [hg]; exact Nat.le_refl _) : w.heap.size ≤ gb); have HB := Aside0.mk hb; have BK := Aside0.mk hbox; clear hb hbox hg; have zw1_0 : w1.cell? ⟨gb, 0, none⟩ = some (.string (⟨#[]⟩ : ByteArray)) := (blk_cell BK.out 0).trans rfl; have zw1_1 : w1.cell? ⟨gb, 1, none⟩ = some (.slice none 0 0) := (blk_cell BK.out 1).trans rfl; have yw1_0 := blk_frozen BK.out 0; have yw1_1 := blk_frozen BK.out 1) | (go_at_call 9; refine (len_calls v o _ (CatNow.below h.out (by repeat (first | (with_reducible first | exact HB.out | apply below_alloc | apply pw_below_drewN | apply below_drew1 | refine below_set ?_ GE.out) | exact HB.out | exact below_undrew HB.out)))).mono ?_; rintro e w' ⟨rfl, rfl⟩))
  refine bodyPost_ret (results_ct rfl _ _ gb 25 #[.string (⟨#[]⟩ : ByteArray), .slice none 0 0] (0, 0) _ rfl (by (with_reducible repeat (first | refine blk_drewN ?_ _ | refine blk_drew ?_ | refine blk_alloc ?_ _)); refine blk_put (cs := #[.string (⟨#[]⟩ : ByteArray), .slice none 0 0]) ?_ 1 _ rfl; (with_reducible repeat (first | refine blk_drewN ?_ _ | refine blk_drew ?_ | refine blk_alloc ?_ _)); refine blk_put (cs := #[.string (⟨#[]⟩ : ByteArray), .slice none 0 0]) ?_ 0 _ rfl; (with_reducible repeat (first | refine blk_drewN ?_ _ | refine blk_drew ?_ | refine blk_alloc ?_ _)); exact BK.out) Tryd.underlying25 rfl (by kernel_rfl)) rfl ?_
  exact ⟨_, rfl, Kd.R_nil _ _ _ _ _, (by repeat (first | (with_reducible first | exact HB.out | apply below_alloc | apply pw_below_drewN | apply below_drew1 | refine below_set ?_ GE.out) | exact HB.out | exact below_undrew HB.out))⟩
set_option maxHeartbeats 8000000 in
set_option maxRecDepth 100000 in
theorem table_some (g : Nat) (A : Option Addr) (c : Nat) (ts : List T) (i : Int) (hi0 : 0 ≤ i) (hil : i < ts.length) (w : World) (h00 : w.cell? ⟨g, 0, none⟩ = some (.slice A ts.length c)) (hC : Kd.C k25 w A ts.length ts) (r1 : ByteArray) (r2 : List S39) (hf0 : table_own.f (rd_T25 ts i).f0 (rd_T25 ts i).f1 = some (r1, r2)) :
    Calls Tryd.prog 12 #[.pointer (some ⟨g, 0, none⟩), .int .i64 i] w fun e w' => ∃ v1 : Value, e = .returned (.tuple #[.agg #[.string r1, v1], errW none]) ∧ Kd.R k39 39 w' w.heap.size (fun _ => True) v1 r2 ∧ Below w.heap.size w w' := by
  have hu := Tryd.underlying25
  have hu2 := Tryd.underlying49
  obtain ⟨ad, A1, c1, rfl, hx0, hx1, hxl0, hxC0⟩ := at_T25 hC i hi0 hil
  have hxl := Aside0.mk hxl0
  have hxC := Aside0.mk hxC0
  have h0 := Aside0.mk h00
  have hf := Aside0.mk hf0
  clear hxl0 hxC0 h00 hC hf0
  have hd : decide (i < 0) = false := decide_eq_false (by omega)
  have hd2 : decide (i ≥ (ts.length : Int)) = false := decide_eq_false (by omega)
  have hd3 : decide ((ts.length : Int) ≤ i) = false := decide_eq_false (by omega)
  have p1 := eq_true hi0
  have p2 := eq_true hil
  clear hi0 hil
  rw [errW_none]
  go_enter Tryd.func12, Tryd.ntmps12
  go_wp2_with (first | ((with_reducible refine gate_dst (N := 4) rfl ?_); refine box_event ?hg (N := 4) ?hd (cs := #[.string (⟨#[]⟩ : ByteArray), .slice none 0 0]) (t := 25) ?hr ?_; (case hd => rfl); (case hg => rfl); (case hr => first | (go_simp; done) | (go_simp; rfl)); intro gb hg w1 hbox hb; have GE := Aside0.mk ((by rw [hg]; exact Nat.le_refl _) : w.heap.size ≤ gb); have HB := Aside0.mk hb; have BK := Aside0.mk hbox; have k0 := Aside0.mk ((hb.cell (World.block_lt_of_cell? w _ h0.out)).trans h0.out); have kx0 := (hb.cell (World.block_lt_of_cell? w _ hx0)).trans hx0; have kx1 := (hb.cell (World.block_lt_of_cell? w _ hx1)).trans hx1; have k00 := k0.out; clear hb hbox hg; have zw1_0 : w1.cell? ⟨gb, 0, none⟩ = some (.string (⟨#[]⟩ : ByteArray)) := (blk_cell BK.out 0).trans rfl; have zw1_1 : w1.cell? ⟨gb, 1, none⟩ = some (.slice none 0 0) := (blk_cell BK.out 1).trans rfl; have yw1_0 := blk_frozen BK.out 0; have yw1_1 := blk_frozen BK.out 1) | (go_at_call 9; refine (len_some g (some ad) ts.length c _ k0.out).mono ?_; rintro e w' ⟨rfl, rfl⟩) | (go_at_call 15; refine (table_own.calls (rd_T25 ts i).f0 A1 c1 (rd_T25 ts i).f1 r1 r2 _ (Kd.C_below hxC.out (by repeat (first | (with_reducible first | exact HB.out | apply below_alloc | apply pw_below_drewN | apply below_drew1 | refine below_set ?_ GE.out) | exact HB.out | exact below_undrew HB.out))) hxl.out hf.out).mono ?_; rintro e w2 ⟨v1, rfl, hR, hb⟩; obtain ⟨Ao, co, rfl, _⟩ := Kd.R_reads hR; have n0_ := Aside0.mk (blk_below (g := gb) (o := .cells #[.string (⟨#[]⟩ : ByteArray), .slice none 0 0] 25 (0, 0)) (by (with_reducible repeat (first | refine blk_drewN ?_ _ | refine blk_drew ?_ | refine blk_alloc ?_ _)); exact BK.out) hb); have n1_ := Aside0.mk (below_step (by repeat (first | (with_reducible first | exact HB.out | apply below_alloc | apply pw_below_drewN | apply below_drew1 | refine below_set ?_ GE.out) | exact HB.out | exact below_undrew HB.out)) hb); have n2_ := Aside0.mk (Kd.R_lower hR (below_size (by repeat (first | (with_reducible first | exact HB.out | apply below_alloc | apply pw_below_drewN | apply below_drew1 | refine below_set ?_ GE.out) | exact HB.out | exact below_undrew HB.out)))); clear BK HB; have BK := n0_; have HB := n1_; have HR := n2_; clear n0_ n1_ n2_ hb hR; have zw2_0 : w2.cell? ⟨gb, 0, none⟩ = some (.string (⟨#[]⟩ : ByteArray)) := (blk_cell BK.out 0).trans rfl; have zw2_1 : w2.cell? ⟨gb, 1, none⟩ = some (.slice none 0 0) := (blk_cell BK.out 1).trans rfl; have yw2_0 := blk_frozen BK.out 0; have yw2_1 := blk_frozen BK.out 1))
  refine bodyPost_ret (results_ct rfl _ _ gb 25 #[.string r1, .slice Ao r2.length co] (0, 0) _ rfl (by (with_reducible repeat (first | refine blk_drewN ?_ _ | refine blk_drew ?_ | refine blk_alloc ?_ _)); refine blk_put (cs := #[.string r1, .slice none 0 0]) ?_ 1 _ rfl; (with_reducible repeat (first | refine blk_drewN ?_ _ | refine blk_drew ?_ | refine blk_alloc ?_ _)); refine blk_put (cs := #[.string (⟨#[]⟩ : ByteArray), .slice none 0 0]) ?_ 0 _ rfl; (with_reducible repeat (first | refine blk_drewN ?_ _ | refine blk_drew ?_ | refine blk_alloc ?_ _)); exact BK.out) Tryd.underlying25 rfl (by kernel_rfl)) rfl ?_
  exact ⟨_, rfl, by (with_reducible repeat (first | apply Kd.R_alloc | apply Kd.R_drewN | apply Kd.R_drew)); exact Kd.R_mono (Kd.R_far (p := ⟨gb, 1, none⟩) (Kd.R_far (p := ⟨gb, 0, none⟩) (Kd.R_types HR.out BK.out (by decide)) (fun _ hk => hk.2) (.string r1)) (fun _ hk => hk.2) (.slice Ao r2.length co)) (fun _ hk => trivial), (by repeat (first | (with_reducible first | exact HB.out | apply below_alloc | apply pw_below_drewN | apply below_drew1 | refine below_set ?_ GE.out) | exact HB.out | exact below_undrew HB.out))⟩
end TcO
end Go.Proofs.YtkcbgnhgjlbmlaaDoor.XTc
