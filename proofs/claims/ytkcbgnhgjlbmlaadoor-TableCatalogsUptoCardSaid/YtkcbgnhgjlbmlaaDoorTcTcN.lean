/- A catalog made of tables: the walk of table.New. -/
import Derived.Test.YtkcbgnhgjlbmlaaDoorTcTcO
import Derived.Test.YtkcbgnhgjlbmlaaDoorXTcx5
namespace Go.Proofs.YtkcbgnhgjlbmlaaDoor.XTc
open Go.RowKit Go.Proofs.YtkcbgnhgjlbmlaaDoorW.PrintWords Go.Proofs.YtkcbgnhgjlbmlaaDoorW.PrintLast Go.Proofs.YtkcbgnhgjlbmlaaDoorW.PrintMore Go.Proofs.YtkcbgnhgjlbmlaaDoor.Str
open Go.Maps (Keyed IsMap)
attribute [local go_sem] str_gtr str_leq str_geq max2_int min2_int max_two min_two max_three min_three max_four min_four   -- for this text's walks alone
set_option linter.unusedVariables false
set_option linter.unusedSimpArgs false
set_option linter.unnecessarySimpa false
namespace TcO
theorem new_long (A : Option Addr) (n c : Nat) (hn : 32 < n) (w : World) : Calls Tryd.prog 5 #[.slice A n c] w fun e w' => e = .returned (.tuple #[.pointer none, errW (some 2)]) ∧ w' = w := by
  have hd : decide ((n : Int) > 32) = true := decide_eq_true (by omega)
  have hd2 : decide ((32 : Int) < (n : Int)) = true := decide_eq_true (by omega)
  rw [errW_some]
  go_enter Tryd.func5, Tryd.ntmps5
  go_wp2
  go_ret2
  exact ⟨rfl, rfl⟩
/-- A map stays, where its block does. -/
theorem own_step {W W1 : World} {m n : Nat} {D : DataW Unit} (h : W.ownsMap Tryd.prog 9 (plainElem Tryd.prog 3) m n D) (hb : W1.heap[m]? = W.heap[m]?) : W1.ownsMap Tryd.prog 9 (plainElem Tryd.prog 3) m n D := by
  obtain ⟨es, clock, hm, r⟩ := h
  exact ⟨es, clock, hb.trans hm, r⟩
theorem own_lt {W : World} {m n : Nat} {D : DataW Unit} (h : W.ownsMap Tryd.prog 9 (plainElem Tryd.prog 3) m n D) : m < W.heap.size := by
  obtain ⟨es, clock, hm, r⟩ := h
  exact blk_lt hm
theorem chk_none (k : Nat) (nm : ByteArray) (A : Option Addr) (c : Nat) (cols : List S39) (w : World) (hr : Kd.C k39 w A cols.length cols) (hc : cols.length ≤ c) (hG : GE w) (h : table_Check.f k nm cols = some none) :
    Calls Tryd.prog 14 #[.agg #[.string nm, .slice A cols.length c]] w fun e w' => e = .returned .nilIface ∧ Below w.heap.size w w' := table_Check.calls k nm A c cols none w hr hc hG h
theorem chk_some (k : Nat) (nm : ByteArray) (A : Option Addr) (c : Nat) (cols : List S39) (x : Int) (w : World) (hr : Kd.C k39 w A cols.length cols) (hc : cols.length ≤ c) (hG : GE w) (h : table_Check.f k nm cols = some (some x)) :
    Calls Tryd.prog 14 #[.agg #[.string nm, .slice A cols.length c]] w fun e w' => e = .returned (.iface 46 (.int .i64 x)) ∧ Below w.heap.size w w' := table_Check.calls k nm A c cols (some x) w hr hc hG h
theorem info25 : (Tryd.prog.info? 25).map (fun i => (i.zero, i.size, i.bytes)) = some (some (.agg #[(.string ⟨#[]⟩), (.slice none 0 0)]), 2, 40) := by kernel_rfl
/-- The first error of tables, one by one. -/
def firstE (e : T → Option Int) : List T → Option Int
  | [] => none
  | t :: r => match e t with
    | some x => some x
    | none => firstE e r
theorem firstE_at (e : T → Option Int) (x : Int) : ∀ (l : List T) (i : Nat) (h : i < l.length), (∀ j (hj : j < l.length), j < i → e l[j] = none) → e l[i] = some x → firstE e l = some x
  | [], i, h, _, _ => by simp at h
  | t :: r, 0, h, _, hx => by
    have h1 : e t = some x := hx
    unfold firstE
    rw [h1]
  | t :: r, i + 1, h, ha, hx => by
    have h1 : e t = none := ha 0 (by simp) (by omega)
    unfold firstE
    rw [h1]
    exact firstE_at e x r i (by simpa using h) (fun j hj hji => ha (j + 1) (by simpa using hj) (by omega)) hx
theorem firstE_none (e : T → Option Int) : ∀ (l : List T), (∀ j (hj : j < l.length), e l[j] = none) → firstE e l = none
  | [], _ => rfl
  | t :: r, ha => by
    have h1 : e t = none := ha 0 (by simp)
    unfold firstE
    rw [h1]
    exact firstE_none e r (fun j hj => ha (j + 1) (by simpa using hj))
/-- Is there a name twice? -/
def dupP : List T → List T → Bool
  | _, [] => false
  | d, t :: r => if (pos d t.f0).isSome = true then true else dupP (d ++ [t]) r
/-- What comes of tables. -/
def newE (e : T → Option Int) (l : List T) : Option Int := match firstE e l with
  | some x => some x
  | none => if dupP [] l = true then some 9 else none
/-- The catalog, where there is one. -/
def catO (e : T → Option Int) (l : List T) : Option (List T) := if newE e l = none then some l else none
theorem catO_some {e : T → Option Int} {l : List T} {x : Int} (h : newE e l = some x) : catO e l = none := by unfold catO; rw [h, if_neg (by simp)]
theorem catO_none {e : T → Option Int} {l : List T} (h : newE e l = none) : catO e l = some l := by unfold catO; rw [if_pos h]
/-- A catalog, or none, and what it leads to lies in ok. -/
def CatF (W : World) (ok : Nat → Prop) (v : Value) (o : Option (List T)) : Prop := Foot (fun W => CatNow W v o) W ok
theorem CatF_none (W : World) (ok : Nat → Prop) : CatF W ok (.pointer none) none := fun W' _ => rfl
theorem own_far {W W1 : World} {m n gt : Nat} {u v : Value} {D : DataW Unit} (h : W.ownsMap Tryd.prog 9 (plainElem Tryd.prog 3) m n D) (hne : m ≠ gt) (hb : Below ((W.setCell ⟨gt, 0, none⟩ u).setCell ⟨gt, 1, none⟩ v).heap.size ((W.setCell ⟨gt, 0, none⟩ u).setCell ⟨gt, 1, none⟩ v) W1) : W1.ownsMap Tryd.prog 9 (plainElem Tryd.prog 3) m n D :=
  have h1 := (h.setCell (a := ⟨gt, 0, none⟩) hne u).setCell (a := ⟨gt, 1, none⟩) hne v
  own_step h1 (hb.block m (own_lt h1))
set_option maxHeartbeats 8000000 in
set_option maxRecDepth 100000 in
theorem new_short (k : Nat) (e : T → Option Int) (A : Option Addr) (c : Nat) (l : List T) (he : ∀ t ∈ l, table_Check.f k t.f0 t.f1 = some (e t)) (hlen : l.length ≤ 32) (w : World) (hgood : ∀ t ∈ l, e t = none → t.f1 ≠ [] ∧ t.f1.length < 4398046511104 ∧ t.f0.size ≤ maxLen) (hr : Kd.C k25 w A l.length l) (hc : l.length ≤ c) (hG : GE w) :
    Calls Tryd.prog 5 #[.slice A l.length c] w fun er w' => ∃ v, er = .returned (.tuple #[v, errW (newE e l)]) ∧ CatF w' (fun k_ => w.heap.size ≤ k_) v (catO e l) ∧ Below w.heap.size w w' := by
  have hu := Tryd.underlying25
  have hu2 := Tryd.underlying49
  have hu3 := Tryd.underlying29
  have HR := Aside0.mk hr
  have HG := Aside0.mk hG
  clear hr hG
  have hd : decide ((l.length : Int) > 32) = false := decide_eq_false (by omega)
  have hd2 : decide ((32 : Int) < (l.length : Int)) = false := decide_eq_false (by omega)
  have hmm := @run_makeMap Tryd.prog
  go_enter Tryd.func5, Tryd.ntmps5
  go_wp2_with (first | ((with_reducible refine gate_dst (N := 18) rfl ?_); refine box_event ?hg (N := 18) ?hd (cs := #[.slice none 0 0, .map (some w.heap.size)]) (t := 49) ?hr ?_; (case hd => rfl); (case hg => rfl); (case hr => first | (go_simp; done) | (go_simp; rfl)); intro g hg w1 hbox hb; have hm0 := own_step (World.ownsMap_made w Tryd.prog 9 (plainElem (H := Unit) Tryd.prog 3)) (hb.block w.heap.size (by simp)); have GEg := Aside0.mk ((by rw [hg]; simp) : w.heap.size ≤ g); have GEm0 := Aside0.mk (Nat.le_refl w.heap.size); have HB := Aside0.mk (below_step (below_alloc (Below.refl w.heap.size w) _) hb); have BKg := Aside0.mk hbox; have HM := Aside0.mk hm0; clear hm0 hb hbox hg))
  obtain ⟨m, hm⟩ : ∃ m, m = w.heap.size := ⟨_, rfl⟩
  rw [← hm] at BKg HM
  have GEm := Aside0.mk ((by rw [hm]; exact Nat.le_refl _) : w.heap.size ≤ m)
  clear hm GEm0
  go_loopg [21] (l.length + 1) (fun kq v21 w' => ∃ i : Nat, v21 = .int .i64 i ∧ Aside0 (i + kq = l.length + 1) ∧ Aside0 (i ≤ l.length) ∧ Aside0 (∀ j (h : j < l.length), j < i → e l[j] = none) ∧ Aside0 (w'.heap[g]? = some (.cells #[.slice none 0 0, .map (some m)] 49 (0, 0))) ∧ Aside0 (w'.ownsMap Tryd.prog 9 (plainElem (H := Unit) Tryd.prog 3) m 0 (.map [])) ∧ Aside0 (Below w.heap.size w w'))
  case atStart => exact ⟨0, rfl, ⟨by omega⟩, ⟨by omega⟩, ⟨fun j _ h => by omega⟩, ⟨by (with_reducible repeat (first | refine blk_drewN ?_ _ | refine blk_drew ?_ | refine blk_alloc ?_ _)); exact BKg.out⟩, ⟨HM.out⟩, ⟨(by repeat (first | (with_reducible first | exact HB.out | apply below_alloc | apply pw_below_drewN | apply below_drew1 | refine below_set ?_ GEg.out) | exact HB.out | exact below_undrew HB.out))⟩⟩
  case round =>
    clear BKg HM HB
    obtain ⟨i, rfl, HI, HL, HE, BKg, HM, HB⟩ := hrel
    cases gk with
    | zero => exact absurd HI.out (by have := HL.out; omega)
    | succ k1 =>
      by_cases ci : i < l.length
      · have ci0 : decide ((i : Int) < (l.length : Int)) = true := decide_eq_true (by omega)
        obtain ⟨ad, A1, c1, eA, hx0, hx1, hxl0, hxC0⟩ := at_T25 HR.out (i : Int) (by omega) (by omega)
        cases eA
        simp only [Int.toNat_natCast] at hx0 hx1
        have hrd : rd_T25 l (i : Int) = l[i] := by
          unfold rd_T25
          rw [Int.toNat_natCast, List.getD_eq_getElem?_getD, List.getElem?_eq_getElem ci]
          rfl
        have hq0 := he l[i] (List.getElem_mem ci)
        rw [hrd] at hx0 hx1 hxl0 hxC0
        have hee : e l[i] = e l[i] := rfl
        generalize hti : l[i] = ti at hx0 hx1 hxl0 hxC0 hq0 hee
        obtain ⟨nm, cols⟩ := ti
        dsimp only at hx0 hx1 hxl0 hxC0 hq0
        generalize hqq : e ⟨nm, cols⟩ = q at hq0
        have hxl := Aside0.mk hxl0
        have hxC := Aside0.mk hxC0
        have hq := Aside0.mk hq0
        clear hxl0 hxC0 hq0 hee
        replace hx0 := (HB.out.cell (World.block_lt_of_cell? w _ hx0)).trans hx0
        replace hx1 := (HB.out.cell (World.block_lt_of_cell? w _ hx1)).trans hx1
        have p1 : (0 ≤ (i : Int)) = True := eq_true (by omega)
        have p2 : ((i : Int) < (l.length : Int)) = True := eq_true (by omega)
        cases q with
        | none =>
          try simp only [errW_none]
          go_wp2_with (first | ((with_reducible refine gate_dst (N := 6) rfl ?_); refine box_event ?hg (N := 6) ?hd (cs := #[.string (⟨#[]⟩ : ByteArray), .slice none 0 0]) (t := 25) ?hr ?_; (case hd => rfl); (case hg => rfl); (case hr => first | (go_simp; done) | (go_simp; rfl)); intro gt hg w2 hbox hb; have n0_ := Aside0.mk (below_step (by repeat (first | (with_reducible first | exact HB.out | apply below_alloc | apply pw_below_drewN | apply below_drew1 | refine below_set ?_ GEg.out) | exact HB.out | exact below_undrew HB.out)) hb); have n1_ := Aside0.mk (blk_below (g := g) (o := .cells #[.slice none 0 0, .map (some m)] 49 (0, 0)) (by (with_reducible repeat (first | refine blk_drewN ?_ _ | refine blk_drew ?_ | refine blk_alloc ?_ _)); exact BKg.out) hb); have n2_ := Aside0.mk (own_step HM.out (hb.block m (own_lt HM.out))); have GEt := Aside0.mk ((by rw [hg]; exact below_size (by repeat (first | (with_reducible first | exact HB.out | apply below_alloc | apply pw_below_drewN | apply below_drew1 | refine below_set ?_ GEg.out) | exact HB.out | exact below_undrew HB.out))) : w.heap.size ≤ gt); have NEt := Aside0.mk ((by rw [hg]; exact fun e_ => by have h_ := blk_lt BKg.out; omega) : g ≠ gt); have NEm := Aside0.mk ((by rw [hg]; exact fun e_ => by have h_ := own_lt HM.out; omega) : m ≠ gt); clear HB BKg HM; have HB := n0_; have BKg := n1_; have HM := n2_; have BKt := Aside0.mk hbox; clear n0_ n1_ n2_ hb hbox hg; have zw2_0 : w2.cell? ⟨gt, 0, none⟩ = some (.string (⟨#[]⟩ : ByteArray)) := (blk_cell BKt.out 0).trans rfl; have zw2_1 : w2.cell? ⟨gt, 1, none⟩ = some (.slice none 0 0) := (blk_cell BKt.out 1).trans rfl; have yw2_0 := blk_frozen BKt.out 0; have yw2_1 := blk_frozen BKt.out 1) | (go_at_call 14; refine (chk_none k nm A1 c1 cols _ (Kd.C_below hxC.out (by repeat (first | (with_reducible first | exact HB.out | apply below_alloc | apply pw_below_drewN | apply below_drew1 | refine below_set ?_ GEg.out | refine below_set ?_ GEt.out) | exact HB.out | exact below_undrew HB.out))) hxl.out (GE.below HG.out (by repeat (first | (with_reducible first | exact HB.out | apply below_alloc | apply pw_below_drewN | apply below_drew1 | refine below_set ?_ GEg.out | refine below_set ?_ GEt.out) | exact HB.out | exact below_undrew HB.out))) hq.out).mono ?_; rintro e w3 ⟨rfl, hb⟩; have n0_ := Aside0.mk (below_step (by repeat (first | (with_reducible first | exact HB.out | apply below_alloc | apply pw_below_drewN | apply below_drew1 | refine below_set ?_ GEg.out | refine below_set ?_ GEt.out) | exact HB.out | exact below_undrew HB.out)) hb); have n1_ := Aside0.mk (blk_below (g := g) (o := .cells #[.slice none 0 0, .map (some m)] 49 (0, 0)) (by (with_reducible repeat (first | refine blk_drewN ?_ _ | refine blk_drew ?_ | refine blk_alloc ?_ _)); refine blk_far ?_ NEt.out _; (with_reducible repeat (first | refine blk_drewN ?_ _ | refine blk_drew ?_ | refine blk_alloc ?_ _)); refine blk_far ?_ NEt.out _; (with_reducible repeat (first | refine blk_drewN ?_ _ | refine blk_drew ?_ | refine blk_alloc ?_ _)); exact BKg.out) hb); have n2_ := Aside0.mk (own_far HM.out NEm.out hb); clear HB BKg HM BKt zw2_0 zw2_1 yw2_0 yw2_1; have HB := n0_; have BKg := n1_; have HM := n2_; clear n0_ n1_ n2_ hb))
          go_roundg k1
          case measure => have := HI.out; omega
          case rel => exact ⟨i + 1, (by first | (simp [wrap64, IntKind.wrap]; done) | (simp [wrap64, IntKind.wrap]; omega)), ⟨by have := HI.out; omega⟩, ⟨by omega⟩, ⟨fun j h hj => by
            by_cases hji : j = i
            · subst hji; rw [hti]; exact hqq
            · exact HE.out j h (by omega)⟩, ⟨by (with_reducible repeat (first | refine blk_drewN ?_ _ | refine blk_drew ?_ | refine blk_alloc ?_ _)); exact BKg.out⟩, ⟨HM.out⟩, ⟨(by repeat (first | (with_reducible first | exact HB.out | apply below_alloc | apply pw_below_drewN | apply below_drew1 | refine below_set ?_ GEg.out | refine below_set ?_ GEt.out) | exact HB.out | exact below_undrew HB.out))⟩⟩
        | some x =>
          go_wp2_with (first | ((with_reducible refine gate_dst (N := 6) rfl ?_); refine box_event ?hg (N := 6) ?hd (cs := #[.string (⟨#[]⟩ : ByteArray), .slice none 0 0]) (t := 25) ?hr ?_; (case hd => rfl); (case hg => rfl); (case hr => first | (go_simp; done) | (go_simp; rfl)); intro gt hg w2 hbox hb; have n0_ := Aside0.mk (below_step (by repeat (first | (with_reducible first | exact HB.out | apply below_alloc | apply pw_below_drewN | apply below_drew1 | refine below_set ?_ GEg.out) | exact HB.out | exact below_undrew HB.out)) hb); have n1_ := Aside0.mk (blk_below (g := g) (o := .cells #[.slice none 0 0, .map (some m)] 49 (0, 0)) (by (with_reducible repeat (first | refine blk_drewN ?_ _ | refine blk_drew ?_ | refine blk_alloc ?_ _)); exact BKg.out) hb); have n2_ := Aside0.mk (own_step HM.out (hb.block m (own_lt HM.out))); have GEt := Aside0.mk ((by rw [hg]; exact below_size (by repeat (first | (with_reducible first | exact HB.out | apply below_alloc | apply pw_below_drewN | apply below_drew1 | refine below_set ?_ GEg.out) | exact HB.out | exact below_undrew HB.out))) : w.heap.size ≤ gt); have NEt := Aside0.mk ((by rw [hg]; exact fun e_ => by have h_ := blk_lt BKg.out; omega) : g ≠ gt); have NEm := Aside0.mk ((by rw [hg]; exact fun e_ => by have h_ := own_lt HM.out; omega) : m ≠ gt); clear HB BKg HM; have HB := n0_; have BKg := n1_; have HM := n2_; have BKt := Aside0.mk hbox; clear n0_ n1_ n2_ hb hbox hg; have zw2_0 : w2.cell? ⟨gt, 0, none⟩ = some (.string (⟨#[]⟩ : ByteArray)) := (blk_cell BKt.out 0).trans rfl; have zw2_1 : w2.cell? ⟨gt, 1, none⟩ = some (.slice none 0 0) := (blk_cell BKt.out 1).trans rfl; have yw2_0 := blk_frozen BKt.out 0; have yw2_1 := blk_frozen BKt.out 1) | (go_at_call 14; refine (chk_some k nm A1 c1 cols x _ (Kd.C_below hxC.out (by repeat (first | (with_reducible first | exact HB.out | apply below_alloc | apply pw_below_drewN | apply below_drew1 | refine below_set ?_ GEg.out | refine below_set ?_ GEt.out) | exact HB.out | exact below_undrew HB.out))) hxl.out (GE.below HG.out (by repeat (first | (with_reducible first | exact HB.out | apply below_alloc | apply pw_below_drewN | apply below_drew1 | refine below_set ?_ GEg.out | refine below_set ?_ GEt.out) | exact HB.out | exact below_undrew HB.out))) hq.out).mono ?_; rintro e w3 ⟨rfl, hb⟩; have n0_ := Aside0.mk (below_step (by repeat (first | (with_reducible first | exact HB.out | apply below_alloc | apply pw_below_drewN | apply below_drew1 | refine below_set ?_ GEg.out | refine below_set ?_ GEt.out) | exact HB.out | exact below_undrew HB.out)) hb); have n1_ := Aside0.mk (blk_below (g := g) (o := .cells #[.slice none 0 0, .map (some m)] 49 (0, 0)) (by (with_reducible repeat (first | refine blk_drewN ?_ _ | refine blk_drew ?_ | refine blk_alloc ?_ _)); refine blk_far ?_ NEt.out _; (with_reducible repeat (first | refine blk_drewN ?_ _ | refine blk_drew ?_ | refine blk_alloc ?_ _)); refine blk_far ?_ NEt.out _; (with_reducible repeat (first | refine blk_drewN ?_ _ | refine blk_drew ?_ | refine blk_alloc ?_ _)); exact BKg.out) hb); have n2_ := Aside0.mk (own_far HM.out NEm.out hb); clear HB BKg HM BKt zw2_0 zw2_1 yw2_0 yw2_1; have HB := n0_; have BKg := n1_; have HM := n2_; clear n0_ n1_ n2_ hb))
          go_ret2
          have hne : newE e l = some x := by
            unfold newE
            rw [firstE_at e x l i ci HE.out (by rw [hti]; exact hqq)]
          rw [hne, errW_some, catO_some hne]
          exact ⟨_, rfl, CatF_none _ _, (by repeat (first | (with_reducible first | exact HB.out | apply below_alloc | apply pw_below_drewN | apply below_drew1 | refine below_set ?_ GEg.out | refine below_set ?_ GEt.out) | exact HB.out | exact below_undrew HB.out))⟩
      · have hil : i = l.length := by have := HL.out; omega
        have ci0 : decide ((i : Int) < (l.length : Int)) = false := decide_eq_false (by omega)
        have hfst : firstE e l = none := firstE_none e l (fun j hj => HE.out j hj (by omega))
        have hall : ∀ t ∈ l, e t = none := fun t ht => by
          obtain ⟨j, hj, rfl⟩ := List.mem_iff_getElem.1 ht
          exact HE.out j hj (by omega)
        clear HE HI HL
        go_wp2
        go_loopg [33] (l.length + 1) (fun kq v33 w' => ∃ (i2 : Nat) (v0 : Value), v33 = .int .i64 i2 ∧ Aside0 (i2 + kq = l.length + 1) ∧ Aside0 (i2 ≤ l.length) ∧ Aside0 (dupP [] l = dupP (l.take i2) (l.drop i2)) ∧ Aside0 (w'.heap[g]? = some (.cells #[v0, .map (some m)] 49 (0, 0))) ∧ Aside0 (w'.ownsMap Tryd.prog 9 (plainElem (H := Unit) Tryd.prog 3) m i2 (catD (l.take i2))) ∧ Aside0 (Kd.S k25 25 w' w.heap.size (fun _ => True) v0 (l.take i2)) ∧ Aside0 (Below w.heap.size w w'))
        case atStart => exact ⟨0, .slice none 0 0, rfl, ⟨by omega⟩, ⟨by omega⟩, ⟨rfl⟩, ⟨BKg.out⟩, ⟨HM.out⟩, ⟨Kd.S_nil _ _ _ _ _⟩, ⟨HB.out⟩⟩
        case round =>
          clear BKg HM HB ci ci0 hil
          obtain ⟨i, v0, rfl, HI, HL, HD, BKg, HM, HS, HB⟩ := hrel
          cases gk with
          | zero => exact absurd HI.out (by have := HL.out; omega)
          | succ k2 =>
            by_cases ci : i < l.length
            · have ci0 : decide ((i : Int) < (l.length : Int)) = true := decide_eq_true (by omega)
              obtain ⟨ad, A1, c1, eA, hx0, hx1, hxl0, hxC0⟩ := at_T25 HR.out (i : Int) (by omega) (by omega)
              cases eA
              simp only [Int.toNat_natCast] at hx0 hx1
              have hrd : rd_T25 l (i : Int) = l[i] := by
                unfold rd_T25
                rw [Int.toNat_natCast, List.getD_eq_getElem?_getD, List.getElem?_eq_getElem ci]
                rfl
              have hgd := hgood l[i] (List.getElem_mem ci) (hall l[i] (List.getElem_mem ci))
              rw [hrd] at hx0 hx1 hxl0 hxC0
              have hdr := List.drop_eq_getElem_cons ci
              have htk : l.take (i + 1) = l.take i ++ [l[i]] := by rw [List.take_add_one, List.getElem?_eq_getElem ci]; rfl
              generalize hti : l[i] = ti at hx0 hx1 hxl0 hxC0 hgd hdr htk
              obtain ⟨nm, cols⟩ := ti
              dsimp only at hx0 hx1 hxl0 hxC0 hgd
              have hxl := Aside0.mk hxl0
              have hxC := Aside0.mk hxC0
              have hDR := Aside0.mk hdr
              have hTK := Aside0.mk htk
              clear hxl0 hxC0 hdr htk
              replace hx0 := (HB.out.cell (World.block_lt_of_cell? w _ hx0)).trans hx0
              replace hx1 := (HB.out.cell (World.block_lt_of_cell? w _ hx1)).trans hx1
              have p1 : (0 ≤ (i : Int)) = True := eq_true (by omega)
              have p2 : ((i : Int) < (l.length : Int)) = True := eq_true (by omega)
              have hkey : keyOf Tryd.prog 9 (.string nm) = some (key nm) := Go.WideMaps.keyOf_string_mk Tryd.underlying9 hgd.2.2
              obtain ⟨hcp1, hcp2⟩ := catD_pos (l.take i) nm
              cases hp : (pos (l.take i) nm).isSome with
              | true =>
                have hhas : Maps.has (catD (l.take i)) (key nm) = true := hcp1.trans hp
                clear hcp1 hcp2
                go_wp2_with (first | ((with_reducible refine gate_dst (N := 9) rfl ?_); refine box_event ?hg (N := 9) ?hd (cs := #[.string (⟨#[]⟩ : ByteArray), .slice none 0 0]) (t := 25) ?hr ?_; (case hd => rfl); (case hg => rfl); (case hr => first | (go_simp; done) | (go_simp; rfl)); intro gt hg w2 hbox hb; have n0_ := Aside0.mk (below_step (by repeat (first | (with_reducible first | exact HB.out | apply below_alloc | apply pw_below_drewN | apply below_drew1 | refine below_set ?_ GEg.out) | exact HB.out | exact below_undrew HB.out)) hb); have n1_ := Aside0.mk (blk_below (g := g) (o := .cells #[v0, .map (some m)] 49 (0, 0)) (by (with_reducible repeat (first | refine blk_drewN ?_ _ | refine blk_drew ?_ | refine blk_alloc ?_ _)); exact BKg.out) hb); have n2_ := Aside0.mk (own_step HM.out (hb.block m (own_lt HM.out))); have n3_ := Aside0.mk (Kd.S_below (Kd.S_elderB HS.out gt (by rw [hg]; exact Nat.le_refl _)) hb); have GEt := Aside0.mk ((by rw [hg]; exact below_size (by repeat (first | (with_reducible first | exact HB.out | apply below_alloc | apply pw_below_drewN | apply below_drew1 | refine below_set ?_ GEg.out) | exact HB.out | exact below_undrew HB.out))) : w.heap.size ≤ gt); have NEt := Aside0.mk ((by rw [hg]; exact fun e_ => by have h_ := blk_lt BKg.out; omega) : g ≠ gt); have NEm := Aside0.mk ((by rw [hg]; exact fun e_ => by have h_ := own_lt HM.out; omega) : m ≠ gt); clear HB BKg HM HS; have HB := n0_; have BKg := n1_; have HM := n2_; have HS := n3_; have BKt := Aside0.mk hbox; clear n0_ n1_ n2_ n3_ hb hbox hg; have zw2_0 : w2.cell? ⟨gt, 0, none⟩ = some (.string (⟨#[]⟩ : ByteArray)) := (blk_cell BKt.out 0).trans rfl; have zw2_1 : w2.cell? ⟨gt, 1, none⟩ = some (.slice none 0 0) := (blk_cell BKt.out 1).trans rfl; have yw2_0 := blk_frozen BKt.out 0; have yw2_1 := blk_frozen BKt.out 1))
                have B1 : ((w2.setCell ⟨gt, 0, none⟩ (.string nm)).setCell ⟨gt, 1, none⟩ (.slice A1 cols.length c1)).heap[gt]? = some (.cells #[.string nm, .slice A1 cols.length c1] 25 (0, 0)) := by
                  refine blk_put (cs := #[.string nm, .slice none 0 0]) ?_ 1 _ rfl
                  refine blk_put (cs := #[.string (⟨#[]⟩ : ByteArray), .slice none 0 0]) ?_ 0 _ rfl
                  exact BKt.out
                have B2 : ((w2.setCell ⟨gt, 0, none⟩ (.string nm)).setCell ⟨gt, 1, none⟩ (.slice A1 cols.length c1)).heap[g]? = some (.cells #[v0, .map (some m)] 49 (0, 0)) := by
                  refine blk_far ?_ NEt.out _
                  refine blk_far ?_ NEt.out _
                  exact BKg.out
                have B3 := (HM.out.setCell (a := ⟨gt, 0, none⟩) NEm.out (.string nm)).setCell (a := ⟨gt, 1, none⟩) NEm.out (.slice A1 cols.length c1)
                have B4 := Kd.S_far (p := ⟨gt, 1, none⟩) (Kd.S_far (p := ⟨gt, 0, none⟩) HS.out (fun _ hk => hk.2) (.string nm)) (fun _ hk => hk.2) (.slice A1 cols.length c1)
                have B5 : Below w.heap.size w ((w2.setCell ⟨gt, 0, none⟩ (.string nm)).setCell ⟨gt, 1, none⟩ (.slice A1 cols.length c1)) := below_set (below_set HB.out GEt.out) GEt.out
                clear zw2_0 zw2_1 yw2_0 yw2_1 BKt BKg HM HS HB
                generalize ((w2.setCell ⟨gt, 0, none⟩ (.string nm)).setCell ⟨gt, 1, none⟩ (.slice A1 cols.length c1)) = w3 at B1 B2 B3 B4 B5 ⊢
                have C1 : w3.drew.heap[gt]? = some (.cells #[.string nm, .slice A1 cols.length c1] 25 (0, 0)) := B1
                have C2 : w3.drew.heap[g]? = some (.cells #[v0, .map (some m)] 49 (0, 0)) := B2
                have C3 := B3.drew
                have C4 := Kd.S_drew B4
                have C5 := below_drew1 B5
                clear B1 B2 B3 B4 B5
                have zg1 : w3.drew.cell? ⟨g, 1, none⟩ = some (.map (some m)) := (blk_cell C2 1).trans rfl
                have zt0 : w3.drew.cell? ⟨gt, 0, none⟩ = some (.string nm) := (blk_cell C1 0).trans rfl
                obtain ⟨vv, ps, hlk, hvv⟩ := C3.look_ok law9 Tryd.underlying47 (zero3 _) (plainElem_int Tryd.underlying3 (by decide)) hkey
                obtain ⟨cc, rfl, hcc, hwc⟩ := plainElem_int_inv Tryd.underlying3 hvv
                rw [hhas] at hlk
                refine start_ (n := 12) (S := fun w' => w'.cell? ⟨g, 1, none⟩ = some (.map (some m)) ∧ w'.cell? ⟨gt, 0, none⟩ = some (.string nm) ∧ (Instr.lookup 47 (.map (some m)) (.string nm) true).run Tryd.prog w' = .ok (.tuple #[.int .i64 cc, .bool true]) w') (ds := []) #[false, false, false, false, false, false, false, false, false, false, false, false] (by kernel_rfl) rfl rfl ⟨zg1, zt0, hlk⟩ (fun hHeld => ?_)
                generalize w3.drew = w4 at C1 C2 C3 C4 C5 zg1 zt0 hlk hHeld ⊢
                refine pure_ (i := 0) (N := some 39) (v := ?_) (a' := ?_) #[true, false, false, false, false, false, false, false, false, false, false, false] rfl rfl (by kernel_rfl) (fun _ _ _ h => h) (Or.inl ⟨by rfl, ?_⟩) ?_ ?_
                rotate_left
                · intro w'
                  go_simp
                  with_reducible rfl
                rotate_left
                · simp only [Act.put, List.setIfInBounds_toArray, List.set_cons_zero, List.set_cons_succ, i64_w, i32_w]
                  rfl
                refine pure_ (i := 1) (N := some 40) (v := ?_) (a' := ?_) #[true, true, false, false, false, false, false, false, false, false, false, false] rfl rfl (by kernel_rfl) (fun _ _ _ h => h) (Or.inl ⟨by rfl, ?_⟩) ?_ ?_
                rotate_left
                · intro w'
                  go_simp
                  with_reducible rfl
                rotate_left
                · simp only [Act.put, List.setIfInBounds_toArray, List.set_cons_zero, List.set_cons_succ, i64_w, i32_w]
                  rfl
                refine pure_ (i := 2) (N := some 41) (v := ?_) (a' := ?_) #[true, true, true, false, false, false, false, false, false, false, false, false] rfl rfl (by kernel_rfl) (fun _ _ _ h => h) (Or.inl ⟨by rfl, ?_⟩) ?_ ?_
                rotate_left
                · intro w'
                  go_simp
                  with_reducible rfl
                rotate_left
                · simp only [Act.put, List.setIfInBounds_toArray, List.set_cons_zero, List.set_cons_succ, i64_w, i32_w]
                  rfl
                refine pure_ (i := 4) (N := some 43) (v := ?_) (a' := ?_) #[true, true, true, false, true, false, false, false, false, false, false, false] rfl rfl (by kernel_rfl) (fun _ _ _ h => h) (Or.inl ⟨by rfl, ?_⟩) ?_ ?_
                rotate_left
                · intro w'
                  go_simp
                  with_reducible rfl
                rotate_left
                · simp only [Act.put, List.setIfInBounds_toArray, List.set_cons_zero, List.set_cons_succ, i64_w, i32_w]
                  rfl
                refine take_ (i := 3) (N := some 42) (v := ?_) (a' := ?_) #[true, true, true, true, true, false, false, false, false, false, false, false] rfl rfl (by kernel_rfl) (fun _ _ _ h => h) (Or.inl ⟨by rfl, ?_⟩) hHeld ?_ ?_
                rotate_left
                · rintro w' ⟨s0, s1, s2⟩
                  go_simp
                  with_reducible rfl
                rotate_left
                · simp only [Act.put, List.setIfInBounds_toArray, List.set_cons_zero, List.set_cons_succ, i64_w, i32_w]
                  rfl
                refine take_ (i := 5) (N := some 44) (v := ?_) (a' := ?_) #[true, true, true, true, true, true, false, false, false, false, false, false] rfl rfl (by kernel_rfl) (fun _ _ _ h => h) (Or.inl ⟨by rfl, ?_⟩) hHeld ?_ ?_
                rotate_left
                · rintro w' ⟨s0, s1, s2⟩
                  go_simp
                  with_reducible rfl
                rotate_left
                · simp only [Act.put, List.setIfInBounds_toArray, List.set_cons_zero, List.set_cons_succ, i64_w, i32_w]
                  rfl
                refine take_ (i := 6) (N := some 45) (v := ?_) (a' := ?_) #[true, true, true, true, true, true, true, false, false, false, false, false] rfl rfl (by kernel_rfl) (fun _ _ _ h => h) (Or.inl ⟨by rfl, ?_⟩) hHeld ?_ ?_
                rotate_left
                · rintro w' ⟨s0, s1, s2⟩
                  go_simp
                  with_reducible rfl
                rotate_left
                · simp only [Act.put, List.setIfInBounds_toArray, List.set_cons_zero, List.set_cons_succ, i64_w, i32_w]
                  rfl
                refine pure_ (i := 7) (N := some 38) (v := ?_) (a' := ?_) #[true, true, true, true, true, true, true, true, false, false, false, false] rfl rfl (by kernel_rfl) (fun _ _ _ h => h) (Or.inl ⟨by rfl, ?_⟩) ?_ ?_
                rotate_left
                · intro w'
                  go_simp
                  with_reducible rfl
                rotate_left
                · simp only [Act.put, List.setIfInBounds_toArray, List.set_cons_zero, List.set_cons_succ, i64_w, i32_w]
                  rfl
                refine pure_ (i := 8) (N := some 46) (v := ?_) (a' := ?_) #[true, true, true, true, true, true, true, true, true, false, false, false] rfl rfl (by kernel_rfl) (fun _ _ _ h => h) (Or.inl ⟨by rfl, ?_⟩) ?_ ?_
                rotate_left
                · intro w'
                  go_simp
                  with_reducible rfl
                rotate_left
                · simp only [Act.put, List.setIfInBounds_toArray, List.set_cons_zero, List.set_cons_succ, i64_w, i32_w]
                  rfl
                refine pure_ (i := 9) (N := some 47) (v := ?_) (a' := ?_) #[true, true, true, true, true, true, true, true, true, true, false, false] rfl rfl (by kernel_rfl) (fun _ _ _ h => h) (Or.inl ⟨by rfl, ?_⟩) ?_ ?_
                rotate_left
                · intro w'
                  go_simp
                  with_reducible rfl
                rotate_left
                · simp only [Act.put, List.setIfInBounds_toArray, List.set_cons_zero, List.set_cons_succ, i64_w, i32_w]
                  rfl
                refine pure_ (i := 10) (N := some 10) (v := ?_) (a' := ?_) #[true, true, true, true, true, true, true, true, true, true, true, false] rfl rfl (by kernel_rfl) (fun _ _ _ h => h) (Or.inl ⟨by rfl, ?_⟩) ?_ ?_
                rotate_left
                · intro w'
                  go_simp
                  with_reducible rfl
                rotate_left
                · simp only [Act.put, List.setIfInBounds_toArray, List.set_cons_zero, List.set_cons_succ, i64_w, i32_w]
                  rfl
                refine pure_ (i := 11) (N := some 11) (v := ?_) (a' := ?_) #[true, true, true, true, true, true, true, true, true, true, true, true] rfl rfl (by kernel_rfl) (fun _ _ _ h => h) (Or.inl ⟨by rfl, ?_⟩) ?_ ?_
                rotate_left
                · intro w'
                  go_simp
                  with_reducible rfl
                rotate_left
                · simp only [Act.put, List.setIfInBounds_toArray, List.set_cons_zero, List.set_cons_succ, i64_w, i32_w]
                  rfl
                refine done_ (by kernel_rfl) ?_
                go_wp2
                go_ret2
                have hne : newE e l = some 9 := by
                  unfold newE
                  rw [hfst, HD.out, hDR.out]
                  unfold dupP
                  rw [hp]
                  rfl
                rw [hne, errW_some, catO_some hne]
                exact ⟨_, rfl, CatF_none _ _, C5⟩
              | false =>
                have hhas : Maps.has (catD (l.take i)) (key nm) = false := hcp1.trans hp
                clear hcp1 hcp2
                go_wp2_with (first | ((with_reducible refine gate_dst (N := 9) rfl ?_); refine box_event ?hg (N := 9) ?hd (cs := #[.string (⟨#[]⟩ : ByteArray), .slice none 0 0]) (t := 25) ?hr ?_; (case hd => rfl); (case hg => rfl); (case hr => first | (go_simp; done) | (go_simp; rfl)); intro gt hg w2 hbox hb; have n0_ := Aside0.mk (below_step (by repeat (first | (with_reducible first | exact HB.out | apply below_alloc | apply pw_below_drewN | apply below_drew1 | refine below_set ?_ GEg.out) | exact HB.out | exact below_undrew HB.out)) hb); have n1_ := Aside0.mk (blk_below (g := g) (o := .cells #[v0, .map (some m)] 49 (0, 0)) (by (with_reducible repeat (first | refine blk_drewN ?_ _ | refine blk_drew ?_ | refine blk_alloc ?_ _)); exact BKg.out) hb); have n2_ := Aside0.mk (own_step HM.out (hb.block m (own_lt HM.out))); have n3_ := Aside0.mk (Kd.S_below (Kd.S_elderB HS.out gt (by rw [hg]; exact Nat.le_refl _)) hb); have GEt := Aside0.mk ((by rw [hg]; exact below_size (by repeat (first | (with_reducible first | exact HB.out | apply below_alloc | apply pw_below_drewN | apply below_drew1 | refine below_set ?_ GEg.out) | exact HB.out | exact below_undrew HB.out))) : w.heap.size ≤ gt); have NEt := Aside0.mk ((by rw [hg]; exact fun e_ => by have h_ := blk_lt BKg.out; omega) : g ≠ gt); have NEm := Aside0.mk ((by rw [hg]; exact fun e_ => by have h_ := own_lt HM.out; omega) : m ≠ gt); clear HB BKg HM HS; have HB := n0_; have BKg := n1_; have HM := n2_; have HS := n3_; have BKt := Aside0.mk hbox; clear n0_ n1_ n2_ n3_ hb hbox hg; have zw2_0 : w2.cell? ⟨gt, 0, none⟩ = some (.string (⟨#[]⟩ : ByteArray)) := (blk_cell BKt.out 0).trans rfl; have zw2_1 : w2.cell? ⟨gt, 1, none⟩ = some (.slice none 0 0) := (blk_cell BKt.out 1).trans rfl; have yw2_0 := blk_frozen BKt.out 0; have yw2_1 := blk_frozen BKt.out 1))
                have B1 : ((w2.setCell ⟨gt, 0, none⟩ (.string nm)).setCell ⟨gt, 1, none⟩ (.slice A1 cols.length c1)).heap[gt]? = some (.cells #[.string nm, .slice A1 cols.length c1] 25 (0, 0)) := by
                  refine blk_put (cs := #[.string nm, .slice none 0 0]) ?_ 1 _ rfl
                  refine blk_put (cs := #[.string (⟨#[]⟩ : ByteArray), .slice none 0 0]) ?_ 0 _ rfl
                  exact BKt.out
                have B2 : ((w2.setCell ⟨gt, 0, none⟩ (.string nm)).setCell ⟨gt, 1, none⟩ (.slice A1 cols.length c1)).heap[g]? = some (.cells #[v0, .map (some m)] 49 (0, 0)) := by
                  refine blk_far ?_ NEt.out _
                  refine blk_far ?_ NEt.out _
                  exact BKg.out
                have B3 := (HM.out.setCell (a := ⟨gt, 0, none⟩) NEm.out (.string nm)).setCell (a := ⟨gt, 1, none⟩) NEm.out (.slice A1 cols.length c1)
                have B4 := Kd.S_far (p := ⟨gt, 1, none⟩) (Kd.S_far (p := ⟨gt, 0, none⟩) HS.out (fun _ hk => hk.2) (.string nm)) (fun _ hk => hk.2) (.slice A1 cols.length c1)
                have B5 : Below w.heap.size w ((w2.setCell ⟨gt, 0, none⟩ (.string nm)).setCell ⟨gt, 1, none⟩ (.slice A1 cols.length c1)) := below_set (below_set HB.out GEt.out) GEt.out
                clear zw2_0 zw2_1 yw2_0 yw2_1 BKt BKg HM HS HB
                generalize ((w2.setCell ⟨gt, 0, none⟩ (.string nm)).setCell ⟨gt, 1, none⟩ (.slice A1 cols.length c1)) = w3 at B1 B2 B3 B4 B5 ⊢
                have C1 : w3.drew.heap[gt]? = some (.cells #[.string nm, .slice A1 cols.length c1] 25 (0, 0)) := B1
                have C2 : w3.drew.heap[g]? = some (.cells #[v0, .map (some m)] 49 (0, 0)) := B2
                have C3 := B3.drew
                have C4 := Kd.S_drew B4
                have C5 := below_drew1 B5
                clear B1 B2 B3 B4 B5
                have zg1 : w3.drew.cell? ⟨g, 1, none⟩ = some (.map (some m)) := (blk_cell C2 1).trans rfl
                have zt0 : w3.drew.cell? ⟨gt, 0, none⟩ = some (.string nm) := (blk_cell C1 0).trans rfl
                obtain ⟨vv, ps, hlk, hvv⟩ := C3.look_ok law9 Tryd.underlying47 (zero3 _) (plainElem_int Tryd.underlying3 (by decide)) hkey
                obtain ⟨cc, rfl, hcc, hwc⟩ := plainElem_int_inv Tryd.underlying3 hvv
                rw [hhas] at hlk
                refine start_ (n := 12) (S := fun w' => w'.cell? ⟨g, 1, none⟩ = some (.map (some m)) ∧ w'.cell? ⟨gt, 0, none⟩ = some (.string nm) ∧ (Instr.lookup 47 (.map (some m)) (.string nm) true).run Tryd.prog w' = .ok (.tuple #[.int .i64 cc, .bool false]) w') (ds := []) #[false, false, false, false, false, false, false, false, false, false, false, false] (by kernel_rfl) rfl rfl ⟨zg1, zt0, hlk⟩ (fun hHeld => ?_)
                generalize w3.drew = w4 at C1 C2 C3 C4 C5 zg1 zt0 hlk hHeld ⊢
                refine pure_ (i := 0) (N := some 39) (v := ?_) (a' := ?_) #[true, false, false, false, false, false, false, false, false, false, false, false] rfl rfl (by kernel_rfl) (fun _ _ _ h => h) (Or.inl ⟨by rfl, ?_⟩) ?_ ?_
                rotate_left
                · intro w'
                  go_simp
                  with_reducible rfl
                rotate_left
                · simp only [Act.put, List.setIfInBounds_toArray, List.set_cons_zero, List.set_cons_succ, i64_w, i32_w]
                  rfl
                refine pure_ (i := 1) (N := some 40) (v := ?_) (a' := ?_) #[true, true, false, false, false, false, false, false, false, false, false, false] rfl rfl (by kernel_rfl) (fun _ _ _ h => h) (Or.inl ⟨by rfl, ?_⟩) ?_ ?_
                rotate_left
                · intro w'
                  go_simp
                  with_reducible rfl
                rotate_left
                · simp only [Act.put, List.setIfInBounds_toArray, List.set_cons_zero, List.set_cons_succ, i64_w, i32_w]
                  rfl
                refine pure_ (i := 2) (N := some 41) (v := ?_) (a' := ?_) #[true, true, true, false, false, false, false, false, false, false, false, false] rfl rfl (by kernel_rfl) (fun _ _ _ h => h) (Or.inl ⟨by rfl, ?_⟩) ?_ ?_
                rotate_left
                · intro w'
                  go_simp
                  with_reducible rfl
                rotate_left
                · simp only [Act.put, List.setIfInBounds_toArray, List.set_cons_zero, List.set_cons_succ, i64_w, i32_w]
                  rfl
                refine pure_ (i := 4) (N := some 43) (v := ?_) (a' := ?_) #[true, true, true, false, true, false, false, false, false, false, false, false] rfl rfl (by kernel_rfl) (fun _ _ _ h => h) (Or.inl ⟨by rfl, ?_⟩) ?_ ?_
                rotate_left
                · intro w'
                  go_simp
                  with_reducible rfl
                rotate_left
                · simp only [Act.put, List.setIfInBounds_toArray, List.set_cons_zero, List.set_cons_succ, i64_w, i32_w]
                  rfl
                refine take_ (i := 3) (N := some 42) (v := ?_) (a' := ?_) #[true, true, true, true, true, false, false, false, false, false, false, false] rfl rfl (by kernel_rfl) (fun _ _ _ h => h) (Or.inl ⟨by rfl, ?_⟩) hHeld ?_ ?_
                rotate_left
                · rintro w' ⟨s0, s1, s2⟩
                  go_simp
                  with_reducible rfl
                rotate_left
                · simp only [Act.put, List.setIfInBounds_toArray, List.set_cons_zero, List.set_cons_succ, i64_w, i32_w]
                  rfl
                refine take_ (i := 5) (N := some 44) (v := ?_) (a' := ?_) #[true, true, true, true, true, true, false, false, false, false, false, false] rfl rfl (by kernel_rfl) (fun _ _ _ h => h) (Or.inl ⟨by rfl, ?_⟩) hHeld ?_ ?_
                rotate_left
                · rintro w' ⟨s0, s1, s2⟩
                  go_simp
                  with_reducible rfl
                rotate_left
                · simp only [Act.put, List.setIfInBounds_toArray, List.set_cons_zero, List.set_cons_succ, i64_w, i32_w]
                  rfl
                refine take_ (i := 6) (N := some 45) (v := ?_) (a' := ?_) #[true, true, true, true, true, true, true, false, false, false, false, false] rfl rfl (by kernel_rfl) (fun _ _ _ h => h) (Or.inl ⟨by rfl, ?_⟩) hHeld ?_ ?_
                rotate_left
                · rintro w' ⟨s0, s1, s2⟩
                  go_simp
                  with_reducible rfl
                rotate_left
                · simp only [Act.put, List.setIfInBounds_toArray, List.set_cons_zero, List.set_cons_succ, i64_w, i32_w]
                  rfl
                refine pure_ (i := 7) (N := some 38) (v := ?_) (a' := ?_) #[true, true, true, true, true, true, true, true, false, false, false, false] rfl rfl (by kernel_rfl) (fun _ _ _ h => h) (Or.inl ⟨by rfl, ?_⟩) ?_ ?_
                rotate_left
                · intro w'
                  go_simp
                  with_reducible rfl
                rotate_left
                · simp only [Act.put, List.setIfInBounds_toArray, List.set_cons_zero, List.set_cons_succ, i64_w, i32_w]
                  rfl
                refine pure_ (i := 8) (N := some 46) (v := ?_) (a' := ?_) #[true, true, true, true, true, true, true, true, true, false, false, false] rfl rfl (by kernel_rfl) (fun _ _ _ h => h) (Or.inl ⟨by rfl, ?_⟩) ?_ ?_
                rotate_left
                · intro w'
                  go_simp
                  with_reducible rfl
                rotate_left
                · simp only [Act.put, List.setIfInBounds_toArray, List.set_cons_zero, List.set_cons_succ, i64_w, i32_w]
                  rfl
                refine pure_ (i := 9) (N := some 47) (v := ?_) (a' := ?_) #[true, true, true, true, true, true, true, true, true, true, false, false] rfl rfl (by kernel_rfl) (fun _ _ _ h => h) (Or.inl ⟨by rfl, ?_⟩) ?_ ?_
                rotate_left
                · intro w'
                  go_simp
                  with_reducible rfl
                rotate_left
                · simp only [Act.put, List.setIfInBounds_toArray, List.set_cons_zero, List.set_cons_succ, i64_w, i32_w]
                  rfl
                refine pure_ (i := 10) (N := some 10) (v := ?_) (a' := ?_) #[true, true, true, true, true, true, true, true, true, true, true, false] rfl rfl (by kernel_rfl) (fun _ _ _ h => h) (Or.inl ⟨by rfl, ?_⟩) ?_ ?_
                rotate_left
                · intro w'
                  go_simp
                  with_reducible rfl
                rotate_left
                · simp only [Act.put, List.setIfInBounds_toArray, List.set_cons_zero, List.set_cons_succ, i64_w, i32_w]
                  rfl
                refine pure_ (i := 11) (N := some 11) (v := ?_) (a' := ?_) #[true, true, true, true, true, true, true, true, true, true, true, true] rfl rfl (by kernel_rfl) (fun _ _ _ h => h) (Or.inl ⟨by rfl, ?_⟩) ?_ ?_
                rotate_left
                · intro w'
                  go_simp
                  with_reducible rfl
                rotate_left
                · simp only [Act.put, List.setIfInBounds_toArray, List.set_cons_zero, List.set_cons_succ, i64_w, i32_w]
                  rfl
                refine done_ (by kernel_rfl) ?_
                try go_wp2
                have D1 : w4.drew.heap[gt]? = some (.cells #[.string nm, .slice A1 cols.length c1] 25 (0, 0)) := C1
                have D2 : w4.drew.heap[g]? = some (.cells #[v0, .map (some m)] 49 (0, 0)) := C2
                have D3 := C3.drew
                have D4 := Kd.S_drew C4
                have D5 := below_drew1 C5
                clear C1 C2 C3 C4 C5 hlk zg1 zt0
                have zg1 : w4.drew.cell? ⟨g, 1, none⟩ = some (.map (some m)) := (blk_cell D2 1).trans rfl
                have zt0 : w4.drew.cell? ⟨gt, 0, none⟩ = some (.string nm) := (blk_cell D1 0).trans rfl
                obtain ⟨w6, hup, hown1, hgrow⟩ := D3.update law9 Tryd.underlying47 (by unfold maxLen; omega) hkey (val := .int .i64 (i : Int)) (plainElem_int Tryd.underlying3 (WalkArith.wf_i64 (by omega)))
                have NEm2 : some m ≠ (none : Option Nat) := by simp
                have hgm : g ≠ m := fun e_ => by subst e_; obtain ⟨es, ck, hm_, _⟩ := D3; rw [D2] at hm_; cases hm_
                have htm : gt ≠ m := fun e_ => by subst e_; obtain ⟨es, ck, hm_, _⟩ := D3; rw [D1] at hm_; cases hm_
                have E1 : w6.heap[gt]? = some (.cells #[.string nm, .slice A1 cols.length c1] 25 (0, 0)) := (hgrow.block gt (blk_lt D1) (fun e_ => htm (Option.some.inj e_))).trans D1
                have E2 : w6.heap[g]? = some (.cells #[v0, .map (some m)] 49 (0, 0)) := (hgrow.block g (blk_lt D2) (fun e_ => hgm (Option.some.inj e_))).trans D2
                have E4 := Kd.S_grown (Kd.S_bound D4) hgrow (fun k_ hk_ e_ => by
                  obtain ⟨es, ck, hm_, _⟩ := D3
                  obtain ⟨_, _, _, q_, _, cl_, hc_⟩ := hk_
                  rw [Option.some.inj e_, hm_] at hc_
                  cases hc_)
                have E5 := D5.grown hgrow D5.size (fun k_ hk_ => by rw [← Option.some.inj hk_]; exact GEm.out)
                have zg16 : w6.cell? ⟨g, 1, none⟩ = some (.map (some m)) := (blk_cell E2 1).trans rfl
                have zt06 : w6.cell? ⟨gt, 0, none⟩ = some (.string nm) := (blk_cell E1 0).trans rfl
                refine start_ (n := 8) (S := fun w' => w'.cell? ⟨g, 1, none⟩ = some (.map (some m)) ∧ w'.cell? ⟨gt, 0, none⟩ = some (.string nm)) (ds := []) #[false, false, false, false, false, false, false, false] (by kernel_rfl) rfl rfl ⟨zg1, zt0⟩ (fun hHeld => ?_)
                generalize w4.drew = w5 at D1 D2 D3 D4 D5 zg1 zt0 hup hgrow hHeld ⊢
                refine pure_ (i := 0) (N := some 50) (v := ?_) (a' := ?_) #[true, false, false, false, false, false, false, false] rfl rfl (by kernel_rfl) (fun _ _ _ h => h) (Or.inl ⟨by rfl, ?_⟩) ?_ ?_
                rotate_left
                · intro w'
                  go_simp
                  with_reducible rfl
                rotate_left
                · simp only [Act.put, List.setIfInBounds_toArray, List.set_cons_zero, List.set_cons_succ, i64_w, i32_w]
                  rfl
                refine pure_ (i := 1) (N := some 51) (v := ?_) (a' := ?_) #[true, true, false, false, false, false, false, false] rfl rfl (by kernel_rfl) (fun _ _ _ h => h) (Or.inl ⟨by rfl, ?_⟩) ?_ ?_
                rotate_left
                · intro w'
                  go_simp
                  with_reducible rfl
                rotate_left
                · simp only [Act.put, List.setIfInBounds_toArray, List.set_cons_zero, List.set_cons_succ, i64_w, i32_w]
                  rfl
                refine pure_ (i := 2) (N := some 52) (v := ?_) (a' := ?_) #[true, true, true, false, false, false, false, false] rfl rfl (by kernel_rfl) (fun _ _ _ h => h) (Or.inl ⟨by rfl, ?_⟩) ?_ ?_
                rotate_left
                · intro w'
                  go_simp
                  with_reducible rfl
                rotate_left
                · simp only [Act.put, List.setIfInBounds_toArray, List.set_cons_zero, List.set_cons_succ, i64_w, i32_w]
                  rfl
                refine pure_ (i := 4) (N := some 54) (v := ?_) (a' := ?_) #[true, true, true, false, true, false, false, false] rfl rfl (by kernel_rfl) (fun _ _ _ h => h) (Or.inl ⟨by rfl, ?_⟩) ?_ ?_
                rotate_left
                · intro w'
                  go_simp
                  with_reducible rfl
                rotate_left
                · simp only [Act.put, List.setIfInBounds_toArray, List.set_cons_zero, List.set_cons_succ, i64_w, i32_w]
                  rfl
                refine pure_ (i := 6) (N := some 56) (v := ?_) (a' := ?_) #[true, true, true, false, true, false, true, false] rfl rfl (by kernel_rfl) (fun _ _ _ h => h) (Or.inl ⟨by rfl, ?_⟩) ?_ ?_
                rotate_left
                · intro w'
                  go_simp
                  with_reducible rfl
                rotate_left
                · simp only [Act.put, List.setIfInBounds_toArray, List.set_cons_zero, List.set_cons_succ, i64_w, i32_w]
                  rfl
                refine take_ (i := 3) (N := some 53) (v := ?_) (a' := ?_) #[true, true, true, true, true, false, true, false] rfl rfl (by kernel_rfl) (fun _ _ _ h => h) (Or.inl ⟨by rfl, ?_⟩) hHeld ?_ ?_
                rotate_left
                · rintro w' ⟨s0, s1⟩
                  go_simp
                  with_reducible rfl
                rotate_left
                · simp only [Act.put, List.setIfInBounds_toArray, List.set_cons_zero, List.set_cons_succ, i64_w, i32_w]
                  rfl
                refine take_ (i := 5) (N := some 55) (v := ?_) (a' := ?_) #[true, true, true, true, true, true, true, false] rfl rfl (by kernel_rfl) (fun _ _ _ h => h) (Or.inl ⟨by rfl, ?_⟩) hHeld ?_ ?_
                rotate_left
                · rintro w' ⟨s0, s1⟩
                  go_simp
                  with_reducible rfl
                rotate_left
                · simp only [Act.put, List.setIfInBounds_toArray, List.set_cons_zero, List.set_cons_succ, i64_w, i32_w]
                  rfl
                refine one_ (i := 7) (N := none) #[true, true, true, true, true, true, true, true] rfl rfl (by kernel_rfl) (by decide) (fun K hK => ?_)
                refine skip_ (w1 := w6) (by rfl) rfl ?_ ?_
                · go_simp
                refine hK.out _ _ ⟨zg16, zt06⟩ (fun hHeld => ?_)
                clear hK K
                refine done_ (by kernel_rfl) ?_
                try go_wp2
                have E40 := Kd.S_mono E4 (ok' := fun k_ => True ∧ k_ ≠ gt) (fun k_ hk_ => hk_.1)
                have F1 : w6.drew.heap[gt]? = some (.cells #[.string nm, .slice A1 cols.length c1] 25 (0, 0)) := E1
                have F2 : w6.drew.heap[g]? = some (.cells #[v0, .map (some m)] 49 (0, 0)) := E2
                have F3 := hown1.drew
                have F4 := Kd.S_drew E40
                have F5 := below_drew1 E5
                clear E1 E2 E4 E40 E5 hown1 D1 D2 D3 D4 D5 hup hgrow zg1 zt0 zg16 zt06
                have yg0 : w6.drew.cell? ⟨g, 0, none⟩ = some v0 := (blk_cell F2 0).trans rfl
                have yt0 : w6.drew.cell? ⟨gt, 0, none⟩ = some (.string nm) := (blk_cell F1 0).trans rfl
                have yt1 : w6.drew.cell? ⟨gt, 1, none⟩ = some (.slice A1 cols.length c1) := (blk_cell F1 1).trans rfl
                have hownf : table_own.f nm cols = some (nm, cols) := by
                  unfold table_own.f api_Column.f
                  rw [if_pos ⟨hgd.1, hgd.2.1⟩]
                  rfl
                refine start_ (n := 12) (S := fun w' => w'.cell? ⟨g, 0, none⟩ = some v0 ∧ w'.cell? ⟨gt, 0, none⟩ = some (.string nm) ∧ w'.cell? ⟨gt, 1, none⟩ = some (.slice A1 cols.length c1)) (ds := [11]) #[false, false, false, false, false, false, false, false, false, false, false, false] (by kernel_rfl) rfl rfl ⟨yg0, yt0, yt1⟩ (fun hHeld => ?_)
                generalize w6.drew = w7 at F1 F2 F3 F4 F5 yg0 yt0 yt1 hHeld ⊢
                refine pure_ (i := 0) (N := some 57) (v := ?_) (a' := ?_) #[true, false, false, false, false, false, false, false, false, false, false, false] rfl rfl (by kernel_rfl) (fun _ _ _ h => h) (Or.inl ⟨by rfl, ?_⟩) ?_ ?_
                rotate_left
                · intro w'
                  go_simp
                  with_reducible rfl
                rotate_left
                · simp only [Act.put, List.setIfInBounds_toArray, List.set_cons_zero, List.set_cons_succ, i64_w, i32_w]
                  rfl
                refine pure_ (i := 1) (N := some 58) (v := ?_) (a' := ?_) #[true, true, false, false, false, false, false, false, false, false, false, false] rfl rfl (by kernel_rfl) (fun _ _ _ h => h) (Or.inl ⟨by rfl, ?_⟩) ?_ ?_
                rotate_left
                · intro w'
                  go_simp
                  with_reducible rfl
                rotate_left
                · simp only [Act.put, List.setIfInBounds_toArray, List.set_cons_zero, List.set_cons_succ, i64_w, i32_w]
                  rfl
                refine pure_ (i := 2) (N := some 59) (v := ?_) (a' := ?_) #[true, true, true, false, false, false, false, false, false, false, false, false] rfl rfl (by kernel_rfl) (fun _ _ _ h => h) (Or.inl ⟨by rfl, ?_⟩) ?_ ?_
                rotate_left
                · intro w'
                  go_simp
                  with_reducible rfl
                rotate_left
                · simp only [Act.put, List.setIfInBounds_toArray, List.set_cons_zero, List.set_cons_succ, i64_w, i32_w]
                  rfl
                refine pure_ (i := 3) (N := some 60) (v := ?_) (a' := ?_) #[true, true, true, true, false, false, false, false, false, false, false, false] rfl rfl (by kernel_rfl) (fun _ _ _ h => h) (Or.inl ⟨by rfl, ?_⟩) ?_ ?_
                rotate_left
                · intro w'
                  go_simp
                  with_reducible rfl
                rotate_left
                · simp only [Act.put, List.setIfInBounds_toArray, List.set_cons_zero, List.set_cons_succ, i64_w, i32_w]
                  rfl
                refine take_ (i := 4) (N := some 61) (v := ?_) (a' := ?_) #[true, true, true, true, true, false, false, false, false, false, false, false] rfl rfl (by kernel_rfl) (fun _ _ _ h => h) (Or.inl ⟨by rfl, ?_⟩) hHeld ?_ ?_
                rotate_left
                · rintro w' ⟨s0, s1, s2⟩
                  go_simp
                  with_reducible rfl
                rotate_left
                · simp only [Act.put, List.setIfInBounds_toArray, List.set_cons_zero, List.set_cons_succ, i64_w, i32_w]
                  rfl
                refine take_ (i := 5) (N := some 62) (v := ?_) (a' := ?_) #[true, true, true, true, true, true, false, false, false, false, false, false] rfl rfl (by kernel_rfl) (fun _ _ _ h => h) (Or.inl ⟨by rfl, ?_⟩) hHeld ?_ ?_
                rotate_left
                · rintro w' ⟨s0, s1, s2⟩
                  go_simp
                  with_reducible rfl
                rotate_left
                · simp only [Act.put, List.setIfInBounds_toArray, List.set_cons_zero, List.set_cons_succ, i64_w, i32_w]
                  rfl
                refine one_ (i := 6) (N := some 63) #[true, true, true, true, true, true, true, false, false, false, false, false] rfl rfl (by kernel_rfl) (by decide) (fun K hK => ?_)
                refine goes_ Tryd.func15 (by kernel_rfl) rfl #[.agg #[.string nm, .slice A1 cols.length c1]] (by rfl) rfl rfl (by (try simp only [List.map_toArray, List.map_cons, List.map_nil]); first | done | rfl) ?_
                refine (table_own.calls nm A1 c1 cols nm cols _ (Kd.C_below hxC.out F5) hxl.out hownf).mono ?_
                rintro e_ w8 ⟨v1, rfl, hR, hb⟩
                refine ⟨_, rfl, ?_⟩
                have G1 := blk_below F1 hb
                have G2 := blk_below F2 hb
                have G3 := own_step F3 (hb.block m (own_lt F3))
                have G4 := Kd.S_elder' F4 (Kd.R_base hR) hb
                have G6 := Kd.R_lower hR F5.size
                have G5 := below_step F5 hb
                obtain ⟨Ao, co, hvo⟩ := Kd.R_slice G6
                subst hvo
                clear F1 F2 F3 F4 F5 hR hb
                have yg08 : w8.cell? ⟨g, 0, none⟩ = some v0 := (blk_cell G2 0).trans rfl
                have yt08 : w8.cell? ⟨gt, 0, none⟩ = some (.string nm) := (blk_cell G1 0).trans rfl
                have yt18 : w8.cell? ⟨gt, 1, none⟩ = some (.slice A1 cols.length c1) := (blk_cell G1 1).trans rfl
                refine hK.out _ _ ⟨yg08, yt08, yt18⟩ (fun hHeld => ?_)
                clear hK K
                refine norm_ (a' := ?_) ?_ ?_
                rotate_left
                · show Act.put _ (some 63) _ = _
                  simp only [Act.put, List.setIfInBounds_toArray, List.set_cons_zero, List.set_cons_succ, i64_w, i32_w]
                  rfl
                refine one_ (i := 7) (N := some 64) #[true, true, true, true, true, true, true, true, false, false, false, false] rfl rfl (by kernel_rfl) (by decide) (fun K hK => ?_)
                refine value_ (w1 := ?_) (v := ?_) (by rfl) rfl ?_ ?_
                rotate_left 2
                · go_simp
                  constructor
                  · rfl
                  · rfl
                refine hK.out _ _ ⟨(World.cell?_alloc_lt _ _ _ (World.block_lt_of_cell? _ _ yg08)).trans yg08, (World.cell?_alloc_lt _ _ _ (World.block_lt_of_cell? _ _ yt08)).trans yt08, (World.cell?_alloc_lt _ _ _ (World.block_lt_of_cell? _ _ yt18)).trans yt18⟩ (fun hHeld => ?_)
                clear hK K
                refine norm_ (a' := ?_) ?_ ?_
                rotate_left
                · show Act.put _ (some 64) _ = _
                  simp only [Act.put, List.setIfInBounds_toArray, List.set_cons_zero, List.set_cons_succ, i64_w, i32_w]
                  rfl
                refine one_ (i := 8) (N := some 65) #[true, true, true, true, true, true, true, true, true, false, false, false] rfl rfl (by kernel_rfl) (by decide) (fun K hK => ?_)
                refine Kd.S_append_step k25 (w0 := w) w.heap.size (by rfl) (.tmp 61) (.tmp 64) 22 25 (.agg #[(.string ⟨#[]⟩), (.slice none 0 0)]) 40 rfl Tryd.underlying22 info25 rfl (by decide) (by omega) v0 (l.take i) (⟨nm, cols⟩ : T) [.string nm, .slice Ao cols.length co] (fun _ => True) (fun k_ => some k_ = (.slice Ao cols.length co : Value).ownBlock) rfl rfl ?aP ?aK ?aF ?aO ?aB ?aS ?aL ?_
                (case aP => exact k25_mkM _ _ _ (⟨nm, cols⟩ : T) (Kd.R_mono (Kd.R_tight rfl G6) (fun _ h_ => h_)))
                (case aK => exact fun k_ hk_ => (Kd.R_apart' G6 (Kd.S_typed G4) (by decide)).1 k_ hk_.symm)
                (case aF => exact fun _ _ => trivial)
                (case aO => exact Kd.S_mono G4 (fun k_ hk => ⟨trivial, fun e_ => hk.2 e_⟩))
                (case aB => exact G5)
                (case aS => exact G5.size)
                (case aL => have h_ : (l.take i).length ≤ 32 := (by rw [List.length_take]; omega); omega)
                intro v9 w9 ho hb9 hg9 hat
                obtain ⟨A9, c9, hv9⟩ := Kd.R_slice (Kd.S_R ho)
                rw [show (l.take i ++ [(⟨nm, cols⟩ : T)]).length = i + 1 by rw [List.length_append, List.length_take, List.length_singleton]; omega] at hv9
                subst hv9
                have H1 := (hg9.block gt (blk_lt G1) (fun e_ => (((Kd.S_R G4).1 gt e_.symm).1.2 rfl))).trans G1
                have H2 := (hg9.block g (blk_lt G2) (fun e_ => by obtain ⟨cl_, hc_⟩ := Kd.S_typed G4 g e_.symm; rw [G2] at hc_; cases hc_)).trans G2
                have H3 := own_step G3 (hg9.block m (own_lt G3) (fun e_ => by obtain ⟨cl_, hc_⟩ := Kd.S_typed G4 m e_.symm; obtain ⟨es, ck, hm_, _⟩ := G3; rw [hm_] at hc_; cases hc_))
                clear G1 G2 G3 G4 G5 G6 hg9 hat
                have yg09 : w9.cell? ⟨g, 0, none⟩ = some v0 := (blk_cell H2 0).trans rfl
                have yt09 : w9.cell? ⟨gt, 0, none⟩ = some (.string nm) := (blk_cell H1 0).trans rfl
                have yt19 : w9.cell? ⟨gt, 1, none⟩ = some (.slice A1 cols.length c1) := (blk_cell H1 1).trans rfl
                have yfg := blk_frozen H2 0
                refine hK.out _ _ ⟨yg09, yt09, yt19⟩ (fun hHeld => ?_)
                clear hK K
                refine norm_ (a' := ?_) ?_ ?_
                rotate_left
                · show Act.put _ (some 65) _ = _
                  simp only [Act.put, List.setIfInBounds_toArray, List.set_cons_zero, List.set_cons_succ, i64_w, i32_w]
                  rfl
                refine pure_ (i := 9) (N := some 66) (v := ?_) (a' := ?_) #[true, true, true, true, true, true, true, true, true, true, false, false] rfl rfl (by kernel_rfl) (fun _ _ _ h => h) (Or.inl ⟨by rfl, ?_⟩) ?_ ?_
                rotate_left
                · intro w'
                  go_simp
                  with_reducible rfl
                rotate_left
                · simp only [Act.put, List.setIfInBounds_toArray, List.set_cons_zero, List.set_cons_succ, i64_w, i32_w]
                  rfl
                refine pure_ (i := 10) (N := some 67) (v := ?_) (a' := ?_) #[true, true, true, true, true, true, true, true, true, true, true, false] rfl rfl (by kernel_rfl) (fun _ _ _ h => h) (Or.inl ⟨by rfl, ?_⟩) ?_ ?_
                rotate_left
                · intro w'
                  go_simp
                  with_reducible rfl
                rotate_left
                · simp only [Act.put, List.setIfInBounds_toArray, List.set_cons_zero, List.set_cons_succ, i64_w, i32_w]
                  rfl
                refine last_ (i := 11) (N := none) #[true, true, true, true, true, true, true, true, true, true, true, true] rfl rfl (by kernel_rfl) (by decide) (fun K hK => ?_)
                refine skip_ (w1 := ?_) (by rfl) rfl ?_ ?_
                rotate_left
                · go_simp
                  rfl
                refine hK.out _ _ ?_
                clear hK K
                refine done_ (by kernel_rfl) ?_
                try go_wp2
                go_roundg k2
                case measure => have := HI.out; omega
                case rel =>
                  refine ⟨i + 1, .slice A9 (i + 1) c9, (by first | (simp [wrap64, IntKind.wrap]; done) | (simp [wrap64, IntKind.wrap]; omega)), ⟨by have := HI.out; omega⟩, ⟨by omega⟩, ⟨?_⟩, ⟨blk_put (cs := #[v0, .map (some m)]) H2 0 _ rfl⟩, ⟨?_⟩, ⟨?_⟩, ⟨below_set hb9 GEg.out⟩⟩
                  · rw [HD.out, hDR.out, hTK.out]
                    show (if (pos (l.take i) nm).isSome = true then true else dupP (l.take i ++ [⟨nm, cols⟩]) (l.drop (i + 1))) = _
                    rw [hp, if_neg (by simp)]
                  · have hlt : (l.take i).length = i := by rw [List.length_take]; omega
                    have h_ := H3.setCell (a := ⟨g, 0, none⟩) (fun e_ => by
                      obtain ⟨es, ck, hm_, _⟩ := H3
                      rw [show m = g from e_, H2] at hm_
                      cases hm_) (.slice A9 (i + 1) c9)
                    rw [hTK.out, catD_snoc, hlt]
                    exact h_
                  · rw [hTK.out]
                    exact Kd.S_mono (Kd.S_far (p := ⟨g, 0, none⟩) (Kd.S_types ho H2 (by decide)) (fun _ hk => hk.2) _) (fun _ _ => trivial)
            · have hil : i = l.length := by have := HL.out; omega
              have ci0 : decide ((i : Int) < (l.length : Int)) = false := decide_eq_false (by omega)
              go_wp2
              go_ret2
              have hne : newE e l = none := by
                unfold newE
                rw [hfst, HD.out, List.drop_eq_nil_of_le (by omega)]
                rfl
              rw [hne, catO_none hne, errW_none]
              refine ⟨_, rfl, ?_, HB.out⟩
              have htk : l.take i = l := List.take_of_length_le (by omega)
              have HM2 := HM.out
              have HS2 := HS.out
              rw [htk] at HM2 HS2
              have HS3 := Kd.S_mono (Kd.S_bound HS2) (ok' := fun k_ => w.heap.size ≤ k_) (fun k_ hk => hk.2.1)
              obtain ⟨A', c', rfl, hcl, _⟩ := Kd.S_reads HS3
              have hF := Kd.S_F HS3
              intro W' hW'
              have hg' := (hW' g GEg.out (blk_lt BKg.out)).trans BKg.out
              exact ⟨g, A', c', m, i, rfl, (blk_cell hg' 0).trans rfl, (blk_cell hg' 1).trans rfl, hcl, hF W' (fun k hk hlt => hW' k hk hlt), own_step HM2 (hW' m GEm.out (own_lt HM2))⟩

end TcO
end Go.Proofs.YtkcbgnhgjlbmlaaDoor.XTc
