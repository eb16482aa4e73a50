/- The walk of the law TableCatalogs, where there is a catalog. -/
import Derived.Test.YtkcbgnhgjlbmlaaDoorXTcx9
import Derived.Test.YtkcbgnhgjlbmlaaDoorXTcx14
import Derived.Test.YtkcbgnhgjlbmlaaDoorXTcx15
import Derived.Test.YtkcbgnhgjlbmlaaDoorXTcx10
import Derived.Test.YtkcbgnhgjlbmlaaDoorXTcx2
import Derived.Test.YtkcbgnhgjlbmlaaDoorTcTcN
/- Rows of one's own whose elements' rows are written into: what stays of them; a catalog beside them. -/
namespace Go.Proofs.YtkcbgnhgjlbmlaaDoor.XTc
open Go.RowKit Go.Proofs.YtkcbgnhgjlbmlaaDoorW.PrintWords Go.Proofs.YtkcbgnhgjlbmlaaDoorW.PrintLast Go.Proofs.YtkcbgnhgjlbmlaaDoorW.PrintMore Go.Proofs.YtkcbgnhgjlbmlaaDoor.Str
set_option linter.unusedVariables false
set_option linter.unusedSimpArgs false
namespace TcO
/-- Rows that can be read, and the first cell of each written: all of their blocks lie from lo to hi. -/
def MineOk (W : World) (lo hi : Nat) (A : Option Addr) (l : List T) : Prop := ∀ j (h : j < l.length), ∃ b A1 c1, A = some ⟨b, 0, none⟩ ∧ lo ≤ b ∧ b < hi ∧ W.cell? ⟨b, j * 2 + 1, none⟩ = some (.slice A1 l[j].f1.length c1) ∧
  (0 < l[j].f1.length → ∃ b1, A1 = some ⟨b1, 0, none⟩ ∧ lo ≤ b1 ∧ b1 < hi ∧ b1 ≠ b ∧ (∃ u, W.cell? ⟨b1, 0, none⟩ = some u) ∧ W.frozen? ⟨b1, 0, none⟩ = false)
theorem mine_ok {W : World} {base : Nat} {ok : Nat → Prop} {A : Option Addr} {n c : Nat} {l : List T} (h : Kd.S k25 25 W base ok (.slice A n c) l) : MineOk W base W.heap.size A l := by
  intro j hj
  have hR := Kd.S_R h
  obtain ⟨b, cap, hv, hb1, hb2, _⟩ := Kd.R_form hR (by omega)
  injection hv with e1 e2 e3
  subst e1 e2 e3
  obtain ⟨cs, _, hM, hcc, _⟩ := Kd.R_elem hR z25 (j : Int) (by omega) (by omega)
  rw [Int.toNat_natCast] at hM hcc
  have hg : l.getD j z25 = l[j] := by rw [List.getD_eq_getElem?_getD, List.getElem?_eq_getElem hj]; rfl
  rw [hg] at hM
  obtain ⟨v1, rfl, hR1⟩ := k25_openM hM
  obtain ⟨A1, c1, rfl⟩ := Kd.R_slice hR1
  refine ⟨b, A1, c1, rfl, hb1, hb2, hcc 1 _ rfl, fun hp => ?_⟩
  obtain ⟨b1, cap1, hv1, h1, h2, _⟩ := Kd.R_form hR1 hp
  injection hv1 with e1 e2 e3
  subst e1
  obtain ⟨cs1, hl1, _, hcc1, hfr1⟩ := Kd.R_elem hR1 z39 0 (by omega) (by omega)
  refine ⟨b1, rfl, h1, h2, ?_, ⟨_, hcc1 0 _ (List.getElem?_eq_getElem (by rw [hl1]; decide))⟩, hfr1 0⟩
  intro e
  have h3 := (hR1.1 b1 rfl).2
  exact h3 e
theorem MineOk.step {W W1 : World} {lo hi : Nat} {A : Option Addr} {l : List T} (h : MineOk W lo hi A l) (hb : ∀ k, k < hi → W1.heap[k]? = W.heap[k]?) : MineOk W1 lo hi A l := by
  intro j hj
  obtain ⟨b, A1, c1, rfl, h1, h2, h3, h4⟩ := h j hj
  refine ⟨b, A1, c1, rfl, h1, h2, by simpa [World.cell?, hb b h2] using h3, fun hp => ?_⟩
  obtain ⟨b1, rfl, g1, g2, g3, ⟨u, g4⟩, g5⟩ := h4 hp
  exact ⟨b1, rfl, g1, g2, g3, ⟨u, by simpa [World.cell?, hb b1 g2] using g4⟩, by simpa [World.frozen?, hb b1 g2] using g5⟩
theorem MineOk.store {W : World} {lo hi : Nat} {b b1 : Nat} {l : List T} (h : MineOk W lo hi (some ⟨b, 0, none⟩) l) (hne : b1 ≠ b) (v : Value) : MineOk (W.setCell ⟨b1, 0, none⟩ v) lo hi (some ⟨b, 0, none⟩) l := by
  intro j hj
  obtain ⟨b', A1, c1, hA, h1, h2, h3, h4⟩ := h j hj
  obtain rfl : b = b' := by injection hA with hA; injection hA
  refine ⟨b, A1, c1, rfl, h1, h2, (World.cell?_setCell_other _ _ _ _ (by intro e; injection e with e _; exact hne e)).trans h3, fun hp => ?_⟩
  obtain ⟨b2, rfl, g1, g2, g3, ⟨u, g4⟩, g5⟩ := h4 hp
  refine ⟨b2, rfl, g1, g2, g3, ?_, by simpa using g5⟩
  by_cases e : b2 = b1
  · subst e
    exact ⟨v, World.cell?_setCell_same _ _ _ g4⟩
  · exact ⟨u, (World.cell?_setCell_other _ _ _ _ (by intro e2; injection e2 with e2 _; exact e e2.symm)).trans g4⟩
/-- The catalog as it stands, where its own blocks are as they were. -/
theorem CatF.now {W W1 : World} {ok : Nat → Prop} {v : Value} {o : Option (List T)} (h : CatF W ok v o) (hb : ∀ k, ok k → k < W.heap.size → W1.heap[k]? = W.heap[k]?) : CatNow W1 v o := h W1 hb
end TcO
end Go.Proofs.YtkcbgnhgjlbmlaaDoor.XTc
/- What the law's second half calls: a catalog's Find and Table as the law asks them; a row whose cells are written over. -/
namespace Go.Proofs.YtkcbgnhgjlbmlaaDoor.XTc
open Go.RowKit Go.Proofs.YtkcbgnhgjlbmlaaDoorW.PrintWords Go.Proofs.YtkcbgnhgjlbmlaaDoorW.PrintLast Go.Proofs.YtkcbgnhgjlbmlaaDoorW.PrintMore Go.Proofs.YtkcbgnhgjlbmlaaDoor.Str
set_option linter.unusedVariables false
set_option linter.unusedSimpArgs false
namespace TcO
/-- Find and then num. -/
theorem find_ev (l : List T) (name : ByteArray) (hnm : name.size ≤ maxLen) (nF hF0 : Int) (hFP : findP (some l) name = (nF, if hF0 = 0 then none else some hF0)) (v : Value) :
    ∃ ev : Value, (∀ W, CatNow W v (some l) → Calls Tryd.prog 7 #[v, .string name] W fun e w' => e = .returned (.tuple #[.int .i64 nF, ev]) ∧ w' = W) ∧ (∀ W, GE W → Calls Tryd.prog 8 #[ev] W fun e w' => e = .returned (.int .i64 hF0) ∧ Below W.heap.size W w') := by
  refine ⟨errW (if hF0 = 0 then none else some hF0), fun W h => ?_, fun W hG => ?_⟩
  · have := find_calls v (some l) name hnm W h
    rw [hFP] at this
    exact this
  · refine barbicanlaw15_num.calls (if hF0 = 0 then none else some hF0) hF0 W hG ?_
    unfold barbicanlaw15_num.f
    by_cases h : hF0 = 0
    · rw [if_pos h, h]; rfl
    · rw [if_neg h]; rfl
theorem len_l (l : List T) (v : Value) (w : World) (h : CatNow w v (some l)) : Calls Tryd.prog 9 #[v] w fun e w' => e = .returned (.int .i64 (l.length : Int)) ∧ w' = w := len_calls v (some l) w h
/-- A number out of range. -/
theorem table_out (v : Value) (l : List T) (i : Int) (hi : i < 0 ∨ (l.length : Int) ≤ i) (w : World) (h0 : CatNow w v (some l)) :
    Calls Tryd.prog 12 #[v, .int .i64 i] w fun e w' => ∃ A1 c1, e = .returned (.tuple #[.agg #[.string (⟨#[]⟩ : ByteArray), .slice A1 0 c1], .iface 46 (.int .i64 1)]) ∧ Kd.C k39 w' A1 ([] : List S39).length [] ∧ Below w.heap.size w w' := by
  have hh : Calls Tryd.prog 12 #[v, .int .i64 i] w fun e w' => ∃ v1 : Value, e = .returned (.tuple #[.agg #[.string (⟨#[]⟩ : ByteArray), v1], errW (some 1)]) ∧ Kd.R k39 39 w' w.heap.size (fun _ => True) v1 [] ∧ Below w.heap.size w w' := by
    by_cases h : i < 0
    · exact table_low v i h w
    · exact table_high v (some l) i h (by show i ≥ (l.length : Int); omega) w h0
  refine hh.mono ?_
  rintro e w' ⟨v1, rfl, hR, hb⟩
  obtain ⟨A, c, rfl, hl, hC⟩ := Kd.R_reads hR
  exact ⟨A, c, by rw [errW_some]; rfl, hC, hb⟩
/-- Cells that can be written. -/
def RowOk (W : World) (b n : Nat) : Prop := ∀ q, q < n * 4 → (∃ u, W.cell? ⟨b, q, none⟩ = some u) ∧ W.frozen? ⟨b, q, none⟩ = false
theorem RowOk.step {W W1 : World} {b n : Nat} (h : RowOk W b n) (hb : W1.heap[b]? = W.heap[b]?) : RowOk W1 b n := by
  intro q hq
  obtain ⟨⟨u, h1⟩, h2⟩ := h q hq
  exact ⟨⟨u, by simpa [World.cell?, hb] using h1⟩, by simpa [World.frozen?, hb] using h2⟩
theorem RowOk.store {W : World} {b n : Nat} (h : RowOk W b n) (p : Nat) (v : Value) : RowOk (W.setCell ⟨b, p, none⟩ v) b n := by
  intro q hq
  obtain ⟨⟨u, h1⟩, h2⟩ := h q hq
  refine ⟨?_, by simpa using h2⟩
  by_cases e : q = p
  · subst e
    exact ⟨v, World.cell?_setCell_same _ _ _ h1⟩
  · exact ⟨u, (World.cell?_setCell_other _ _ _ _ (by intro e2; injection e2 with _ e2; exact e e2.symm)).trans h1⟩
/-- A row of one's own, or none: its block lies from lo to hi. -/
def RowB (W : World) (lo hi : Nat) (A : Option Addr) (n : Nat) : Prop := 0 < n → ∃ b, A = some ⟨b, 0, none⟩ ∧ lo ≤ b ∧ b < hi ∧ RowOk W b n
theorem rowB {W : World} {base : Nat} {ok : Nat → Prop} {A : Option Addr} {c : Nat} {cs : List S39} (h : Kd.R k39 39 W base ok (.slice A cs.length c) cs) : RowB W base W.heap.size A cs.length := by
  intro hp
  obtain ⟨b, cap, hv, h1, h2, _⟩ := Kd.R_form h hp
  injection hv with e1 e2 e3
  subst e1
  refine ⟨b, rfl, h1, h2, fun q hq => ?_⟩
  obtain ⟨cs1, hl1, hM, hcc, hfr⟩ := Kd.R_elem h z39 ((q / 4 : Nat) : Int) (by omega) (by omega)
  have hs : k39.sz = 4 := by decide
  rw [Int.toNat_natCast, hs] at hcc hfr
  have hq4 : q / 4 * 4 + q % 4 = q := by omega
  have h3 := hcc (q % 4) _ (List.getElem?_eq_getElem (by rw [hl1, hs]; omega))
  rw [hq4] at h3
  have h4 := hfr (q % 4)
  rw [hq4] at h4
  exact ⟨⟨_, h3⟩, h4⟩
theorem RowB.step {W W1 : World} {lo hi : Nat} {A : Option Addr} {n : Nat} (h : RowB W lo hi A n) (hb : ∀ k, k < hi → W1.heap[k]? = W.heap[k]?) : RowB W1 lo hi A n := by
  intro hp
  obtain ⟨b, rfl, h1, h2, h3⟩ := h hp
  exact ⟨b, rfl, h1, h2, h3.step (hb b h2)⟩
theorem RowB.store {W : World} {lo hi b : Nat} {n : Nat} (h : RowB W lo hi (some ⟨b, 0, none⟩) n) (p : Nat) (v : Value) : RowB (W.setCell ⟨b, p, none⟩ v) lo hi (some ⟨b, 0, none⟩) n := by
  intro hp
  obtain ⟨b', e, h1, h2, h3⟩ := h hp
  obtain rfl : b = b' := by injection e with e; injection e
  exact ⟨b, rfl, h1, h2, h3.store p v⟩
/-- A number in range. -/
theorem table_in (v : Value) (l : List T) (i : Int) (hi0 : 0 ≤ i) (hil : i < l.length) (nm : ByteArray) (cols : List S39) (ht : rd_T25 l i = ⟨nm, cols⟩) (hg : cols ≠ [] ∧ cols.length < 4398046511104) (w : World) (h0 : CatNow w v (some l)) :
    Calls Tryd.prog 12 #[v, .int .i64 i] w fun e w' => ∃ Ao co, e = .returned (.tuple #[.agg #[.string nm, .slice Ao cols.length co], .nilIface]) ∧ cols.length ≤ co ∧ Kd.C k39 w' Ao cols.length cols ∧ RowB w' w.heap.size w'.heap.size Ao cols.length ∧ Below w.heap.size w w' := by
  obtain ⟨g, A, c, m, n, rfl, h1, h2, hl, hC, hown⟩ := h0
  refine (table_some g A c l i hi0 hil w h1 hC nm cols ?_).mono ?_
  · rw [ht]
    unfold table_own.f api_Column.f
    rw [if_pos hg]
    rfl
  · rintro e w' ⟨v1, rfl, hR, hb⟩
    obtain ⟨Ao, co, rfl, hlo, hCo⟩ := Kd.R_reads hR
    exact ⟨Ao, co, by rw [errW_none], hlo, hCo, rowB hR, hb⟩
/-- Same of one and the same, and of none. -/
theorem same_self (k : Nat) (r : Bool) (nm : ByteArray) (A1 A2 : Option Addr) (c1 c2 : Nat) (cols : List S39) (hs : barbicanref15_Same.f k nm cols nm cols = some r) (w : World) (h1 : Kd.C k39 w A1 cols.length cols) (hc1 : cols.length ≤ c1) (h2 : Kd.C k39 w A2 cols.length cols) (hc2 : cols.length ≤ c2) :
    Calls Tryd.prog 13 #[.agg #[.string nm, .slice A1 cols.length c1], .agg #[.string nm, .slice A2 cols.length c2]] w fun e w' => e = .returned (.bool r) ∧ Below w.heap.size w w' :=
  barbicanref15_Same.calls k nm A1 c1 cols nm A2 c2 cols r w h1 hc1 h2 hc2 hs
end TcO
end Go.Proofs.YtkcbgnhgjlbmlaaDoor.XTc
/- The walk of the law TableCatalogs. -/
namespace Go.Proofs.YtkcbgnhgjlbmlaaDoor.XTc
open Go.RowKit Go.Proofs.YtkcbgnhgjlbmlaaDoorW.PrintWords Go.Proofs.YtkcbgnhgjlbmlaaDoorW.PrintLast Go.Proofs.YtkcbgnhgjlbmlaaDoorW.PrintMore Go.Proofs.YtkcbgnhgjlbmlaaDoor.Str
open Go.Maps (Keyed IsMap)
attribute [local go_sem] str_gtr str_leq str_geq max2_int min2_int max_two min_two max_three min_three max_four min_four   -- for this text's walks alone
set_option linter.unusedVariables false
set_option linter.unusedSimpArgs false
set_option linter.unnecessarySimpa false
namespace TcO
/-- What comes of tables, however many. -/
def newF (e : T → Option Int) (l : List T) : Option Int := if 32 < l.length then some 2 else newE e l
theorem new_err (k : Nat) (e : T → Option Int) (A : Option Addr) (c : Nat) (l : List T) (x : Int) (he : ∀ t ∈ l, table_Check.f k t.f0 t.f1 = some (e t)) (hgood : ∀ t ∈ l, e t = none → t.f1 ≠ [] ∧ t.f1.length < 4398046511104 ∧ t.f0.size ≤ maxLen) (hx : newF e l = some x) (w : World) (hr : Kd.C k25 w A l.length l) (hc : l.length ≤ c) (hG : GE w) :
    Calls Tryd.prog 5 #[.slice A l.length c] w fun er w' => er = .returned (.tuple #[.pointer none, errW (some x)]) ∧ Below w.heap.size w w' := by
  unfold newF at hx
  by_cases h : 32 < l.length
  · rw [if_pos h] at hx
    obtain rfl := Option.some.inj hx
    exact (new_long A l.length c h w).mono fun _ _ ⟨h1, h2⟩ => ⟨h1, h2 ▸ Below.refl _ _⟩
  · rw [if_neg h] at hx
    refine (new_short k e A c l he (by omega) w hgood hr hc hG).mono ?_
    rintro er w' ⟨v, rfl, hf, hb⟩
    rw [catO_some hx] at hf
    have hv : v = .pointer none := hf w' (fun _ _ _ => rfl)
    rw [hx, hv]
    exact ⟨rfl, hb⟩
theorem new_ok (k : Nat) (e : T → Option Int) (A : Option Addr) (c : Nat) (l : List T) (he : ∀ t ∈ l, table_Check.f k t.f0 t.f1 = some (e t)) (hgood : ∀ t ∈ l, e t = none → t.f1 ≠ [] ∧ t.f1.length < 4398046511104 ∧ t.f0.size ≤ maxLen) (hx : newF e l = none) (w : World) (hr : Kd.C k25 w A l.length l) (hc : l.length ≤ c) (hG : GE w) :
    Calls Tryd.prog 5 #[.slice A l.length c] w fun er w' => ∃ g, er = .returned (.tuple #[.pointer (some ⟨g, 0, none⟩), .nilIface]) ∧ CatF w' (fun k_ => w.heap.size ≤ k_) (.pointer (some ⟨g, 0, none⟩)) (some l) ∧ Below w.heap.size w w' := by
  unfold newF at hx
  by_cases h : 32 < l.length
  · rw [if_pos h] at hx
    cases hx
  · rw [if_neg h] at hx
    refine (new_short k e A c l he (by omega) w hgood hr hc hG).mono ?_
    rintro er w' ⟨v, rfl, hf, hb⟩
    rw [catO_none hx] at hf
    obtain ⟨g, A1, c1, m, n, hv, _⟩ := hf w' (fun _ _ _ => rfl)
    subst hv
    rw [hx]
    exact ⟨g, rfl, hf, hb⟩
theorem num_some (x : Int) (w : World) (hG : GE w) : Calls Tryd.prog 8 #[.iface 46 (.int .i64 x)] w fun e w' => e = .returned (.int .i64 x) ∧ Below w.heap.size w w' := barbicanlaw15_num.calls (some x) x w hG rfl
theorem num_none (w : World) (hG : GE w) : Calls Tryd.prog 8 #[.nilIface] w fun e w' => e = .returned (.int .i64 0) ∧ Below w.heap.size w w' := barbicanlaw15_num.calls none 0 w hG rfl
set_option maxHeartbeats 8000000 in
set_option maxRecDepth 100000 in
theorem law_err (k : Nat) (e : T → Option Int) (A : Option Addr) (c : Nat) (l : List T) (name : ByteArray) (ix : Int) (fR : Int) (hlen : l.length ≤ 1048576) (htwin : ∀ t ∈ l, t.f1.length < 4398046511104)
    (he : ∀ t ∈ l, table_Check.f k t.f0 t.f1 = some (e t)) (hgood : ∀ t ∈ l, e t = none → t.f1 ≠ [] ∧ t.f1.length < 4398046511104 ∧ t.f0.size ≤ maxLen) (hfR : barbicanref15_New.f k l = some fR) (hx : newF e l = some fR) (hx0 : fR ≠ 0) (hsure : barbicanlaw15_sure.f k = some true)
    (w : World) (hr : Kd.C k25 w A l.length l) (hc : l.length ≤ c) (hG : GE w) :
    Calls Tryd.prog 3 #[.slice A l.length c, .string name, .int .i64 ix] w fun er w' => er = .returned (.bool true) ∧ Below w.heap.size w w' := by
  have hu := Tryd.underlying25
  have hu2 := Tryd.underlying49
  have hu3 := Tryd.underlying29
  have HR := Aside0.mk hr
  have HG := Aside0.mk hG
  have HB := Aside0.mk (Below.refl w.heap.size w)
  clear hr hG
  go_enter Tryd.func3, Tryd.ntmps3
  go_wp2
  go_loopg [7, 8] (l.length + 1) (fun kq v7 v8 w' => ∃ (i : Nat), v8 = .int .i64 i ∧ Aside0 (i + kq = l.length + 1) ∧ Aside0 (i ≤ l.length) ∧ Aside0 (Kd.S k25 25 w' w.heap.size (fun _ => True) v7 (l.take i)) ∧ Aside0 (Below w.heap.size w w'))
  case atStart => exact ⟨0, rfl, ⟨by omega⟩, ⟨by omega⟩, ⟨Kd.S_nil _ _ _ _ _⟩, ⟨HB.out⟩⟩
  case round =>
    clear HB
    obtain ⟨i, rfl, HI, HL, HS, HB⟩ := hrel
    cases gk with
    | zero => exact absurd HI.out (by have := HL.out; omega)
    | succ k1 =>
      by_cases ci : i < l.length
      · have ci0 : decide ((i : Int) < (l.length : Int)) = true := decide_eq_true (by omega)
        obtain ⟨ad, A1, c1, eA, hx0, hx1, hxl0, hxC0⟩ := at_T25 HR.out (i : Int) (by omega) (by omega)
        cases eA
        simp only [Int.toNat_natCast] at hx0 hx1
        have hrd : rd_T25 l (i : Int) = l[i] := by
          unfold rd_T25
          rw [Int.toNat_natCast, List.getD_eq_getElem?_getD, List.getElem?_eq_getElem ci]
          rfl
        have ht0 := htwin l[i] (List.getElem_mem ci)
        have htk : l.take (i + 1) = l.take i ++ [l[i]] := by rw [List.take_add_one, List.getElem?_eq_getElem ci]; rfl
        rw [hrd] at hx0 hx1 hxl0 hxC0
        generalize hti : l[i] = ti at hx0 hx1 hxl0 hxC0 ht0 htk
        obtain ⟨nm, cols⟩ := ti
        dsimp only at hx0 hx1 hxl0 hxC0 ht0
        have hxl := Aside0.mk hxl0
        have hxC := Aside0.mk hxC0
        have hTK := Aside0.mk htk
        have htw : Aside0 (barbicanlaw15_twin.f nm cols = some (nm, cols)) := ⟨by unfold barbicanlaw15_twin.f; rw [if_pos (by simpa using ht0)]; rfl⟩
        clear hxl0 hxC0 htk
        replace hx0 := (HB.out.cell (World.block_lt_of_cell? w _ hx0)).trans hx0
        replace hx1 := (HB.out.cell (World.block_lt_of_cell? w _ hx1)).trans hx1
        have p1 : (0 ≤ (i : Int)) = True := eq_true (by omega)
        have p2 : ((i : Int) < (l.length : Int)) = True := eq_true (by omega)
        go_wp2_with (first | (go_at_call 4; refine (barbicanlaw15_twin.calls nm A1 c1 cols nm cols _ (Kd.C_below hxC.out (by repeat (first | (with_reducible first | exact HB.out | apply below_alloc | apply pw_below_drewN | apply below_drew1) | exact HB.out | exact below_undrew HB.out))) hxl.out htw.out).mono ?_; rintro er w2 ⟨v1, rfl, hR, hb⟩; obtain ⟨Ao, co, hvo⟩ := Kd.R_slice hR; subst hvo; have n0_ := Aside0.mk (Kd.S_elder' HS.out (Kd.R_base hR) hb); have n1_ := Aside0.mk (Kd.R_lower hR (below_size (by repeat (first | (with_reducible first | exact HB.out | apply below_alloc | apply pw_below_drewN | apply below_drew1) | exact HB.out | exact below_undrew HB.out)))); have n2_ := Aside0.mk (below_step (by repeat (first | (with_reducible first | exact HB.out | apply below_alloc | apply pw_below_drewN | apply below_drew1) | exact HB.out | exact below_undrew HB.out)) hb); clear HS HB; have HS := n0_; have HV := n1_; have HB := n2_; clear n0_ n1_ n2_ hb hR) | ((with_reducible refine gate_builtin (b := .append) (xs := #[.tmp 29, .tmp 35]) rfl ?_); at_builtin; refine Kd.S_append k25 (w0 := w) w.heap.size rfl (.tmp 29) (.tmp 35) 22 25 (.agg #[(.string ⟨#[]⟩), (.slice none 0 0)]) 40 rfl Tryd.underlying22 info25 rfl (by decide) (by omega) u7 (l.take i) (⟨nm, cols⟩ : T) [.string nm, .slice Ao cols.length co] (fun _ => True) (fun k_ => some k_ = (.slice Ao cols.length co : Value).ownBlock) rfl rfl ?aP ?aK ?aF ?aO ?aB ?aS ?aL ?_; (case aP => exact k25_mkM _ _ _ (⟨nm, cols⟩ : T) (Kd.R_mono (Kd.R_tight rfl HV.out) (fun _ h_ => h_))); (case aK => exact fun k_ hk_ => (Kd.R_apart' HV.out (Kd.S_typed HS.out) (by decide)).1 k_ hk_.symm); (case aF => exact fun _ _ => trivial); (case aO => exact Kd.S_mono HS.out (fun k_ hk => ⟨trivial, fun e_ => hk.2 e_⟩)); (case aB => exact HB.out); (case aS => exact HB.out.size); (case aL => have h_ : (l.take i).length ≤ 1048576 := (by rw [List.length_take]; omega); omega); intro v9 w9 ho hb9 hg9 hat; have n0_ := Aside0.mk ho; have n1_ := Aside0.mk hb9; clear HS HB HV hg9 hat ho hb9; have HS := n0_; have HB := n1_; clear n0_ n1_))
        go_roundg k1
        case measure => have := HI.out; omega
        case rel => exact ⟨i + 1, (by first | (simp [wrap64, IntKind.wrap]; done) | (simp [wrap64, IntKind.wrap]; omega)), ⟨by have := HI.out; omega⟩, ⟨by omega⟩, ⟨by rw [hTK.out]; exact HS.out⟩, ⟨HB.out⟩⟩
      · have hil : i = l.length := by have := HL.out; omega
        have ci0 : decide ((i : Int) < (l.length : Int)) = false := decide_eq_false (by omega)
        have HS2 := HS.out
        rw [List.take_of_length_le (by omega)] at HS2
        obtain ⟨Am, cm, rfl, hcm, hCm0⟩ := Kd.S_reads HS2
        have hCm := hCm0
        clear HS hCm0
        -- the branch
        have hd1 : (fR != 0) = true := bne_iff_ne.mpr hx0
        have hd2 : (fR == fR) = true := by simp
        go_wp2_with (first | (go_at_call 5; refine (new_err k e Am cm l fR he hgood hx _ hCm hcm (GE.below HG.out (by repeat (first | (with_reducible first | exact HB.out | apply below_alloc | apply pw_below_drewN | apply below_drew1) | exact HB.out | exact below_undrew HB.out)))).mono ?_; rintro er w3 ⟨rfl, hb⟩; have n0_ := Aside0.mk (below_step (by repeat (first | (with_reducible first | exact HB.out | apply below_alloc | apply pw_below_drewN | apply below_drew1) | exact HB.out | exact below_undrew HB.out)) hb); clear HB hb; have HB := n0_; clear n0_) | (go_at_call 6; refine (barbicanref15_New.calls k A c l fR _ (Kd.C_below HR.out (by repeat (first | (with_reducible first | exact HB.out | apply below_alloc | apply pw_below_drewN | apply below_drew1) | exact HB.out | exact below_undrew HB.out))) hc hfR).mono ?_; rintro er w4 ⟨rfl, hb⟩; have n0_ := Aside0.mk (below_step (by repeat (first | (with_reducible first | exact HB.out | apply below_alloc | apply pw_below_drewN | apply below_drew1) | exact HB.out | exact below_undrew HB.out)) hb); clear HB hb; have HB := n0_; clear n0_) | (go_at_call 7; refine (find_none name _).mono ?_; rintro er w' ⟨rfl, rfl⟩) | (go_at_call 9; refine (len_none _).mono ?_; rintro er w' ⟨rfl, rfl⟩) | (go_at_call 8; refine (num_some fR _ (GE.below HG.out (by repeat (first | (with_reducible first | exact HB.out | apply below_alloc | apply pw_below_drewN | apply below_drew1) | exact HB.out | exact below_undrew HB.out)))).mono ?_; rintro er w5 ⟨rfl, hb⟩; have n0_ := Aside0.mk (below_step (by repeat (first | (with_reducible first | exact HB.out | apply below_alloc | apply pw_below_drewN | apply below_drew1) | exact HB.out | exact below_undrew HB.out)) hb); clear HB hb; have HB := n0_; clear n0_) | (go_at_call 8; refine (num_some 30 _ (GE.below HG.out (by repeat (first | (with_reducible first | exact HB.out | apply below_alloc | apply pw_below_drewN | apply below_drew1) | exact HB.out | exact below_undrew HB.out)))).mono ?_; rintro er w5 ⟨rfl, hb⟩; have n0_ := Aside0.mk (below_step (by repeat (first | (with_reducible first | exact HB.out | apply below_alloc | apply pw_below_drewN | apply below_drew1) | exact HB.out | exact below_undrew HB.out)) hb); clear HB hb; have HB := n0_; clear n0_) | (go_at_call 10; refine (barbicanlaw15_sure.calls k true _ (GE.below HG.out (by repeat (first | (with_reducible first | exact HB.out | apply below_alloc | apply pw_below_drewN | apply below_drew1) | exact HB.out | exact below_undrew HB.out))) hsure).mono ?_; rintro er w6 ⟨rfl, hb⟩; have n0_ := Aside0.mk (below_step (by repeat (first | (with_reducible first | exact HB.out | apply below_alloc | apply pw_below_drewN | apply below_drew1) | exact HB.out | exact below_undrew HB.out)) hb); clear HB hb; have HB := n0_; clear n0_))
        go_ret
        exact ⟨rfl, HB.out⟩
end TcO
end Go.Proofs.YtkcbgnhgjlbmlaaDoor.XTc
namespace Go.Proofs.YtkcbgnhgjlbmlaaDoor.XTc
open Go.RowKit Go.Proofs.YtkcbgnhgjlbmlaaDoorW.PrintWords Go.Proofs.YtkcbgnhgjlbmlaaDoorW.PrintLast Go.Proofs.YtkcbgnhgjlbmlaaDoorW.PrintMore Go.Proofs.YtkcbgnhgjlbmlaaDoor.Str
open Go.Maps (Keyed IsMap)
attribute [local go_sem] str_gtr str_leq str_geq max2_int min2_int max_two min_two max_three min_three max_four min_four   -- for this text's walks alone
set_option linter.unusedVariables false
set_option linter.unusedSimpArgs false
set_option linter.unnecessarySimpa false
namespace TcO
set_option maxHeartbeats 8000000 in
set_option maxRecDepth 100000 in
theorem law_ok (k : Nat) (e : T → Option Int) (A : Option Addr) (c : Nat) (l : List T) (name : ByteArray) (ix : Int) (fR hF0 : Int) (hlen : l.length ≤ 1048576) (htwin : ∀ t ∈ l, t.f1.length < 4398046511104)
    (he : ∀ t ∈ l, table_Check.f k t.f0 t.f1 = some (e t)) (hgood : ∀ t ∈ l, e t = none → t.f1 ≠ [] ∧ t.f1.length < 4398046511104 ∧ t.f0.size ≤ maxLen) (hfR : barbicanref15_New.f k l = some fR) (hx : newF e l = none) (hfR0 : fR = 0) (nF : Int) (hF : barbicanref15_Find.f k l name = some (nF, hF0)) (hFP : findP (some l) name = (nF, if hF0 = 0 then none else some hF0)) (hnm : name.size ≤ maxLen) (hs0 : barbicanref15_Same.f k ⟨#[]⟩ [] ⟨#[]⟩ [] = some true) (hsl : ∀ t ∈ l, barbicanref15_Same.f k t.f0 t.f1 t.f0 t.f1 = some true) (hnone : ∀ t ∈ l, e t = none) (hsure : barbicanlaw15_sure.f k = some true)
    (w : World) (hr : Kd.C k25 w A l.length l) (hc : l.length ≤ c) (hG : GE w) :
    Calls Tryd.prog 3 #[.slice A l.length c, .string name, .int .i64 ix] w fun er w' => er = .returned (.bool true) ∧ Below w.heap.size w w' := by
  have hu := Tryd.underlying25
  have hu2 := Tryd.underlying49
  have hu3 := Tryd.underlying29
  have HR := Aside0.mk hr
  have HG := Aside0.mk hG
  have HB := Aside0.mk (Below.refl w.heap.size w)
  clear hr hG
  go_enter Tryd.func3, Tryd.ntmps3
  go_wp2
  go_loopg [7, 8] (l.length + 1) (fun kq v7 v8 w' => ∃ (i : Nat), v8 = .int .i64 i ∧ Aside0 (i + kq = l.length + 1) ∧ Aside0 (i ≤ l.length) ∧ Aside0 (Kd.S k25 25 w' w.heap.size (fun _ => True) v7 (l.take i)) ∧ Aside0 (Below w.heap.size w w'))
  case atStart => exact ⟨0, rfl, ⟨by omega⟩, ⟨by omega⟩, ⟨Kd.S_nil _ _ _ _ _⟩, ⟨HB.out⟩⟩
  case round =>
    clear HB
    obtain ⟨i, rfl, HI, HL, HS, HB⟩ := hrel
    cases gk with
    | zero => exact absurd HI.out (by have := HL.out; omega)
    | succ k1 =>
      by_cases ci : i < l.length
      · have ci0 : decide ((i : Int) < (l.length : Int)) = true := decide_eq_true (by omega)
        obtain ⟨ad, A1, c1, eA, hx0, hx1, hxl0, hxC0⟩ := at_T25 HR.out (i : Int) (by omega) (by omega)
        cases eA
        simp only [Int.toNat_natCast] at hx0 hx1
        have hrd : rd_T25 l (i : Int) = l[i] := by
          unfold rd_T25
          rw [Int.toNat_natCast, List.getD_eq_getElem?_getD, List.getElem?_eq_getElem ci]
          rfl
        have ht0 := htwin l[i] (List.getElem_mem ci)
        have htk : l.take (i + 1) = l.take i ++ [l[i]] := by rw [List.take_add_one, List.getElem?_eq_getElem ci]; rfl
        rw [hrd] at hx0 hx1 hxl0 hxC0
        generalize hti : l[i] = ti at hx0 hx1 hxl0 hxC0 ht0 htk
        obtain ⟨nm, cols⟩ := ti
        dsimp only at hx0 hx1 hxl0 hxC0 ht0
        have hxl := Aside0.mk hxl0
        have hxC := Aside0.mk hxC0
        have hTK := Aside0.mk htk
        have htw : Aside0 (barbicanlaw15_twin.f nm cols = some (nm, cols)) := ⟨by unfold barbicanlaw15_twin.f; rw [if_pos (by simpa using ht0)]; rfl⟩
        clear hxl0 hxC0 htk
        replace hx0 := (HB.out.cell (World.block_lt_of_cell? w _ hx0)).trans hx0
        replace hx1 := (HB.out.cell (World.block_lt_of_cell? w _ hx1)).trans hx1
        have p1 : (0 ≤ (i : Int)) = True := eq_true (by omega)
        have p2 : ((i : Int) < (l.length : Int)) = True := eq_true (by omega)
        go_wp2_with (first | (go_at_call 4; refine (barbicanlaw15_twin.calls nm A1 c1 cols nm cols _ (Kd.C_below hxC.out (by repeat (first | (with_reducible first | exact HB.out | apply below_alloc | apply pw_below_drewN | apply below_drew1) | exact HB.out | exact below_undrew HB.out))) hxl.out htw.out).mono ?_; rintro er w2 ⟨v1, rfl, hR, hb⟩; obtain ⟨Ao, co, hvo⟩ := Kd.R_slice hR; subst hvo; have n0_ := Aside0.mk (Kd.S_elder' HS.out (Kd.R_base hR) hb); have n1_ := Aside0.mk (Kd.R_lower hR (below_size (by repeat (first | (with_reducible first | exact HB.out | apply below_alloc | apply pw_below_drewN | apply below_drew1) | exact HB.out | exact below_undrew HB.out)))); have n2_ := Aside0.mk (below_step (by repeat (first | (with_reducible first | exact HB.out | apply below_alloc | apply pw_below_drewN | apply below_drew1) | exact HB.out | exact below_undrew HB.out)) hb); clear HS HB; have HS := n0_; have HV := n1_; have HB := n2_; clear n0_ n1_ n2_ hb hR) | ((with_reducible refine gate_builtin (b := .append) (xs := #[.tmp 29, .tmp 35]) rfl ?_); at_builtin; refine Kd.S_append k25 (w0 := w) w.heap.size rfl (.tmp 29) (.tmp 35) 22 25 (.agg #[(.string ⟨#[]⟩), (.slice none 0 0)]) 40 rfl Tryd.underlying22 info25 rfl (by decide) (by omega) u7 (l.take i) (⟨nm, cols⟩ : T) [.string nm, .slice Ao cols.length co] (fun _ => True) (fun k_ => some k_ = (.slice Ao cols.length co : Value).ownBlock) rfl rfl ?aP ?aK ?aF ?aO ?aB ?aS ?aL ?_; (case aP => exact k25_mkM _ _ _ (⟨nm, cols⟩ : T) (Kd.R_mono (Kd.R_tight rfl HV.out) (fun _ h_ => h_))); (case aK => exact fun k_ hk_ => (Kd.R_apart' HV.out (Kd.S_typed HS.out) (by decide)).1 k_ hk_.symm); (case aF => exact fun _ _ => trivial); (case aO => exact Kd.S_mono HS.out (fun k_ hk => ⟨trivial, fun e_ => hk.2 e_⟩)); (case aB => exact HB.out); (case aS => exact HB.out.size); (case aL => have h_ : (l.take i).length ≤ 1048576 := (by rw [List.length_take]; omega); omega); intro v9 w9 ho hb9 hg9 hat; have n0_ := Aside0.mk ho; have n1_ := Aside0.mk hb9; clear HS HB HV hg9 hat ho hb9; have HS := n0_; have HB := n1_; clear n0_ n1_))
        go_roundg k1
        case measure => have := HI.out; omega
        case rel => exact ⟨i + 1, (by first | (simp [wrap64, IntKind.wrap]; done) | (simp [wrap64, IntKind.wrap]; omega)), ⟨by have := HI.out; omega⟩, ⟨by omega⟩, ⟨by rw [hTK.out]; exact HS.out⟩, ⟨HB.out⟩⟩
      · have hil : i = l.length := by have := HL.out; omega
        have ci0 : decide ((i : Int) < (l.length : Int)) = false := decide_eq_false (by omega)
        have HS2 := HS.out
        rw [List.take_of_length_le (by omega)] at HS2
        obtain ⟨Am, cm, rfl, hcm, hCm0⟩ := Kd.S_reads HS2
        have hCm := hCm0
        clear HS hCm0
        have hMo := Aside0.mk (mine_ok HS2)
        have HWR := Aside0.mk HB.out.size
        clear HS2
        subst hfR0
        go_wp2_with (first | (go_at_call 5; refine (new_ok k e Am cm l he hgood hx _ hCm hcm (GE.below HG.out (by repeat (first | (with_reducible first | exact HB.out | apply below_alloc | apply pw_below_drewN | apply below_drew1) | exact HB.out | exact below_undrew HB.out)))).mono ?_; rintro er w3 ⟨g, rfl, hcat, hb⟩; have n0_ := Aside0.mk (below_step (by repeat (first | (with_reducible first | exact HB.out | apply below_alloc | apply pw_below_drewN | apply below_drew1) | exact HB.out | exact below_undrew HB.out)) hb); have n1_ := Aside0.mk (hMo.out.step (fun k_ hk_ => hb.block k_ hk_)); have HCat := Aside0.mk hcat; have HSZ := Aside0.mk hb.size; clear HB hb hMo hcat; have HB := n0_; have hMo := n1_; clear n0_ n1_) | (go_at_call 6; refine (barbicanref15_New.calls k _ c l 0 _ (Kd.C_below HR.out (by repeat (first | (with_reducible first | exact HB.out | apply below_alloc | apply pw_below_drewN | apply below_drew1) | exact HB.out | exact below_undrew HB.out))) hc hfR).mono ?_; rintro er w4 ⟨rfl, hb⟩; have n0_ := Aside0.mk (below_step (by repeat (first | (with_reducible first | exact HB.out | apply below_alloc | apply pw_below_drewN | apply below_drew1) | exact HB.out | exact below_undrew HB.out)) hb); have n1_ := Aside0.mk (hMo.out.step (fun k_ hk_ => hb.block k_ (Nat.lt_of_lt_of_le hk_ HSZ.out))); have n2_ := Aside0.mk (fun (k_ : Nat) (h1_ : wr.heap.size ≤ k_) (h2_ : k_ < w3.heap.size) => hb.block k_ h2_); have HS4 := Aside0.mk hb.size; clear HB hb hMo; have HB := n0_; have hMo := n1_; have KP := n2_; clear n0_ n1_ n2_))
        go_loopg [14] (l.length + 1) (fun kq v14 w' => ∃ (j : Nat), v14 = .int .i64 j ∧ Aside0 (j + kq = l.length + 1) ∧ Aside0 (j ≤ l.length) ∧ Aside0 (MineOk w' w.heap.size wr.heap.size Am l) ∧ Aside0 (∀ k_ : Nat, wr.heap.size ≤ k_ → k_ < w3.heap.size → w'.heap[k_]? = w3.heap[k_]?) ∧ Aside0 (w3.heap.size ≤ w'.heap.size) ∧ Aside0 (Below w.heap.size w w'))
        case atStart => exact ⟨0, rfl, ⟨by omega⟩, ⟨by omega⟩, ⟨hMo.out⟩, ⟨KP.out⟩, ⟨HS4.out⟩, ⟨HB.out⟩⟩
        case round =>
          clear hMo KP HS4 HB
          obtain ⟨j, rfl, HJ, HJL, hMo, KP, HS4, HB⟩ := hrel
          cases gk with
          | zero => exact absurd HJ.out (by have := HJL.out; omega)
          | succ k2 =>
            by_cases cj : j < l.length
            · have cj0 : decide ((j : Int) < (l.length : Int)) = true := decide_eq_true (by omega)
              obtain ⟨b, A1, c1, eA, hb1, hb2, hcell, hin⟩ := hMo.out j cj
              cases eA
              have q1 : (0 ≤ (j : Int)) = True := eq_true (by omega)
              have q2 : ((j : Int) < (l.length : Int)) = True := eq_true (by omega)
              by_cases hp : 0 < l[j].f1.length
              · obtain ⟨b1, eA1, g1, g2, g3, ⟨u, g4⟩, g5⟩ := hin hp
                cases eA1
                generalize l[j].f1.length = nn at hcell hp
                have q3 : decide ((nn : Int) > 0) = true := decide_eq_true (by omega)
                have q4 : decide ((0 : Int) < (nn : Int)) = true := decide_eq_true (by omega)
                have q5 : ((0 : Int) < (nn : Int)) = True := eq_true (by omega)
                go_wp2
                go_roundg k2
                case measure => have := HJ.out; omega
                case rel => exact ⟨j + 1, (by first | (simp [wrap64, IntKind.wrap]; done) | (simp [wrap64, IntKind.wrap]; omega)), ⟨by have := HJ.out; omega⟩, ⟨by omega⟩, ⟨hMo.out.store g3 _⟩, ⟨fun k_ h1_ h2_ => (Below.heap_setCell _ _ _ _ (by show k_ ≠ b1; omega)).trans (KP.out k_ h1_ h2_)⟩, ⟨by simpa [World.setCell] using HS4.out⟩, ⟨below_set HB.out g1⟩⟩
              · have hn0 : l[j].f1.length = 0 := by omega
                rw [hn0] at hcell
                have q3 : decide (((0 : Nat) : Int) > 0) = false := by decide
                go_wp2
                go_roundg k2
                case measure => have := HJ.out; omega
                case rel => exact ⟨j + 1, (by first | (simp [wrap64, IntKind.wrap]; done) | (simp [wrap64, IntKind.wrap]; omega)), ⟨by have := HJ.out; omega⟩, ⟨by omega⟩, ⟨hMo.out⟩, ⟨KP.out⟩, ⟨HS4.out⟩, ⟨HB.out⟩⟩
            · have cj0 : decide ((j : Int) < (l.length : Int)) = false := decide_eq_false (by omega)
              have HC := Aside0.mk (CatF.now HCat.out KP.out)
              obtain ⟨ev, hev, hnF⟩ := find_ev l name hnm nF hF0 hFP (.pointer (some ⟨g, 0, none⟩))
              have HEV := Aside0.mk hev
              have HNF := Aside0.mk hnF
              clear hev hnF hMo KP HCat HS4 HSZ hFP
              have hd1 : (nF != nF) = false := by simp
              have hd2 : (hF0 != hF0) = false := by simp
              have hd3 : ((l.length : Int) != (l.length : Int)) = false := by simp
              go_wp2_with (first | (go_at_call 7; refine (HEV.out _ HC.out).mono ?_; rintro er w' ⟨rfl, rfl⟩) | (go_at_call 11; refine (barbicanref15_Find.calls k _ c l name nF hF0 _ (Kd.C_below HR.out (by repeat (first | (with_reducible first | exact HB.out | apply below_alloc | apply pw_below_drewN | apply below_drew1) | exact HB.out | exact below_undrew HB.out))) hc hF).mono ?_; rintro er w4 ⟨rfl, hb0⟩; have hb := hb0.below; clear hb0; have n0_ := Aside0.mk (below_step (by repeat (first | (with_reducible first | exact HB.out | apply below_alloc | apply pw_below_drewN | apply below_drew1) | exact HB.out | exact below_undrew HB.out)) hb); have n1_ := Aside0.mk (HC.out.below hb); clear HB HC hb; have HB := n0_; have HC := n1_; clear n0_ n1_) | (go_at_call 8; refine (HNF.out _ (GE.below HG.out (by repeat (first | (with_reducible first | exact HB.out | apply below_alloc | apply pw_below_drewN | apply below_drew1) | exact HB.out | exact below_undrew HB.out)))).mono ?_; rintro er w5 ⟨rfl, hb⟩; have n0_ := Aside0.mk (below_step (by repeat (first | (with_reducible first | exact HB.out | apply below_alloc | apply pw_below_drewN | apply below_drew1) | exact HB.out | exact below_undrew HB.out)) hb); have n1_ := Aside0.mk (HC.out.below hb); clear HB HC hb; have HB := n0_; have HC := n1_; clear n0_ n1_) | (go_at_call 9; refine (len_l l _ _ HC.out).mono ?_; rintro er w' ⟨rfl, rfl⟩))
              clear HEV HNF
              go_loopg [19] 3 (fun kq v19 w' => ∃ (q : Nat), v19 = .int .i64 q ∧ Aside0 (q + kq = 3) ∧ Aside0 (q ≤ 2) ∧ Aside0 (CatNow w' (.pointer (some ⟨g, 0, none⟩)) (some l)) ∧ Aside0 (Below w.heap.size w w'))
              case atStart => exact ⟨0, rfl, ⟨by omega⟩, ⟨by omega⟩, ⟨HC.out⟩, ⟨HB.out⟩⟩
              case round =>
                clear HC HB
                obtain ⟨q, rfl, HQ, HQL, HC, HB⟩ := hrel
                cases gk with
                | zero => exact absurd HQ.out (by have := HQL.out; omega)
                | succ k3 =>
                  by_cases cq : q < 2
                  · have cq0 : decide ((q : Int) < 2) = true := decide_eq_true (by omega)
                    by_cases hin : 0 ≤ ix ∧ ix < l.length
                    · skip
                      obtain ⟨ad, A1, c1, eA, hx0, hx1, hxl0, hxC0⟩ := at_T25 HR.out ix hin.1 hin.2
                      cases eA
                      have hmem : rd_T25 l ix ∈ l := by
                        unfold rd_T25
                        rw [List.getD_eq_getElem?_getD, List.getElem?_eq_getElem (by have := hin.2; omega)]
                        exact List.getElem_mem _
                      have hgd0 := hgood _ hmem (hnone _ hmem)
                      have hsm0 := hsl _ hmem
                      clear hmem
                      generalize hti0 : rd_T25 l ix = ti at hx0 hx1 hxl0 hxC0 hgd0 hsm0
                      obtain ⟨nm, cols⟩ := ti
                      dsimp only at hx0 hx1 hxl0 hxC0 hgd0 hsm0
                      have hxl := Aside0.mk hxl0
                      have hxC := Aside0.mk hxC0
                      have hgd := Aside0.mk hgd0
                      have hsm := Aside0.mk hsm0
                      have hti := Aside0.mk hti0
                      clear hxl0 hxC0 hgd0 hsm0 hti0
                      have hl0 : decide (ix < 0) = false := decide_eq_false (by have := hin.1; omega)
                      have hl1 : decide (ix ≥ (l.length : Int)) = false := decide_eq_false (by have := hin.2; omega)
                      have hl2 : decide ((l.length : Int) ≤ ix) = false := decide_eq_false (by have := hin.2; omega)
                      have p1 : (0 ≤ ix) = True := eq_true hin.1
                      have p2 : (ix < (l.length : Int)) = True := eq_true hin.2
                      have HBR := HB
                      go_wp2_with (first | (go_at_call 12; refine (table_in _ l ix hin.1 hin.2 nm cols hti.out ⟨hgd.out.1, hgd.out.2.1⟩ _ HC.out).mono ?_; rintro er w2 ⟨Ao, co, rfl, hlo, hC1, hRow, hb⟩; have n0_ := Aside0.mk (below_step (by repeat (first | (with_reducible first | exact HB.out | apply below_alloc | apply pw_below_drewN | apply below_drew1) | exact HB.out | exact below_undrew HB.out)) hb); have HC1 := Aside0.mk hC1; have HRow := Aside0.mk hRow; have HLO := Aside0.mk hlo; have HBW := Aside0.mk hb; clear HB hb hC1 hRow hlo; have HB := n0_; clear n0_) | ((with_reducible refine gate_dst (N := 20) rfl ?_); refine box_event ?hg (N := 20) ?hd (cs := #[.string (⟨#[]⟩ : ByteArray), .slice none 0 0]) (t := 25) ?hr ?_; (case hd => rfl); (case hg => rfl); (case hr => first | (go_simp; done) | (go_simp; rfl)); intro gb hg w3 hbox hb; have n0_ := Aside0.mk (below_step (by repeat (first | (with_reducible first | exact HB.out | apply below_alloc | apply pw_below_drewN | apply below_drew1) | exact HB.out | exact below_undrew HB.out)) hb); have GE2 := Aside0.mk ((by rw [hg]; exact Nat.le_refl _) : w2.heap.size ≤ gb); have GEb := Aside0.mk ((by rw [hg]; exact below_size (by repeat (first | (with_reducible first | exact HB.out | apply below_alloc | apply pw_below_drewN | apply below_drew1) | exact HB.out | exact below_undrew HB.out))) : w.heap.size ≤ gb); have HB2 := Aside0.mk hb; clear HB; have HB := n0_; have BK := Aside0.mk hbox; clear n0_ hb hbox hg; have zw3_0 : w3.cell? ⟨gb, 0, none⟩ = some (.string (⟨#[]⟩ : ByteArray)) := (blk_cell BK.out 0).trans rfl; have zw3_1 : w3.cell? ⟨gb, 1, none⟩ = some (.slice none 0 0) := (blk_cell BK.out 1).trans rfl; have yw3_0 := blk_frozen BK.out 0; have yw3_1 := blk_frozen BK.out 1))
                      have B1 : ((w3.setCell ⟨gb, 0, none⟩ (.string nm)).setCell ⟨gb, 1, none⟩ (.slice Ao cols.length co)).heap[gb]? = some (.cells #[.string nm, .slice Ao cols.length co] 25 (0, 0)) := by
                        refine blk_put (cs := #[.string nm, .slice none 0 0]) ?_ 1 _ rfl
                        refine blk_put (cs := #[.string (⟨#[]⟩ : ByteArray), .slice none 0 0]) ?_ 0 _ rfl
                        exact BK.out
                      have B2 : Below w2.heap.size w2 ((w3.setCell ⟨gb, 0, none⟩ (.string nm)).setCell ⟨gb, 1, none⟩ (.slice Ao cols.length co)) := below_set (below_set HB2.out GE2.out) GE2.out
                      have HB := Aside0.mk (below_step HBR.out HBW.out)
                      clear zw3_0 zw3_1 yw3_0 yw3_1 BK HB2
                      generalize ((w3.setCell ⟨gb, 0, none⟩ (.string nm)).setCell ⟨gb, 1, none⟩ (.slice Ao cols.length co)) = w4 at B1 B2 ⊢
                      have C1 : w4.drew.heap[gb]? = some (.cells #[.string nm, .slice Ao cols.length co] 25 (0, 0)) := B1
                      have C2 : Below w2.heap.size w2 w4.drew := below_drew1 B2
                      clear B1 B2
                      have zb0 : w4.drew.cell? ⟨gb, 0, none⟩ = some (.string nm) := (blk_cell C1 0).trans rfl
                      have zb1 : w4.drew.cell? ⟨gb, 1, none⟩ = some (.slice Ao cols.length co) := (blk_cell C1 1).trans rfl
                      have zx0 := ((below_step HB.out C2).cell (World.block_lt_of_cell? w _ hx0)).trans hx0
                      have zx1 := ((below_step HB.out C2).cell (World.block_lt_of_cell? w _ hx1)).trans hx1
                      refine start_ (n := 11) (S := fun w' => w'.cell? ⟨gb, 0, none⟩ = some (.string nm) ∧ w'.cell? ⟨gb, 1, none⟩ = some (.slice Ao cols.length co) ∧ w'.cell? (ad.add (ix.toNat * 2)) = some (.string nm) ∧ w'.cell? ⟨(ad.add (ix.toNat * 2)).block, (ad.add (ix.toNat * 2)).off + 1, none⟩ = some (.slice A1 cols.length c1)) (ds := []) #[false, false, false, false, false, false, false, false, false, false, false] (by kernel_rfl) rfl rfl ⟨zb0, zb1, zx0, zx1⟩ (fun hHeld => ?_)
                      generalize w4.drew = w5 at C1 C2 zb0 zb1 zx0 zx1 hHeld ⊢
                      refine pure_ (i := 0) (N := some 158) (v := ?_) (a' := ?_) #[true, false, false, false, false, false, false, false, false, false, false] rfl rfl (by kernel_rfl) (fun _ _ _ h => h) (Or.inl ⟨by rfl, ?_⟩) ?_ ?_
                      rotate_left
                      · intro w'
                        go_simp
                        with_reducible rfl
                      rotate_left
                      · simp only [Act.put, List.setIfInBounds_toArray, List.set_cons_zero, List.set_cons_succ, i64_w, i32_w]
                        rfl
                      refine pure_ (i := 1) (N := some 159) (v := ?_) (a' := ?_) #[true, true, false, false, false, false, false, false, false, false, false] rfl rfl (by kernel_rfl) (fun _ _ _ h => h) (Or.inl ⟨by rfl, ?_⟩) ?_ ?_
                      rotate_left
                      · intro w'
                        go_simp
                        with_reducible rfl
                      rotate_left
                      · simp only [Act.put, List.setIfInBounds_toArray, List.set_cons_zero, List.set_cons_succ, i64_w, i32_w]
                        rfl
                      refine pure_ (i := 2) (N := some 160) (v := ?_) (a' := ?_) #[true, true, true, false, false, false, false, false, false, false, false] rfl rfl (by kernel_rfl) (fun _ _ _ h => h) (Or.inl ⟨by rfl, ?_⟩) ?_ ?_
                      rotate_left
                      · intro w'
                        go_simp
                        with_reducible rfl
                      rotate_left
                      · simp only [Act.put, List.setIfInBounds_toArray, List.set_cons_zero, List.set_cons_succ, i64_w, i32_w]
                        rfl
                      refine pure_ (i := 4) (N := some 162) (v := ?_) (a' := ?_) #[true, true, true, false, true, false, false, false, false, false, false] rfl rfl (by kernel_rfl) (fun _ _ _ h => h) (Or.inl ⟨by rfl, ?_⟩) ?_ ?_
                      rotate_left
                      · intro w'
                        go_simp
                        with_reducible rfl
                      rotate_left
                      · simp only [Act.put, List.setIfInBounds_toArray, List.set_cons_zero, List.set_cons_succ, i64_w, i32_w]
                        rfl
                      refine pure_ (i := 5) (N := some 163) (v := ?_) (a' := ?_) #[true, true, true, false, true, true, false, false, false, false, false] rfl rfl (by kernel_rfl) (fun _ _ _ h => h) (Or.inl ⟨by rfl, ?_⟩) ?_ ?_
                      rotate_left
                      · intro w'
                        go_simp
                        with_reducible rfl
                      rotate_left
                      · simp only [Act.put, List.setIfInBounds_toArray, List.set_cons_zero, List.set_cons_succ, i64_w, i32_w]
                        rfl
                      refine pure_ (i := 6) (N := some 164) (v := ?_) (a' := ?_) #[true, true, true, false, true, true, true, false, false, false, false] rfl rfl (by kernel_rfl) (fun _ _ _ h => h) (Or.inl ⟨by rfl, ?_⟩) ?_ ?_
                      rotate_left
                      · intro w'
                        go_simp
                        with_reducible rfl
                      rotate_left
                      · simp only [Act.put, List.setIfInBounds_toArray, List.set_cons_zero, List.set_cons_succ, i64_w, i32_w]
                        rfl
                      refine take_ (i := 3) (N := some 161) (v := ?_) (a' := ?_) #[true, true, true, true, true, true, true, false, false, false, false] rfl rfl (by kernel_rfl) (fun _ _ _ h => h) (Or.inl ⟨by rfl, ?_⟩) hHeld ?_ ?_
                      rotate_left
                      · rintro w' ⟨s0, s1, s2, s3⟩
                        go_simp
                        with_reducible rfl
                      rotate_left
                      · simp only [Act.put, List.setIfInBounds_toArray, List.set_cons_zero, List.set_cons_succ, i64_w, i32_w]
                        rfl
                      refine take_ (i := 7) (N := some 165) (v := ?_) (a' := ?_) #[true, true, true, true, true, true, true, true, false, false, false] rfl rfl (by kernel_rfl) (fun _ _ _ h => h) (Or.inl ⟨by rfl, ?_⟩) hHeld ?_ ?_
                      rotate_left
                      · rintro w' ⟨s0, s1, s2, s3⟩
                        go_simp
                        with_reducible rfl
                      rotate_left
                      · simp only [Act.put, List.setIfInBounds_toArray, List.set_cons_zero, List.set_cons_succ, i64_w, i32_w]
                        rfl
                      refine one_ (i := 8) (N := some 166) #[true, true, true, true, true, true, true, true, true, false, false] rfl rfl (by kernel_rfl) (by decide) (fun K hK => ?_)
                      refine goes_ Tryd.func13 (by kernel_rfl) rfl #[.agg #[.string nm, .slice Ao cols.length co], .agg #[.string nm, .slice A1 cols.length c1]] (by rfl) rfl rfl (by (try simp only [List.map_toArray, List.map_cons, List.map_nil]); first | done | rfl) ?_
                      refine (same_self k true nm Ao A1 co c1 cols hsm.out _ (Kd.C_below HC1.out C2) HLO.out (Kd.C_below hxC.out (below_step HB.out C2)) hxl.out).mono ?_
                      rintro e_ w6 ⟨rfl, hb⟩
                      refine ⟨_, rfl, ?_⟩
                      have D1 := blk_below C1 hb
                      have D2 := below_step C2 hb
                      have yb0 : w6.cell? ⟨gb, 0, none⟩ = some (.string nm) := (blk_cell D1 0).trans rfl
                      have yb1 : w6.cell? ⟨gb, 1, none⟩ = some (.slice Ao cols.length co) := (blk_cell D1 1).trans rfl
                      have yx0 := (hb.cell (World.block_lt_of_cell? _ _ zx0)).trans zx0
                      have yx1 := (hb.cell (World.block_lt_of_cell? _ _ zx1)).trans zx1
                      clear C1 C2 hb zb0 zb1 zx0 zx1
                      refine hK.out _ _ ⟨yb0, yb1, yx0, yx1⟩ (fun hHeld => ?_)
                      clear hK K
                      refine norm_ (a' := ?_) ?_ ?_
                      rotate_left
                      · show Act.put _ (some 166) _ = _
                        simp only [Act.put, List.setIfInBounds_toArray, List.set_cons_zero, List.set_cons_succ, i64_w, i32_w]
                        rfl
                      refine pure_ (i := 9) (N := some 167) (v := ?_) (a' := ?_) #[true, true, true, true, true, true, true, true, true, true, false] rfl rfl (by kernel_rfl) (fun _ _ _ h => h) (Or.inl ⟨by rfl, ?_⟩) ?_ ?_
                      rotate_left
                      · intro w'
                        go_simp
                        with_reducible rfl
                      rotate_left
                      · simp only [Act.put, List.setIfInBounds_toArray, List.set_cons_zero, List.set_cons_succ, i64_w, i32_w]
                        rfl
                      refine pure_ (i := 10) (N := some 168) (v := ?_) (a' := ?_) #[true, true, true, true, true, true, true, true, true, true, true] rfl rfl (by kernel_rfl) (fun _ _ _ h => h) (Or.inl ⟨by rfl, ?_⟩) ?_ ?_
                      rotate_left
                      · intro w'
                        go_simp
                        with_reducible rfl
                      rotate_left
                      · simp only [Act.put, List.setIfInBounds_toArray, List.set_cons_zero, List.set_cons_succ, i64_w, i32_w]
                        rfl
                      refine done_ (by kernel_rfl) ?_
                      go_wp2
                      go_loopg [22] (cols.length + 1) (fun kq v22 w' => ∃ (n : Nat), v22 = .int .i64 n ∧ Aside0 (n + kq = cols.length + 1) ∧ Aside0 (n ≤ cols.length) ∧ Aside0 (w'.heap[gb]? = some (.cells #[.string nm, .slice Ao cols.length co] 25 (0, 0))) ∧ Aside0 (RowB w' wr.heap.size w2.heap.size Ao cols.length) ∧ Aside0 (Below wr.heap.size wr w'))
                      case atStart => exact ⟨0, rfl, ⟨by omega⟩, ⟨by omega⟩, ⟨D1⟩, ⟨HRow.out.step (fun k_ hk_ => D2.block k_ hk_)⟩, ⟨below_step HBW.out D2⟩⟩
                      case round =>
                        clear D1 D2 HRow yb0 yb1 yx0 yx1
                        obtain ⟨n, rfl, HN, HNL, BK, HRw, HBd⟩ := hrel
                        cases gk with
                        | zero => exact absurd HN.out (by have := HNL.out; omega)
                        | succ k4 =>
                          have zb1 := blk_cell BK.out 1
                          rw [show (#[.string nm, .slice Ao cols.length co] : Array Value)[1]? = some (.slice Ao cols.length co) from rfl] at zb1
                          by_cases cn : n < cols.length
                          · have cn0 : decide ((n : Int) < (cols.length : Int)) = true := decide_eq_true (by omega)
                            obtain ⟨b, eAo, h1, h2, hrow⟩ := HRw.out (by omega)
                            cases eAo
                            have hgb : gb ≠ b := by have := GE2.out; omega
                            have HGB := Aside0.mk hgb
                            obtain ⟨⟨u0, z0⟩, f0⟩ := hrow (n * 4) (by omega)
                            obtain ⟨⟨u1, z1⟩, f1⟩ := hrow (n * 4 + 1) (by omega)
                            obtain ⟨⟨u2, z2⟩, f2⟩ := hrow (n * 4 + 2) (by omega)
                            obtain ⟨⟨u3, z3⟩, f3⟩ := hrow (n * 4 + 3) (by omega)
                            clear hrow hgb
                            have r1 : (0 ≤ (n : Int)) = True := eq_true (by omega)
                            have r2 : ((n : Int) < (cols.length : Int)) = True := eq_true (by omega)
                            go_wp2
                            go_roundg k4
                            case measure => have := HN.out; omega
                            case rel => exact ⟨n + 1, (by have hcl := hgd.out.2.1; first | (simp [wrap64, IntKind.wrap]; done) | (simp [wrap64, IntKind.wrap]; omega)), ⟨by have := HN.out; omega⟩, ⟨by omega⟩, ⟨blk_far (blk_far (blk_far (blk_far BK.out HGB.out _) HGB.out _) HGB.out _) HGB.out _⟩, ⟨(((HRw.out.store _ _).store _ _).store _ _).store _ _⟩, ⟨below_set (below_set (below_set (below_set HBd.out h1) h1) h1) h1⟩⟩
                          · have cn0 : decide ((n : Int) < (cols.length : Int)) = false := decide_eq_false (by omega)
                            go_wp2
                            go_roundg k3
                            case measure => have := HQ.out; omega
                            case rel => exact ⟨q + 1, (by first | (simp [wrap64, IntKind.wrap]; done) | (simp [wrap64, IntKind.wrap]; omega)), ⟨by have := HQ.out; omega⟩, ⟨by omega⟩, ⟨HC.out.below HBd.out⟩, ⟨below_step HBR.out HBd.out⟩⟩
                    · have hio : ix < 0 ∨ (l.length : Int) ≤ ix := by omega
                      by_cases hlo : ix < 0
                      · have hl0 : decide (ix < 0) = true := decide_eq_true hlo
                        go_wp2_with (first | (go_at_call 12; refine (table_out _ l ix hio _ HC.out).mono ?_; rintro er w2 ⟨A1, c1, rfl, hC1, hb⟩; have n0_ := Aside0.mk (below_step (by repeat (first | (with_reducible first | exact HB.out | apply below_alloc | apply pw_below_drewN | apply below_drew1) | exact HB.out | exact below_undrew HB.out)) hb); have HC1 := Aside0.mk hC1; clear HB hb hC1 HC; have HB := n0_; clear n0_) | ((with_reducible refine gate_dst (N := 20) rfl ?_); refine box_event ?hg (N := 20) ?hd (cs := #[.string (⟨#[]⟩ : ByteArray), .slice none 0 0]) (t := 25) ?hr ?_; (case hd => rfl); (case hg => rfl); (case hr => first | (go_simp; done) | (go_simp; rfl)); intro gb hg w3 hbox hb; have n0_ := Aside0.mk (below_step (by repeat (first | (with_reducible first | exact HB.out | apply below_alloc | apply pw_below_drewN | apply below_drew1) | exact HB.out | exact below_undrew HB.out)) hb); have GE2 := Aside0.mk ((by rw [hg]; exact Nat.le_refl _) : w2.heap.size ≤ gb); have GEb := Aside0.mk ((by rw [hg]; exact below_size (by repeat (first | (with_reducible first | exact HB.out | apply below_alloc | apply pw_below_drewN | apply below_drew1) | exact HB.out | exact below_undrew HB.out))) : w.heap.size ≤ gb); have HB2 := Aside0.mk hb; clear HB; have HB := n0_; have BK := Aside0.mk hbox; clear n0_ hb hbox hg; have zw3_0 : w3.cell? ⟨gb, 0, none⟩ = some (.string (⟨#[]⟩ : ByteArray)) := (blk_cell BK.out 0).trans rfl; have zw3_1 : w3.cell? ⟨gb, 1, none⟩ = some (.slice none 0 0) := (blk_cell BK.out 1).trans rfl; have yw3_0 := blk_frozen BK.out 0; have yw3_1 := blk_frozen BK.out 1) | (go_at_call 8; refine (num_some 1 _ (GE.below HG.out (by repeat (first | (with_reducible first | exact HB.out | apply below_alloc | apply pw_below_drewN | apply below_drew1 | refine below_set ?_ GEb.out) | exact HB.out | exact below_undrew HB.out)))).mono ?_; rintro er w5 ⟨rfl, hb⟩; have n0_ := Aside0.mk (below_step (by repeat (first | (with_reducible first | exact HB.out | apply below_alloc | apply pw_below_drewN | apply below_drew1 | refine below_set ?_ GEb.out) | exact HB.out | exact below_undrew HB.out)) hb); have n2_ := Aside0.mk (below_step (by repeat (first | (with_reducible first | exact HB2.out | apply below_alloc | apply pw_below_drewN | apply below_drew1 | refine below_set ?_ GE2.out) | exact HB2.out | exact below_undrew HB2.out)) hb); have n1_ := Aside0.mk (blk_below (g := gb) (o := .cells #[.string (⟨#[]⟩ : ByteArray), .slice A1 0 c1] 25 (0, 0)) (by (with_reducible repeat (first | refine blk_drewN ?_ _ | refine blk_drew ?_ | refine blk_alloc ?_ _)); refine blk_put (cs := #[.string (⟨#[]⟩ : ByteArray), .slice none 0 0]) ?_ 1 _ rfl; (with_reducible repeat (first | refine blk_drewN ?_ _ | refine blk_drew ?_ | refine blk_alloc ?_ _)); refine blk_put (cs := #[.string (⟨#[]⟩ : ByteArray), .slice none 0 0]) ?_ 0 _ rfl; (with_reducible repeat (first | refine blk_drewN ?_ _ | refine blk_drew ?_ | refine blk_alloc ?_ _)); exact BK.out) hb); clear HB HB2 BK hb zw3_0 zw3_1 yw3_0 yw3_1; have HB := n0_; have HB2 := n2_; have BK := n1_; clear n0_ n1_ n2_; have zw5_0 : w5.cell? ⟨gb, 0, none⟩ = some (.string (⟨#[]⟩ : ByteArray)) := (blk_cell BK.out 0).trans rfl; have zw5_1 : w5.cell? ⟨gb, 1, none⟩ = some (.slice A1 0 c1) := (blk_cell BK.out 1).trans rfl) | (go_at_call 13; refine (same_self k true (⟨#[]⟩ : ByteArray) A1 none c1 0 [] hs0 _ (Kd.C_below HC1.out (by repeat (first | (with_reducible first | exact HB2.out | apply below_alloc | apply pw_below_drewN | apply below_drew1 | refine below_set ?_ GE2.out) | exact HB2.out | exact below_undrew HB2.out))) (Nat.zero_le _) (Kd.C_nil _ _) (Nat.le_refl _)).mono ?_; rintro er w6 ⟨rfl, hb⟩; have n0_ := Aside0.mk (below_step (by repeat (first | (with_reducible first | exact HB.out | apply below_alloc | apply pw_below_drewN | apply below_drew1) | exact HB.out | exact below_undrew HB.out)) hb); clear HB hb; have HB := n0_; clear n0_) | (go_at_call 10; refine (barbicanlaw15_sure.calls k true _ (GE.below HG.out (by repeat (first | (with_reducible first | exact HB.out | apply below_alloc | apply pw_below_drewN | apply below_drew1) | exact HB.out | exact below_undrew HB.out))) hsure).mono ?_; rintro er w6 ⟨rfl, hb⟩; have n0_ := Aside0.mk (below_step (by repeat (first | (with_reducible first | exact HB.out | apply below_alloc | apply pw_below_drewN | apply below_drew1) | exact HB.out | exact below_undrew HB.out)) hb); clear HB hb; have HB := n0_; clear n0_))
                        go_ret
                        exact ⟨rfl, HB.out⟩
                      · have hl0 : decide (ix < 0) = false := decide_eq_false hlo
                        have hl1 : decide (ix ≥ (l.length : Int)) = true := decide_eq_true (by omega)
                        have hl2 : decide ((l.length : Int) ≤ ix) = true := decide_eq_true (by omega)
                        go_wp2_with (first | (go_at_call 12; refine (table_out _ l ix hio _ HC.out).mono ?_; rintro er w2 ⟨A1, c1, rfl, hC1, hb⟩; have n0_ := Aside0.mk (below_step (by repeat (first | (with_reducible first | exact HB.out | apply below_alloc | apply pw_below_drewN | apply below_drew1) | exact HB.out | exact below_undrew HB.out)) hb); have HC1 := Aside0.mk hC1; clear HB hb hC1 HC; have HB := n0_; clear n0_) | ((with_reducible refine gate_dst (N := 20) rfl ?_); refine box_event ?hg (N := 20) ?hd (cs := #[.string (⟨#[]⟩ : ByteArray), .slice none 0 0]) (t := 25) ?hr ?_; (case hd => rfl); (case hg => rfl); (case hr => first | (go_simp; done) | (go_simp; rfl)); intro gb hg w3 hbox hb; have n0_ := Aside0.mk (below_step (by repeat (first | (with_reducible first | exact HB.out | apply below_alloc | apply pw_below_drewN | apply below_drew1) | exact HB.out | exact below_undrew HB.out)) hb); have GE2 := Aside0.mk ((by rw [hg]; exact Nat.le_refl _) : w2.heap.size ≤ gb); have GEb := Aside0.mk ((by rw [hg]; exact below_size (by repeat (first | (with_reducible first | exact HB.out | apply below_alloc | apply pw_below_drewN | apply below_drew1) | exact HB.out | exact below_undrew HB.out))) : w.heap.size ≤ gb); have HB2 := Aside0.mk hb; clear HB; have HB := n0_; have BK := Aside0.mk hbox; clear n0_ hb hbox hg; have zw3_0 : w3.cell? ⟨gb, 0, none⟩ = some (.string (⟨#[]⟩ : ByteArray)) := (blk_cell BK.out 0).trans rfl; have zw3_1 : w3.cell? ⟨gb, 1, none⟩ = some (.slice none 0 0) := (blk_cell BK.out 1).trans rfl; have yw3_0 := blk_frozen BK.out 0; have yw3_1 := blk_frozen BK.out 1) | (go_at_call 8; refine (num_some 1 _ (GE.below HG.out (by repeat (first | (with_reducible first | exact HB.out | apply below_alloc | apply pw_below_drewN | apply below_drew1 | refine below_set ?_ GEb.out) | exact HB.out | exact below_undrew HB.out)))).mono ?_; rintro er w5 ⟨rfl, hb⟩; have n0_ := Aside0.mk (below_step (by repeat (first | (with_reducible first | exact HB.out | apply below_alloc | apply pw_below_drewN | apply below_drew1 | refine below_set ?_ GEb.out) | exact HB.out | exact below_undrew HB.out)) hb); have n2_ := Aside0.mk (below_step (by repeat (first | (with_reducible first | exact HB2.out | apply below_alloc | apply pw_below_drewN | apply below_drew1 | refine below_set ?_ GE2.out) | exact HB2.out | exact below_undrew HB2.out)) hb); have n1_ := Aside0.mk (blk_below (g := gb) (o := .cells #[.string (⟨#[]⟩ : ByteArray), .slice A1 0 c1] 25 (0, 0)) (by (with_reducible repeat (first | refine blk_drewN ?_ _ | refine blk_drew ?_ | refine blk_alloc ?_ _)); refine blk_put (cs := #[.string (⟨#[]⟩ : ByteArray), .slice none 0 0]) ?_ 1 _ rfl; (with_reducible repeat (first | refine blk_drewN ?_ _ | refine blk_drew ?_ | refine blk_alloc ?_ _)); refine blk_put (cs := #[.string (⟨#[]⟩ : ByteArray), .slice none 0 0]) ?_ 0 _ rfl; (with_reducible repeat (first | refine blk_drewN ?_ _ | refine blk_drew ?_ | refine blk_alloc ?_ _)); exact BK.out) hb); clear HB HB2 BK hb zw3_0 zw3_1 yw3_0 yw3_1; have HB := n0_; have HB2 := n2_; have BK := n1_; clear n0_ n1_ n2_; have zw5_0 : w5.cell? ⟨gb, 0, none⟩ = some (.string (⟨#[]⟩ : ByteArray)) := (blk_cell BK.out 0).trans rfl; have zw5_1 : w5.cell? ⟨gb, 1, none⟩ = some (.slice A1 0 c1) := (blk_cell BK.out 1).trans rfl) | (go_at_call 13; refine (same_self k true (⟨#[]⟩ : ByteArray) A1 none c1 0 [] hs0 _ (Kd.C_below HC1.out (by repeat (first | (with_reducible first | exact HB2.out | apply below_alloc | apply pw_below_drewN | apply below_drew1 | refine below_set ?_ GE2.out) | exact HB2.out | exact below_undrew HB2.out))) (Nat.zero_le _) (Kd.C_nil _ _) (Nat.le_refl _)).mono ?_; rintro er w6 ⟨rfl, hb⟩; have n0_ := Aside0.mk (below_step (by repeat (first | (with_reducible first | exact HB.out | apply below_alloc | apply pw_below_drewN | apply below_drew1) | exact HB.out | exact below_undrew HB.out)) hb); clear HB hb; have HB := n0_; clear n0_) | (go_at_call 10; refine (barbicanlaw15_sure.calls k true _ (GE.below HG.out (by repeat (first | (with_reducible first | exact HB.out | apply below_alloc | apply pw_below_drewN | apply below_drew1) | exact HB.out | exact below_undrew HB.out))) hsure).mono ?_; rintro er w6 ⟨rfl, hb⟩; have n0_ := Aside0.mk (below_step (by repeat (first | (with_reducible first | exact HB.out | apply below_alloc | apply pw_below_drewN | apply below_drew1) | exact HB.out | exact below_undrew HB.out)) hb); clear HB hb; have HB := n0_; clear n0_))
                        go_ret
                        exact ⟨rfl, HB.out⟩
                  · have cq0 : decide ((q : Int) < 2) = false := decide_eq_false (by omega)
                    go_wp2_with (first | (go_at_call 10; refine (barbicanlaw15_sure.calls k true _ (GE.below HG.out (by repeat (first | (with_reducible first | exact HB.out | apply below_alloc | apply pw_below_drewN | apply below_drew1) | exact HB.out | exact below_undrew HB.out))) hsure).mono ?_; rintro er w6 ⟨rfl, hb⟩; have n0_ := Aside0.mk (below_step (by repeat (first | (with_reducible first | exact HB.out | apply below_alloc | apply pw_below_drewN | apply below_drew1) | exact HB.out | exact below_undrew HB.out)) hb); clear HB hb; have HB := n0_; clear n0_))
                    go_ret
                    exact ⟨rfl, HB.out⟩
end TcO
end Go.Proofs.YtkcbgnhgjlbmlaaDoor.XTc
