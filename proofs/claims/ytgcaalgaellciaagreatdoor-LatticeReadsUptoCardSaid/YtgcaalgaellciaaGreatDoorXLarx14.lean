/- Printed by this session's program (wip/print) out of the translation, for the statement named in the file's name. -/
import Derived.Test.YtgcaalgaellciaaGreatDoorXLarx0
import Derived.Test.YtgcaalgaellciaaGreatDoorXLarx3
import Derived.Test.YtgcaalgaellciaaGreatDoorXLarx13
namespace Go.Proofs.YtgcaalgaellciaaGreatDoor.XLar
open Go.RowKit Go.Proofs.YtgcaalgaellciaaGreatDoorW.PrintWords Go.Proofs.YtgcaalgaellciaaGreatDoorW.PrintLast Go.Proofs.YtgcaalgaellciaaGreatDoorW.PrintMore Go.Proofs.YtgcaalgaellciaaGreatDoor.Both
attribute [local go_sem] str_gtr str_leq str_geq max2_int min2_int max_two min_two max_three min_three max_four min_four   -- for this text's walks alone
set_option linter.unusedVariables false
set_option linter.unusedSimpArgs false
set_option linter.unnecessarySimpa false

/-! ### lattice_Lattice_Order: function 23 (by hand) -/
/- behind lattice_Lattice_Below.f, lattice_New.f -/
set_option maxHeartbeats 8000000 in
set_option maxRecDepth 100000 in
theorem lat_clone (A0 : Option Addr) (c0 : Nat) (l0 : List Int) (w : World) (hr0 : Kd.C (Kd.int .i64) w A0 l0.length l0) (hlen : l0.length ≤ 1000) :
    Calls Tryz.prog 38 #[.slice A0 l0.length c0] w fun e w' => ∃ v0_ : Value, e = .returned (v0_) ∧ Kd.R (Kd.int .i64) 3 w' w.heap.size (fun _ => True) v0_ l0 ∧ Below w.heap.size w w' := by
  have HR0 := Aside0.mk hr0
  have LM := Aside0.mk hlen
  have hq0 : ∀ (d : Nat) (A : Option Addr) (n c : Nat) (w : World), (Op.equalIn (d + 1) 59 (.slice A n c) (.slice none 0 0)).run Tryz.prog w = .ok A.isNone w := fun d A n c w => by cases A <;> simp [Op.equalIn, run_underlying Tryz.underlying59]
  have hqe : ∀ (A : Option Addr) (n c : Nat) (w : World), (Op.equal 59 (.slice A n c) (.slice none 0 0)).run Tryz.prog w = .ok A.isNone w := hq0 9999
  have hq : ∀ (A : Option Addr) (n c : Nat) (w : World), (binOp .eql 59 (.slice A n c) (.slice none 0 0)).run Tryz.prog w = .ok (.bool A.isNone) w := fun A n c w => by simp [binOp, hqe A n c w]
  clear hq0 hqe
  cases A0 with
  | none =>
    have h0 : l0.length = 0 := by
      rcases Nat.eq_zero_or_pos l0.length with h | h
      · exact h
      · obtain ⟨_, _, hx⟩ := hr0
        obtain ⟨ad, e, _⟩ := hx h
        cases e
    obtain rfl := List.eq_nil_of_length_eq_zero h0
    clear hr0 hlen
    have hq1 := hq none ([] : List Int).length c0
    rw [show (none : Option Addr).isNone = true from rfl] at hq1
    go_enter Tryz.func38, Tryz.ntmps38
    go_wp2
    go_ret
    exact ⟨_, rfl, Kd.R_nil _ _ _ _ _, Below.refl _ _⟩
  | some a =>
    clear hr0 hlen
    have ho0 : (Kd.int .i64).R 3 (w.alloc (.cells #[] 3)) w.heap.size (fun _ => True) (.slice (some ⟨w.heap.size, 0, none⟩) 0 0) ([] : List Int) := by
      refine ⟨fun _ _ => trivial, [], ?_, ⟨by simp, fun j p hj => by simp at hj⟩⟩
      have h2 := World.ownsRow_lit (base := w.heap.size) (e := 3) (size := (Kd.int .i64).sz) w #[] 0 (Nat.le_refl _) (by simp [maxLen]) (by simp)
      simpa using h2
    have HO := Aside0.mk ho0
    have HB := Aside0.mk (below_alloc (Below.refl w.heap.size w) (.cells #[] 3))
    clear ho0
    have hq1 := hq (some a) l0.length c0
    rw [show (some a : Option Addr).isNone = false from rfl] at hq1
    go_enter Tryz.func38, Tryz.ntmps38
    go_wp2_with ((with_reducible refine gate_builtin (b := .append) (xs := #[.tmp 5, .tmp 6]) rfl ?_); at_builtin; refine Kd.R_append_rows (Kd.int .i64) (w0 := w) w.heap.size rfl (.tmp 5) (.tmp 6) 59 3 (.int .i64 0) 8 rfl Tryz.underlying59 info3 rfl (by decide) (by omega) _ ([] : List Int) l0 _ _ _ (fun _ => True) (fun _ => False) rfl rfl HO.out (Kd.C_below HR0.out HB.out) (fun _ _ h => h) (fun _ h => h.elim) (fun _ _ => trivial) HB.out (below_size HB.out) (by have := LM.out; simp; omega) ?_; intro v2 w2 ho hb hg hat; rw [List.nil_append] at ho; have n0_ := Aside0.mk hb; have n1_ := Aside0.mk ho; clear HB HO; have HB := n0_; have HO := n1_; clear n0_ n1_; clear ho hb hg hat)
    go_ret
    exact ⟨_, rfl, HO.out, HB.out⟩

set_option maxHeartbeats 8000000 in
set_option maxRecDepth 100000 in
theorem lat_index (A : Option Addr) (c : Nat) (l : List Int) (x : Int) (w : World) (hC : Kd.C (Kd.int .i64) w A l.length l) (hl : l.length ≤ 1000) : Calls Tryz.prog 61 #[.slice A l.length c, .int .i64 x] w fun e w' => ∃ n : Int, e = .returned (.int .i64 n) ∧ decide (n ≥ 0) = l.contains x ∧ w' = w := by
  have HC := Aside0.mk hC
  obtain ⟨n, hn⟩ : ∃ n : Nat, n = l.length := ⟨_, rfl⟩
  have HN := Aside0.mk hn
  have HL := Aside0.mk hl
  rw [← hn]
  clear hC hl hn
  go_enter Tryz.func61, Tryz.ntmps61
  go_wp2
  go_loopg [5, 8] (n + 1) (fun kq v5 v8 w' => ∃ i : Nat, v8 = .int .i64 i ∧ w' = w ∧ Aside0 (i + kq = n + 1) ∧ Aside0 (i ≤ n) ∧ Aside0 (∀ j (h : j < l.length), j < i → l[j] ≠ x))
  case atStart => exact ⟨0, rfl, rfl, ⟨by omega⟩, ⟨by omega⟩, ⟨fun j _ h => by omega⟩⟩
  case round =>
    obtain ⟨i, rfl, hw, HI, HLE, HA⟩ := hrel
    rw [hw]
    cases gk with
    | zero => exact absurd HI.out (by have := HLE.out; omega)
    | succ k1 =>
      by_cases ci : i < n
      · have ci0 : decide ((i : Int) < (n : Int)) = true := decide_eq_true (by omega)
        have ci2 : i < l.length := by have := HN.out; omega
        obtain ⟨ad, eA, hx⟩ := Kd.at_int HC.out (i : Int) (by omega) (by omega)
        cases eA
        have hrd : rd l (i : Int) = l[i] := by
          unfold rd
          rw [Int.toNat_natCast, List.getD_eq_getElem?_getD, List.getElem?_eq_getElem ci2]
          rfl
        rw [hrd, Int.toNat_natCast] at hx
        have p1 : (0 ≤ (i : Int)) = True := eq_true (by omega)
        have p2 : ((i : Int) < (n : Int)) = True := eq_true (by omega)
        have hyy : l[i] = l[i] := rfl
        generalize hy : l[i] = y at hx hyy
        have HY := Aside0.mk hy
        have HI2 := Aside0.mk ci2
        clear hy hyy hrd ci
        by_cases hq : x = y
        · have hq1 : (x == y) = true := by simpa using hq
          have hq2 : decide (x = y) = true := decide_eq_true hq
          go_wp2
          go_ret
          refine ⟨_, rfl, ?_, rfl⟩
          have h1 : l.contains x = true := by
            rw [List.contains_iff_mem, hq, ← HY.out]
            exact List.getElem_mem HI2.out
          rw [h1]
          exact decide_eq_true (by omega)
        · have hq1 : (x == y) = false := by simpa using hq
          have hq2 : decide (x = y) = false := decide_eq_false hq
          go_wp2
          go_roundg k1
          case measure => have := HI.out; omega
          case rel => exact ⟨i + 1, (by have := HN.out; have := HL.out; have := HI2.out; first | (simp [wrap64, IntKind.wrap]; done) | (simp [wrap64, IntKind.wrap]; omega)), rfl, ⟨by have := HI.out; omega⟩, ⟨by have := HI2.out; have := HN.out; omega⟩, ⟨fun j h hj => by
            by_cases hji : j = i
            · subst hji; rw [HY.out]; exact fun e => hq e.symm
            · exact HA.out j h (by omega)⟩⟩
      · have ci0 : decide ((i : Int) < (n : Int)) = false := decide_eq_false (by omega)
        go_wp2
        go_ret
        refine ⟨_, rfl, ?_, rfl⟩
        have h1 : l.contains x = false := by
          rw [Bool.eq_false_iff]
          intro hm
          obtain ⟨j, hj, e⟩ := List.getElem_of_mem (List.contains_iff_mem.1 hm)
          exact HA.out j hj (by have := HLE.out; have := HN.out; omega) e
        rw [h1]
        rfl
theorem lat_contains (A : Option Addr) (c : Nat) (l : List Int) (x : Int) (w : World) (hC : Kd.C (Kd.int .i64) w A l.length l) (hl : l.length ≤ 1000) : Calls Tryz.prog 41 #[.slice A l.length c, .int .i64 x] w fun e w' => e = .returned (.bool (l.contains x)) ∧ w' = w := by
  have HI := Aside0.mk (lat_index A c l x w hC hl)
  clear hC hl
  generalize l.contains x = b at HI ⊢
  go_enter Tryz.func41, Tryz.ntmps41
  go_wp2_with (go_at_call 61; refine HI.out.mono ?_; rintro e w1 ⟨n, rfl, hb, hw⟩; rw [hw]; clear hw; have hb2 : decide (0 ≤ n) = b := hb)
  go_ret
  exact ⟨by first | rfl | (rw [← hb]; rfl), rfl⟩
set_option maxHeartbeats 8000000 in
set_option maxRecDepth 100000 in
theorem lat_indexF (q : Int → Bool) (g : Nat) (lb : Array Value) (eg : ∀ args w, (callFunc g args).run Tryz.prog w = .ok (.enter g args) w) (A : Option Addr) (c : Nat) (l : List Int) (w : World) (hC : Kd.C (Kd.int .i64) w A l.length l) (hl : l.length ≤ 1000)
    (hp : ∀ (y : Int) (W : World), Below w.heap.size w W → Calls Tryz.prog g (#[.int .i64 y] ++ lb) W fun e W' => e = .returned (.bool (q y)) ∧ Below W.heap.size W W') :
    Calls Tryz.prog 62 #[.slice A l.length c, .func (.func g) #[] lb] w fun e w' => ∃ n : Int, e = .returned (.int .i64 n) ∧ decide (n ≥ 0) = l.any q ∧ Below w.heap.size w w' := by
  have HC := Aside0.mk hC
  obtain ⟨n, hn⟩ : ∃ n : Nat, n = l.length := ⟨_, rfl⟩
  have HN := Aside0.mk hn
  have HL := Aside0.mk hl
  have HP := Aside0.mk hp
  have HB := Aside0.mk (Below.refl w.heap.size w)
  rw [← hn]
  clear hC hl hn hp
  go_enter Tryz.func62, Tryz.ntmps62
  go_wp2
  go_loopg [5, 8] (n + 1) (fun kq v5 v8 w' => ∃ i : Nat, v8 = .int .i64 i ∧ Aside0 (i + kq = n + 1) ∧ Aside0 (i ≤ n) ∧ Aside0 (∀ j (h : j < l.length), j < i → q l[j] = false) ∧ Aside0 (Below w.heap.size w w'))
  case atStart => exact ⟨0, rfl, ⟨by omega⟩, ⟨by omega⟩, ⟨fun j _ h => by omega⟩, ⟨(by repeat (first | (with_reducible first | exact HB.out | apply below_alloc | apply pw_below_drewN | apply below_drew1) | exact HB.out | exact below_undrew HB.out))⟩⟩
  case round =>
    clear HB
    obtain ⟨i, rfl, HI, HLE, HA, HB⟩ := hrel
    cases gk with
    | zero => exact absurd HI.out (by have := HLE.out; omega)
    | succ k1 =>
      by_cases ci : i < n
      · have ci0 : decide ((i : Int) < (n : Int)) = true := decide_eq_true (by omega)
        have ci2 : i < l.length := by have := HN.out; omega
        obtain ⟨ad, eA, hx⟩ := Kd.at_int (Kd.C_below HC.out HB.out) (i : Int) (by omega) (by omega)
        cases eA
        have hrd : rd l (i : Int) = l[i] := by
          unfold rd
          rw [Int.toNat_natCast, List.getD_eq_getElem?_getD, List.getElem?_eq_getElem ci2]
          rfl
        rw [hrd, Int.toNat_natCast] at hx
        have p1 : (0 ≤ (i : Int)) = True := eq_true (by omega)
        have p2 : ((i : Int) < (n : Int)) = True := eq_true (by omega)
        have hyy : l[i] = l[i] := rfl
        generalize hy : l[i] = y at hx hyy
        have HY := Aside0.mk hy
        have HI2 := Aside0.mk ci2
        clear hy hyy hrd ci
        have HQ := Aside0.mk (fun W hB => HP.out y W hB)
        cases hq : q y with
        | true =>
          rw [hq] at HQ
          go_wp2_with (go_at_fn g; refine (HQ.out _ (by repeat (first | (with_reducible first | exact HB.out | apply below_alloc | apply pw_below_drewN | apply below_drew1) | exact HB.out | exact below_undrew HB.out))).mono ?_; rintro e w7 ⟨rfl, hb⟩; have n1_ := Aside0.mk (below_step (by repeat (first | (with_reducible first | exact HB.out | apply below_alloc | apply pw_below_drewN | apply below_drew1) | exact HB.out | exact below_undrew HB.out)) hb); clear HB; have HB := n1_; clear n1_ hb)
          go_ret
          refine ⟨_, rfl, ?_, (by repeat (first | (with_reducible first | exact HB.out | apply below_alloc | apply pw_below_drewN | apply below_drew1) | exact HB.out | exact below_undrew HB.out))⟩
          have h1 : l.any q = true := List.any_eq_true.2 ⟨y, by rw [← HY.out]; exact List.getElem_mem HI2.out, hq⟩
          rw [h1]
          exact decide_eq_true (by omega)
        | false =>
          rw [hq] at HQ
          go_wp2_with (go_at_fn g; refine (HQ.out _ (by repeat (first | (with_reducible first | exact HB.out | apply below_alloc | apply pw_below_drewN | apply below_drew1) | exact HB.out | exact below_undrew HB.out))).mono ?_; rintro e w7 ⟨rfl, hb⟩; have n1_ := Aside0.mk (below_step (by repeat (first | (with_reducible first | exact HB.out | apply below_alloc | apply pw_below_drewN | apply below_drew1) | exact HB.out | exact below_undrew HB.out)) hb); clear HB; have HB := n1_; clear n1_ hb)
          go_roundg k1
          case measure => have := HI.out; omega
          case rel => exact ⟨i + 1, (by have := HN.out; have := HL.out; have := HI2.out; first | (simp [wrap64, IntKind.wrap]; done) | (simp [wrap64, IntKind.wrap]; omega)), ⟨by have := HI.out; omega⟩, ⟨by have := HI2.out; have := HN.out; omega⟩, ⟨fun j h hj => by
            by_cases hji : j = i
            · subst hji; rw [HY.out]; exact hq
            · exact HA.out j h (by omega)⟩, ⟨(by repeat (first | (with_reducible first | exact HB.out | apply below_alloc | apply pw_below_drewN | apply below_drew1) | exact HB.out | exact below_undrew HB.out))⟩⟩
      · have ci0 : decide ((i : Int) < (n : Int)) = false := decide_eq_false (by omega)
        go_wp2
        go_ret
        refine ⟨_, rfl, ?_, (by repeat (first | (with_reducible first | exact HB.out | apply below_alloc | apply pw_below_drewN | apply below_drew1) | exact HB.out | exact below_undrew HB.out))⟩
        have h1 : l.any q = false := by
          rw [Bool.eq_false_iff]
          intro hm
          obtain ⟨y, hy, hq⟩ := List.any_eq_true.1 hm
          obtain ⟨j, hj, e⟩ := List.getElem_of_mem hy
          have := HA.out j hj (by have := HLE.out; have := HN.out; omega)
          rw [e, hq] at this
          cases this
        rw [h1]
        rfl
theorem lat_containsF (q : Int → Bool) (g : Nat) (lb : Array Value) (eg : ∀ args w, (callFunc g args).run Tryz.prog w = .ok (.enter g args) w) (A : Option Addr) (c : Nat) (l : List Int) (w : World) (hC : Kd.C (Kd.int .i64) w A l.length l) (hl : l.length ≤ 1000)
    (hp : ∀ (y : Int) (W : World), Below w.heap.size w W → Calls Tryz.prog g (#[.int .i64 y] ++ lb) W fun e W' => e = .returned (.bool (q y)) ∧ Below W.heap.size W W') :
    Calls Tryz.prog 42 #[.slice A l.length c, .func (.func g) #[] lb] w fun e w' => e = .returned (.bool (l.any q)) ∧ Below w.heap.size w w' := by
  have HI := Aside0.mk (lat_indexF q g lb eg A c l w hC hl hp)
  clear hC hl hp
  generalize l.any q = b at HI ⊢
  go_enter Tryz.func42, Tryz.ntmps42
  go_wp2_with (go_at_call 62; refine HI.out.mono ?_; rintro e w1 ⟨n, rfl, hb, HB⟩; have hb2 : decide (0 ≤ n) = b := hb)
  go_ret
  exact ⟨by first | rfl | (rw [← hb]; rfl), HB⟩
/-- A place below that is still to be laid. -/
def latWant (l : List Int) (i j : Int) : Bool := decide (j ≠ i) && !l.contains j
theorem lat_want (A : Option Addr) (c : Nat) (l : List Int) (i j : Int) (b1 b2 : Nat) (w : World) (h1 : w.cell? ⟨b1, 0, none⟩ = some (.int .i64 i)) (h2 : w.cell? ⟨b2, 0, none⟩ = some (.slice A l.length c)) (hC : Kd.C (Kd.int .i64) w A l.length l) (hl : l.length ≤ 1000) :
    Calls Tryz.prog 44 #[.int .i64 j, .pointer (some ⟨b1, 0, none⟩), .pointer (some ⟨b2, 0, none⟩)] w fun e w' => e = .returned (.bool (latWant l i j)) ∧ Below w.heap.size w w' := by
  have HC := Aside0.mk (lat_contains A c l j w hC hl)
  clear hC hl
  unfold latWant
  generalize l.contains j = b at HC ⊢
  by_cases hij : j = i
  · have q1 : decide (j ≠ i) = false := by simp [hij]
    have q2 : (j != i) = false := by simp [hij]
    have q3 : (j == i) = true := by simp [hij]
    rw [q1]
    clear hij q1
    go_enter Tryz.func44, Tryz.ntmps44
    go_wp2
    go_ret
    exact ⟨rfl, Below.refl _ _⟩
  · have q1 : decide (j ≠ i) = true := by simp [hij]
    have q2 : (j != i) = true := by simp [hij]
    have q3 : (j == i) = false := by simp [hij]
    rw [q1]
    clear hij q1
    go_enter Tryz.func44, Tryz.ntmps44
    go_wp2_with (go_at_call 41; refine HC.out.mono ?_; rintro e w1 ⟨rfl, hw⟩; rw [hw]; clear hw)
    go_ret
    exact ⟨by first | rfl | (cases b <;> rfl), Below.refl _ _⟩
def latFree (l0 : List S37) (l : List Int) (i : Nat) : Option Bool := if l.contains (i : Int) = true then some false else (lattice_Lattice_Below.f l0 i).map fun b => !b.any (latWant l (i : Int))
set_option maxHeartbeats 8000000 in
set_option maxRecDepth 100000 in
theorem lat_free (A0 : Option Addr) (l0 : List S37) (A : Option Addr) (c : Nat) (l : List Int) (i : Nat) (r : Bool) (b1 b2 : Nat) (w : World) (h1 : w.cell? ⟨b1, 0, none⟩ = some (.slice A l.length c)) (h2 : w.cell? ⟨b2, 0, none⟩ = some (.pointer A0))
    (hC : Kd.C (Kd.int .i64) w A l.length l) (hl : l.length ≤ 1000) (hO : LatC w A0 l0) (h : latFree l0 l i = some r) :
    Calls Tryz.prog 40 #[.int .i64 i, .pointer (some ⟨b1, 0, none⟩), .pointer (some ⟨b2, 0, none⟩)] w fun e w' => e = .returned (.bool r) ∧ Below w.heap.size w w' := by
  obtain ⟨W, hW⟩ : ∃ W, W = w.alloc (.cells #[.int .i64 i] 3) := ⟨_, rfl⟩
  have hB1 : Below w.heap.size w W := by rw [hW]; exact below_alloc (Below.refl _ _) _
  have hx : W.cell? ⟨w.heap.size, 0, none⟩ = some (.int .i64 i) := by rw [hW]; simp
  have g1 := (hB1.cell (World.block_lt_of_cell? w _ h1)).trans h1
  have g2 := (hB1.cell (World.block_lt_of_cell? w _ h2)).trans h2
  have HB1 := Aside0.mk hB1
  have HC1 := Aside0.mk (lat_contains A c l (i : Int) W (Kd.C_below hC hB1) hl)
  have HC3 := Aside0.mk (fun (W2 : World) (Ao : Option Addr) (co : Nat) (b : List Int) (hb : Below W.heap.size W W2) (hA : Kd.C (Kd.int .i64) W2 Ao b.length b) (hb16 : b.length ≤ 1000) =>
    lat_containsF (latWant l (i : Int)) 44 #[.pointer (some ⟨w.heap.size, 0, none⟩), .pointer (some ⟨b1, 0, none⟩)] (enters_of Tryz.func44 (by kernel_rfl) rfl) Ao co b W2 hA hb16
      (fun y W3 hb3 => lat_want A c l (i : Int) y _ _ W3 ((hb3.cell (Nat.lt_of_lt_of_le (World.block_lt_of_cell? W _ hx) hb.size)).trans ((hb.cell (World.block_lt_of_cell? W _ hx)).trans hx)) ((hb3.cell (Nat.lt_of_lt_of_le (World.block_lt_of_cell? W _ g1) hb.size)).trans ((hb.cell (World.block_lt_of_cell? W _ g1)).trans g1)) (Kd.C_below (Kd.C_below (Kd.C_below hC hB1) hb) hb3) hl))
  have hO1 := latC_below hO hB1
  have h16 := latC_len hO
  clear hC hl hO hB1 h1 h2
  unfold latFree at h
  by_cases hq : l.contains (i : Int) = true
  · rw [if_pos hq] at h
    obtain rfl := Option.some.inj h
    rw [hq] at HC1
    clear hq h HC3
    subst hW
    go_enter Tryz.func40, Tryz.ntmps40
    go_wp2_with (go_at_call 41; refine HC1.out.mono ?_; rintro e w1 ⟨rfl, hw⟩; rw [hw]; clear hw)
    go_ret
    exact ⟨rfl, HB1.out⟩
  · rw [if_neg hq] at h
    rw [Bool.eq_false_iff.2 hq] at HC1
    obtain ⟨b, hb, rfl⟩ := Option.map_eq_some_iff.1 h
    have HC2 := Aside0.mk (lattice_Lattice_Below.calls A0 l0 (i : Int) b W hO1 trivial hb)
    have hlen : b.length ≤ 1000 := by have := latUp_len _ _ _ hb; omega
    have HL := Aside0.mk hlen
    clear hq h hb hlen
    subst hW
    go_enter Tryz.func40, Tryz.ntmps40
    go_wp2_with (first | (go_at_call 41; refine HC1.out.mono ?_; rintro e w1 ⟨rfl, hw⟩; rw [hw]; clear hw) | (go_at_call 43; refine HC2.out.mono ?_; rintro e w2 ⟨v2, rfl, hR, hb⟩; obtain ⟨Ao, co, eo⟩ := Kd.R_slice hR; subst eo; have HC4 := Aside0.mk (HC3.out w2 Ao co b hb (Kd.R_reads' hR).2.2 HL.out); have HB2 := Aside0.mk (below_step HB1.out hb); clear hR hb) | (go_at_call 42; refine HC4.out.mono ?_; rintro e w3 ⟨rfl, hb⟩; have HB3 := Aside0.mk (below_step HB2.out hb); clear hb))
    go_ret
    exact ⟨rfl, HB3.out⟩
theorem lat_round (A0 : Option Addr) (l0 : List S37) (acc m : List Int) (bx : Nat) (w2 W3 : World) (A2 : Option Addr) (c2 : Nat) (hW : W3 = w2.alloc (.cells #[.slice A2 acc.length c2] 59)) (hx : w2.cell? ⟨bx, 0, none⟩ = some (.pointer A0)) (hO : LatC w2 A0 l0) (hC : Kd.C (Kd.int .i64) w2 A2 acc.length acc) (hl : acc.length ≤ 1000) (hm : latUp (latFree l0 acc) l0.length = some m) :
    Below w2.heap.size w2 W3 ∧ Calls Tryz.prog 39 #[.pointer A0, .func (.func 40) #[] #[.pointer (some ⟨w2.heap.size, 0, none⟩), .pointer (some ⟨bx, 0, none⟩)]] W3 fun e w' => ∃ v0_ : Value, e = .returned v0_ ∧ Kd.R (Kd.int .i64) 3 w' W3.heap.size (fun _ => True) v0_ m ∧ Below W3.heap.size W3 w' := by
  have hB : Below w2.heap.size w2 W3 := by rw [hW]; exact below_alloc (Below.refl _ _) _
  have hd : W3.cell? ⟨w2.heap.size, 0, none⟩ = some (.slice A2 acc.length c2) := by
    rw [hW]
    simp
  have hx1 := (hB.cell (World.block_lt_of_cell? w2 _ hx)).trans hx
  refine ⟨hB, lat_all (latFree l0 acc) 40 _ (enters_of Tryz.func40 (by kernel_rfl) rfl) A0 l0 m W3 (latC_below hO hB) (fun j b W _ hj hb => ?_) hm⟩
  exact lat_free A0 l0 A2 c2 acc j b _ _ W ((hb.cell (World.block_lt_of_cell? W3 _ hd)).trans hd) ((hb.cell (World.block_lt_of_cell? W3 _ hx1)).trans hx1) (Kd.C_below (Kd.C_below hC hB) hb) hl (latC_below (latC_below hO hB) hb) hj
def latOrder (l0 : List S37) : Nat → List Int → Option (List Int)
  | 0, _ => none
  | k + 1, l => if l.length < l0.length then (latUp (latFree l0 l) l0.length).bind fun m => latOrder l0 k (l ++ m) else some l
def lattice_Lattice_Order.f (l0 : List S37) : Option (List Int) := latOrder l0 17 []
set_option maxHeartbeats 8000000 in
set_option maxRecDepth 100000 in
theorem lattice_Lattice_Order.calls (A0 : Option Addr) (l0 : List S37) (r : List Int) (w : World) (hr0 : Kd.OC w A0 l0) (hc0 : True) (h : lattice_Lattice_Order.f l0 = some r) :
    Calls Tryz.prog 23 #[.pointer A0] w fun e w' => ∃ v0_ : Value, e = .returned v0_ ∧ Kd.R (Kd.int .i64) 3 w' w.heap.size (fun _ => True) v0_ r ∧ Below w.heap.size w w' := by
  have hO : LatC w A0 l0 := hr0
  obtain ⟨W, hW⟩ : ∃ W, W = w.alloc (.cells #[.pointer A0] 22) := ⟨_, rfl⟩
  have hB1 : Below w.heap.size w W := by rw [hW]; exact below_alloc (Below.refl _ _) _
  have hx : W.cell? ⟨w.heap.size, 0, none⟩ = some (.pointer A0) := by rw [hW]; simp
  have HB1 := Aside0.mk hB1
  have HX := Aside0.mk hx
  have HO1 := Aside0.mk (latC_below hO hB1)
  have H16 := Aside0.mk (latC_len hO)
  have H := Aside0.mk (show latOrder l0 17 [] = some r from h)
  clear hr0 hc0 hO hB1 hx h
  go_enter Tryz.func23, Tryz.ntmps23
  go_wp2
  rw [← hW]
  go_loopg [3, 4] 17 (fun kq v3 v4 w' => ∃ acc : List Int, Aside0 (latOrder l0 kq acc = some r) ∧ Aside0 (acc.length + 16 * kq ≤ 272) ∧ Aside0 (Kd.R (Kd.int .i64) 3 w' W.heap.size (fun _ => True) v3 acc) ∧ Aside0 (Below W.heap.size W w'))
  case atStart => exact ⟨[], H, ⟨by simp⟩, ⟨Kd.R_nil _ _ _ _ _⟩, ⟨Below.refl _ _⟩⟩
  case round =>
    clear H
    obtain ⟨acc, H, HN, HO, HB⟩ := hrel
    cases gk with
    | zero => exact absurd H.out (by simp [latOrder])
    | succ k1 =>
      have h := H.out
      clear H
      unfold latOrder at h
      obtain ⟨Ao, co, eo⟩ := Kd.R_slice HO.out
      subst eo
      have hxr := (HB.out.cell (World.block_lt_of_cell? W _ HX.out)).trans HX.out
      have HL := Aside0.mk (lat_len A0 l0 wr (latC_below HO1.out HB.out))
      by_cases ci : acc.length < l0.length
      · rw [if_pos ci] at h
        obtain ⟨m, hm, h2⟩ := Option.bind_eq_some_iff.1 h
        have H2 := Aside0.mk h2
        have HM := Aside0.mk hm
        have HML := Aside0.mk (latUp_len _ _ _ hm)
        have ci1 : (acc.length < l0.length) = True := eq_true ci
        have HCL := Aside0.mk (lat_clone Ao co acc wr (Kd.R_reads' HO.out).2.2 (by have := HN.out; omega))
        clear h h2 hm ci
        go_wp2_with (first | (go_at_call 17; refine HL.out.mono ?_; rintro e w1 ⟨rfl, hw⟩; rw [hw]; clear hw) | (go_at_call 38; refine HCL.out.mono ?_; rintro e w2 ⟨v2, rfl, hR, hb⟩; obtain ⟨A2, c2, eo⟩ := Kd.R_slice hR; subst eo; have n0_ := Aside0.mk (Kd.R_below HO.out hb); have n1_ := Aside0.mk (below_step HB.out hb); have HC2 := Aside0.mk (Kd.R_reads' hR).2.2; have hxr2 := (hb.cell (World.block_lt_of_cell? wr _ hxr)).trans hxr; have hxr3 := ((below_alloc (Below.refl w2.heap.size w2) (.cells #[.slice A2 acc.length c2] 59)).cell (World.block_lt_of_cell? w2 _ hxr2)).trans hxr2; clear hxr HO HB; have HO := n0_; have HB := n1_; clear n0_ n1_ hR hb) | (go_at_call 39; obtain ⟨hb3, hcl⟩ := lat_round A0 l0 acc m w.heap.size w2 _ A2 c2 rfl hxr2 (latC_below HO1.out HB.out) HC2.out (by have := HN.out; omega) HM.out; refine hcl.mono ?_; rintro e w4 ⟨v4, rfl, hR4, hb4⟩; obtain ⟨A4, c4, eo⟩ := Kd.R_slice hR4; subst eo; have n0_ := Aside0.mk (Kd.R_below (Kd.R_below HO.out hb3) hb4); have n1_ := Aside0.mk (below_step (below_step HB.out hb3) hb4); have HC4 := Aside0.mk (Kd.R_reads' hR4).2.2; clear HO HB; have HO := n0_; have HB := n1_; clear n0_ n1_ hR4 hb4 hb3 hcl hxr2 hxr3) | ((with_reducible refine gate_builtin (b := .append) (xs := #[.tmp 12, .tmp 15]) rfl ?_); at_builtin; refine Kd.R_append_rows (Kd.int .i64) (w0 := W) W.heap.size rfl (.tmp 12) (.tmp 15) 59 3 (.int .i64 0) 8 rfl Tryz.underlying59 info3 rfl (by decide) (by omega) (.slice Ao acc.length co) acc m _ _ _ (fun _ => True) (fun _ => False) rfl rfl HO.out HC4.out (fun _ _ h => h) (fun _ h => h.elim) (fun _ _ => trivial) HB.out (below_size HB.out) (by have := HN.out; have := HML.out; have := H16.out; omega) ?_; intro v8 w8 ho hb hg hat; have n0_ := Aside0.mk hb; have n1_ := Aside0.mk ho; clear HB HO; have HB := n0_; have HO := n1_; clear n0_ n1_; clear ho hb hg hat))
        go_roundg k1
        case measure => omega
        case rel => exact ⟨acc ++ m, H2, ⟨by have := HN.out; have := HML.out; have := H16.out; rw [List.length_append]; omega⟩, HO, HB⟩
      · rw [if_neg ci] at h
        obtain rfl := Option.some.inj h
        have ci1 : (acc.length < l0.length) = False := eq_false ci
        clear h ci
        go_wp2_with (go_at_call 17; refine HL.out.mono ?_; rintro e w1 ⟨rfl, hw⟩; rw [hw]; clear hw)
        go_ret
        exact ⟨_, rfl, Kd.R_lower HO.out (below_size HB1.out), below_step HB1.out HB.out⟩

end Go.Proofs.YtgcaalgaellciaaGreatDoor.XLar
