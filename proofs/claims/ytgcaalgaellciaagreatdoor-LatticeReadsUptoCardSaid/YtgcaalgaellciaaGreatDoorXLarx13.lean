/- Printed by this session's program (wip/print) out of the translation, for the statement named in the file's name. -/
import Derived.Test.YtgcaalgaellciaaGreatDoorXLarx0
import Derived.Test.YtgcaalgaellciaaGreatDoorXLarx3
import Derived.Test.YtgcaalgaellciaaGreatDoorXLarx12
namespace Go.Proofs.YtgcaalgaellciaaGreatDoor.XLar
open Go.RowKit Go.Proofs.YtgcaalgaellciaaGreatDoorW.PrintWords Go.Proofs.YtgcaalgaellciaaGreatDoorW.PrintLast Go.Proofs.YtgcaalgaellciaaGreatDoorW.PrintMore Go.Proofs.YtgcaalgaellciaaGreatDoor.Both
attribute [local go_sem] str_gtr str_leq str_geq max2_int min2_int max_two min_two max_three min_three max_four min_four   -- for this text's walks alone
set_option linter.unusedVariables false
set_option linter.unusedSimpArgs false
set_option linter.unnecessarySimpa false

/-! ### lattice_Lattice_Below: function 43 (by hand) -/
/- behind lattice_New.f, lattice_Lattice_Dominates.f -/
/-- The places below n that are so. -/
def latUp (p : Nat → Option Bool) : Nat → Option (List Int)
  | 0 => some []
  | n + 1 => (latUp p n).bind fun acc => (p n).map fun b => if b = true then acc ++ [(n : Int)] else acc
theorem latUp_pre (p : Nat → Option Bool) : ∀ (d i : Nat) (r : List Int), latUp p (i + d) = some r → ∃ acc, latUp p i = some acc
  | 0, i, r, h => ⟨r, h⟩
  | d + 1, i, r, h => by
    have h2 : (latUp p (i + d)).bind (fun acc => (p (i + d)).map fun b => if b = true then acc ++ [((i + d : Nat) : Int)] else acc) = some r := h
    obtain ⟨a, ha, _⟩ := Option.bind_eq_some_iff.1 h2
    exact latUp_pre p d i a ha
theorem latUp_len (p : Nat → Option Bool) : ∀ (n : Nat) (r : List Int), latUp p n = some r → r.length ≤ n
  | 0, r, h => by obtain rfl := Option.some.inj h; exact Nat.le_refl _
  | n + 1, r, h => by
    obtain ⟨a, ha, h2⟩ := Option.bind_eq_some_iff.1 (show (latUp p n).bind _ = some r from h)
    obtain ⟨b, hb, rfl⟩ := Option.map_eq_some_iff.1 h2
    have := latUp_len p n a ha
    split
    · simp; omega
    · omega
theorem latC_below {W W1 : World} {A : Option Addr} {xs : List S37} (h : LatC W A xs) (hb : Below W.heap.size W W1) : LatC W1 A xs := by
  rcases h with ⟨rfl, rfl⟩ | ⟨g, A1, c, m, n, rfl, hne, h16, hwf, hc0, hc1, hlc, hC, es, clock, hm, r⟩
  · exact .inl ⟨rfl, rfl⟩
  · exact .inr ⟨g, A1, c, m, n, rfl, hne, h16, hwf, (hb.cell (World.block_lt_of_cell? W _ hc0)).trans hc0, (hb.cell (World.block_lt_of_cell? W _ hc1)).trans hc1, hlc, Kd.C_below hC hb, es, clock, (hb.block m (blk_lt hm)).trans hm, r⟩
theorem latC_len {W : World} {A : Option Addr} {xs : List S37} (h : LatC W A xs) : xs.length ≤ 16 := by
  rcases h with ⟨rfl, rfl⟩ | ⟨g, A1, c, m, n, rfl, hne, h16, _⟩
  · simp
  · exact h16
theorem lat_len (A : Option Addr) (xs : List S37) (W : World) (h : LatC W A xs) : Calls Tryz.prog 17 #[.pointer A] W fun e w' => e = .returned (.int .i64 xs.length) ∧ w' = W := by
  rcases h with ⟨rfl, rfl⟩ | ⟨g, A1, c, m, n, rfl, hne, h16, hwf, hc0, _⟩
  · exact lat_len_none W
  · exact lat_len_some g A1 _ c W hc0
set_option maxHeartbeats 8000000 in
set_option maxRecDepth 100000 in
theorem lat_all (p : Nat → Option Bool) (g : Nat) (lb : Array Value) (eg : ∀ args w, (callFunc g args).run Tryz.prog w = .ok (.enter g args) w) (A0 : Option Addr) (l0 : List S37) (r : List Int) (w : World) (hO : LatC w A0 l0)
    (hp : ∀ (j : Nat) (b : Bool) (W : World), j < l0.length → p j = some b → Below w.heap.size w W → Calls Tryz.prog g (#[.int .i64 j] ++ lb) W fun e W' => e = .returned (.bool b) ∧ Below W.heap.size W W') (h : latUp p l0.length = some r) :
    Calls Tryz.prog 39 #[.pointer A0, .func (.func g) #[] lb] w fun e w' => ∃ v0_ : Value, e = .returned v0_ ∧ Kd.R (Kd.int .i64) 3 w' w.heap.size (fun _ => True) v0_ r ∧ Below w.heap.size w w' := by
  have h16 := latC_len hO
  have hL := fun W (hb : Below w.heap.size w W) => lat_len A0 l0 W (latC_below hO hb)
  obtain ⟨n, hn⟩ : ∃ n : Nat, n = l0.length := ⟨_, rfl⟩
  rw [← hn] at hL hp h h16
  have HL := Aside0.mk hL
  have HP := Aside0.mk hp
  have HU := Aside0.mk h
  have HN := Aside0.mk h16
  have HB := Aside0.mk (Below.refl w.heap.size w)
  clear hL hp h h16 hO hn
  go_enter Tryz.func39, Tryz.ntmps39
  go_wp2_with (go_at_call 17; refine (HL.out _ (by repeat (first | (with_reducible first | exact HB.out | apply below_alloc | apply pw_below_drewN | apply below_drew1) | exact HB.out | exact below_undrew HB.out))).mono ?_; rintro e w1 ⟨rfl, hw⟩; rw [hw]; clear hw)
  go_loopg [5, 6, 9] (n + 1) (fun kq v5 v6 v9 w' => ∃ (i : Nat) (acc : List Int), v9 = .int .i64 i ∧ Aside0 (i + kq = n + 1) ∧ Aside0 (i ≤ n) ∧ Aside0 (latUp p i = some acc) ∧ Aside0 (Kd.R (Kd.int .i64) 3 w' w.heap.size (fun _ => True) v5 acc) ∧ Aside0 (Below w.heap.size w w'))
  case atStart => exact ⟨0, [], rfl, ⟨by omega⟩, ⟨by omega⟩, ⟨rfl⟩, ⟨Kd.R_nil _ _ _ _ _⟩, ⟨(by repeat (first | (with_reducible first | exact HB.out | apply below_alloc | apply pw_below_drewN | apply below_drew1) | exact HB.out | exact below_undrew HB.out))⟩⟩
  case round =>
    obtain ⟨i, acc, rfl, HI, HLE, HA, HO, HB⟩ := hrel
    cases gk with
    | zero => exact absurd HI.out (by have := HLE.out; omega)
    | succ k1 =>
      by_cases ci : i < n
      · have ci0 : decide ((i : Int) < (n : Int)) = true := decide_eq_true (by omega)
        obtain ⟨acc2, ha2⟩ : ∃ a, latUp p (i + 1) = some a := latUp_pre p (n - (i + 1)) (i + 1) r (by rw [show i + 1 + (n - (i + 1)) = n by omega]; exact HU.out)
        have ha3 := ha2
        unfold latUp at ha3
        rw [HA.out, Option.bind_some] at ha3
        obtain ⟨b, hb, he⟩ := Option.map_eq_some_iff.1 ha3
        have HC := Aside0.mk (fun W hB => HP.out i b W ci hb hB)
        have HA2 := Aside0.mk ha2
        have HLN := Aside0.mk (latUp_len p i acc HA.out)
        clear ha2 ha3
        cases b with
        | true =>
          rw [if_pos rfl] at he
          have HE := Aside0.mk he
          clear he hb
          go_wp2_with (first | (go_at_fn g; refine (HC.out _ (by repeat (first | (with_reducible first | exact HB.out | apply below_alloc | apply pw_below_drewN | apply below_drew1) | exact HB.out | exact below_undrew HB.out))).mono ?_; rintro e w7 ⟨rfl, hb⟩; have n0_ := Aside0.mk (Kd.R_below (by (with_reducible repeat (first | apply Kd.R_alloc | apply Kd.R_drewN | apply Kd.R_drew)); exact HO.out) hb); have n1_ := Aside0.mk (below_step (by repeat (first | (with_reducible first | exact HB.out | apply below_alloc | apply pw_below_drewN | apply below_drew1) | exact HB.out | exact below_undrew HB.out)) hb); clear HO HB; have HO := n0_; have HB := n1_; clear n0_ n1_ hb) | ((with_reducible refine gate_builtin (b := .append) (xs := #[.tmp 15, .tmp 17]) rfl ?_); at_builtin; refine Kd.R_append (Kd.int .i64) (w0 := w) w.heap.size rfl (.tmp 15) (.tmp 17) 59 3 (.int .i64 0) 8 rfl Tryz.underlying59 info3 rfl (by decide) (by omega) u5 acc (i : Int) [.int .i64 i] (fun _ => True) (fun _ => False) rfl rfl ?aP (fun _ hk => hk.elim) ?aF ?aO ?aB ?aS ?aL ?_; (case aP => exact rfl); (case aB => exact (by repeat (first | (with_reducible first | exact HB.out | apply below_alloc | apply pw_below_drewN | apply below_drew1) | exact HB.out | exact below_undrew HB.out))); (case aF => exact (fun _ _ => trivial)); (case aO => exact (by (with_reducible repeat (first | apply Kd.R_alloc | apply Kd.R_drewN | apply Kd.R_drew)); exact HO.out)); (case aS => exact (below_size (by repeat (first | (with_reducible first | exact HB.out | apply below_alloc | apply pw_below_drewN | apply below_drew1) | exact HB.out | exact below_undrew HB.out)))); (case aL => have := HLN.out; have := HN.out; have := HLE.out; omega); intro v173 w8 ho hb hg hat; have n0_ := Aside0.mk (hb); have n1_ := Aside0.mk (ho); clear HB; clear HO; have HB := n0_; have HO := n1_; clear n0_ n1_; clear ho hb hg hat))
          go_roundg k1
          case measure => have := HI.out; omega
          case rel => exact ⟨i + 1, acc2, (by first | (simp [wrap64, IntKind.wrap]; done) | (have := HN.out; simp [wrap64, IntKind.wrap]; omega)), ⟨by have := HI.out; omega⟩, ⟨by omega⟩, ⟨HA2.out⟩, ⟨by have e_ := HE.out; subst e_; exact (by (with_reducible repeat (first | apply Kd.R_alloc | apply Kd.R_drewN | apply Kd.R_drew)); exact HO.out)⟩, ⟨(by repeat (first | (with_reducible first | exact HB.out | apply below_alloc | apply pw_below_drewN | apply below_drew1) | exact HB.out | exact below_undrew HB.out))⟩⟩
        | false =>
          rw [if_neg (by simp)] at he
          have HE := Aside0.mk he
          clear he hb
          go_wp2_with (go_at_fn g; refine (HC.out _ (by repeat (first | (with_reducible first | exact HB.out | apply below_alloc | apply pw_below_drewN | apply below_drew1) | exact HB.out | exact below_undrew HB.out))).mono ?_; rintro e w7 ⟨rfl, hb⟩; have n0_ := Aside0.mk (Kd.R_below (by (with_reducible repeat (first | apply Kd.R_alloc | apply Kd.R_drewN | apply Kd.R_drew)); exact HO.out) hb); have n1_ := Aside0.mk (below_step (by repeat (first | (with_reducible first | exact HB.out | apply below_alloc | apply pw_below_drewN | apply below_drew1) | exact HB.out | exact below_undrew HB.out)) hb); clear HO HB; have HO := n0_; have HB := n1_; clear n0_ n1_ hb)
          go_roundg k1
          case measure => have := HI.out; omega
          case rel => exact ⟨i + 1, acc2, (by first | (simp [wrap64, IntKind.wrap]; done) | (have := HN.out; simp [wrap64, IntKind.wrap]; omega)), ⟨by have := HI.out; omega⟩, ⟨by omega⟩, ⟨HA2.out⟩, ⟨by have e_ := HE.out; subst e_; exact (by (with_reducible repeat (first | apply Kd.R_alloc | apply Kd.R_drewN | apply Kd.R_drew)); exact HO.out)⟩, ⟨(by repeat (first | (with_reducible first | exact HB.out | apply below_alloc | apply pw_below_drewN | apply below_drew1) | exact HB.out | exact below_undrew HB.out))⟩⟩
      · have ci0 : decide ((i : Int) < (n : Int)) = false := decide_eq_false (by omega)
        have hin : i = n := by have := HLE.out; omega
        have hacc : acc = r := Option.some.inj (by rw [← HA.out, hin]; exact HU.out)
        subst hacc
        go_wp2
        go_ret
        exact ⟨_, rfl, (by (with_reducible repeat (first | apply Kd.R_alloc | apply Kd.R_drewN | apply Kd.R_drew)); exact HO.out), (by repeat (first | (with_reducible first | exact HB.out | apply below_alloc | apply pw_below_drewN | apply below_drew1) | exact HB.out | exact below_undrew HB.out))⟩
/-- A closure that asks Dominates: the places of the two captured variables. -/
theorem lat_below1 (A0 : Option Addr) (l0 : List S37) (a : Int) (j : Nat) (r : Bool) (b1 b2 : Nat) (w : World) (h1 : w.cell? ⟨b1, 0, none⟩ = some (.pointer A0)) (h2 : w.cell? ⟨b2, 0, none⟩ = some (.int .i64 a)) (hO : LatC w A0 l0) (h : lattice_Lattice_Dominates.f l0 a j = some r) :
    Calls Tryz.prog 63 #[.int .i64 j, .pointer (some ⟨b1, 0, none⟩), .pointer (some ⟨b2, 0, none⟩)] w fun e w' => e = .returned (.bool r) ∧ Below w.heap.size w w' := by
  have HC := Aside0.mk (lattice_Lattice_Dominates.calls A0 l0 a j r w hO trivial h)
  clear hO h
  go_enter Tryz.func63, Tryz.ntmps63
  go_wp2_with (go_at_call 64; refine HC.out.mono ?_; rintro e w' ⟨rfl, hb⟩)
  go_ret
  exact ⟨rfl, hb⟩
def lattice_Lattice_Below.f (l0 : List S37) (i : Int) : Option (List Int) := latUp (fun j => lattice_Lattice_Dominates.f l0 i j) l0.length
set_option maxHeartbeats 8000000 in
theorem lattice_Lattice_Below.calls (A0 : Option Addr) (l0 : List S37) (a1 : Int) (r : List Int) (w : World) (hr0 : Kd.OC w A0 l0) (hc0 : True) (h : lattice_Lattice_Below.f l0 a1 = some r) :
    Calls Tryz.prog 43 #[.pointer A0, .int .i64 a1] w fun e w' => ∃ v0_ : Value, e = .returned v0_ ∧ Kd.R (Kd.int .i64) 3 w' w.heap.size (fun _ => True) v0_ r ∧ Below w.heap.size w w' := by
  have hO : LatC w A0 l0 := hr0
  have hB0 : Below w.heap.size w ((w.alloc (.cells #[.pointer A0] 22)).alloc (.cells #[.int .i64 a1] 3)) := below_alloc (below_alloc (Below.refl _ _) _) _
  have HA := Aside0.mk (lat_all (fun j => lattice_Lattice_Dominates.f l0 a1 j) 63 #[.pointer (some ⟨w.heap.size, 0, none⟩), .pointer (some ⟨w.heap.size + 1, 0, none⟩)] (enters_of Tryz.func63 (by kernel_rfl) rfl) A0 l0 r _ (latC_below hO hB0)
    (fun j b W _ hj hb => lat_below1 A0 l0 a1 j b _ _ W ((hb.cell (by first | (simp; done) | (simp; omega))).trans (by simp)) ((hb.cell (by first | (simp; done) | (simp; omega))).trans (by simp)) (latC_below (latC_below hO hB0) hb) hj) h)
  clear h hr0 hO hc0
  go_enter Tryz.func43, Tryz.ntmps43
  go_wp2_with (go_at_call 39; refine HA.out.mono ?_; rintro e w' ⟨v, rfl, hR, hb⟩)
  go_ret
  exact ⟨_, rfl, Kd.R_lower hR (below_size hB0), below_step hB0 hb⟩

end Go.Proofs.YtgcaalgaellciaaGreatDoor.XLar
