/- GuardOrder: the row of the second form of the law barbicanlaw24_GuardOrder, out of its pure law and its walk. Condition: what is read is of bulk at most 1048576. -/
import Derived.Test.YtoiakgibckgfdaaRows
import Derived.Test.YtoiakgibckgfdaaXGvx11
import Derived.Test.YtoiakgibckgfdaaXRow
import Derived.Test.YtoiakgibckgfdaaPureGuardOrder
import Derived.WalkKit
import Derived.ProofKit
import Derived.OpenShut
import Derived.ShutString
import Derived.ChangeOld
import Derived.Below
import Derived.SizedLaws
import Derived.JoinedCond
import Derived.Deep.CondSized
import Derived.Test.YtoiakgibckgfdaaXSt81
import Derived.Test.YtoiakgibckgfdaaXSt24
import Derived.Test.YtoiakgibckgfdaaXSt56
import Derived.Test.YtoiakgibckgfdaaXSt27
import Derived.Test.YtoiakgibckgfdaaXSt47
import Derived.Test.YtoiakgibckgfdaaXSt44
namespace Go.Proofs.Ytoiakgibckgfdaa.guardOrder
open Go.ChangeShapes Go.WideShapes Go.ChangeAt Go.RowKit Go.Proofs.Ytoiakgibckgfdaa.XGv Go.Proofs.YtoiakgibckgfdaaW.PrintWords Go.Proofs.YtoiakgibckgfdaaW.PrintLast Go.Proofs.YtoiakgibckgfdaaW.PrintMore
open Go.ChangeMaps (open_string shut_string)
set_option linter.unusedVariables false
set_option linter.unusedSimpArgs false
theorem own : ownKnob Try.prog.godebug = none := by kernel_rfl
theorem laidOut : laidOutB Try.prog = true := by kernel_rfl
theorem heap47 : Kd.Heap k47 := ⟨fun _ h => h⟩
theorem heap44 : Kd.Heap k44 := ⟨by
  rintro w w1 x cs hb ⟨_, _, rfl, h1, ⟨A, c, rfl, hl, hr⟩⟩
  exact ⟨_, _, rfl, h1, ⟨A, c, rfl, hl, heap47.C hb hr⟩⟩⟩
theorem walk (W : World) (a0_0 : ByteArray) (A0_1 : Option Addr) (c0_1 : Nat) (l0_1 : List (S81)) (hr0_1 : Kd.C k81 W A0_1 l0_1.length l0_1) (hc0_1 : l0_1.length ≤ c0_1) (a1_0 : ByteArray) (a1_1 : ByteArray) (a1_2 : Int) (a1_3 : Int) (A1_4 : Option Addr) (c1_4 : Nat) (l1_4 : List (S56)) (hr1_4 : Kd.C k56 W A1_4 l1_4.length l1_4) (hc1_4 : l1_4.length ≤ c1_4) (a1_5 : Int) (a1_6 : Int) (A2 : Option Addr) (c2 : Nat) (l2 : List (S44)) (hr2 : Kd.C k44 W A2 l2.length l2) (hc2 : l2.length ≤ c2) (g0_0 : (fun s : ByteArray => s.size ≤ maxLen) a0_0) (b0_0 : (fun s : ByteArray => s.size + 1) a0_0 ≤ 1048576) (g0_1 : (fun xs : List (S81) => xs.length ≤ maxLen ∧ ∀ x ∈ xs, good81 x) l0_1) (b0_1 : (fun xs : List (S81) => (xs.map bulk81).sum + 1) l0_1 ≤ 1048576) (g1_0 : (fun s : ByteArray => s.size ≤ maxLen) a1_0) (b1_0 : (fun s : ByteArray => s.size + 1) a1_0 ≤ 1048576) (g1_1 : (fun s : ByteArray => s.size ≤ maxLen) a1_1) (b1_1 : (fun s : ByteArray => s.size + 1) a1_1 ≤ 1048576) (g1_2 : (fun n : Int => (Lit.int .i64 n).wf = true) a1_2) (b1_2 : (fun _ : Int => 1) a1_2 ≤ 1048576) (g1_3 : (fun n : Int => (Lit.int .i64 n).wf = true) a1_3) (b1_3 : (fun _ : Int => 1) a1_3 ≤ 1048576) (g1_4 : (fun xs : List (S56) => xs.length ≤ maxLen ∧ ∀ x ∈ xs, good56 x) l1_4) (b1_4 : (fun xs : List (S56) => (xs.map bulk56).sum + 1) l1_4 ≤ 1048576) (g1_5 : (fun n : Int => (Lit.int .i64 n).wf = true) a1_5) (b1_5 : (fun _ : Int => 1) a1_5 ≤ 1048576) (g1_6 : (fun n : Int => (Lit.int .i64 n).wf = true) a1_6) (b1_6 : (fun _ : Int => 1) a1_6 ≤ 1048576) (g2 : (fun xs : List (S44) => xs.length ≤ maxLen ∧ ∀ x ∈ xs, good44 x) l2) (b2 : (fun xs : List (S44) => (xs.map bulk44).sum + 1) l2 ≤ 1048576) :
    Calls Try.prog 4 #[.agg #[.string a0_0, .slice A0_1 l0_1.length c0_1], .agg #[.string a1_0, .string a1_1, .int .i64 a1_2, .int .i64 a1_3, .slice A1_4 l1_4.length c1_4, .int .i64 a1_5, .int .i64 a1_6], .slice A2 l2.length c2] W fun e w' => e = .returned (.bool true) ∧ Below W.heap.size W w' := by
  obtain ⟨k, h⟩ := Pure.GuardOrder a0_0 l0_1 a1_0 a1_1 a1_2 a1_3 l1_4 a1_5 a1_6 l2 g0_0 b0_0 g0_1 b0_1 g1_0 b1_0 g1_1 b1_1 g1_2 b1_2 g1_3 b1_3 g1_4 b1_4 g1_5 b1_5 g1_6 b1_6 g2 b2
  refine (barbicanlaw24_GuardOrder.calls k a0_0 _ _ l0_1 a1_0 a1_1 a1_2 a1_3 _ _ l1_4 a1_5 a1_6 (fun k_ => k_ < W.heap.size) _ _ l2 true W hr0_1 hc0_1 hr1_4 hc1_4 (Kd.V_mk hc2 (Kd.C_F heap44 hr2))  h).mono ?_
  rintro e w' ⟨rfl, hd⟩
  exact ⟨rfl, hd⟩
set_option maxRecDepth 100000 in
theorem contract (H : Type) (enc : TypeId × Value → H) (W : World) (base : Nat) (args : Array Value) (ds gs : List (DataW H)) (before : List MemPlace)
    (hval0 : ∀ (j : Nat) t v, Try.f4.params[j]? = some t → args[j]? = some v → Value.okWide Try.prog W .any base t v)
    (hW : DataW.Whole enc Try.prog Try.f4.params.toList Rows.guardOrderSpec.vars false W args.toList ds gs before) (hk : Rows.uptoBulkAll ds ≤ 1048576) :
    Calls Try.prog 4 args W fun e W' => ∃ v, e = .returned v ∧ Rows.guardOrderSpec.post enc Try.prog Try.f4 false true false false W args v W' := by
  have hval : ∀ (j : Nat) t v, Try.f4.params[j]? = some t → args[j]? = some v → Value.okWide Try.prog W .any base t v := hval0
  have hW' := hW
  obtain ⟨p, q, hA0, hV, rfl, hfz, hnd⟩ := hW
  have hA : DataW.TrodAll enc Try.prog W 0 (fun _ => true) true Try.f4.params.toList args.toList ds p := hA0
  rw [Try.params4] at hA hval
  obtain ⟨v0, vs0, d0, ds0, p0, q0, hargs, rfl, rfl, h0, r0⟩ := trodAll_cons hA
  obtain ⟨v1, vs1, d1, ds1, p1, q1, rfl, rfl, rfl, h1, r1⟩ := trodAll_cons r0
  obtain ⟨v2, vs2, d2, ds2, p2, q2, rfl, rfl, rfl, h2, r2⟩ := trodAll_cons r1
  obtain ⟨rfl, rfl, rfl⟩ := trodAll_nil r2
  obtain rfl : args = #[v0, v1, v2] := by cases args; simp_all
  obtain ⟨rfl, rfl⟩ := trodVars_none hV
  simp only [Rows.uptoBulkAll] at hk
  have k0 := h0
  have lt0 : ∀ x ∈ p0, x.block < W.heap.size := by obtain ⟨m, hm⟩ := k0; exact DataW.trod_lt m _ _ _ hm
  obtain ⟨cs0, rfl, hz0⟩ := okWide_struct Try.underlying24 (hval 0 24 v0 rfl rfl)
  obtain ⟨fu0, hf0⟩ := h0
  obtain ⟨x0, hK0, g0, b0⟩ := (opn24 _) H enc fu0 _ _ hf0
  obtain ⟨A0_1, c0_1, e0, hc0_1, hr0_1⟩ := k24_open hK0
  replace e0 : cs0.toList = (#[.string x0.f0, .slice A0_1 x0.f1.length c0_1] : Array Value).toList := e0
  obtain rfl := Array.toList_inj.1 e0
  obtain ⟨g0_0, g0_1⟩ := g0
  have b0_0 : (fun s : ByteArray => s.size + 1) x0.f0 ≤ Rows.uptoBulk d0 := by have z := b0; simp only [bulk24] at z; (try dsimp only at z); (try dsimp only); omega
  have b0_1 : (fun xs : List (S81) => (xs.map bulk81).sum + 1) x0.f1 ≤ Rows.uptoBulk d0 := by have z := b0; simp only [bulk24] at z; (try dsimp only at z); (try dsimp only); omega
  have k1 := h1
  have lt1 : ∀ x ∈ p1, x.block < W.heap.size := by obtain ⟨m, hm⟩ := k1; exact DataW.trod_lt m _ _ _ hm
  obtain ⟨cs1, rfl, hz1⟩ := okWide_struct Try.underlying27 (hval 1 27 v1 rfl rfl)
  obtain ⟨fu1, hf1⟩ := h1
  obtain ⟨x1, hK1, g1, b1⟩ := (opn27 _) H enc fu1 _ _ hf1
  obtain ⟨A1_4, c1_4, e1, hc1_4, hr1_4⟩ := k27_open hK1
  replace e1 : cs1.toList = (#[.string x1.f0, .string x1.f1, .int .i64 x1.f2, .int .i64 x1.f3, .slice A1_4 x1.f4.length c1_4, .int .i64 x1.f5, .int .i64 x1.f6] : Array Value).toList := e1
  obtain rfl := Array.toList_inj.1 e1
  obtain ⟨g1_0, g1_1, g1_2, g1_3, g1_4, g1_5, g1_6⟩ := g1
  have b1_0 : (fun s : ByteArray => s.size + 1) x1.f0 ≤ Rows.uptoBulk d1 := by have z := b1; simp only [bulk27] at z; (try dsimp only at z); (try dsimp only); omega
  have b1_1 : (fun s : ByteArray => s.size + 1) x1.f1 ≤ Rows.uptoBulk d1 := by have z := b1; simp only [bulk27] at z; (try dsimp only at z); (try dsimp only); omega
  have b1_2 : (fun _ : Int => 1) x1.f2 ≤ Rows.uptoBulk d1 := by have z := b1; simp only [bulk27] at z; (try dsimp only at z); (try dsimp only); omega
  have b1_3 : (fun _ : Int => 1) x1.f3 ≤ Rows.uptoBulk d1 := by have z := b1; simp only [bulk27] at z; (try dsimp only at z); (try dsimp only); omega
  have b1_4 : (fun xs : List (S56) => (xs.map bulk56).sum + 1) x1.f4 ≤ Rows.uptoBulk d1 := by have z := b1; simp only [bulk27] at z; (try dsimp only at z); (try dsimp only); omega
  have b1_5 : (fun _ : Int => 1) x1.f5 ≤ Rows.uptoBulk d1 := by have z := b1; simp only [bulk27] at z; (try dsimp only at z); (try dsimp only); omega
  have b1_6 : (fun _ : Int => 1) x1.f6 ≤ Rows.uptoBulk d1 := by have z := b1; simp only [bulk27] at z; (try dsimp only at z); (try dsimp only); omega
  have k2 := h2
  have lt2 : ∀ x ∈ p2, x.block < W.heap.size := by obtain ⟨m, hm⟩ := k2; exact DataW.trod_lt m _ _ _ hm
  obtain ⟨A2, n2, c2, rfl⟩ := okWide_slice Try.underlying28 (hval 2 28 v2 rfl rfl)
  obtain ⟨fu2, hf2⟩ := h2
  obtain ⟨l2, hK2, g2, b2⟩ := (Kd.opn_slice (d := k44) Try.underlying28 (by kernel_rfl) (opn44 _)) H enc fu2 _ _ hf2
  obtain ⟨A2', c2', hcs2, hc2, hr2⟩ := hK2
  simp only [Value.cells, List.cons.injEq, and_true, Value.slice.injEq] at hcs2
  obtain ⟨rfl, rfl, rfl⟩ := hcs2
  replace b2 : (fun xs : List (S44) => (xs.map bulk44).sum + 1) l2 ≤ Rows.uptoBulk d2 := b2
  refine (walk W x0.f0 A0_1 c0_1 x0.f1 hr0_1 hc0_1 x1.f0 x1.f1 x1.f2 x1.f3 A1_4 c1_4 x1.f4 hr1_4 hc1_4 x1.f5 x1.f6 A2 c2 l2 hr2 hc2 g0_0 (by omega) g0_1 (by omega) g1_0 (by omega) g1_1 (by omega) g1_2 (by omega) g1_3 (by omega) g1_4 (by omega) g1_5 (by omega) g1_6 (by omega) g2 (by omega)).mono fun e W' ⟨he, bel⟩ => ?_
  subst he
  exact ⟨_, rfl, _, _, _, [], _, [], hW', trodAll_mk1 (shut_bool Try.underlying4 _), (trodAll_cons_mk (Below.trod laidOut (by kernel_rfl) (of_decide_eq_true (by kernel_rfl)) k0 bel lt0) (trodAll_cons_mk (Below.trod laidOut (by kernel_rfl) (of_decide_eq_true (by kernel_rfl)) k1 bel lt1) (trodAll_cons_mk (Below.trod laidOut (by kernel_rfl) (of_decide_eq_true (by kernel_rfl)) k2 bel lt2) trodAll_mk0))), rfl, bel.frame _, fun h => by cases h⟩
set_option maxRecDepth 100000 in
theorem lifted (os : Os) (started : os.Started) (H : Type) (enc : TypeId × Value → H) (F : Stop.Interp) :
    ReturnsInHanded {} Try.checked os 4 .any ((Rows.OpenSpec.upto Rows.guardOrderSpec).pre6 enc Try.prog Try.f4 Rows.guardOrderUptoRow.domain false) (((Rows.OpenSpec.upto Rows.guardOrderSpec).at F).post enc Try.prog Try.f4 false true false false) := by
  refine returnsInHanded_of_cond_sized (C := Try.checked) (s := (Rows.OpenSpec.upto Rows.guardOrderSpec)) (k := Rows.uptoSmall) rfl own started (by kernel_rfl) Try.func4
    (OpenSpec.witness (enc := enc) (C := Try.checked) (s := (Rows.OpenSpec.upto Rows.guardOrderSpec)) (k := Rows.uptoSmall) rfl false ⟨#[], #[.agg #[.string ByteArray.empty, .slice none 0 0], .agg #[.string ByteArray.empty, .string ByteArray.empty, .int .i64 0, .int .i64 0, .slice none 0 0, .int .i64 0, .int .i64 0], .slice none 0 0], []⟩ 8 (by kernel_rfl) (by kernel_rfl) (by kernel_rfl)
      (x := ([.agg [.lit (.string []), .nil], .agg [.lit (.string []), .lit (.string []), .lit (.int .i64 0), .lit (.int .i64 0), .nil, .lit (.int .i64 0), .lit (.int .i64 0)], .nil], [], [])) (by kernel_rfl) rfl (by kernel_rfl)) ?_
  intro W base args ds gs before hval hW _ hk _ _
  exact contract H enc W base args ds gs before hval hW (by have h_ := of_decide_eq_true (p := Rows.uptoBulkAll (ds ++ gs) ≤ 1048576) hk; have hV_ := hW; obtain ⟨_, _, _, hV_, _⟩ := hV_; obtain ⟨rfl, rfl⟩ := trodVars_none hV_; rwa [List.append_nil] at h_)
theorem over : Rows.guardOrderUptoRow.holds Try.pinned (Rows.OpenSpec.upto Rows.guardOrderSpec) :=
  OpenClaim.holds_of_cond 4 Try.f4 rfl rfl rfl rfl rfl rfl rfl ⟨rfl, rfl, rfl, rfl, rfl⟩ rfl rfl rfl rfl rfl (by kernel_rfl) Try.func4 (by kernel_rfl)
    (of_decide_eq_true (by kernel_rfl)) (by unfold Func.isWrapper; first | (rw [if_pos (by decide +kernel)]; kernel_rfl) | (rw [if_neg (by decide +kernel)]; exact ⟨rfl, rfl⟩))
    (fun os started H enc _ F => lifted os started H enc F)
end Go.Proofs.Ytoiakgibckgfdaa.guardOrder
namespace Go.Proofs.Ytoiakgibckgfdaa
theorem guardOrderUpto_holds : Rows.GuardOrderUptoSaid := guardOrder.over
#print axioms guardOrderUpto_holds
end Go.Proofs.Ytoiakgibckgfdaa
