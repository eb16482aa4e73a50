/- GuardBlind: the row of the law barbicanlaw24_GuardBlind, out of its pure law and its walk. Condition: none. -/
import Derived.Test.YtadnmajoimckgaaRows
import Derived.Test.YtadnmajoimckgaaXGbx11
import Derived.Test.YtadnmajoimckgaaXRow
import Derived.Test.YtadnmajoimckgaaPureGuardBlind
import Derived.Test.YtadnmajoimckgaaWSized
import Derived.Test.YtadnmajoimckgaaXOpw
import Derived.WalkKit
import Derived.ProofKit
import Derived.OpenShut
import Derived.ShutString
import Derived.ChangeOld
import Derived.Below
import Derived.SizedLaws
import Derived.JoinedCond
import Derived.Deep.CondSized
import Derived.Test.YtadnmajoimckgaaXSt23
import Derived.Test.YtadnmajoimckgaaXSt25
import Derived.Test.YtadnmajoimckgaaXSt26
namespace Go.Proofs.Ytadnmajoimckgaa.guardBlind
open Go.ChangeShapes Go.WideShapes Go.ChangeAt Go.RowKit Go.Proofs.Ytadnmajoimckgaa.XGb Go.Proofs.YtadnmajoimckgaaW.PrintWords Go.Proofs.YtadnmajoimckgaaW.PrintLast Go.Proofs.YtadnmajoimckgaaW.PrintMore
open Go.ChangeMaps (open_string shut_string)
set_option linter.unusedVariables false
set_option linter.unusedSimpArgs false
theorem own : ownKnob Try.prog.godebug = none := by kernel_rfl
theorem laidOut : laidOutB Try.prog = true := by kernel_rfl
theorem walk (W : World) (a0_0 : ByteArray) (a0_1 : Int) (a0_2 : Int) (a1_0 : Int) (a1_1 : Int) (a1_2 : ByteArray) (a1_3 : Bool) (a2_0 : Int) (a2_1 : Int) (g0_0 : (fun s : ByteArray => s.size ≤ 140737488351232) a0_0) (g0_1 : (fun n : Int => (Lit.int .i64 n).wf = true) a0_1) (g0_2 : (fun n : Int => (Lit.int .i64 n).wf = true) a0_2) (g1_0 : (fun n : Int => (Lit.int .i64 n).wf = true) a1_0) (g1_1 : (fun n : Int => (Lit.int .i64 n).wf = true) a1_1) (g1_2 : (fun s : ByteArray => s.size ≤ 140737488351232) a1_2) (g1_3 : (fun _ : Bool => True) a1_3) (g2_0 : (fun n : Int => (Lit.int .i64 n).wf = true) a2_0) (g2_1 : (fun n : Int => (Lit.int .i64 n).wf = true) a2_1) :
    Calls Try.prog 3 #[.agg #[.string a0_0, .int .i64 a0_1, .int .i64 a0_2], .agg #[.int .i64 a1_0, .int .i64 a1_1, .string a1_2, .bool a1_3], .agg #[.int .i64 a2_0, .int .i64 a2_1]] W fun e w' => e = .returned (.bool true) ∧ Below W.heap.size W w' := by
  obtain ⟨k, h⟩ := Pure.GuardBlind a0_0 a0_1 a0_2 a1_0 a1_1 a1_2 a1_3 a2_0 a2_1 g0_0 g0_1 g0_2 g1_0 g1_1 g1_2 g1_3 g2_0 g2_1
  refine (barbicanlaw24_GuardBlind.calls k a0_0 a0_1 a0_2 a1_0 a1_1 a1_2 a1_3 a2_0 a2_1 true W   h ⟨rfl⟩).mono ?_
  rintro e w' ⟨rfl, hd⟩
  exact ⟨rfl, hd⟩
set_option maxRecDepth 100000 in
theorem contract (H : Type) (enc : TypeId × Value → H) (W : World) (base : Nat) (args : Array Value) (ds gs : List (DataW H)) (before : List MemPlace)
    (hval0 : ∀ (j : Nat) t v, Try.f3.params[j]? = some t → args[j]? = some v → Value.okWide Try.prog W .any base t v)
    (hW : DataW.Whole enc Try.prog Try.f3.params.toList Rows.guardBlindSpec.vars false W args.toList ds gs before) (hsz : (DataW.weightsEach Try.prog (Try.f3.params.toList ++ Rows.guardBlindSpec.plain.varTypes Try.prog) (ds ++ gs)).all (· ≤ reachBytes) = true) :
    Calls Try.prog 3 args W fun e W' => ∃ v, e = .returned v ∧ Rows.guardBlindSpec.post enc Try.prog Try.f3 false true false false W args v W' := by
  have hval : ∀ (j : Nat) t v, Try.f3.params[j]? = some t → args[j]? = some v → Value.okWide Try.prog W .any base t v := hval0
  have hW' := hW
  obtain ⟨p, q, hA0, hV, rfl, hfz, hnd⟩ := hW
  have hA : DataW.TrodAll enc Try.prog W 0 (fun _ => true) true Try.f3.params.toList args.toList ds p := hA0
  rw [Try.params3] at hA hval hsz
  obtain ⟨v0, vs0, d0, ds0, p0, q0, hargs, rfl, rfl, h0, r0⟩ := trodAll_cons hA
  obtain ⟨v1, vs1, d1, ds1, p1, q1, rfl, rfl, rfl, h1, r1⟩ := trodAll_cons r0
  obtain ⟨v2, vs2, d2, ds2, p2, q2, rfl, rfl, rfl, h2, r2⟩ := trodAll_cons r1
  obtain ⟨rfl, rfl, rfl⟩ := trodAll_nil r2
  obtain rfl : args = #[v0, v1, v2] := by cases args; simp_all
  obtain ⟨rfl, rfl⟩ := trodVars_none hV
  have k0 := h0
  have lt0 : ∀ x ∈ p0, x.block < W.heap.size := by obtain ⟨m, hm⟩ := k0; exact DataW.trod_lt m _ _ _ hm
  have hw0 : ∀ q ∈ d0.weights Try.prog 23, q ≤ reachBytes := weights_of hsz (j := 0) rfl rfl
  obtain ⟨cs0, rfl, hz0⟩ := okWide_struct Try.underlying23 (hval 0 23 v0 rfl rfl)
  obtain ⟨fu0, hf0⟩ := h0
  obtain ⟨x0, hK0, g0⟩ := (opw23 _) H enc fu0 _ _ hf0 hw0
  have e0 : cs0.toList = (#[.string x0.f0, .int .i64 x0.f1, .int .i64 x0.f2] : Array Value).toList := k23_open hK0
  obtain rfl := Array.toList_inj.1 e0
  obtain ⟨g0_0, g0_1, g0_2⟩ := g0
  have k1 := h1
  have lt1 : ∀ x ∈ p1, x.block < W.heap.size := by obtain ⟨m, hm⟩ := k1; exact DataW.trod_lt m _ _ _ hm
  have hw1 : ∀ q ∈ d1.weights Try.prog 25, q ≤ reachBytes := weights_of hsz (j := 1) rfl rfl
  obtain ⟨cs1, rfl, hz1⟩ := okWide_struct Try.underlying25 (hval 1 25 v1 rfl rfl)
  obtain ⟨fu1, hf1⟩ := h1
  obtain ⟨x1, hK1, g1⟩ := (opw25 _) H enc fu1 _ _ hf1 hw1
  have e1 : cs1.toList = (#[.int .i64 x1.f0, .int .i64 x1.f1, .string x1.f2, .bool x1.f3] : Array Value).toList := k25_open hK1
  obtain rfl := Array.toList_inj.1 e1
  obtain ⟨g1_0, g1_1, g1_2, g1_3⟩ := g1
  have k2 := h2
  have lt2 : ∀ x ∈ p2, x.block < W.heap.size := by obtain ⟨m, hm⟩ := k2; exact DataW.trod_lt m _ _ _ hm
  have hw2 : ∀ q ∈ d2.weights Try.prog 26, q ≤ reachBytes := weights_of hsz (j := 2) rfl rfl
  obtain ⟨cs2, rfl, hz2⟩ : ∃ cs, v2 = .agg cs ∧ cs.size = Try.prog.cellsOf 26 := by have h_ := (hval 2 26 v2 rfl rfl); simp only [Value.okWide, Try.underlying26] at h_; obtain ⟨cs, h1, h2, _⟩ := h_; exact ⟨cs, h1, h2⟩
  obtain ⟨fu2, hf2⟩ := h2
  obtain ⟨x2, hK2, g2⟩ := (opw26 _) H enc fu2 _ _ hf2 hw2
  have e2 : cs2.toList = (#[.int .i64 x2.f0, .int .i64 x2.f1] : Array Value).toList := k26_open hK2
  obtain rfl := Array.toList_inj.1 e2
  obtain ⟨g2_0, g2_1⟩ := g2
  refine (walk W x0.f0 x0.f1 x0.f2 x1.f0 x1.f1 x1.f2 x1.f3 x2.f0 x2.f1 g0_0 g0_1 g0_2 g1_0 g1_1 g1_2 g1_3 g2_0 g2_1).mono fun e W' ⟨he, bel⟩ => ?_
  subst he
  exact ⟨_, rfl, _, _, _, [], _, [], hW', trodAll_mk1 (shut_bool Try.underlying4 _), (trodAll_cons_mk (Below.trod laidOut (by kernel_rfl) (of_decide_eq_true (by kernel_rfl)) k0 bel lt0) (trodAll_cons_mk (Below.trod laidOut (by kernel_rfl) (of_decide_eq_true (by kernel_rfl)) k1 bel lt1) (trodAll_cons_mk (Below.trod laidOut (by kernel_rfl) (of_decide_eq_true (by kernel_rfl)) k2 bel lt2) trodAll_mk0))), rfl, bel.frame _, fun h => by cases h⟩
set_option maxRecDepth 100000 in
theorem lifted (os : Os) (started : os.Started) (H : Type) (enc : TypeId × Value → H) :
    ReturnsInHanded {} Try.checked os 3 .any (Rows.guardBlindSpec.pre6 enc Try.prog Try.f3 Rows.guardBlindRow.domain false) (Rows.guardBlindSpec.post enc Try.prog Try.f3 false true false false) := by
  refine returnsInHanded_of_change_sized (C := Try.checked) own started (by kernel_rfl) Try.func3
    (ChangeSpec.witness6 (enc := enc) (C := Try.checked) false ⟨#[], #[.agg #[.string ByteArray.empty, .int .i64 0, .int .i64 0], .agg #[.int .i64 0, .int .i64 0, .string ByteArray.empty, .bool false], .agg #[.int .i64 0, .int .i64 0]], []⟩ 8 (by kernel_rfl) (by kernel_rfl) (by kernel_rfl) (by kernel_rfl)) ?_
  intro W base args ds gs before hval hW _ hsz _
  exact contract H enc W base args ds gs before hval hW hsz
theorem over : Rows.guardBlindRow.holds Try.pinned (OpenSpec.ofChange Rows.guardBlindSpec) :=
  OpenClaim.holds_of_wide 3 Try.f3 rfl rfl rfl rfl rfl rfl rfl ⟨rfl, rfl, rfl, rfl, rfl⟩ rfl rfl rfl rfl rfl (by kernel_rfl) Try.func3 (by kernel_rfl)
    (of_decide_eq_true (by kernel_rfl)) (by unfold Func.isWrapper; first | (rw [if_pos (by decide +kernel)]; kernel_rfl) | (rw [if_neg (by decide +kernel)]; exact ⟨rfl, rfl⟩))
    (fun os started H enc _ => lifted os started H enc)
end Go.Proofs.Ytadnmajoimckgaa.guardBlind
namespace Go.Proofs.Ytadnmajoimckgaa
theorem guardBlind_holds : Rows.GuardBlindSaid := guardBlind.over
#print axioms guardBlind_holds
end Go.Proofs.Ytadnmajoimckgaa
