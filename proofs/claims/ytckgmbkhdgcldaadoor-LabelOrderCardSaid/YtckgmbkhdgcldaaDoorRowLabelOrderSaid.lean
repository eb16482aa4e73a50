/- LabelOrder: the row of the law barbicanlaw01_LabelOrder, out of its pure law and its walk. Condition: none. -/
import Derived.Test.YtckgmbkhdgcldaaDoorCards
import Derived.Test.YtckgmbkhdgcldaaDoorTie
import Derived.Test.YtckgmbkhdgcldaaDoorXOrdx7
import Derived.Test.YtckgmbkhdgcldaaDoorXRow
import Derived.Test.YtckgmbkhdgcldaaDoorPureLabelOrder
import Derived.Test.YtckgmbkhdgcldaaDoorXDoorLab
import Derived.Test.YtckgmbkhdgcldaaDoorWSized
import Derived.Test.YtckgmbkhdgcldaaDoorXOpw
import Derived.WalkKit
import Derived.ProofKit
import Derived.OpenShut
import Derived.ShutString
import Derived.ChangeOld
import Derived.Below
import Derived.SizedLaws
import Derived.JoinedCond
import Derived.Deep.CondSized
import Derived.Deep.DeepHandedRow
import Derived.Lib.LaidTab
import Derived.SevenTiedAt
import Derived.Test.YtckgmbkhdgcldaaDoorXSt24
namespace Go.Proofs.YtckgmbkhdgcldaaDoor.labelOrder
open Go.ChangeShapes Go.WideShapes Go.ChangeAt Go.RowKit Go.Proofs.YtckgmbkhdgcldaaDoor.XOrd Go.Proofs.YtckgmbkhdgcldaaDoorW.PrintWords Go.Proofs.YtckgmbkhdgcldaaDoorW.PrintLast Go.Proofs.YtckgmbkhdgcldaaDoorW.PrintMore Go.Proofs.YtckgmbkhdgcldaaDoor.Lab
open Go.ChangeMaps (open_string shut_string)
set_option linter.unusedVariables false
set_option linter.unusedSimpArgs false
theorem own : ownKnob Tryd.prog.godebug = none := by kernel_rfl
theorem laidOut : laidOutB Tryd.prog = true := by kernel_rfl
theorem walk (W : World) (hG : GE W) (a0_0 : Int) (a0_1 : Int) (a1_0 : Int) (a1_1 : Int) (a2_0 : Int) (a2_1 : Int) (g0_0 : (fun n : Int => (Lit.int .i64 n).wf = true) a0_0) (g0_1 : (fun n : Int => (Lit.int .u32 n).wf = true) a0_1) (g1_0 : (fun n : Int => (Lit.int .i64 n).wf = true) a1_0) (g1_1 : (fun n : Int => (Lit.int .u32 n).wf = true) a1_1) (g2_0 : (fun n : Int => (Lit.int .i64 n).wf = true) a2_0) (g2_1 : (fun n : Int => (Lit.int .u32 n).wf = true) a2_1) :
    Calls Tryd.prog 5 #[.agg #[.int .i64 a0_0, .int .u32 a0_1], .agg #[.int .i64 a1_0, .int .u32 a1_1], .agg #[.int .i64 a2_0, .int .u32 a2_1]] W fun e w' => e = .returned (.bool true) ∧ Below W.heap.size W w' := by
  obtain ⟨k, h⟩ := Pure.LabelOrder a0_0 a0_1 a1_0 a1_1 a2_0 a2_1 g0_0 g0_1 g1_0 g1_1 g2_0 g2_1
  refine (barbicanlaw01_LabelOrder.calls k a0_0 a0_1 a1_0 a1_1 a2_0 a2_1 true W  hG h ⟨rfl⟩).mono ?_
  rintro e w' ⟨rfl, hd⟩
  exact ⟨rfl, hd⟩
set_option maxRecDepth 100000 in
theorem contract (H : Type) (enc : TypeId × Value → H) (W : World) (base : Nat) (args : Array Value) (ds gs : List (DataW H)) (before : List MemPlace)
    (hval0 : ∀ (j : Nat) t v, Tryd.f5.params[j]? = some t → args[j]? = some v → Value.okWide Tryd.prog W .any base t v)
    (hW : DataW.Whole enc Tryd.prog Tryd.f5.params.toList Rows.labelOrderSpec.vars false W args.toList ds gs before) (hsz : (DataW.weightsEach Tryd.prog (Tryd.f5.params.toList ++ Rows.labelOrderSpec.plain.varTypes Tryd.prog) (ds ++ gs)).all (· ≤ reachBytes) = true) (hG : GE W) :
    Calls Tryd.prog 5 args W fun e W' => ∃ v, e = .returned v ∧ Rows.labelOrderSpec.post enc Tryd.prog Tryd.f5 false true false false W args v W' := by
  have hval : ∀ (j : Nat) t v, Tryd.f5.params[j]? = some t → args[j]? = some v → Value.okWide Tryd.prog W .any base t v := hval0
  have hW' := hW
  obtain ⟨p, q, hA0, hV, rfl, hfz, hnd⟩ := hW
  have hA : DataW.TrodAll enc Tryd.prog W 0 (fun _ => true) true Tryd.f5.params.toList args.toList ds p := hA0
  rw [Tryd.params5] at hA hval hsz
  obtain ⟨v0, vs0, d0, ds0, p0, q0, hargs, rfl, rfl, h0, r0⟩ := trodAll_cons hA
  obtain ⟨v1, vs1, d1, ds1, p1, q1, rfl, rfl, rfl, h1, r1⟩ := trodAll_cons r0
  obtain ⟨v2, vs2, d2, ds2, p2, q2, rfl, rfl, rfl, h2, r2⟩ := trodAll_cons r1
  obtain ⟨rfl, rfl, rfl⟩ := trodAll_nil r2
  obtain rfl : args = #[v0, v1, v2] := by cases args; simp_all
  obtain ⟨rfl, rfl⟩ := trodVars_none hV
  have k0 := h0
  have lt0 : ∀ x ∈ p0, x.block < W.heap.size := by obtain ⟨m, hm⟩ := k0; exact DataW.trod_lt m _ _ _ hm
  have hw0 : ∀ q ∈ d0.weights Tryd.prog 24, q ≤ reachBytes := weights_of hsz (j := 0) rfl rfl
  obtain ⟨cs0, rfl, hz0⟩ := okWide_struct Tryd.underlying24 (hval 0 24 v0 rfl rfl)
  obtain ⟨fu0, hf0⟩ := h0
  obtain ⟨x0, hK0, g0⟩ := (opw24 _) H enc fu0 _ _ hf0 hw0
  have e0 : cs0.toList = (#[.int .i64 x0.f0, .int .u32 x0.f1] : Array Value).toList := k24_open hK0
  obtain rfl := Array.toList_inj.1 e0
  obtain ⟨g0_0, g0_1⟩ := g0
  have k1 := h1
  have lt1 : ∀ x ∈ p1, x.block < W.heap.size := by obtain ⟨m, hm⟩ := k1; exact DataW.trod_lt m _ _ _ hm
  have hw1 : ∀ q ∈ d1.weights Tryd.prog 24, q ≤ reachBytes := weights_of hsz (j := 1) rfl rfl
  obtain ⟨cs1, rfl, hz1⟩ := okWide_struct Tryd.underlying24 (hval 1 24 v1 rfl rfl)
  obtain ⟨fu1, hf1⟩ := h1
  obtain ⟨x1, hK1, g1⟩ := (opw24 _) H enc fu1 _ _ hf1 hw1
  have e1 : cs1.toList = (#[.int .i64 x1.f0, .int .u32 x1.f1] : Array Value).toList := k24_open hK1
  obtain rfl := Array.toList_inj.1 e1
  obtain ⟨g1_0, g1_1⟩ := g1
  have k2 := h2
  have lt2 : ∀ x ∈ p2, x.block < W.heap.size := by obtain ⟨m, hm⟩ := k2; exact DataW.trod_lt m _ _ _ hm
  have hw2 : ∀ q ∈ d2.weights Tryd.prog 24, q ≤ reachBytes := weights_of hsz (j := 2) rfl rfl
  obtain ⟨cs2, rfl, hz2⟩ := okWide_struct Tryd.underlying24 (hval 2 24 v2 rfl rfl)
  obtain ⟨fu2, hf2⟩ := h2
  obtain ⟨x2, hK2, g2⟩ := (opw24 _) H enc fu2 _ _ hf2 hw2
  have e2 : cs2.toList = (#[.int .i64 x2.f0, .int .u32 x2.f1] : Array Value).toList := k24_open hK2
  obtain rfl := Array.toList_inj.1 e2
  obtain ⟨g2_0, g2_1⟩ := g2
  refine (walk W hG x0.f0 x0.f1 x1.f0 x1.f1 x2.f0 x2.f1 g0_0 g0_1 g1_0 g1_1 g2_0 g2_1).mono fun e W' ⟨he, bel⟩ => ?_
  subst he
  exact ⟨_, rfl, _, _, _, [], _, [], hW', trodAll_mk1 (shut_bool Tryd.underlying4 _), (trodAll_cons_mk (Below.trod laidOut (by kernel_rfl) (of_decide_eq_true (by kernel_rfl)) k0 bel lt0) (trodAll_cons_mk (Below.trod laidOut (by kernel_rfl) (of_decide_eq_true (by kernel_rfl)) k1 bel lt1) (trodAll_cons_mk (Below.trod laidOut (by kernel_rfl) (of_decide_eq_true (by kernel_rfl)) k2 bel lt2) trodAll_mk0))), rfl, bel.frame _, fun h => by cases h⟩
theorem laid_met (os : Os) : laidMetH Tryd.prog Rows.labelOrderRow.laid ((DoorLab.laidWorld os).forCall (fun _ _ => 0) ⟨#[], #[.agg #[.int .i64 0, .int .u32 0], .agg #[.int .i64 0, .int .u32 0], .agg #[.int .i64 0, .int .u32 0]], []⟩).memory := DoorLab.laidWorld_met os _
theorem reads (os : Os) {H : Type} (enc : TypeId × Value → H) : ∃ places, DataW.whole enc Tryd.prog ((DoorLab.laidWorld os).forCall (fun _ _ => 0) ⟨#[], #[.agg #[.int .i64 0, .int .u32 0], .agg #[.int .i64 0, .int .u32 0], .agg #[.int .i64 0, .int .u32 0]], []⟩).memory Tryd.f5.params.toList Rows.labelOrderSpec.vars false (#[.agg #[.int .i64 0, .int .u32 0], .agg #[.int .i64 0, .int .u32 0], .agg #[.int .i64 0, .int .u32 0]] : Array Value).toList 8 = some ([.agg [.lit (.int .i64 0), .lit (.int .u32 0)], .agg [.lit (.int .i64 0), .lit (.int .u32 0)], .agg [.lit (.int .i64 0), .lit (.int .u32 0)]], [], places) := ⟨[], by kernel_rfl⟩
set_option maxRecDepth 100000 in
theorem lifted (os : Os) (started : os.Started) (H : Type) (enc : TypeId × Value → H) (F : Stop.Interp) :
    ReturnsInHanded {} Tryd.checked os 5 .any ((OpenSpec.ofChange Rows.labelOrderSpec).preRow enc Tryd.prog Tryd.f5 Rows.labelOrderRow.domain false Rows.labelOrderRow.laid) (((OpenSpec.ofChange Rows.labelOrderSpec).at F).post enc Tryd.prog Tryd.f5 false true false false) := by
  obtain ⟨places, hx⟩ := reads os enc
  refine returnsInHanded_of_row (C := Tryd.checked) (s := (OpenSpec.ofChange Rows.labelOrderSpec)) own started (by kernel_rfl) Tryd.func5
    (witness_row_at (enc := enc) (C := Tryd.checked) false (DoorLab.laidWorld os) #[.agg #[.int .i64 0, .int .u32 0], .agg #[.int .i64 0, .int .u32 0], .agg #[.int .i64 0, .int .u32 0]] rfl (by kernel_rfl) (by kernel_rfl) (by kernel_rfl)
      (OpenSpec.preRow_of_cond 8 hx (by kernel_rfl) (fun k hk => by cases hk) (by kernel_rfl) (laid_met os))) ?_
  intro W base args ds gs before hval hW _ hcond hsz hL _ _
  exact contract H enc W base args ds gs before hval hW hsz (DoorLab.ge_of_laid hL)
theorem said : Rows.labelOrderRow.holds Tryd.pinned (OpenSpec.ofChange Rows.labelOrderSpec) :=
  OpenClaim.holds_of_cond 5 Tryd.f5 rfl rfl rfl rfl rfl rfl rfl ⟨rfl, rfl, rfl, rfl, rfl⟩ rfl rfl rfl rfl rfl (by kernel_rfl) Tryd.func5 (by kernel_rfl)
    (of_decide_eq_true (by kernel_rfl)) (by unfold Func.isWrapper; first | (rw [if_pos (by decide +kernel)]; kernel_rfl) | (rw [if_neg (by decide +kernel)]; exact ⟨rfl, rfl⟩))
    (fun os started H enc _ F => by rw [OpenClaim.pre_eq_preRow]; exact lifted os started H enc F)
theorem plain (f : FuncId) (fn : Func) (hf : Tryd.pinned.checked.prog.funcNamed "barbican/barbicanlaw01.LabelOrder" = some f) (hfn : Tryd.pinned.checked.prog.funcs[f]? = some fn) :
    true = Tryd.pinned.checked.prog.looks [] ∧ ∀ (j : Nat) t, fn.params[j]? = some t → Tryd.pinned.checked.prog.wantsStandIn t = false := by
  obtain rfl : f = 5 := Option.some.inj ((show Tryd.prog.funcNamed "barbican/barbicanlaw01.LabelOrder" = some 5 by kernel_rfl).symm.trans hf) |>.symm
  obtain rfl : fn = Tryd.f5 := (Option.some.inj (Tryd.func5.symm.trans hfn)).symm
  refine ⟨by kernel_rfl, fun j t ht => ?_⟩
  rw [Tryd.params5] at ht
  have hm : t ∈ [24, 24, 24] := by simpa using Array.mem_of_getElem? ht
  have hall : ∀ t ∈ [24, 24, 24], Tryd.prog.wantsStandIn t = false := by
    intro t ht
    simp only [List.mem_cons, List.not_mem_nil, or_false] at ht
    rcases ht with rfl | rfl | rfl
    all_goals kernel_rfl
  exact hall t hm
theorem card : Rows.LabelOrderCardSaid :=
  Claim7.holds_tied_plain_at .later [] _ _ _ _ said (fun _ h => by cases h) (by kernel_rfl) (fun _ h => by cases h) labelOrder_row_tie rfl ⟨rfl, rfl⟩ (by kernel_rfl) rfl plain (by kernel_rfl)
end Go.Proofs.YtckgmbkhdgcldaaDoor.labelOrder
namespace Go.Proofs.YtckgmbkhdgcldaaDoor
theorem labelOrder_holds : Rows.LabelOrderCardSaid := labelOrder.card
#print axioms labelOrder_holds
end Go.Proofs.YtckgmbkhdgcldaaDoor
