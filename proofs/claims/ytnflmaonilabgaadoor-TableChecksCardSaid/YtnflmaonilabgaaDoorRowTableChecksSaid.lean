/- TableChecks: the row of the law barbicanlaw15_TableChecks, out of its pure law and its walk. Condition: none. -/
import Derived.Test.YtnflmaonilabgaaDoorCards
import Derived.Test.YtnflmaonilabgaaDoorTie
import Derived.Test.YtnflmaonilabgaaDoorXTcsx16
import Derived.Test.YtnflmaonilabgaaDoorXRow
import Derived.Test.YtnflmaonilabgaaDoorPureTableChecks
import Derived.Test.YtnflmaonilabgaaDoorXDoorStr
import Derived.Test.YtnflmaonilabgaaDoorWSized
import Derived.Test.YtnflmaonilabgaaDoorXOpw
import Derived.WalkKit
import Derived.ProofKit
import Derived.OpenShut
import Derived.ShutString
import Derived.ChangeOld
import Derived.Below
import Derived.SizedLaws
import Derived.JoinedCond
import Derived.Deep.CondSized
import Derived.Deep.DeepHandedRow
import Derived.Lib.LaidTab
import Derived.SevenTiedAt
import Derived.Test.YtnflmaonilabgaaDoorXSt55
import Derived.Test.YtnflmaonilabgaaDoorXSt24
namespace Go.Proofs.YtnflmaonilabgaaDoor.tableChecks
open Go.ChangeShapes Go.WideShapes Go.ChangeAt Go.RowKit Go.Proofs.YtnflmaonilabgaaDoor.XTcs Go.Proofs.YtnflmaonilabgaaDoorW.PrintWords Go.Proofs.YtnflmaonilabgaaDoorW.PrintLast Go.Proofs.YtnflmaonilabgaaDoorW.PrintMore Go.Proofs.YtnflmaonilabgaaDoor.Str
open Go.ChangeMaps (open_string shut_string)
set_option linter.unusedVariables false
set_option linter.unusedSimpArgs false
theorem own : ownKnob Tryd.prog.godebug = none := by kernel_rfl
theorem laidOut : laidOutB Tryd.prog = true := by kernel_rfl
theorem walk (W : World) (hG : GE W) (a0_0 : ByteArray) (A0_1 : Option Addr) (c0_1 : Nat) (l0_1 : List (S55)) (hr0_1 : Kd.C k55 W A0_1 l0_1.length l0_1) (hc0_1 : l0_1.length ≤ c0_1) (a1 : ByteArray) (g0_0 : (fun s : ByteArray => s.size ≤ 140737488351232) a0_0) (g0_1 : (fun xs : List (S55) => xs.length * 32 ≤ 140737488351232 ∧ xs.length ≤ maxLen ∧ ∀ x ∈ xs, goodw55 x) l0_1) (g1 : (fun s : ByteArray => s.size ≤ 140737488351232) a1) :
    Calls Tryd.prog 5 #[.agg #[.string a0_0, .slice A0_1 l0_1.length c0_1], .string a1] W fun e w' => e = .returned (.bool true) ∧ Below W.heap.size W w' := by
  obtain ⟨k, h⟩ := Pure.TableChecks a0_0 l0_1 a1 g0_0 g0_1 g1
  refine (barbicanlaw15_TableChecks.calls k a0_0 _ _ l0_1 a1 true W hr0_1 hc0_1 hG h ⟨rfl⟩).mono ?_
  rintro e w' ⟨rfl, hd⟩
  exact ⟨rfl, hd⟩
set_option maxRecDepth 100000 in
theorem contract (H : Type) (enc : TypeId × Value → H) (W : World) (base : Nat) (args : Array Value) (ds gs : List (DataW H)) (before : List MemPlace)
    (hval0 : ∀ (j : Nat) t v, Tryd.f5.params[j]? = some t → args[j]? = some v → Value.okWide Tryd.prog W .any base t v)
    (hW : DataW.Whole enc Tryd.prog Tryd.f5.params.toList Rows.tableChecksSpec.vars false W args.toList ds gs before) (hsz : (DataW.weightsEach Tryd.prog (Tryd.f5.params.toList ++ Rows.tableChecksSpec.plain.varTypes Tryd.prog) (ds ++ gs)).all (· ≤ reachBytes) = true) (hG : GE W) :
    Calls Tryd.prog 5 args W fun e W' => ∃ v, e = .returned v ∧ Rows.tableChecksSpec.post enc Tryd.prog Tryd.f5 false true false false W args v W' := by
  have hval : ∀ (j : Nat) t v, Tryd.f5.params[j]? = some t → args[j]? = some v → Value.okWide Tryd.prog W .any base t v := hval0
  have hW' := hW
  obtain ⟨p, q, hA0, hV, rfl, hfz, hnd⟩ := hW
  have hA : DataW.TrodAll enc Tryd.prog W 0 (fun _ => true) true Tryd.f5.params.toList args.toList ds p := hA0
  rw [Tryd.params5] at hA hval hsz
  obtain ⟨v0, vs0, d0, ds0, p0, q0, hargs, rfl, rfl, h0, r0⟩ := trodAll_cons hA
  obtain ⟨v1, vs1, d1, ds1, p1, q1, rfl, rfl, rfl, h1, r1⟩ := trodAll_cons r0
  obtain ⟨rfl, rfl, rfl⟩ := trodAll_nil r1
  obtain rfl : args = #[v0, v1] := by cases args; simp_all
  obtain ⟨rfl, rfl⟩ := trodVars_none hV
  have k0 := h0
  have lt0 : ∀ x ∈ p0, x.block < W.heap.size := by obtain ⟨m, hm⟩ := k0; exact DataW.trod_lt m _ _ _ hm
  have hw0 : ∀ q ∈ d0.weights Tryd.prog 24, q ≤ reachBytes := weights_of hsz (j := 0) rfl rfl
  obtain ⟨cs0, rfl, hz0⟩ := okWide_struct Tryd.underlying24 (hval 0 24 v0 rfl rfl)
  obtain ⟨fu0, hf0⟩ := h0
  obtain ⟨x0, hK0, g0⟩ := (opw24 _) H enc fu0 _ _ hf0 hw0
  obtain ⟨A0_1, c0_1, e0, hc0_1, hr0_1⟩ := k24_open hK0
  replace e0 : cs0.toList = (#[.string x0.f0, .slice A0_1 x0.f1.length c0_1] : Array Value).toList := e0
  obtain rfl := Array.toList_inj.1 e0
  obtain ⟨g0_0, g0_1⟩ := g0
  obtain ⟨a1, rfl, rfl, rfl, g1⟩ := open_string Tryd.underlying9 (hval 1 9 v1 rfl rfl) h1
  have y1 : a1.size ≤ 140737488351232 := by
    have z := sized_string hsz (j := 1) (t := 9) rfl rfl
    rw [Array.length_toList] at z
    exact z
  have gs1 := g1
  clear g1
  have g1 := y1
  refine (walk W hG x0.f0 A0_1 c0_1 x0.f1 hr0_1 hc0_1 a1 g0_0 g0_1 g1).mono fun e W' ⟨he, bel⟩ => ?_
  subst he
  exact ⟨_, rfl, _, _, _, [], _, [], hW', trodAll_mk1 (shut_bool Tryd.underlying4 _), (trodAll_cons_mk (Below.trod laidOut (by kernel_rfl) (of_decide_eq_true (by kernel_rfl)) k0 bel lt0) (trodAll_cons_mk (shut_string Tryd.underlying9 gs1) trodAll_mk0)), rfl, bel.frame _, fun h => by cases h⟩
theorem laid_met (os : Os) : laidMetH Tryd.prog Rows.tableChecksRow.laid ((DoorStr.laidWorld os).forCall (fun _ _ => 0) ⟨#[], #[.agg #[.string ByteArray.empty, .slice none 0 0], .string ByteArray.empty], []⟩).memory := DoorStr.laidWorld_met os _
theorem reads (os : Os) {H : Type} (enc : TypeId × Value → H) : ∃ places, DataW.whole enc Tryd.prog ((DoorStr.laidWorld os).forCall (fun _ _ => 0) ⟨#[], #[.agg #[.string ByteArray.empty, .slice none 0 0], .string ByteArray.empty], []⟩).memory Tryd.f5.params.toList Rows.tableChecksSpec.vars false (#[.agg #[.string ByteArray.empty, .slice none 0 0], .string ByteArray.empty] : Array Value).toList 8 = some ([.agg [.lit (.string []), .nil], .lit (.string [])], [], places) := ⟨[], by kernel_rfl⟩
set_option maxRecDepth 100000 in
theorem lifted (os : Os) (started : os.Started) (H : Type) (enc : TypeId × Value → H) (F : Stop.Interp) :
    ReturnsInHanded {} Tryd.checked os 5 .any ((OpenSpec.ofChange Rows.tableChecksSpec).preRow enc Tryd.prog Tryd.f5 Rows.tableChecksRow.domain false Rows.tableChecksRow.laid) (((OpenSpec.ofChange Rows.tableChecksSpec).at F).post enc Tryd.prog Tryd.f5 false true false false) := by
  obtain ⟨places, hx⟩ := reads os enc
  refine returnsInHanded_of_row (C := Tryd.checked) (s := (OpenSpec.ofChange Rows.tableChecksSpec)) own started (by kernel_rfl) Tryd.func5
    (witness_row_at (enc := enc) (C := Tryd.checked) false (DoorStr.laidWorld os) #[.agg #[.string ByteArray.empty, .slice none 0 0], .string ByteArray.empty] rfl (by kernel_rfl) (by kernel_rfl) (by kernel_rfl)
      (OpenSpec.preRow_of_cond 8 hx (by kernel_rfl) (fun k hk => by cases hk) (by kernel_rfl) (laid_met os))) ?_
  intro W base args ds gs before hval hW _ hcond hsz hL hS_ _
  exact contract H enc W base args ds gs before hval hW hsz (DoorStr.ge_of_laid hL hS_)
theorem said : Rows.tableChecksRow.holds Tryd.pinned (OpenSpec.ofChange Rows.tableChecksSpec) :=
  OpenClaim.holds_of_cond 5 Tryd.f5 rfl rfl rfl rfl rfl rfl rfl ⟨rfl, rfl, rfl, rfl, rfl⟩ rfl rfl rfl rfl rfl (by kernel_rfl) Tryd.func5 (by kernel_rfl)
    (of_decide_eq_true (by kernel_rfl)) (by unfold Func.isWrapper; first | (rw [if_pos (by decide +kernel)]; kernel_rfl) | (rw [if_neg (by decide +kernel)]; exact ⟨rfl, rfl⟩))
    (fun os started H enc _ F => by rw [OpenClaim.pre_eq_preRow]; exact lifted os started H enc F)
theorem plain (f : FuncId) (fn : Func) (hf : Tryd.pinned.checked.prog.funcNamed "barbican/barbicanlaw15.TableChecks" = some f) (hfn : Tryd.pinned.checked.prog.funcs[f]? = some fn) :
    true = Tryd.pinned.checked.prog.looks [] ∧ ∀ (j : Nat) t, fn.params[j]? = some t → Tryd.pinned.checked.prog.wantsStandIn t = false := by
  obtain rfl : f = 5 := Option.some.inj ((show Tryd.prog.funcNamed "barbican/barbicanlaw15.TableChecks" = some 5 by kernel_rfl).symm.trans hf) |>.symm
  obtain rfl : fn = Tryd.f5 := (Option.some.inj (Tryd.func5.symm.trans hfn)).symm
  refine ⟨by kernel_rfl, fun j t ht => ?_⟩
  rw [Tryd.params5] at ht
  have hm : t ∈ [24, 9] := by simpa using Array.mem_of_getElem? ht
  have hall : ∀ t ∈ [24, 9], Tryd.prog.wantsStandIn t = false := by
    intro t ht
    simp only [List.mem_cons, List.not_mem_nil, or_false] at ht
    rcases ht with rfl | rfl
    all_goals kernel_rfl
  exact hall t hm
theorem card : Rows.TableChecksCardSaid :=
  Claim7.holds_tied_plain_at .later [] _ _ _ _ said (fun _ h => by cases h) (by kernel_rfl) (fun _ h => by cases h) tableChecks_row_tie rfl ⟨rfl, rfl⟩ (by kernel_rfl) rfl plain (by kernel_rfl)
end Go.Proofs.YtnflmaonilabgaaDoor.tableChecks
namespace Go.Proofs.YtnflmaonilabgaaDoor
theorem tableChecks_holds : Rows.TableChecksCardSaid := tableChecks.card
#print axioms tableChecks_holds
end Go.Proofs.YtnflmaonilabgaaDoor
