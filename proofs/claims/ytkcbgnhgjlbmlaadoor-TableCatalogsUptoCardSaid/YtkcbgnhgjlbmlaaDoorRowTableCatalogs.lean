/- TableCatalogs: the row of the second form of the law barbicanlaw15_TableCatalogs, out of its pure law and its walk. Condition: what is read is of bulk at most 1048576. -/
import Derived.Test.YtkcbgnhgjlbmlaaDoorCards
import Derived.Test.YtkcbgnhgjlbmlaaDoorTie
import Derived.Test.YtkcbgnhgjlbmlaaDoorXRow
import Derived.Test.YtkcbgnhgjlbmlaaDoorPureTableCatalogs
import Derived.Test.YtkcbgnhgjlbmlaaDoorXDoorStr
import Derived.WalkKit
import Derived.ProofKit
import Derived.OpenShut
import Derived.ShutString
import Derived.ChangeOld
import Derived.Below
import Derived.SizedLaws
import Derived.JoinedCond
import Derived.Deep.CondSized
import Derived.Deep.DeepHandedRow
import Derived.Lib.LaidTab
import Derived.SevenTiedAt
import Derived.Test.YtkcbgnhgjlbmlaaDoorXSt39
import Derived.Test.YtkcbgnhgjlbmlaaDoorXSt25
namespace Go.Proofs.YtkcbgnhgjlbmlaaDoor.tableCatalogs
open Go.ChangeShapes Go.WideShapes Go.ChangeAt Go.RowKit Go.Proofs.YtkcbgnhgjlbmlaaDoor.XTc Go.Proofs.YtkcbgnhgjlbmlaaDoorW.PrintWords Go.Proofs.YtkcbgnhgjlbmlaaDoorW.PrintLast Go.Proofs.YtkcbgnhgjlbmlaaDoorW.PrintMore Go.Proofs.YtkcbgnhgjlbmlaaDoor.Str
open Go.ChangeMaps (open_string shut_string)
set_option linter.unusedVariables false
set_option linter.unusedSimpArgs false
theorem own : ownKnob Tryd.prog.godebug = none := by kernel_rfl
theorem laidOut : laidOutB Tryd.prog = true := by kernel_rfl
theorem walk (W : World) (hG : GE W) (A0 : Option Addr) (c0 : Nat) (l0 : List (S25)) (hr0 : Kd.C k25 W A0 l0.length l0) (hc0 : l0.length ≤ c0) (a1 : ByteArray) (a2 : Int) (g0 : (fun xs : List (S25) => xs.length ≤ maxLen ∧ ∀ x ∈ xs, good25 x) l0) (b0 : (fun xs : List (S25) => (xs.map bulk25).sum + 1) l0 ≤ 1048576) (g1 : (fun s : ByteArray => s.size ≤ maxLen) a1) (b1 : (fun s : ByteArray => s.size + 1) a1 ≤ 1048576) (g2 : (fun n : Int => (Lit.int .i64 n).wf = true) a2) :
    Calls Tryd.prog 3 #[.slice A0 l0.length c0, .string a1, .int .i64 a2] W fun e w' => e = .returned (.bool true) ∧ Below W.heap.size W w' := by
  exact Pure.TableCatalogs_walk W hG A0 c0 l0 hr0 hc0 a1 a2 g0 b0 g1 b1 g2
set_option maxRecDepth 100000 in
theorem contract (H : Type) (enc : TypeId × Value → H) (W : World) (base : Nat) (args : Array Value) (ds gs : List (DataW H)) (before : List MemPlace)
    (hval0 : ∀ (j : Nat) t v, Tryd.f3.params[j]? = some t → args[j]? = some v → Value.okWide Tryd.prog W .any base t v)
    (hW : DataW.Whole enc Tryd.prog Tryd.f3.params.toList Rows.tableCatalogsSpec.vars false W args.toList ds gs before) (hk : Rows.uptoBulkAll ds ≤ 1048576) (hG : GE W) :
    Calls Tryd.prog 3 args W fun e W' => ∃ v, e = .returned v ∧ Rows.tableCatalogsSpec.post enc Tryd.prog Tryd.f3 false true false false W args v W' := by
  have hval : ∀ (j : Nat) t v, Tryd.f3.params[j]? = some t → args[j]? = some v → Value.okWide Tryd.prog W .any base t v := hval0
  have hW' := hW
  obtain ⟨p, q, hA0, hV, rfl, hfz, hnd⟩ := hW
  have hA : DataW.TrodAll enc Tryd.prog W 0 (fun _ => true) true Tryd.f3.params.toList args.toList ds p := hA0
  rw [Tryd.params3] at hA hval
  obtain ⟨v0, vs0, d0, ds0, p0, q0, hargs, rfl, rfl, h0, r0⟩ := trodAll_cons hA
  obtain ⟨v1, vs1, d1, ds1, p1, q1, rfl, rfl, rfl, h1, r1⟩ := trodAll_cons r0
  obtain ⟨v2, vs2, d2, ds2, p2, q2, rfl, rfl, rfl, h2, r2⟩ := trodAll_cons r1
  obtain ⟨rfl, rfl, rfl⟩ := trodAll_nil r2
  obtain rfl : args = #[v0, v1, v2] := by cases args; simp_all
  obtain ⟨rfl, rfl⟩ := trodVars_none hV
  simp only [Rows.uptoBulkAll] at hk
  have k0 := h0
  have lt0 : ∀ x ∈ p0, x.block < W.heap.size := by obtain ⟨m, hm⟩ := k0; exact DataW.trod_lt m _ _ _ hm
  obtain ⟨A0, n0, c0, rfl⟩ := okWide_slice Tryd.underlying22 (hval 0 22 v0 rfl rfl)
  obtain ⟨fu0, hf0⟩ := h0
  obtain ⟨l0, hK0, g0, b0⟩ := (Kd.opn_slice (d := k25) Tryd.underlying22 (by kernel_rfl) (opn25 _)) H enc fu0 _ _ hf0
  obtain ⟨A0', c0', hcs0, hc0, hr0⟩ := hK0
  simp only [Value.cells, List.cons.injEq, and_true, Value.slice.injEq] at hcs0
  obtain ⟨rfl, rfl, rfl⟩ := hcs0
  replace b0 : (fun xs : List (S25) => (xs.map bulk25).sum + 1) l0 ≤ Rows.uptoBulk d0 := b0
  obtain ⟨a1, rfl, rfl, rfl, g1⟩ := open_string Tryd.underlying9 (hval 1 9 v1 rfl rfl) h1
  have b1 : (fun s : ByteArray => s.size + 1) a1 ≤ Rows.uptoBulk (DataW.lit (H := H) (.string a1.data.toList)) := by dsimp only; simp only [Rows.uptoBulk]; rw [data_length]; exact Nat.le_refl _
  obtain ⟨a2, rfl, rfl, rfl, g2⟩ := open_int Tryd.underlying3 (hval 2 3 v2 rfl rfl) h2
  refine (walk W hG A0 c0 l0 hr0 hc0 a1 a2 g0 (by omega) g1 (by omega) g2).mono fun e W' ⟨he, bel⟩ => ?_
  subst he
  exact ⟨_, rfl, _, _, _, [], _, [], hW', trodAll_mk1 (shut_bool Tryd.underlying4 _), (trodAll_cons_mk (Below.trod laidOut (by kernel_rfl) (of_decide_eq_true (by kernel_rfl)) k0 bel lt0) (trodAll_cons_mk (shut_string Tryd.underlying9 g1) (trodAll_cons_mk (shut_int Tryd.underlying3 g2) trodAll_mk0))), rfl, bel.frame _, fun h => by cases h⟩
theorem laid_met (os : Os) : laidMetH Tryd.prog Rows.tableCatalogsUptoRow.laid ((DoorStr.laidWorld os).forCall (fun _ _ => 0) ⟨#[], #[.slice none 0 0, .string ByteArray.empty, .int .i64 0], []⟩).memory := DoorStr.laidWorld_met os _
theorem reads (os : Os) {H : Type} (enc : TypeId × Value → H) : ∃ places, DataW.whole enc Tryd.prog ((DoorStr.laidWorld os).forCall (fun _ _ => 0) ⟨#[], #[.slice none 0 0, .string ByteArray.empty, .int .i64 0], []⟩).memory Tryd.f3.params.toList Rows.tableCatalogsSpec.vars false (#[.slice none 0 0, .string ByteArray.empty, .int .i64 0] : Array Value).toList 8 = some ([.nil, .lit (.string []), .lit (.int .i64 0)], [], places) := ⟨[], by kernel_rfl⟩
set_option maxRecDepth 100000 in
theorem lifted (os : Os) (started : os.Started) (H : Type) (enc : TypeId × Value → H) (F : Stop.Interp) :
    ReturnsInHanded {} Tryd.checked os 3 .any ((Rows.OpenSpec.upto Rows.tableCatalogsSpec).preRow enc Tryd.prog Tryd.f3 Rows.tableCatalogsUptoRow.domain false Rows.tableCatalogsUptoRow.laid) (((Rows.OpenSpec.upto Rows.tableCatalogsSpec).at F).post enc Tryd.prog Tryd.f3 false true false false) := by
  obtain ⟨places, hx⟩ := reads os enc
  refine returnsInHanded_of_row (C := Tryd.checked) (s := (Rows.OpenSpec.upto Rows.tableCatalogsSpec)) own started (by kernel_rfl) Tryd.func3
    (witness_row_at (enc := enc) (C := Tryd.checked) false (DoorStr.laidWorld os) #[.slice none 0 0, .string ByteArray.empty, .int .i64 0] rfl (by kernel_rfl) (by kernel_rfl) (by kernel_rfl)
      (OpenSpec.preRow_of_cond 8 hx (by kernel_rfl) (fun k hk => by cases hk; kernel_rfl) (by kernel_rfl) (laid_met os))) ?_
  intro W base args ds gs before hval hW _ hcond hsz hL hS_ _
  exact contract H enc W base args ds gs before hval hW (by have h_ := of_decide_eq_true (p := Rows.uptoBulkAll (ds ++ gs) ≤ 1048576) (hcond _ rfl); have hV_ := hW; obtain ⟨_, _, _, hV_, _⟩ := hV_; obtain ⟨rfl, rfl⟩ := trodVars_none hV_; rwa [List.append_nil] at h_) (DoorStr.ge_of_laid hL hS_)
theorem said : Rows.tableCatalogsUptoRow.holds Tryd.pinned (Rows.OpenSpec.upto Rows.tableCatalogsSpec) :=
  OpenClaim.holds_of_cond 3 Tryd.f3 rfl rfl rfl rfl rfl rfl rfl ⟨rfl, rfl, rfl, rfl, rfl⟩ rfl rfl rfl rfl rfl (by kernel_rfl) Tryd.func3 (by kernel_rfl)
    (of_decide_eq_true (by kernel_rfl)) (by unfold Func.isWrapper; first | (rw [if_pos (by decide +kernel)]; kernel_rfl) | (rw [if_neg (by decide +kernel)]; exact ⟨rfl, rfl⟩))
    (fun os started H enc _ F => by rw [OpenClaim.pre_eq_preRow]; exact lifted os started H enc F)
theorem plain (f : FuncId) (fn : Func) (hf : Tryd.pinned.checked.prog.funcNamed "barbican/barbicanlaw15.TableCatalogs" = some f) (hfn : Tryd.pinned.checked.prog.funcs[f]? = some fn) :
    true = Tryd.pinned.checked.prog.looks [] ∧ ∀ (j : Nat) t, fn.params[j]? = some t → Tryd.pinned.checked.prog.wantsStandIn t = false := by
  obtain rfl : f = 3 := Option.some.inj ((show Tryd.prog.funcNamed "barbican/barbicanlaw15.TableCatalogs" = some 3 by kernel_rfl).symm.trans hf) |>.symm
  obtain rfl : fn = Tryd.f3 := (Option.some.inj (Tryd.func3.symm.trans hfn)).symm
  refine ⟨by kernel_rfl, fun j t ht => ?_⟩
  rw [Tryd.params3] at ht
  have hm : t ∈ [22, 9, 3] := by simpa using Array.mem_of_getElem? ht
  have hall : ∀ t ∈ [22, 9, 3], Tryd.prog.wantsStandIn t = false := by
    intro t ht
    simp only [List.mem_cons, List.not_mem_nil, or_false] at ht
    rcases ht with rfl | rfl | rfl
    all_goals kernel_rfl
  exact hall t hm
theorem card : Rows.TableCatalogsUptoCardSaid :=
  Claim7.holds_tied_plain_at .later [] _ _ _ _ said (fun _ h => by cases h) (by kernel_rfl) (fun _ h => by cases h) tableCatalogsUpto_row_tie rfl ⟨rfl, rfl⟩ (by kernel_rfl) rfl plain (by kernel_rfl)
end Go.Proofs.YtkcbgnhgjlbmlaaDoor.tableCatalogs
namespace Go.Proofs.YtkcbgnhgjlbmlaaDoor
theorem tableCatalogsUpto_holds : Rows.TableCatalogsUptoCardSaid := tableCatalogs.card
#print axioms tableCatalogsUpto_holds
end Go.Proofs.YtkcbgnhgjlbmlaaDoor
