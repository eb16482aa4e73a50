/- Printed by this session's program (wip/print) out of the translation, for the statement named in the file's name. -/
import Derived.Test.YtgcaalgaellciaaDoorProg
import Derived.Below
import Derived.Deep.Draws
import Derived.Deep.AppendLies
import Derived.Maps.AppendAt
import Derived.OwnWalk
import Derived.Laws.BytesArg
import Derived.Laws.MakeOwn
import Derived.Laws.OwnMore
import Derived.Deep.OwnRows
import Derived.Tactics
import Derived.Lib.ConvBytes
import Derived.Laws.Slices
import Derived.WalkKit
import Derived.KernelRfl
import Derived.RowKit3
import Derived.Deep.LoopGhost
import Derived.Deep.QuietTactic
import Derived.BigQuiet
import Derived.WideLaws
import Derived.Deep.DeepCutAuto
import Derived.Deep.CutBlock
import Derived.Deep.RegionHeld3
import Derived.Laws.Rows
import Derived.Lib.AppendStr
import Derived.ArgAppend
import Derived.Laws.IdiomCopy
import Derived.OrdersHeld
import Derived.Laws.BitsLemmas
import Derived.RowKit
import Derived.Deep.WholeRow
import Derived.Laws.Closers25b
import Derived.LaidEql
import Derived.Lib.IfaceEq
import Derived.Stop.Asserts
import Derived.Test.YtgcaalgaellciaaDoorXObj
import Derived.Maps.OwnSet
import Derived.DeepKeys4
import Derived.Test.YtgcaalgaellciaaDoorXGl
import Derived.Shelf.Strings.Search2
import Derived.StillTailTactics
import Derived.Test.YtgcaalgaellciaaDoorXGq
import Derived.Test.YtgcaalgaellciaaDoorXGj
import Derived.Lib.Join
import Derived.Test.YtgcaalgaellciaaDoorWWords
import Derived.Test.YtgcaalgaellciaaDoorWLast
import Derived.Test.YtgcaalgaellciaaDoorWTab
import Derived.Test.YtgcaalgaellciaaDoorWFour
import Derived.Test.YtgcaalgaellciaaDoorWQPut
import Derived.Test.YtgcaalgaellciaaDoorWApart
import Derived.Test.YtgcaalgaellciaaDoorWArr
import Derived.Test.YtgcaalgaellciaaDoorWZeros
import Derived.Test.YtgcaalgaellciaaDoorWFoot
import Derived.Test.YtgcaalgaellciaaDoorWKept
import Derived.Test.YtgcaalgaellciaaDoorWShare
import Derived.Test.YtgcaalgaellciaaDoorWN
import Derived.Test.YtgcaalgaellciaaDoorWFootNe
import Derived.Test.YtgcaalgaellciaaDoorWAt
import Derived.Test.YtgcaalgaellciaaDoorWEqStruct
import Derived.Test.YtgcaalgaellciaaDoorWRepsOne
import Derived.Test.YtgcaalgaellciaaDoorWInv
import Derived.Test.YtgcaalgaellciaaDoorWInvWords
import Derived.Test.YtgcaalgaellciaaDoorWGuard
import Derived.Test.YtgcaalgaellciaaDoorWNEv
import Derived.Test.YtgcaalgaellciaaDoorWMore
import Derived.Test.YtgcaalgaellciaaDoorXWords
import Derived.Test.YtgcaalgaellciaaDoorXWordsV
import Derived.Test.YtgcaalgaellciaaDoorXGl
namespace Go.Proofs.YtgcaalgaellciaaDoor.XLat
open Go.RowKit Go.Proofs.YtgcaalgaellciaaDoorW.PrintWords Go.Proofs.YtgcaalgaellciaaDoorW.PrintLast Go.Proofs.YtgcaalgaellciaaDoorW.PrintMore Go.Proofs.YtgcaalgaellciaaDoor.Lab
attribute [local go_sem] str_gtr str_leq str_geq max2_int min2_int max_two min_two max_three min_three max_four min_four   -- for this text's walks alone
set_option linter.unusedVariables false
set_option linter.unusedSimpArgs false
set_option linter.unnecessarySimpa false



def errW : Option Int → Value
  | none => .nilIface
  | some c => .iface 45 (.int .i64 c)
theorem errW_none : errW none = .nilIface := rfl
theorem errW_some (c : Int) : errW (some c) = .iface 45 (.int .i64 c) := rfl

theorem info3 : (Tryd.prog.info? 3).map (fun i => (i.zero, i.size, i.bytes)) = some (some (.int .i64 0), 1, 8) := by kernel_rfl
theorem info35 : (Tryd.prog.info? 35).map (fun i => (i.zero, i.size, i.bytes)) = some (some (.agg #[(.int .i64 0), (.int .u32 0)]), 2, 16) := by kernel_rfl
-- the values' own types
/-! #### struct type 35 -/
structure S35 where
  f0 : Int
  f1 : Int
def z35 : S35 := ⟨(0 : Int), (0 : Int)⟩
def k35 : Kd S35 := Kd.iso (Kd.pair (Kd.int .i64) (Kd.int .u32)) (fun x : S35 => (x.f0, x.f1))
theorem k35_open {w : World} {x : S35} {cs : List Value} (h : k35.K w x cs) : cs = [.int .i64 x.f0, .int .u32 x.f1] := by
  obtain ⟨_, _, rfl, rfl, rfl⟩ := h
  exact rfl
theorem k35_openM {w : World} {base : Nat} {ok : Nat → Prop} {x : S35} {cs : List Value} (h : k35.M w base ok x cs) : cs = [.int .i64 x.f0, .int .u32 x.f1] := by
  obtain ⟨_, _, rfl, rfl, rfl⟩ := h
  exact rfl
theorem k35_mk (w : World) (x : S35)  : k35.K w x [.int .i64 x.f0, .int .u32 x.f1] := ⟨[.int .i64 x.f0], [.int .u32 x.f1], rfl, rfl, rfl⟩
theorem k35_mkM (w : World) (base : Nat) (ok : Nat → Prop) (x : S35)  : k35.M w base ok x [.int .i64 x.f0, .int .u32 x.f1] := ⟨[.int .i64 x.f0], [.int .u32 x.f1], rfl, rfl, rfl⟩
theorem k35_mkF (W : World) (ok : Nat → Prop) (x : S35) : Kd.FK k35 W ok x [.int .i64 x.f0, .int .u32 x.f1] := fun W2 _ => k35_mk W2 x
def rd_T35 (xs : List S35) (i : Int) : S35 := xs.getD i.toNat z35
theorem at_T35 {w : World} {A : Option Addr} {n : Nat} {xs : List S35} (h : Kd.C k35 w A n xs) (i : Int) (h0 : 0 ≤ i) (h1 : i < n) : ∃ ad , A = some ad ∧ w.cell? (ad.add (i.toNat * 2)) = some (.int .i64 (rd_T35 xs i).f0) ∧ w.cell? ⟨(ad.add (i.toNat * 2)).block, (ad.add (i.toNat * 2)).off + 1, none⟩ = some (.int .u32 (rd_T35 xs i).f1) := by
  obtain ⟨ad, c, e, _, hK, hc0⟩ := Kd.C_get h z35 i h0 h1
  have hc : ∀ j u, c[j]? = some u → w.cell? (ad.add (i.toNat * 2 + j)) = some u := hc0
  obtain rfl := k35_open hK
  exact ⟨ad, e, hc 0 _ rfl, by rw [← add_field _ _ 1 (by omega)]; exact hc 1 _ rfl⟩

end Go.Proofs.YtgcaalgaellciaaDoor.XLat
