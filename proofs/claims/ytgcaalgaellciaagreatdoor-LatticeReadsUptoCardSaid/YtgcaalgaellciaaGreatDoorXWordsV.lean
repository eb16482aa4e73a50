/- Words of this session: a text made of bytes that are only read, told by their value. -/
import Derived.Test.YtgcaalgaellciaaGreatDoorWMore
namespace Go.Proofs.YtgcaalgaellciaaGreatDoorW.PrintWords
open Go.RowKit Go.Proofs.YtgcaalgaellciaaGreatDoorW.PrintMore
namespace Kd
open Go.Proofs.YtgcaalgaellciaaGreatDoorW.PrintWords.Kd
theorem V_string {P : Program} {W : World} {src dst e : TypeId} {e2 base : Nat} {ok : Nat → Prop} {v : Value} {xs : List Int} (hs : P.underlying src = some (.slice e)) (he : P.underlying e = some (.int .u8)) (hd : P.underlying dst = some .string)
    (h : V (Kd.int .u8) e2 W base ok v xs) : (convert src dst v).run P W = .ok (.string (strOfNums xs)) W := by
  obtain ⟨A, c, rfl, hl, hf⟩ := h
  exact Kd.C_string hs he hd (F_now hf)
end Kd
end Go.Proofs.YtgcaalgaellciaaGreatDoorW.PrintWords
