/- A device that goes on as it should: Write, Read, Sync at one that has not crashed and is not armed. -/
import Derived.Test.YtnfnnfbcafepkaaDoorDkL
namespace Go.Proofs.YtnfnnfbcafepkaaDoor.Dk
open Go Go.RowKit Go.Proofs.YtnfnnfbcafepkaaDoorW.PrintLast
set_option linter.unusedVariables false
set_option linter.unusedSimpArgs false
set_option maxRecDepth 100000
/-- A sector that was read. -/
def Kp (W : World) (k : Nat) (b : List UInt8) : Prop := W.heap[k]? = some (.cells (secC b) 67 (0, 0))
theorem Kp.below {W W' : World} {k : Nat} {b : List UInt8} (h : Kp W k b) (hb : Below W.heap.size W W') : Kp W' k b := (hb.block k (Array.getElem?_eq_some_iff.1 h).1).trans h
theorem Kp.turn {W W' : World} {k : Nat} {b : List UInt8} {g ms mp : Nat} {d : DSt} (h : Kp W k b) (hD : DiskC W g ms mp d) (hf : Frm (own g ms mp) W W') : Kp W' k b := by
  refine (hf.block k (Array.getElem?_eq_some_iff.1 h).1 ?_).trans h
  unfold Kp at h
  obtain ⟨D, ⟨es, clock, h1, _⟩, _⟩ := hD.safe
  obtain ⟨D2, ⟨es2, clock2, h2, _⟩, _⟩ := hD.pend
  rintro (rfl | rfl | rfl)
  · have := hD.blk
    rw [h] at this
    unfold dkO at this
    exact absurd (Obj.cells.inj (Option.some.inj this)).2.1 (by decide)
  · rw [h] at h1; cases h1
  · rw [h] at h2; cases h2
theorem take_le (b : List UInt8) : (b.take 64).length ≤ 64 := by rw [List.length_take]; omega
/-- A device that has not crashed and is not armed. -/
structure Quiet (d : DSt) (r s : Int) : Prop where
  crashed : d.crashed = false
  armed : d.armed = false
  reg : d.reg = r
  sec : d.sec = s
theorem Quiet.has {d : DSt} {r s : Int} (h : Quiet d r s) {x y : Int} (hx : 0 ≤ x ∧ x < r) (hy : 0 ≤ y ∧ y < s) : hasB d x y = true := by
  unfold hasB
  rw [h.reg, h.sec]
  simp [hx.1, hx.2, hy.1, hy.2]
def wrSt (d : DSt) (p : Pl) (b : List UInt8) : DSt := { d with pend := putM d.pend p (fill b) }
theorem Quiet.wr {d : DSt} {r s : Int} (h : Quiet d r s) (p : Pl) (b : List UInt8) : Quiet (wrSt d p b) r s := ⟨h.crashed, h.armed, h.reg, h.sec⟩
theorem Quiet.syn {d : DSt} {r s : Int} (h : Quiet d r s) (x : Int) : Quiet (syncSt d x) r s := ⟨h.crashed, h.armed, h.reg, h.sec⟩
theorem Quiet.res {d : DSt} {r s : Int} (h : Quiet d r s) (ps : List Pl) (cs : List Int) : Quiet (resSt d ps cs) r s := ⟨rfl, rfl, h.reg, h.sec⟩
theorem Quiet.wr_eq {d : DSt} {r s : Int} (h : Quiet d r s) (p : Pl) (b : List UInt8) : writeSt d p b = wrSt d p b := by
  unfold writeSt wrSt
  rw [h.armed, Bool.false_and]
  have := h.crashed
  cases d
  simp at this ⊢
  exact this
theorem new_quiet (r s : Int) : Quiet (newSt r s) r s := ⟨rfl, rfl, rfl, rfl⟩
theorem write_q (g ms mp : Nat) (d : DSt) (rr ss r s : Int) (A : Option Addr) (c : Nat) (b : List UInt8) (w : World) (h : DiskC w g ms mp d) (hq : Quiet d rr ss) (hr : 0 ≤ r ∧ r < rr) (hs : 0 ≤ s ∧ s < ss) (hb : b.length ≤ 64) (hbc : BytesC w A b) (hbl : b.length ≤ c) :
    Calls Tryd.prog 8 #[.pointer (some ⟨g, 0, none⟩), .int .i64 r, .int .i64 s, .slice A b.length c] w fun e w' => e = .returned .nilIface ∧ DiskC w' g ms mp (wrSt d (r, s) b) ∧ Frm (own g ms mp) w w' := by
  refine (write_c g ms mp d r s A c b w h (hq.has hr hs) hb hq.crashed hbc hbl).mono ?_
  rintro e w' ⟨rfl, h2, h3⟩
  rw [hq.wr_eq] at h2 ⊢
  refine ⟨?_, h2, h3⟩
  rw [show (wrSt d (r, s) b).crashed = false from hq.crashed]
  rfl
theorem read_q (g ms mp : Nat) (d : DSt) (rr ss r s : Int) (w : World) (h : DiskC w g ms mp d) (hq : Quiet d rr ss) (hr : 0 ≤ r ∧ r < rr) (hs : 0 ≤ s ∧ s < ss) :
    Calls Tryd.prog 11 #[.pointer (some ⟨g, 0, none⟩), .int .i64 r, .int .i64 s] w fun e w' => ∃ k, e = .returned (.tuple #[.slice (some ⟨k, 0, none⟩) 64 64, .nilIface]) ∧ Kp w' k (readB d (r, s)) ∧ w.heap.size ≤ k ∧ Below w.heap.size w w' :=
  read_c g ms mp d r s w h (hq.has hr hs) hq.crashed
theorem sync_q (g ms mp : Nat) (d : DSt) (rr ss r : Int) (w : World) (h : DiskC w g ms mp d) (hq : Quiet d rr ss) (hr : 0 ≤ r ∧ r < rr) (hs : 0 < ss) :
    Calls Tryd.prog 12 #[.pointer (some ⟨g, 0, none⟩), .int .i64 r] w fun e w' => e = .returned .nilIface ∧ DiskC w' g ms mp (syncSt d r) ∧ Frm (own g ms mp) w w' :=
  sync_c g ms mp d r w h (hq.has hr ⟨by omega, hs⟩) hq.crashed
theorem cut_q (A : Option Addr) (c : Nat) (b : List UInt8) (w : World) (hb : BytesC w A b) (hc : b.length ≤ c) (hl : c ≤ maxLen) (hA : A = none → c = 0) :
    Calls Tryd.prog 15 #[.slice A b.length c] w fun e w' => ∃ q A' c', Asd (q = b.take 64) ∧ e = .returned (.slice A' q.length c') ∧ q.length ≤ c' ∧ q.length ≤ 64 ∧ BytesC w' A' q ∧ Below w.heap.size w w' :=
  (cut_c A c b w hb hc hl hA).mono fun e w' ⟨A', c', h1, h2, h3, h4⟩ => ⟨_, A', c', ⟨rfl⟩, h1, h2, take_le b, h3, h4⟩
/-- string(x[a:]) and its like. -/
theorem conv_sec {W : World} {k : Nat} {b : List UInt8} (h : Kp W k b) (o m : Nat) (c : Nat) (q : List UInt8) (hq : q <+: b.drop o) (hm : q.length = m) :
    (convert 30 9 (.slice (some ⟨k, o, none⟩) m c)).run Tryd.prog W = .ok (.string ⟨q.toArray⟩) W := by
  subst hm
  exact conv_c W ⟨k, o, none⟩ q c (sec_cells h o q hq)
end Go.Proofs.YtnfnnfbcafepkaaDoor.Dk
