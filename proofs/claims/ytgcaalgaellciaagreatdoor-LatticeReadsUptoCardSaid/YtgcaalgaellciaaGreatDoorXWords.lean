/- Words of this session beside the printed ones: a make with a capacity of its own. -/
import Derived.Test.YtgcaalgaellciaaGreatDoorWWords
import Derived.Lib.SlBytesConst
namespace Go.Proofs.YtgcaalgaellciaaGreatDoorW.PrintWords
open Go.RowKit
/-- Numbers that a byte bounds. -/
theorem w64_256 (x : Int) : wrap64 (x % 256) = x % 256 := by unfold wrap64; omega
theorem wu64_256 (x : Int) : IntKind.u64.wrap (x % 256) = x % 256 := by
  simp only [IntKind.wrap, IntKind.bits, IntKind.signed]
  simp
  omega
theorem wu32_mod (n : Int) : IntKind.u32.wrap n = n % 4294967296 := by simp [IntKind.wrap, IntKind.signed, IntKind.bits]
/-- A draw changes nothing that lies in memory. -/
theorem below_undrew {base : Nat} {w W : World} (h : Below base w W.drew) : Below base w W := ⟨h.os, h.tape, h.output, h.size, h.block⟩
/-- Strings in order, as the printed texts spell it. -/
theorem less_other : ∀ x y : List UInt8, (!(Op.bytesLess x y || x == y)) = Op.bytesLess y x
  | [], [] => by simp [Op.bytesLess]
  | [], _ :: _ => by simp [Op.bytesLess]
  | _ :: _, [] => by simp [Op.bytesLess]
  | a :: x, b :: y => by
    have ih := less_other x y
    rw [Bool.eq_iff_iff] at ih ⊢
    simp only [Op.bytesLess, Bool.not_eq_true', Bool.or_eq_false_iff, Bool.or_eq_true, Bool.and_eq_true, decide_eq_true_eq, decide_eq_false_iff_not, beq_iff_eq, Bool.and_eq_false_imp, beq_eq_false_iff_ne, ne_eq, List.cons.injEq, not_and] at ih ⊢
    have h1 : (a < b) ↔ a.toNat < b.toNat := Iff.rfl
    have h2 : (b < a) ↔ b.toNat < a.toNat := Iff.rfl
    have h3 : (a = b) ↔ a.toNat = b.toNat := UInt8.toNat_inj.symm
    have h4 : (b = a) ↔ a.toNat = b.toNat := by rw [eq_comm]; exact h3
    rw [h1, h2, h3, h4]
    constructor
    · rintro ⟨⟨g1, g2⟩, g3⟩
      by_cases h : a.toNat = b.toNat
      · exact .inr ⟨h, ih.1 ⟨g2 h, g3 h⟩⟩
      · exact .inl (by omega)
    · rintro (g | ⟨g, g2⟩)
      · exact ⟨⟨by omega, fun h => by omega⟩, fun h => by omega⟩
      · exact ⟨⟨by omega, fun _ => (ih.2 g2).1⟩, fun _ => (ih.2 g2).2⟩
theorem str_gtr (t : TypeId) (a b : ByteArray) : binOp .gtr t (.string a) (.string b) = pure (.bool (Op.bytesLess b.toList a.toList)) := by
  rw [← less_other]
  simp [binOp, Op.stringOp]
theorem str_leq (t : TypeId) (a b : ByteArray) : binOp .leq t (.string a) (.string b) = pure (.bool !(Op.bytesLess b.toList a.toList)) := by
  rw [← less_other]
  simp [binOp, Op.stringOp]
theorem str_geq (t : TypeId) (a b : ByteArray) : binOp .geq t (.string a) (.string b) = pure (.bool !(Op.bytesLess a.toList b.toList)) := by simp [binOp, Op.stringOp]
namespace Kd
section
variable {P : Program} {ops : Array Oper} {rest : List Oper} {o : Oper} {a : Act} {Q : Exit → Act → World → Prop}
variable {α : Type}
/-- make([]T, 0, m): an empty row of one's own, with room behind it. -/
theorem R_makecap (d : Kd α) {w0 W : World} (base e : Nat) (hgd : o.guard = none) {N : Tmp} (_hd : o.dst = some N) (t : TypeId) (x y : Operand) (ho : o.op = .makeSlice t x y) (m : Int) (hx : a.eval x = .int .i64 0) (hy : a.eval y = .int .i64 m)
    (ht : P.underlying t = some (.slice e)) (z : Value) (bytes : Nat) (hinfo : (P.info? e).map (fun i => (i.zero, i.size, i.bytes)) = some (some z, d.sz, bytes)) (_hz : z.cells.size = d.sz) (_hs0 : 0 < d.sz) (hb0 : 0 < bytes)
    {ok okp : Nat → Prop} (_hok : ∀ k, okp k → ok k) (hfresh : ok W.heap.size) (h0 : 0 ≤ m) (hl : m.toNat * bytes ≤ 281474976710656) (HB : Below base w0 W) (hbase : base ≤ W.heap.size)
    (h : ∀ v1 w1, d.R e w1 base ok v1 [] → Below base w0 w1 → W.grownBy w1 none → (∃ b, v1.ownBlock = some b ∧ W.heap.size ≤ b) → wpList P ops Q rest (a.put o.dst v1) w1) : wpList P ops Q (o :: rest) a W := by
  obtain ⟨c, rfl⟩ := Int.eq_ofNat_of_zero_le h0
  simp only [Int.toNat_natCast] at hl
  obtain ⟨i0, hi, hzz⟩ := Option.map_eq_some_iff.1 hinfo
  simp only [Prod.mk.injEq] at hzz
  obtain ⟨hz0, hz1, hz2⟩ := hzz
  have hm : c ≤ 281474976710656 := Nat.le_trans (Nat.le_mul_of_pos_right _ hb0) hl
  have hr := run_make (P := P) W t e i0 z ht hi hz0 .i64 .i64 0 (c : Int) (by omega) (by omega)
    (by
      have h3 : ((i0.bytes * c : Nat) : Int) ≤ 281474976710656 := by rw [hz2, Nat.mul_comm]; omega
      rwa [Int.natCast_mul] at h3) (by omega)
  simp only [Int.toNat_natCast] at hr
  rw [hz1] at hr
  refine event_run hgd (w1 := W.alloc (.cells (madeCells z.cells (c * d.sz)) e)) (v := .slice (some ⟨W.heap.size, 0, none⟩) 0 c) ?_ (h _ _ ⟨fun k hk => ?_, [], ?_, Reps.none _ _⟩ (HB.alloc hbase _) (World.grownBy_alloc W _ none) ⟨W.heap.size, by simp [Value.ownBlock], Nat.le_refl _⟩)
  · have hr' := hr
    rw [Int.toNat_zero] at hr'
    simp [execOp, ho, hx, hy, hr']
  · have : W.heap.size = k := by simpa [Value.ownBlock] using hk
    subst this
    exact hfresh
  · refine ⟨by simp, .inr ⟨W.heap.size, c, madeCells z.cells (c * d.sz), rfl, hbase, heap_alloc_new W _, Nat.zero_le _, by unfold maxLen; omega, by simp [size_madeCells], by simp⟩⟩
/-- []byte("constant"): the literal's row, behind its conversion to its own type: what is only read. -/
theorem C_convert {w0 W : World} (base e : Nat) (hgd : o.guard = none) {N : Tmp} (_hd : o.dst = some N) (t : TypeId) (x : Operand) (ho : o.op = .convert t t x) (n : Nat) (hx : a.eval x = .slice (some ⟨W.heap.size, 0, none⟩) n n)
    (ht : P.underlying t = some (.slice e)) (he : P.underlying e = some (.int .u8)) (l : List Int) (C : Array Value) (hC : C = (nums .u8 l).toArray) (hn : l.length = n) (hn2 : n ≤ 9223372036854775807) (HB : Below base w0 W) (hbase : base ≤ W.heap.size)
    (h : ∀ A c w1, (Kd.int .u8).C w1 A l.length l → l.length ≤ c → Below base w0 w1 → wpList P ops Q rest (a.put o.dst (.slice A l.length c)) w1) : wpList P ops Q (o :: rest) a (W.alloc (.cells C e)) := by
  subst hn
  have hr := Lib.run_convert_bytes_const (P := P) W t e C l.length l.length ht he
  refine event_run hgd (w1 := W.alloc (.cells C e (C.size, C.size + 1))) (v := .slice (some ⟨W.heap.size, 0, none⟩) l.length l.length) ?_ (h _ _ _ ⟨rfl, hn2, fun _ => ⟨⟨W.heap.size, 0, none⟩, rfl, fun j p hj => ⟨[.int .u8 p], rfl, rfl, fun i u hu => ?_⟩⟩⟩ (Nat.le_refl _) (HB.alloc hbase _))
  · simp [execOp, ho, hx, hr]
  · have hi : i = 0 := by
      have := (List.getElem?_eq_some_iff.1 hu).1
      simp at this
      exact this
    subst hi
    simp at hu
    subst hu
    have hblk : (W.alloc (.cells C e (C.size, C.size + 1))).heap[W.heap.size]? = some (.cells C e (C.size, C.size + 1)) := heap_alloc_new W _
    have ha : (⟨W.heap.size, 0, none⟩ : Addr).add (j * (Kd.int .u8).sz + 0) = ⟨W.heap.size, j, none⟩ := by
      rw [add_plain]
      show (⟨W.heap.size, j * 1 + 0, none⟩ : Addr) = _
      rw [Nat.mul_one]
      rfl
    rw [ha, cell_of_row _ _ j C e (C.size, C.size + 1) hblk, hC]
    simp [nums, hj]
end
end Kd
end Go.Proofs.YtgcaalgaellciaaGreatDoorW.PrintWords
