/- The device's maps of sectors: what a map of places holds. -/
import Derived.Test.YtnfnnfbcafepkaaDoorProg
import Derived.WalkKit
import Derived.Maps.OwnSet
import Derived.Maps.Range
import Derived.Maps.Ext
import Derived.DeepKeys4
import Derived.KernelRfl
namespace Go.Proofs.YtnfnnfbcafepkaaDoor.Dk
open Go Go.RowKit
set_option linter.unusedVariables false
set_option linter.unusedSimpArgs false
set_option maxRecDepth 100000
abbrev Pl := Int × Int
theorem pl_laid : laidOutB Tryd.prog = true := by kernel_rfl
theorem pl_row : (69 : TypeId) < Tryd.prog.types.size := of_decide_eq_true (by kernel_rfl)
theorem pl_wide : (match Tryd.prog.underlying 69 with | some (.array _ _) | some (.struct _) => true | _ => false) = true := by rw [Tryd.underlying69]
theorem pl_law : Maps.Keyed Tryd.prog 69 := Maps.Keyed.of_law (deep_law_laid pl_laid (m := 2) (by omega) pl_row (by kernel_rfl) pl_wide)
/-- A place's value. -/
def plV (p : Pl) : Value := .agg #[.int .i64 p.1, .int .i64 p.2]
def PlWf (p : Pl) : Prop := (Lit.int .i64 p.1).wf = true ∧ (Lit.int .i64 p.2).wf = true
noncomputable def plKey (p : Pl) : Lit := (keyOf Tryd.prog 69 (plV p)).getD (.bool false)
theorem pl_keytype : Tryd.prog.keyType 69 = true := by kernel_rfl
theorem pl_cells : Tryd.prog.cellsOf 69 = 2 := by kernel_rfl
theorem pl_key (p : Pl) (h : PlWf p) : keyOf Tryd.prog 69 (plV p) = some (plKey p) := by
  have hf : (plV p).formed Tryd.prog 69 = true := by simp [plV, Value.formed, Tryd.underlying69, pl_cells]
  have h1 : ∃ l, keyOf Tryd.prog 69 (plV p) = some l := by
    obtain ⟨d, hd⟩ : ∃ d, Tryd.prog.types.size = d + 1 := ⟨_, (Nat.succ_pred_eq_of_pos (Nat.lt_of_le_of_lt (Nat.zero_le _) pl_row)).symm⟩
    have c1 : Tryd.prog.cellsOf 3 = 1 := by kernel_rfl
    unfold keyOf
    rw [Tryd.underlying69]
    simp only [pl_keytype, hf, Bool.and_self, if_true, hd]
    simp [plV, Program.keyLits, Tryd.underlying69, Tryd.underlying3, pl_cells, c1, h.1, h.2, Value.cells]
  obtain ⟨l, hl⟩ := h1
  unfold plKey
  rw [hl]
  rfl
theorem pl_key_inj {p q : Pl} (hp : PlWf p) (hq : PlWf q) (h : plKey p = plKey q) : p = q := by
  have h1 := pl_key p hp
  have h2 := pl_key q hq
  rw [h] at h1
  have h3 := pl_law.inj h1 h2
  obtain ⟨a, b⟩ := p
  obtain ⟨c, d⟩ := q
  simp [plV] at h3
  simp [h3]
theorem pl_keylit (p : Pl) (h : PlWf p) : WideAt.IsKeyLit (plKey p) := pl_law.key (pl_key p h)
/-- A place that a device may have. -/
def In (p : Pl) : Prop := 0 ≤ p.1 ∧ p.1 < 16 ∧ 0 ≤ p.2 ∧ p.2 < 16384
theorem In.wf {p : Pl} (h : In p) : PlWf p := ⟨WalkArith.wf_i64 (by have := h.1; have := h.2.1; omega), WalkArith.wf_i64 (by have := h.2.2.1; have := h.2.2.2; omega)⟩
/-- A sector's bytes as cells, and as a value. -/
def secC (b : List UInt8) : Array Value := (b.map fun x => Value.int .u8 x.toNat).toArray
def secV (b : List UInt8) : Value := .agg (secC b)
theorem secC_inj {a b : List UInt8} (h : secC a = secC b) : a = b := by
  have h1 := congrArg Array.toList h
  simp only [secC] at h1
  exact (List.map_inj_right (f := fun x : UInt8 => Value.int .u8 (x.toNat : Int)) (fun x y e => by
    injection e with _ e
    exact UInt8.toNat_inj.1 (by omega))).1 h1
open Classical in
/-- How a sector reads. -/
noncomputable def secR (v : Value) : Option (DataW Unit × List MemPlace) := if h : ∃ b : List UInt8, b.length = 64 ∧ v = secV b then some (.lit (.string h.choose), []) else none
theorem secR_mk {b : List UInt8} (h : b.length = 64) : secR (secV b) = some (.lit (.string b), []) := by
  have hx : ∃ c : List UInt8, c.length = 64 ∧ secV b = secV c := ⟨b, h, rfl⟩
  unfold secR
  rw [dif_pos hx]
  have e : hx.choose = b := by
    have h1 := hx.choose_spec.2
    unfold secV at h1
    injection h1 with h1
    exact (secC_inj h1).symm
  rw [e]
theorem secR_inv {v : Value} {z : DataW Unit × List MemPlace} (h : secR v = some z) : ∃ b : List UInt8, b.length = 64 ∧ v = secV b ∧ z = (.lit (.string b), []) := by
  unfold secR at h
  by_cases hx : ∃ c : List UInt8, c.length = 64 ∧ v = secV c
  · rw [dif_pos hx] at h
    exact ⟨hx.choose, hx.choose_spec.1, hx.choose_spec.2, (Option.some.inj h).symm⟩
  · rw [dif_neg hx] at h
    cases h
def zeros : List UInt8 := List.replicate 64 0
def zd0 : DataW Unit := .lit (.string zeros)
/-- Every key of a map is a place that may be. -/
def Keys (D : DataW Unit) : Prop := ∀ kl, Maps.has D kl = true → ∃ p, In p ∧ kl = plKey p
abbrev owns (W : World) (m n : Nat) (D : DataW Unit) : Prop := W.ownsMap Tryd.prog 69 secR m n D
/-- What is safe: every sector's bytes. -/
def SafeM (W : World) (m : Nat) (S : Pl → List UInt8) : Prop := ∃ D, owns W m (Maps.size D) D ∧ Keys D ∧ ∀ p, In p → (S p).length = 64 ∧ D.atKey (plKey p) zd0 = .lit (.string (S p))
/-- What is pending: of some sectors. -/
def PendM (W : World) (m : Nat) (M : Pl → Option (List UInt8)) : Prop := ∃ D, owns W m (Maps.size D) D ∧ Keys D ∧ (∀ p, ¬ In p → M p = none) ∧ ∀ p, In p → Maps.has D (plKey p) = (M p).isSome ∧ ∀ b, M p = some b → b.length = 64 ∧ ∀ zd, D.atKey (plKey p) zd = .lit (.string b)
theorem owns_step {W W1 : World} {m n : Nat} {D : DataW Unit} (h : owns W m n D) (hb : W1.heap[m]? = W.heap[m]?) : owns W1 m n D := by
  obtain ⟨es, clock, hm, r⟩ := h
  exact ⟨es, clock, hb.trans hm, r⟩
theorem owns_size {W : World} {m n : Nat} {D : DataW Unit} (h : owns W m n D) : owns W m (Maps.size D) D := by
  obtain ⟨es, clock, hm, F, hs, rfl⟩ := h
  exact ⟨es, clock, hm, F, by simp [Maps.size, length_sorted], rfl⟩
theorem SafeM.step {W W1 : World} {m : Nat} {S : Pl → List UInt8} (h : SafeM W m S) (hb : W1.heap[m]? = W.heap[m]?) : SafeM W1 m S := by
  obtain ⟨D, h1, h2⟩ := h
  exact ⟨D, owns_step h1 hb, h2⟩
theorem PendM.step {W W1 : World} {m : Nat} {M : Pl → Option (List UInt8)} (h : PendM W m M) (hb : W1.heap[m]? = W.heap[m]?) : PendM W1 m M := by
  obtain ⟨D, h1, h2⟩ := h
  exact ⟨D, owns_step h1 hb, h2⟩
theorem SafeM.lt {W : World} {m : Nat} {S : Pl → List UInt8} (h : SafeM W m S) : m < W.heap.size := by obtain ⟨D, h1, _⟩ := h; exact h1.lt
theorem PendM.lt {W : World} {m : Nat} {M : Pl → Option (List UInt8)} (h : PendM W m M) : m < W.heap.size := by obtain ⟨D, h1, _⟩ := h; exact h1.lt
/-- Numbers below a bound, each once, are at most so many. -/
theorem few_ : ∀ (n : Nat) (l : List Nat), l.Nodup → (∀ i ∈ l, i < n) → l.length ≤ n
  | 0, l, _, h => by
    cases l with
    | nil => simp
    | cons i l => exact absurd (h i (by simp)) (by omega)
  | n + 1, l, hn, h => by
    have h1 := few_ n (l.filter fun i => decide (i ≠ n)) (List.Pairwise.filter _ hn) (fun i hi => by
      rw [List.mem_filter, decide_eq_true_iff] at hi
      have := h i hi.1
      omega)
    have h2 : (l.filter fun i => !decide (i ≠ n)).length ≤ 1 := by
      have h3 : ∀ i ∈ l.filter fun i => !decide (i ≠ n), i = n := fun i hi => by
        rw [List.mem_filter] at hi
        simpa using hi.2
      have h4 : (l.filter fun i => !decide (i ≠ n)).Nodup := List.Pairwise.filter _ hn
      generalize l.filter (fun i => !decide (i ≠ n)) = m at h3 h4
      match m, h3, h4 with
      | [], _, _ => simp
      | [_], _, _ => simp
      | a :: b :: r, h3, h4 =>
        exfalso
        rw [List.nodup_cons] at h4
        exact h4.1 (by rw [h3 a (by simp), h3 b (by simp)]; simp)
    have h5 : l.length = (l.filter fun i => decide (i ≠ n)).length + (l.filter fun i => !decide (i ≠ n)).length := by
      clear h1 h2 hn h
      induction l with
      | nil => rfl
      | cons a l ih =>
        by_cases ha : a = n
        · simp [ha] at ih ⊢; omega
        · simp [ha] at ih ⊢; omega
    omega
theorem size_few {W : World} {m n : Nat} {D : DataW Unit} (h : owns W m n D) (hk : Keys D) : Maps.size D ≤ 262144 := by
  obtain ⟨es, rfl, hp, hl⟩ := h.entries pl_law
  have hex : ∀ e ∈ es, ∃ p, In p ∧ e.1 = plKey p := fun e he => hk e.1 (List.any_eq_true.2 ⟨e, he, WideAt.sameKey_self (hl e he)⟩)
  have hc : ∃ l : List Nat, l.length = es.length ∧ l.Nodup ∧ ∀ i ∈ l, i < 262144 ∧ ∃ e ∈ es, ∃ p, In p ∧ e.1 = plKey p ∧ i = (p.1 * 16384 + p.2).toNat := by
    clear h hk hl
    induction es with
    | nil => exact ⟨[], rfl, List.nodup_nil, fun i hi => by cases hi⟩
    | cons e es ih =>
      rw [List.pairwise_cons] at hp
      obtain ⟨l, h1, h2, h3⟩ := ih hp.2 (fun e he => hex e (by simp [he]))
      obtain ⟨p, hi, hpk⟩ := hex e (by simp)
      refine ⟨(p.1 * 16384 + p.2).toNat :: l, by simp [h1], List.nodup_cons.2 ⟨fun hm => ?_, h2⟩, fun i him => ?_⟩
      · obtain ⟨_, e2, he2, q, hq, hqk, e3⟩ := h3 _ hm
        have := hi.1; have := hi.2.1; have := hi.2.2.1; have := hi.2.2.2
        have := hq.1; have := hq.2.1; have := hq.2.2.1; have := hq.2.2.2
        have e4 : p = q := Prod.ext (by omega) (by omega)
        exact hp.1 e2 he2 (by rw [hpk, hqk, e4])
      · rcases List.mem_cons.1 him with rfl | hm
        · have := hi.1; have := hi.2.1; have := hi.2.2.1; have := hi.2.2.2
          exact ⟨by omega, e, by simp, p, hi, hpk, rfl⟩
        · obtain ⟨h4, e2, he2, r⟩ := h3 i hm
          exact ⟨h4, e2, by simp [he2], r⟩
  obtain ⟨l, h1, h2, h3⟩ := hc
  have := few_ 262144 l h2 (fun i hi => (h3 i hi).1)
  rw [Maps.size_eq]
  omega
/-- One more sector. -/
def putS (S : Pl → List UInt8) (p : Pl) (b : List UInt8) : Pl → List UInt8 := fun q => if q = p then b else S q
def putM (M : Pl → Option (List UInt8)) (p : Pl) (b : List UInt8) : Pl → Option (List UInt8) := fun q => if q = p then some b else M q
def delM (M : Pl → Option (List UInt8)) (p : Pl) : Pl → Option (List UInt8) := fun q => if q = p then none else M q
theorem keys_put {D : DataW Unit} (hk : Keys D) (hD : Maps.IsMap D) {p : Pl} (hp : In p) (d : DataW Unit) : Keys (D.put (plKey p) d) := by
  intro kl h
  by_cases e : kl = plKey p
  · exact ⟨p, hp, e⟩
  · exact hk kl ((Maps.has_put_other e d).symm.trans h)
theorem keys_del {D : DataW Unit} (hk : Keys D) (k : Lit) : Keys (D.del k) := by
  intro kl h
  by_cases e : kl = k
  · rw [e, Maps.has_del_same] at h; cases h
  · exact hk kl ((Maps.has_del_other e).symm.trans h)
theorem pl_put {S : Pl → List UInt8} {D : DataW Unit} (hD : Maps.IsMap D) (h : ∀ p, In p → (S p).length = 64 ∧ D.atKey (plKey p) zd0 = .lit (.string (S p))) {p : Pl} (hp : In p) {b : List UInt8} (hb : b.length = 64) :
    ∀ q, In q → (putS S p b q).length = 64 ∧ (D.put (plKey p) (.lit (.string b))).atKey (plKey q) zd0 = .lit (.string (putS S p b q)) := by
  intro q hq
  unfold putS
  by_cases e : q = p
  · subst e
    rw [if_pos rfl]
    exact ⟨hb, Maps.atKey_put_same hD (pl_keylit _ hq.wf) _ _⟩
  · rw [if_neg e, Maps.atKey_put_other (fun h => e (pl_key_inj hq.wf hp.wf h))]
    exact h q hq
end Go.Proofs.YtnfnnfbcafepkaaDoor.Dk
