/- Printed by this session's program (wip/print) out of the translation, for the statement named in the file's name. -/
import Derived.Test.YtgcaalgaellciaaGreatDoorXLarx0
import Derived.Test.YtgcaalgaellciaaGreatDoorXLarx2
namespace Go.Proofs.YtgcaalgaellciaaGreatDoor.XLar
open Go.RowKit Go.Proofs.YtgcaalgaellciaaGreatDoorW.PrintWords Go.Proofs.YtgcaalgaellciaaGreatDoorW.PrintLast Go.Proofs.YtgcaalgaellciaaGreatDoorW.PrintMore Go.Proofs.YtgcaalgaellciaaGreatDoor.Both
attribute [local go_sem] str_gtr str_leq str_geq max2_int min2_int max_two min_two max_three min_three max_four min_four   -- for this text's walks alone
set_option linter.unusedVariables false
set_option linter.unusedSimpArgs false
set_option linter.unnecessarySimpa false

/-! ### lattice_New: function 12 (by hand) -/
set_option maxRecDepth 100000
theorem lat_laid : laidOutB Tryz.prog = true := by kernel_rfl
theorem lat_row : (37 : TypeId) < Tryz.prog.types.size := of_decide_eq_true (by kernel_rfl)
theorem lat_wide : (match Tryz.prog.underlying 37 with | some (.array _ _) | some (.struct _) => true | _ => false) = true := by rw [Tryz.underlying37]
theorem lat_law : Maps.Keyed Tryz.prog 37 := Maps.Keyed.of_law (deep_law_laid lat_laid (m := 2) (by omega) lat_row (by kernel_rfl) lat_wide)
/-- A label that is one in memory. -/
def LatWf (x : S37) : Prop := (Lit.int .i64 x.f0).wf = true ∧ (Lit.int .u32 x.f1).wf = true
/-- A label as a map's key. -/
noncomputable def latKey (x : S37) : Lit := (keyOf Tryz.prog 37 (.agg #[.int .i64 x.f0, .int .u32 x.f1])).getD (.bool false)
theorem lat_keytype : Tryz.prog.keyType 37 = true := by kernel_rfl
theorem lat_cells : Tryz.prog.cellsOf 37 = 2 := by kernel_rfl
theorem lat_key (x : S37) (h : LatWf x) : keyOf Tryz.prog 37 (.agg #[.int .i64 x.f0, .int .u32 x.f1]) = some (latKey x) := by
  have hf : (Value.agg #[.int .i64 x.f0, .int .u32 x.f1]).formed Tryz.prog 37 = true := by simp [Value.formed, Tryz.underlying37, lat_cells]
  have h1 : ∃ l, keyOf Tryz.prog 37 (.agg #[.int .i64 x.f0, .int .u32 x.f1]) = some l := by
    obtain ⟨d, hd⟩ : ∃ d, Tryz.prog.types.size = d + 1 := ⟨_, (Nat.succ_pred_eq_of_pos (Nat.lt_of_le_of_lt (Nat.zero_le _) lat_row)).symm⟩
    have c1 : Tryz.prog.cellsOf 3 = 1 := by kernel_rfl
    have c2 : Tryz.prog.cellsOf 35 = 1 := by kernel_rfl
    unfold keyOf
    rw [Tryz.underlying37]
    simp only [lat_keytype, hf, Bool.and_self, if_true, hd]
    simp [Program.keyLits, Tryz.underlying37, Tryz.underlying3, Tryz.underlying35, lat_cells, c1, c2, h.1, h.2, Value.cells]
  obtain ⟨l, hl⟩ := h1
  unfold latKey
  rw [hl]
  rfl
theorem lat_key_inj {x y : S37} (hx : LatWf x) (hy : LatWf y) (h : latKey x = latKey y) : x = y := by
  have h1 := lat_key x hx
  have h2 := lat_key y hy
  rw [h] at h1
  have h3 := lat_law.inj h1 h2
  obtain ⟨a, b⟩ := x
  obtain ⟨c, d⟩ := y
  simp at h3
  simp [h3]
theorem lat_keylit (x : S37) (h : LatWf x) : WideAt.IsKeyLit (latKey x) := lat_law.key (lat_key x h)
/-- Labels and their places, as a map reads them. -/
noncomputable def latL (D : DataW Unit) (l : List (S37 × Nat)) : DataW Unit := l.foldl (fun D p => D.put (latKey p.1) (.lit (.int .i64 (p.2 : Int)))) D
noncomputable def latD (xs : List S37) : DataW Unit := latL (.map []) xs.zipIdx
theorem latD_snoc (ts : List S37) (t : S37) : latD (ts ++ [t]) = (latD ts).put (latKey t) (.lit (.int .i64 (ts.length : Int))) := by
  unfold latD latL
  rw [List.zipIdx_append, List.foldl_append]
  simp
def latSame (x y : S37) : Bool := decide (x.f0 = y.f0) && decide (x.f1 = y.f1)
theorem latSame_iff (x y : S37) : latSame x y = true ↔ x = y := by
  obtain ⟨a, b⟩ := x
  obtain ⟨c, d⟩ := y
  simp [latSame]
/-- The place of the last of a label's like. -/
def latPosL (acc : Option Nat) (l : List (S37 × Nat)) (a : S37) : Option Nat := l.foldl (fun acc p => if latSame p.1 a = true then some p.2 else acc) acc
def latPos (ts : List S37) (a : S37) : Option Nat := latPosL none ts.zipIdx a
theorem lat_pos (a : S37) (ha : LatWf a) : ∀ (l : List (S37 × Nat)) (D : DataW Unit) (acc : Option Nat), (∀ p ∈ l, LatWf p.1) → Maps.IsMap D → Maps.has D (latKey a) = acc.isSome → D.atKey (latKey a) (.lit (.int .i64 0)) = .lit (.int .i64 (acc.getD 0 : Nat)) →
    Maps.IsMap (latL D l) ∧ Maps.has (latL D l) (latKey a) = (latPosL acc l a).isSome ∧ (latL D l).atKey (latKey a) (.lit (.int .i64 0)) = .lit (.int .i64 ((latPosL acc l a).getD 0 : Nat))
  | [], D, acc, _, h1, h2, h3 => ⟨h1, h2, h3⟩
  | p :: l, D, acc, hw, h1, h2, h3 => by
    have hp := hw p (by simp)
    have hl := fun q hq => hw q (List.mem_cons_of_mem p hq)
    show Maps.IsMap (latL (D.put (latKey p.1) _) l) ∧ _
    by_cases e : p.1 = a
    · have e2 : latPosL acc (p :: l) a = latPosL (some p.2) l a := by show latPosL (if latSame p.1 a = true then some p.2 else acc) l a = _; rw [if_pos ((latSame_iff _ _).2 e)]
      rw [e2]
      subst e
      exact lat_pos _ ha l _ (some p.2) hl (h1.put _ _) (Maps.has_put_same h1 (lat_keylit _ ha) _) (Maps.atKey_put_same h1 (lat_keylit _ ha) _ _)
    · have e2 : latPosL acc (p :: l) a = latPosL acc l a := by show latPosL (if latSame p.1 a = true then some p.2 else acc) l a = _; rw [if_neg (fun h => e ((latSame_iff _ _).1 h))]
      rw [e2]
      have hne : latKey a ≠ latKey p.1 := fun h => e (lat_key_inj ha hp h).symm
      exact lat_pos _ ha l _ acc hl (h1.put _ _) ((Maps.has_put_other hne _).trans h2) ((Maps.atKey_put_other hne _ _).trans h3)
theorem latD_pos (ts : List S37) (hw : ∀ x ∈ ts, LatWf x) (a : S37) (ha : LatWf a) : Maps.has (latD ts) (latKey a) = (latPos ts a).isSome ∧ (latD ts).atKey (latKey a) (.lit (.int .i64 0)) = .lit (.int .i64 ((latPos ts a).getD 0 : Nat)) :=
  (lat_pos a ha ts.zipIdx (.map []) none (fun p hp => hw p.1 (List.fst_mem_of_mem_zipIdx hp)) Maps.isMap_empty rfl rfl).2
/-- A lattice, or none, at a pointer. -/
def LatC (W : World) (A : Option Addr) (xs : List S37) : Prop :=
  (xs = [] ∧ A = none) ∨ ∃ g A1 c m n, A = some ⟨g, 0, none⟩ ∧ xs ≠ [] ∧ xs.length ≤ 16 ∧ (∀ x ∈ xs, LatWf x) ∧ W.cell? ⟨g, 0, none⟩ = some (.slice A1 xs.length c) ∧ W.cell? ⟨g, 1, none⟩ = some (.map (some m)) ∧ xs.length ≤ c ∧ Kd.C k37 W A1 xs.length xs ∧ W.ownsMap Tryz.prog 37 (plainElem Tryz.prog 3) m n (latD xs)
theorem latC_nil (W : World) (A : Option Addr) (xs : List S37) (h : LatC W A xs) : A = none ↔ xs = [] := by
  rcases h with ⟨rfl, rfl⟩ | ⟨g, A1, c, m, n, rfl, h, _⟩
  · simp
  · simp [h]
instance : ObjC S37 := ⟨LatC, latC_nil⟩
/-- Does one of them come twice? -/
def latDup (pre : List S37) : List S37 → Bool
  | [] => false
  | x :: l => pre.any (fun y => latSame y x) || latDup (pre ++ [x]) l
/-- The error of the first label that can't be. -/
def latBad (l : List S37) : Bool := l.any fun x => decide (label_Valid.f x.f0 x.f1 ≠ some none)
def latNew (l0 : List S37) : Option Int := if l0 = [] then some 1 else if l0.length > 16 then some 2 else if latBad l0 = true then some 20 else if latDup [] l0 = true then some 9 else none
def latU32 (l0 : List S37) : Bool := l0.all fun x => decide (0 ≤ x.f1 ∧ x.f1 < 4294967296)
/-- The labels of the lattice that is made. -/
def latMade (l0 : List S37) : List S37 := if (latNew l0).isNone = true then l0 else []
theorem latMade_none {l0 : List S37} (h : latNew l0 = none) : latMade l0 = l0 := by unfold latMade; rw [h]; rfl
theorem latMade_some {l0 : List S37} {e : Int} (h : latNew l0 = some e) : latMade l0 = [] := by unfold latMade; rw [h]; rfl
def lattice_New.f (l0 : List S37) : Option (List S37 × Option Int) := if latU32 l0 = true then some (latMade l0, latNew l0) else none
theorem lat_valid (x : S37) : label_Valid.f x.f0 x.f1 = some none ∨ label_Valid.f x.f0 x.f1 = some (some 20) := by
  unfold label_Valid.f
  repeat' split
  all_goals simp
theorem lat_wf (x : S37) (h1 : 0 ≤ x.f1 ∧ x.f1 < 4294967296) (h : label_Valid.f x.f0 x.f1 = some none) : LatWf x := by
  unfold label_Valid.f at h
  have h0 : 0 ≤ x.f0 ∧ x.f0 ≤ 15 := by
    split at h
    · simp at h
    · split at h
      · simp at h
      · omega
  refine ⟨WalkArith.wf_i64 (by omega), ?_⟩
  simp [Lit.wf, IntKind.bits, IntKind.signed, IntKind.min, IntKind.max]
  omega
theorem lat_posL_some (a : S37) : ∀ (l : List (S37 × Nat)) (acc : Option Nat), (latPosL acc l a).isSome = (acc.isSome || l.any fun p => latSame p.1 a)
  | [], acc => by simp [latPosL]
  | p :: l, acc => by
    show (latPosL (if latSame p.1 a = true then some p.2 else acc) l a).isSome = _
    rw [lat_posL_some a l, List.any_cons]
    by_cases h : latSame p.1 a = true
    · simp [h]
    · simp [h]
theorem lat_pos_some (l : List S37) (a : S37) : (latPos l a).isSome = l.any fun y => latSame y a := by
  unfold latPos
  rw [lat_posL_some]
  have h : ∀ (l : List S37) (k : Nat), (l.zipIdx k).any (fun p => latSame p.1 a) = l.any fun y => latSame y a := by
    intro l
    induction l with
    | nil => intro k; rfl
    | cons x l ih => intro k; rw [List.zipIdx_cons, List.any_cons, List.any_cons, ih]
  rw [h]
  simp
theorem lat_own_step {W W1 : World} {m n : Nat} {D : DataW Unit} (h : W.ownsMap Tryz.prog 37 (plainElem Tryz.prog 3) m n D) (hb : W1.heap[m]? = W.heap[m]?) : W1.ownsMap Tryz.prog 37 (plainElem Tryz.prog 3) m n D := by
  obtain ⟨es, clock, hm, r⟩ := h
  exact ⟨es, clock, hb.trans hm, r⟩
theorem lat_own_lt {W : World} {m n : Nat} {D : DataW Unit} (h : W.ownsMap Tryz.prog 37 (plainElem Tryz.prog 3) m n D) : m < W.heap.size := by
  obtain ⟨es, clock, hm, r⟩ := h
  exact blk_lt hm
theorem heap_old_ {W : World} {k : Nat} (o : Obj) (h : k < W.heap.size) : (W.alloc o).heap[k]? = W.heap[k]? := (below_alloc (Below.refl W.heap.size W) o).block k h
theorem lat_zero (w : World) : (zeroValue 3).run Tryz.prog w = .ok (.int .i64 0) w := by kernel_rfl
set_option maxHeartbeats 8000000 in
set_option maxRecDepth 100000 in
theorem lat_cloneL (A0 : Option Addr) (c0 : Nat) (l0 : List S37) (w : World) (hr0 : Kd.C k37 w A0 l0.length l0) (hlen : l0.length ≤ 1000) :
    Calls Tryz.prog 27 #[.slice A0 l0.length c0] w fun e w' => ∃ v0_ : Value, e = .returned (v0_) ∧ Kd.R k37 37 w' w.heap.size (fun _ => True) v0_ l0 ∧ Below w.heap.size w w' := by
  have HR0 := Aside0.mk hr0
  have LM := Aside0.mk hlen
  have hq0 : ∀ (d : Nat) (A : Option Addr) (n c : Nat) (w : World), (Op.equalIn (d + 1) 27 (.slice A n c) (.slice none 0 0)).run Tryz.prog w = .ok A.isNone w := fun d A n c w => by cases A <;> simp [Op.equalIn, run_underlying Tryz.underlying27]
  have hqe : ∀ (A : Option Addr) (n c : Nat) (w : World), (Op.equal 27 (.slice A n c) (.slice none 0 0)).run Tryz.prog w = .ok A.isNone w := hq0 9999
  have hq : ∀ (A : Option Addr) (n c : Nat) (w : World), (binOp .eql 27 (.slice A n c) (.slice none 0 0)).run Tryz.prog w = .ok (.bool A.isNone) w := fun A n c w => by simp [binOp, hqe A n c w]
  clear hq0 hqe
  cases A0 with
  | none =>
    have h0 : l0.length = 0 := by
      rcases Nat.eq_zero_or_pos l0.length with h | h
      · exact h
      · obtain ⟨_, _, hx⟩ := hr0
        obtain ⟨ad, e, _⟩ := hx h
        cases e
    obtain rfl := List.eq_nil_of_length_eq_zero h0
    clear hr0 hlen
    have hq1 := hq none ([] : List S37).length c0
    rw [show (none : Option Addr).isNone = true from rfl] at hq1
    go_enter Tryz.func27, Tryz.ntmps27
    go_wp2
    go_ret
    exact ⟨_, rfl, Kd.R_nil _ _ _ _ _, Below.refl _ _⟩
  | some a =>
    clear hr0 hlen
    have ho0 : k37.R 37 (w.alloc (.cells #[] 37)) w.heap.size (fun _ => True) (.slice (some ⟨w.heap.size, 0, none⟩) 0 0) ([] : List S37) := by
      refine ⟨fun _ _ => trivial, [], ?_, ⟨by simp, fun j p hj => by simp at hj⟩⟩
      have h2 := World.ownsRow_lit (base := w.heap.size) (e := 37) (size := k37.sz) w #[] 0 (Nat.le_refl _) (by simp [maxLen]) (by simp)
      simpa using h2
    have HO := Aside0.mk ho0
    have HB := Aside0.mk (below_alloc (Below.refl w.heap.size w) (.cells #[] 37))
    clear ho0
    have hq1 := hq (some a) l0.length c0
    rw [show (some a : Option Addr).isNone = false from rfl] at hq1
    go_enter Tryz.func27, Tryz.ntmps27
    go_wp2_with ((with_reducible refine gate_builtin (b := .append) (xs := #[.tmp 5, .tmp 6]) rfl ?_); at_builtin; refine Kd.R_append_rows k37 (w0 := w) w.heap.size rfl (.tmp 5) (.tmp 6) 27 37 (.agg #[.int .i64 0, .int .u32 0]) 16 rfl Tryz.underlying27 info37 rfl (by decide) (by omega) _ ([] : List S37) l0 _ _ _ (fun _ => True) (fun _ => False) rfl rfl HO.out (Kd.C_below HR0.out HB.out) (fun _ _ h => h) (fun _ h => h.elim) (fun _ _ => trivial) HB.out (below_size HB.out) (by have := LM.out; simp; omega) ?_; intro v2 w2 ho hb hg hat; rw [List.nil_append] at ho; have n0_ := Aside0.mk hb; have n1_ := Aside0.mk ho; clear HB HO; have HB := n0_; have HO := n1_; clear n0_ n1_; clear ho hb hg hat)
    go_ret
    exact ⟨_, rfl, HO.out, HB.out⟩
theorem lat_new_nil (A : Option Addr) (c : Nat) (w : World) : Calls Tryz.prog 12 #[.slice A 0 c] w fun e w' => e = .returned (.tuple #[.pointer none, errW (some 1)]) ∧ w' = w := by
  rw [errW_some]
  go_enter Tryz.func12, Tryz.ntmps12
  go_wp2
  go_ret2
  exact ⟨rfl, rfl⟩
theorem lat_new_long (A : Option Addr) (n c : Nat) (hn : 16 < n) (w : World) : Calls Tryz.prog 12 #[.slice A n c] w fun e w' => e = .returned (.tuple #[.pointer none, errW (some 2)]) ∧ w' = w := by
  have hd : decide ((n : Int) > 16) = true := decide_eq_true (by omega)
  have hd2 : decide ((16 : Int) < (n : Int)) = true := decide_eq_true (by omega)
  have he : ((n : Int) == 0) = false := by simp; omega
  have he2 : decide ((n : Int) = 0) = false := decide_eq_false (by omega)
  have he3 : (n = 0) = False := eq_false (by omega)
  rw [errW_some]
  go_enter Tryz.func12, Tryz.ntmps12
  go_wp2
  go_ret2
  exact ⟨rfl, rfl⟩
set_option maxHeartbeats 16000000 in
theorem lat_new (A0 : Option Addr) (c0 : Nat) (l0 : List S37) (w : World) (hr0 : Kd.C k37 w A0 l0.length l0) (hc0 : l0.length ≤ c0) (hu : latU32 l0 = true) (hne : l0 ≠ []) (h16 : l0.length ≤ 16) :
    Calls Tryz.prog 12 #[.slice A0 l0.length c0] w fun e w' => ∃ v0_ : Value, e = .returned (.tuple #[v0_, errW (latNew l0)]) ∧ Kd.O k37 9022 w' w.heap.size (fun k_ => w.heap.size ≤ k_) v0_ (latMade l0) ∧ Below w.heap.size w w' := by
  have hul := Tryz.underlying37
  have hu2 := Tryz.underlying66
  have hu3 := Tryz.underlying24
  have HR := Aside0.mk hr0
  have HCL := Aside0.mk (lat_cloneL A0 c0 l0 w hr0 (by omega))
  have hpos : 0 < l0.length := List.length_pos_iff.2 hne
  have HU := Aside0.mk hu
  obtain ⟨n, hn⟩ : ∃ n : Nat, n = l0.length := ⟨_, rfl⟩
  have HN := Aside0.mk hn
  have hbad : latNew l0 = if latBad l0 = true then some 20 else if latDup [] l0 = true then some 9 else none := by
    unfold latNew
    rw [if_neg hne, if_neg (by omega)]
  have HBAD := Aside0.mk hbad
  have HNE := Aside0.mk hne
  rw [← hn] at HCL h16 hpos ⊢
  clear hr0 hc0 hbad hu hne hn
  have hd : decide ((n : Int) > 16) = false := decide_eq_false (by omega)
  have hd2 : decide ((16 : Int) < (n : Int)) = false := decide_eq_false (by omega)
  have he : ((n : Int) == 0) = false := by simp; omega
  have he2 : decide ((n : Int) = 0) = false := decide_eq_false (by omega)
  have he3 : (n = 0) = False := eq_false (by omega)
  have hmm := @run_makeMap Tryz.prog
  go_enter Tryz.func12, Tryz.ntmps12
  go_wp2_with (first | (go_at_call 27; refine HCL.out.mono ?_; rintro e w2 ⟨v2, rfl, hR, hb⟩; obtain ⟨Ac, cc, eo⟩ := Kd.R_slice hR; subst eo; have HRC := Aside0.mk (Kd.R_bound hR); have HB2 := Aside0.mk hb; clear hR hb) | ((with_reducible refine gate_dst (N := 26) rfl ?_); refine box_event ?hg (N := 26) ?hd (cs := #[.slice Ac l0.length cc, .map (some w2.heap.size)]) (t := 66) ?hr ?_; (case hd => rfl); (case hg => rfl); (case hr => first | (go_simp; done) | (go_simp; rfl)); intro g hg w1 hbox hb; have hm0 := lat_own_step (World.ownsMap_made w2 Tryz.prog 37 (plainElem (H := Unit) Tryz.prog 3)) (hb.block w2.heap.size (by simp)); have GEg := Aside0.mk ((by rw [hg]; simp) : w2.heap.size + 1 ≤ g); have HB := Aside0.mk (below_step (below_alloc (Below.refl w2.heap.size w2) _) hb); have BKg := Aside0.mk hbox; have HM := Aside0.mk hm0; clear hm0 hb hbox hg))
  obtain ⟨m, hm⟩ : ∃ m, m = w2.heap.size := ⟨_, rfl⟩
  rw [← hm] at BKg HM GEg
  have HMm := Aside0.mk hm
  clear hm
  go_loopg [6, 7, 29] (n + 1) (fun kq v6 v7 v29 w' => ∃ i : Nat, v29 = .int .i64 i ∧ Aside0 (i + kq = n + 1) ∧ Aside0 (i ≤ n) ∧ Aside0 (∀ j (h : j < l0.length), j < i → label_Valid.f l0[j].f0 l0[j].f1 = some none) ∧ Aside0 (w'.heap[g]? = some (.cells #[.slice Ac l0.length cc, .map (some m)] 66 (0, 0))) ∧ Aside0 (w'.ownsMap Tryz.prog 37 (plainElem (H := Unit) Tryz.prog 3) m 0 (.map [])) ∧ Aside0 (Below w2.heap.size w2 w'))
  case atStart => exact ⟨0, rfl, ⟨by omega⟩, ⟨by omega⟩, ⟨fun j _ h => by omega⟩, ⟨BKg.out⟩, ⟨HM.out⟩, ⟨HB.out⟩⟩
  case round =>
    clear BKg HM HB
    obtain ⟨i, rfl, HI, HL, HE, BKg, HM, HB⟩ := hrel
    cases gk with
    | zero => exact absurd HI.out (by have := HL.out; omega)
    | succ k1 =>
      by_cases ci : i < n
      · have ci0 : decide ((i : Int) < (n : Int)) = true := decide_eq_true (by omega)
        have ci2 : i < l0.length := by have := HN.out; omega
        obtain ⟨ad, eA, hx0, hx1⟩ := at_T37 (Kd.C_below HR.out (below_step HB2.out HB.out)) (i : Int) (by omega) (by omega)
        cases eA
        have hrd : rd_T37 l0 (i : Int) = l0[i] := by
          unfold rd_T37
          rw [Int.toNat_natCast, List.getD_eq_getElem?_getD, List.getElem?_eq_getElem ci2]
          rfl
        rw [hrd] at hx0 hx1
        simp only [Int.toNat_natCast] at hx0 hx1
        have hyy : l0[i] = l0[i] := rfl
        generalize hy : l0[i] = y at hx0 hx1 hyy
        obtain ⟨x0, x1⟩ := y
        dsimp only at hx0 hx1
        have HY := Aside0.mk hy
        have p1 : (0 ≤ (i : Int)) = True := eq_true (by omega)
        have p2 : ((i : Int) < (n : Int)) = True := eq_true (by omega)
        have HI2 := Aside0.mk ci2
        clear hy hyy hrd
        rcases lat_valid ⟨x0, x1⟩ with hv | hv
        · have HV := Aside0.mk (label_Valid.calls x0 x1 none (wr.alloc (.cells #[.int .i64 x0, .int .u32 x1] 37)) hv)
          have HV2 := Aside0.mk hv
          simp only [errW_none] at HV
          clear hv
          go_wp2_with (go_at_call 28; refine HV.out.mono ?_; rintro e w' ⟨rfl, hb⟩; have n0_ := Aside0.mk (below_step (below_alloc HB.out _) hb); have n1_ := Aside0.mk (blk_below (blk_alloc BKg.out _) hb); have n2_ := Aside0.mk (lat_own_step (lat_own_step HM.out (heap_old_ _ (lat_own_lt HM.out))) (hb.block m (Nat.lt_of_lt_of_le (lat_own_lt HM.out) (by simp)))); clear HB BKg HM; have HB := n0_; have BKg := n1_; have HM := n2_; clear n0_ n1_ n2_ hb)
          go_roundg k1
          case measure => have := HI.out; omega
          case rel => exact ⟨i + 1, (by first | (simp [wrap64, IntKind.wrap]; done) | (simp [wrap64, IntKind.wrap]; omega)), ⟨by have := HI.out; omega⟩, ⟨by omega⟩, ⟨fun j h hj => by
            by_cases hji : j = i
            · subst hji; rw [HY.out]; exact HV2.out
            · exact HE.out j h (by omega)⟩, ⟨BKg.out⟩, ⟨HM.out⟩, ⟨HB.out⟩⟩
        · have HV := Aside0.mk (label_Valid.calls x0 x1 (some 20) (wr.alloc (.cells #[.int .i64 x0, .int .u32 x1] 37)) hv)
          have hlb : latNew l0 = some 20 := by
            rw [HBAD.out, if_pos]
            exact List.any_eq_true.2 ⟨l0[i], List.getElem_mem ci2, by rw [HY.out, hv]; simp⟩
          have HLB := Aside0.mk hlb
          simp only [errW_some] at HV
          clear hv hlb
          go_wp2_with (go_at_call 28; refine HV.out.mono ?_; rintro e w' ⟨rfl, hb⟩; have n0_ := Aside0.mk (below_step (below_alloc HB.out _) hb); clear HB; have HB := n0_; clear n0_ hb)
          go_ret2
          rw [latMade_some HLB.out, HLB.out, errW_some]
          exact ⟨_, rfl, ⟨⟨rfl, rfl, rfl⟩, none, rfl, fun _ _ => .inl ⟨rfl, rfl⟩⟩, below_step HB2.out HB.out⟩
      · have ci0 : decide ((i : Int) < (n : Int)) = false := decide_eq_false (by omega)
        have hin : i = n := by have := HL.out; omega
        have hall : ∀ x ∈ l0, label_Valid.f x.f0 x.f1 = some none := fun x hx => by
          obtain ⟨j, hj, e⟩ := List.getElem_of_mem hx
          rw [← e]
          exact HE.out j hj (by have := HN.out; omega)
        have hnew : latNew l0 = if latDup [] l0 = true then some 9 else none := by
          rw [HBAD.out, if_neg]
          intro h
          obtain ⟨x, hx, hb⟩ := List.any_eq_true.1 h
          rw [hall x hx] at hb
          simp at hb
        have HNEW := Aside0.mk hnew
        have HWF := Aside0.mk (fun x (hx : x ∈ l0) => lat_wf x (of_decide_eq_true (List.all_eq_true.1 HU.out x hx)) (hall x hx))
        clear hall hnew HE HI HL hin
        go_wp2
        go_loopg [8, 9, 10, 11, 41] (n + 1) (fun kq v8 v9 v10 v11 v41 w' => ∃ i : Nat, v41 = .int .i64 i ∧ Aside0 (i + kq = n + 1) ∧ Aside0 (i ≤ n) ∧ Aside0 (latDup [] l0 = latDup (l0.take i) (l0.drop i)) ∧ Aside0 (w'.heap[g]? = some (.cells #[.slice Ac l0.length cc, .map (some m)] 66 (0, 0))) ∧ Aside0 (w'.ownsMap Tryz.prog 37 (plainElem (H := Unit) Tryz.prog 3) m i (latD (l0.take i))) ∧ Aside0 (Below w2.heap.size w2 w'))
        case atStart => exact ⟨0, rfl, ⟨by omega⟩, ⟨by omega⟩, ⟨rfl⟩, ⟨BKg.out⟩, ⟨HM.out⟩, ⟨HB.out⟩⟩
        case round =>
          clear BKg HM HB ci ci0
          obtain ⟨i, rfl, HI, HL, HD, BKg, HM, HB⟩ := hrel
          cases gk with
          | zero => exact absurd HI.out (by have := HL.out; omega)
          | succ k2 =>
            by_cases ci : i < n
            · have ci0 : decide ((i : Int) < (n : Int)) = true := decide_eq_true (by omega)
              have ci2 : i < l0.length := by have := HN.out; omega
              obtain ⟨ad, eA, hx0, hx1⟩ := at_T37 (Kd.C_below HR.out (below_step HB2.out HB.out)) (i : Int) (by omega) (by omega)
              cases eA
              have hrd : rd_T37 l0 (i : Int) = l0[i] := by
                unfold rd_T37
                rw [Int.toNat_natCast, List.getD_eq_getElem?_getD, List.getElem?_eq_getElem ci2]
                rfl
              rw [hrd] at hx0 hx1
              simp only [Int.toNat_natCast] at hx0 hx1
              have hwy := HWF.out l0[i] (List.getElem_mem ci2)
              have hdr := List.drop_eq_getElem_cons ci2
              have htk : l0.take (i + 1) = l0.take i ++ [l0[i]] := by rw [List.take_add_one, List.getElem?_eq_getElem ci2]; rfl
              generalize l0[i] = y at hx0 hx1 hwy hdr htk
              obtain ⟨x0, x1⟩ := y
              dsimp only at hx0 hx1
              have HDR := Aside0.mk hdr
              have HTK := Aside0.mk htk
              have p1 : (0 ≤ (i : Int)) = True := eq_true (by omega)
              have p2 : ((i : Int) < (n : Int)) = True := eq_true (by omega)
              have hkey := lat_key ⟨x0, x1⟩ hwy
              obtain ⟨hcp, hca⟩ := latD_pos (l0.take i) (fun x hx => HWF.out x (List.mem_of_mem_take hx)) ⟨x0, x1⟩ hwy
              clear hdr htk hrd
              go_wp2
              have B1 : (wr.alloc (.cells #[.int .i64 x0, .int .u32 x1] 37)).heap[wr.heap.size]? = some (.cells #[.int .i64 x0, .int .u32 x1] 37 (0, 0)) := heap_alloc_new wr _
              have B2 : (wr.alloc (.cells #[.int .i64 x0, .int .u32 x1] 37)).heap[g]? = some (.cells #[.slice Ac l0.length cc, .map (some m)] 66 (0, 0)) := blk_alloc BKg.out _
              have B3 : (wr.alloc (.cells #[.int .i64 x0, .int .u32 x1] 37)).ownsMap Tryz.prog 37 (plainElem (H := Unit) Tryz.prog 3) m i (latD (l0.take i)) := lat_own_step HM.out (heap_old_ _ (lat_own_lt HM.out))
              have B5 : Below w2.heap.size w2 (wr.alloc (.cells #[.int .i64 x0, .int .u32 x1] 37)) := below_alloc HB.out _
              clear BKg HM HB hx0 hx1
              generalize wr.alloc (.cells #[.int .i64 x0, .int .u32 x1] 37) = w3 at B1 B2 B3 B5 ⊢
              have C1 : w3.drew.heap[wr.heap.size]? = some (.cells #[.int .i64 x0, .int .u32 x1] 37 (0, 0)) := B1
              have C2 : w3.drew.heap[g]? = some (.cells #[.slice Ac l0.length cc, .map (some m)] 66 (0, 0)) := B2
              have C3 := B3.drew
              have C5 := below_drew1 B5
              clear B1 B2 B3 B5
              have zg1 : w3.drew.cell? ⟨g, 1, none⟩ = some (.map (some m)) := (blk_cell C2 1).trans rfl
              have zt0 : w3.drew.cell? ⟨wr.heap.size, 0, none⟩ = some (.int .i64 x0) := (blk_cell C1 0).trans rfl
              have zt1 : w3.drew.cell? ⟨wr.heap.size, 1, none⟩ = some (.int .u32 x1) := (blk_cell C1 1).trans rfl
              obtain ⟨vv, ps, hlk, hvv⟩ := C3.look_ok lat_law Tryz.underlying64 (lat_zero _) (plainElem_int Tryz.underlying3 (by decide)) hkey
              obtain ⟨cc1, rfl, hcc, hwc⟩ := plainElem_int_inv Tryz.underlying3 hvv
              cases hp : (latPos (l0.take i) ⟨x0, x1⟩).isSome with
              | true =>
                rw [hcp.trans hp] at hlk
                refine start_ (n := 11) (S := fun w' => w'.cell? ⟨g, 1, none⟩ = some (.map (some m)) ∧ w'.cell? ⟨wr.heap.size, 0, none⟩ = some (.int .i64 x0) ∧ w'.cell? ⟨wr.heap.size, 1, none⟩ = some (.int .u32 x1) ∧ (Instr.lookup 64 (.map (some m)) (.agg #[.int .i64 x0, .int .u32 x1]) true).run Tryz.prog w' = .ok (.tuple #[.int .i64 cc1, .bool true]) w') (ds := []) #[false, false, false, false, false, false, false, false, false, false, false] (by kernel_rfl) rfl rfl ⟨zg1, zt0, zt1, hlk⟩ (fun hHeld => ?_)
                generalize w3.drew = w4 at C1 C2 C3 C5 zg1 zt0 zt1 hlk hHeld ⊢
                refine pure_ (i := 0) (N := some 47) (v := ?_) (a' := ?_) #[true, false, false, false, false, false, false, false, false, false, false] rfl rfl (by kernel_rfl) (fun _ _ _ h => h) (Or.inl ⟨by rfl, ?_⟩) ?_ ?_
                rotate_left
                · intro w'
                  go_simp
                  with_reducible rfl
                rotate_left
                · simp only [Act.put, List.setIfInBounds_toArray, List.set_cons_zero, List.set_cons_succ, i64_w, i32_w]
                  rfl
                refine pure_ (i := 1) (N := some 48) (v := ?_) (a' := ?_) #[true, true, false, false, false, false, false, false, false, false, false] rfl rfl (by kernel_rfl) (fun _ _ _ h => h) (Or.inl ⟨by rfl, ?_⟩) ?_ ?_
                rotate_left
                · intro w'
                  go_simp
                  with_reducible rfl
                rotate_left
                · simp only [Act.put, List.setIfInBounds_toArray, List.set_cons_zero, List.set_cons_succ, i64_w, i32_w]
                  rfl
                refine pure_ (i := 2) (N := some 49) (v := ?_) (a' := ?_) #[true, true, true, false, false, false, false, false, false, false, false] rfl rfl (by kernel_rfl) (fun _ _ _ h => h) (Or.inl ⟨by rfl, ?_⟩) ?_ ?_
                rotate_left
                · intro w'
                  go_simp
                  with_reducible rfl
                rotate_left
                · simp only [Act.put, List.setIfInBounds_toArray, List.set_cons_zero, List.set_cons_succ, i64_w, i32_w]
                  rfl
                refine take_ (i := 3) (N := some 50) (v := ?_) (a' := ?_) #[true, true, true, true, false, false, false, false, false, false, false] rfl rfl (by kernel_rfl) (fun _ _ _ h => h) (Or.inl ⟨by rfl, ?_⟩) hHeld ?_ ?_
                rotate_left
                · rintro w' ⟨s0, s1, s2, s3⟩
                  go_simp
                  with_reducible rfl
                rotate_left
                · simp only [Act.put, List.setIfInBounds_toArray, List.set_cons_zero, List.set_cons_succ, i64_w, i32_w]
                  rfl
                refine take_ (i := 4) (N := some 51) (v := ?_) (a' := ?_) #[true, true, true, true, true, false, false, false, false, false, false] rfl rfl (by kernel_rfl) (fun _ _ _ h => h) (Or.inl ⟨by rfl, ?_⟩) hHeld ?_ ?_
                rotate_left
                · rintro w' ⟨s0, s1, s2, s3⟩
                  go_simp
                  with_reducible rfl
                rotate_left
                · simp only [Act.put, List.setIfInBounds_toArray, List.set_cons_zero, List.set_cons_succ, i64_w, i32_w]
                  rfl
                refine take_ (i := 5) (N := some 52) (v := ?_) (a' := ?_) #[true, true, true, true, true, true, false, false, false, false, false] rfl rfl (by kernel_rfl) (fun _ _ _ h => h) (Or.inl ⟨by rfl, ?_⟩) hHeld ?_ ?_
                rotate_left
                · rintro w' ⟨s0, s1, s2, s3⟩
                  go_simp
                  with_reducible rfl
                rotate_left
                · simp only [Act.put, List.setIfInBounds_toArray, List.set_cons_zero, List.set_cons_succ, i64_w, i32_w]
                  rfl
                refine pure_ (i := 6) (N := some 46) (v := ?_) (a' := ?_) #[true, true, true, true, true, true, true, false, false, false, false] rfl rfl (by kernel_rfl) (fun _ _ _ h => h) (Or.inl ⟨by rfl, ?_⟩) ?_ ?_
                rotate_left
                · intro w'
                  go_simp
                  with_reducible rfl
                rotate_left
                · simp only [Act.put, List.setIfInBounds_toArray, List.set_cons_zero, List.set_cons_succ, i64_w, i32_w]
                  rfl
                refine pure_ (i := 7) (N := some 53) (v := ?_) (a' := ?_) #[true, true, true, true, true, true, true, true, false, false, false] rfl rfl (by kernel_rfl) (fun _ _ _ h => h) (Or.inl ⟨by rfl, ?_⟩) ?_ ?_
                rotate_left
                · intro w'
                  go_simp
                  with_reducible rfl
                rotate_left
                · simp only [Act.put, List.setIfInBounds_toArray, List.set_cons_zero, List.set_cons_succ, i64_w, i32_w]
                  rfl
                refine pure_ (i := 8) (N := some 54) (v := ?_) (a' := ?_) #[true, true, true, true, true, true, true, true, true, false, false] rfl rfl (by kernel_rfl) (fun _ _ _ h => h) (Or.inl ⟨by rfl, ?_⟩) ?_ ?_
                rotate_left
                · intro w'
                  go_simp
                  with_reducible rfl
                rotate_left
                · simp only [Act.put, List.setIfInBounds_toArray, List.set_cons_zero, List.set_cons_succ, i64_w, i32_w]
                  rfl
                refine pure_ (i := 9) (N := some 10) (v := ?_) (a' := ?_) #[true, true, true, true, true, true, true, true, true, true, false] rfl rfl (by kernel_rfl) (fun _ _ _ h => h) (Or.inl ⟨by rfl, ?_⟩) ?_ ?_
                rotate_left
                · intro w'
                  go_simp
                  with_reducible rfl
                rotate_left
                · simp only [Act.put, List.setIfInBounds_toArray, List.set_cons_zero, List.set_cons_succ, i64_w, i32_w]
                  rfl
                refine pure_ (i := 10) (N := some 11) (v := ?_) (a' := ?_) #[true, true, true, true, true, true, true, true, true, true, true] rfl rfl (by kernel_rfl) (fun _ _ _ h => h) (Or.inl ⟨by rfl, ?_⟩) ?_ ?_
                rotate_left
                · intro w'
                  go_simp
                  with_reducible rfl
                rotate_left
                · simp only [Act.put, List.setIfInBounds_toArray, List.set_cons_zero, List.set_cons_succ, i64_w, i32_w]
                  rfl
                refine done_ (by kernel_rfl) ?_
                go_wp2
                go_ret2
                have hne9 : latNew l0 = some 9 := by
                  rw [HNEW.out, HD.out, HDR.out, if_pos]
                  show (_ || _) = true
                  rw [← lat_pos_some, hp]
                  rfl
                rw [latMade_some hne9, hne9, errW_some]
                exact ⟨_, rfl, ⟨⟨rfl, rfl, rfl⟩, none, rfl, fun _ _ => .inl ⟨rfl, rfl⟩⟩, below_step HB2.out C5⟩
              | false =>
                rw [hcp.trans hp] at hlk
                refine start_ (n := 11) (S := fun w' => w'.cell? ⟨g, 1, none⟩ = some (.map (some m)) ∧ w'.cell? ⟨wr.heap.size, 0, none⟩ = some (.int .i64 x0) ∧ w'.cell? ⟨wr.heap.size, 1, none⟩ = some (.int .u32 x1) ∧ (Instr.lookup 64 (.map (some m)) (.agg #[.int .i64 x0, .int .u32 x1]) true).run Tryz.prog w' = .ok (.tuple #[.int .i64 cc1, .bool false]) w') (ds := []) #[false, false, false, false, false, false, false, false, false, false, false] (by kernel_rfl) rfl rfl ⟨zg1, zt0, zt1, hlk⟩ (fun hHeld => ?_)
                generalize w3.drew = w4 at C1 C2 C3 C5 zg1 zt0 zt1 hlk hHeld ⊢
                refine pure_ (i := 0) (N := some 47) (v := ?_) (a' := ?_) #[true, false, false, false, false, false, false, false, false, false, false] rfl rfl (by kernel_rfl) (fun _ _ _ h => h) (Or.inl ⟨by rfl, ?_⟩) ?_ ?_
                rotate_left
                · intro w'
                  go_simp
                  with_reducible rfl
                rotate_left
                · simp only [Act.put, List.setIfInBounds_toArray, List.set_cons_zero, List.set_cons_succ, i64_w, i32_w]
                  rfl
                refine pure_ (i := 1) (N := some 48) (v := ?_) (a' := ?_) #[true, true, false, false, false, false, false, false, false, false, false] rfl rfl (by kernel_rfl) (fun _ _ _ h => h) (Or.inl ⟨by rfl, ?_⟩) ?_ ?_
                rotate_left
                · intro w'
                  go_simp
                  with_reducible rfl
                rotate_left
                · simp only [Act.put, List.setIfInBounds_toArray, List.set_cons_zero, List.set_cons_succ, i64_w, i32_w]
                  rfl
                refine pure_ (i := 2) (N := some 49) (v := ?_) (a' := ?_) #[true, true, true, false, false, false, false, false, false, false, false] rfl rfl (by kernel_rfl) (fun _ _ _ h => h) (Or.inl ⟨by rfl, ?_⟩) ?_ ?_
                rotate_left
                · intro w'
                  go_simp
                  with_reducible rfl
                rotate_left
                · simp only [Act.put, List.setIfInBounds_toArray, List.set_cons_zero, List.set_cons_succ, i64_w, i32_w]
                  rfl
                refine take_ (i := 3) (N := some 50) (v := ?_) (a' := ?_) #[true, true, true, true, false, false, false, false, false, false, false] rfl rfl (by kernel_rfl) (fun _ _ _ h => h) (Or.inl ⟨by rfl, ?_⟩) hHeld ?_ ?_
                rotate_left
                · rintro w' ⟨s0, s1, s2, s3⟩
                  go_simp
                  with_reducible rfl
                rotate_left
                · simp only [Act.put, List.setIfInBounds_toArray, List.set_cons_zero, List.set_cons_succ, i64_w, i32_w]
                  rfl
                refine take_ (i := 4) (N := some 51) (v := ?_) (a' := ?_) #[true, true, true, true, true, false, false, false, false, false, false] rfl rfl (by kernel_rfl) (fun _ _ _ h => h) (Or.inl ⟨by rfl, ?_⟩) hHeld ?_ ?_
                rotate_left
                · rintro w' ⟨s0, s1, s2, s3⟩
                  go_simp
                  with_reducible rfl
                rotate_left
                · simp only [Act.put, List.setIfInBounds_toArray, List.set_cons_zero, List.set_cons_succ, i64_w, i32_w]
                  rfl
                refine take_ (i := 5) (N := some 52) (v := ?_) (a' := ?_) #[true, true, true, true, true, true, false, false, false, false, false] rfl rfl (by kernel_rfl) (fun _ _ _ h => h) (Or.inl ⟨by rfl, ?_⟩) hHeld ?_ ?_
                rotate_left
                · rintro w' ⟨s0, s1, s2, s3⟩
                  go_simp
                  with_reducible rfl
                rotate_left
                · simp only [Act.put, List.setIfInBounds_toArray, List.set_cons_zero, List.set_cons_succ, i64_w, i32_w]
                  rfl
                refine pure_ (i := 6) (N := some 46) (v := ?_) (a' := ?_) #[true, true, true, true, true, true, true, false, false, false, false] rfl rfl (by kernel_rfl) (fun _ _ _ h => h) (Or.inl ⟨by rfl, ?_⟩) ?_ ?_
                rotate_left
                · intro w'
                  go_simp
                  with_reducible rfl
                rotate_left
                · simp only [Act.put, List.setIfInBounds_toArray, List.set_cons_zero, List.set_cons_succ, i64_w, i32_w]
                  rfl
                refine pure_ (i := 7) (N := some 53) (v := ?_) (a' := ?_) #[true, true, true, true, true, true, true, true, false, false, false] rfl rfl (by kernel_rfl) (fun _ _ _ h => h) (Or.inl ⟨by rfl, ?_⟩) ?_ ?_
                rotate_left
                · intro w'
                  go_simp
                  with_reducible rfl
                rotate_left
                · simp only [Act.put, List.setIfInBounds_toArray, List.set_cons_zero, List.set_cons_succ, i64_w, i32_w]
                  rfl
                refine pure_ (i := 8) (N := some 54) (v := ?_) (a' := ?_) #[true, true, true, true, true, true, true, true, true, false, false] rfl rfl (by kernel_rfl) (fun _ _ _ h => h) (Or.inl ⟨by rfl, ?_⟩) ?_ ?_
                rotate_left
                · intro w'
                  go_simp
                  with_reducible rfl
                rotate_left
                · simp only [Act.put, List.setIfInBounds_toArray, List.set_cons_zero, List.set_cons_succ, i64_w, i32_w]
                  rfl
                refine pure_ (i := 9) (N := some 10) (v := ?_) (a' := ?_) #[true, true, true, true, true, true, true, true, true, true, false] rfl rfl (by kernel_rfl) (fun _ _ _ h => h) (Or.inl ⟨by rfl, ?_⟩) ?_ ?_
                rotate_left
                · intro w'
                  go_simp
                  with_reducible rfl
                rotate_left
                · simp only [Act.put, List.setIfInBounds_toArray, List.set_cons_zero, List.set_cons_succ, i64_w, i32_w]
                  rfl
                refine pure_ (i := 10) (N := some 11) (v := ?_) (a' := ?_) #[true, true, true, true, true, true, true, true, true, true, true] rfl rfl (by kernel_rfl) (fun _ _ _ h => h) (Or.inl ⟨by rfl, ?_⟩) ?_ ?_
                rotate_left
                · intro w'
                  go_simp
                  with_reducible rfl
                rotate_left
                · simp only [Act.put, List.setIfInBounds_toArray, List.set_cons_zero, List.set_cons_succ, i64_w, i32_w]
                  rfl
                refine done_ (by kernel_rfl) ?_
                try go_wp2
                have D1 : w4.drew.heap[wr.heap.size]? = some (.cells #[.int .i64 x0, .int .u32 x1] 37 (0, 0)) := C1
                have D2 : w4.drew.heap[g]? = some (.cells #[.slice Ac l0.length cc, .map (some m)] 66 (0, 0)) := C2
                have D3 := C3.drew
                have D5 := below_drew1 C5
                clear C1 C2 C3 C5 hlk zg1 zt0 zt1
                have zg1 : w4.drew.cell? ⟨g, 1, none⟩ = some (.map (some m)) := (blk_cell D2 1).trans rfl
                have zt0 : w4.drew.cell? ⟨wr.heap.size, 0, none⟩ = some (.int .i64 x0) := (blk_cell D1 0).trans rfl
                have zt1 : w4.drew.cell? ⟨wr.heap.size, 1, none⟩ = some (.int .u32 x1) := (blk_cell D1 1).trans rfl
                obtain ⟨w6, hup, hown1, hgrow⟩ := D3.update lat_law Tryz.underlying64 (by unfold maxLen; omega) hkey (val := .int .i64 (i : Int)) (plainElem_int Tryz.underlying3 (WalkArith.wf_i64 (by omega)))
                have NEm2 : some m ≠ (none : Option Nat) := by simp
                have hgm : g ≠ m := fun e_ => by subst e_; obtain ⟨es, ck, hm_, _⟩ := D3; rw [D2] at hm_; cases hm_
                have htm : wr.heap.size ≠ m := fun e_ => by subst e_; obtain ⟨es, ck, hm_, _⟩ := D3; rw [D1] at hm_; cases hm_
                have E1 : w6.heap[wr.heap.size]? = some (.cells #[.int .i64 x0, .int .u32 x1] 37 (0, 0)) := (hgrow.block wr.heap.size (blk_lt D1) (fun e_ => htm (Option.some.inj e_))).trans D1
                have E2 : w6.heap[g]? = some (.cells #[.slice Ac l0.length cc, .map (some m)] 66 (0, 0)) := (hgrow.block g (blk_lt D2) (fun e_ => hgm (Option.some.inj e_))).trans D2
                have E5 := D5.grown hgrow D5.size (fun k_ hk_ => by rw [← Option.some.inj hk_, HMm.out]; exact Nat.le_refl _)
                have zg6 : w6.cell? ⟨g, 1, none⟩ = some (.map (some m)) := (blk_cell E2 1).trans rfl
                have zt6 : w6.cell? ⟨wr.heap.size, 0, none⟩ = some (.int .i64 x0) := (blk_cell E1 0).trans rfl
                have zu6 : w6.cell? ⟨wr.heap.size, 1, none⟩ = some (.int .u32 x1) := (blk_cell E1 1).trans rfl
                refine start_ (n := 7) (S := fun w' => w'.cell? ⟨g, 1, none⟩ = some (.map (some m)) ∧ w'.cell? ⟨wr.heap.size, 0, none⟩ = some (.int .i64 x0) ∧ w'.cell? ⟨wr.heap.size, 1, none⟩ = some (.int .u32 x1)) (ds := []) #[false, false, false, false, false, false, false] (by kernel_rfl) rfl rfl ⟨zg1, zt0, zt1⟩ (fun hHeld => ?_)
                generalize w4.drew = w5 at D1 D2 D3 D5 zg1 zt0 zt1 hup hgrow hHeld ⊢
                refine pure_ (i := 0) (N := some 57) (v := ?_) (a' := ?_) #[true, false, false, false, false, false, false] rfl rfl (by kernel_rfl) (fun _ _ _ h => h) (Or.inl ⟨by rfl, ?_⟩) ?_ ?_
                rotate_left
                · intro w'
                  go_simp
                  with_reducible rfl
                rotate_left
                · simp only [Act.put, List.setIfInBounds_toArray, List.set_cons_zero, List.set_cons_succ, i64_w, i32_w]
                  rfl
                refine pure_ (i := 1) (N := some 58) (v := ?_) (a' := ?_) #[true, true, false, false, false, false, false] rfl rfl (by kernel_rfl) (fun _ _ _ h => h) (Or.inl ⟨by rfl, ?_⟩) ?_ ?_
                rotate_left
                · intro w'
                  go_simp
                  with_reducible rfl
                rotate_left
                · simp only [Act.put, List.setIfInBounds_toArray, List.set_cons_zero, List.set_cons_succ, i64_w, i32_w]
                  rfl
                refine pure_ (i := 2) (N := some 59) (v := ?_) (a' := ?_) #[true, true, true, false, false, false, false] rfl rfl (by kernel_rfl) (fun _ _ _ h => h) (Or.inl ⟨by rfl, ?_⟩) ?_ ?_
                rotate_left
                · intro w'
                  go_simp
                  with_reducible rfl
                rotate_left
                · simp only [Act.put, List.setIfInBounds_toArray, List.set_cons_zero, List.set_cons_succ, i64_w, i32_w]
                  rfl
                refine pure_ (i := 5) (N := some 62) (v := ?_) (a' := ?_) #[true, true, true, false, false, true, false] rfl rfl (by kernel_rfl) (fun _ _ _ h => h) (Or.inl ⟨by rfl, ?_⟩) ?_ ?_
                rotate_left
                · intro w'
                  go_simp
                  with_reducible rfl
                rotate_left
                · simp only [Act.put, List.setIfInBounds_toArray, List.set_cons_zero, List.set_cons_succ, i64_w, i32_w]
                  rfl
                refine take_ (i := 3) (N := some 60) (v := ?_) (a' := ?_) #[true, true, true, true, false, true, false] rfl rfl (by kernel_rfl) (fun _ _ _ h => h) (Or.inl ⟨by rfl, ?_⟩) hHeld ?_ ?_
                rotate_left
                · rintro w' ⟨s0, s1, s2⟩
                  go_simp
                  with_reducible rfl
                rotate_left
                · simp only [Act.put, List.setIfInBounds_toArray, List.set_cons_zero, List.set_cons_succ, i64_w, i32_w]
                  rfl
                refine take_ (i := 4) (N := some 61) (v := ?_) (a' := ?_) #[true, true, true, true, true, true, false] rfl rfl (by kernel_rfl) (fun _ _ _ h => h) (Or.inl ⟨by rfl, ?_⟩) hHeld ?_ ?_
                rotate_left
                · rintro w' ⟨s0, s1, s2⟩
                  go_simp
                  with_reducible rfl
                rotate_left
                · simp only [Act.put, List.setIfInBounds_toArray, List.set_cons_zero, List.set_cons_succ, i64_w, i32_w]
                  rfl
                refine one_ (i := 6) (N := none) #[true, true, true, true, true, true, true] rfl rfl (by kernel_rfl) (by decide) (fun K hK => ?_)
                refine skip_ (w1 := w6) (by rfl) rfl ?_ ?_
                · go_simp
                refine hK.out _ _ ⟨zg6, zt6, zu6⟩ (fun hHeld => ?_)
                clear hK K
                refine done_ (by kernel_rfl) ?_
                try go_wp2
                go_roundg k2
                case measure => have := HI.out; omega
                case rel =>
                  refine ⟨i + 1, (by first | (simp [wrap64, IntKind.wrap]; done) | (simp [wrap64, IntKind.wrap]; omega)), ⟨by have := HI.out; omega⟩, ⟨by omega⟩, ⟨?_⟩, ⟨E2⟩, ⟨?_⟩, ⟨E5⟩⟩
                  · rw [HD.out, HDR.out, HTK.out]
                    show (_ || latDup (l0.take i ++ [_]) (l0.drop (i + 1))) = _
                    rw [← lat_pos_some, hp, Bool.false_or]
                  · have hlt : (l0.take i).length = i := by rw [List.length_take]; omega
                    rw [HTK.out, latD_snoc, hlt]
                    exact hown1
            · have ci0 : decide ((i : Int) < (n : Int)) = false := decide_eq_false (by omega)
              have hil : i = l0.length := by have := HL.out; have := HN.out; omega
              go_wp2
              go_ret2
              have hne0 : latNew l0 = none := by
                rw [HNEW.out, HD.out, List.drop_eq_nil_of_le (by omega), if_neg (by simp [latDup])]
              have htk : l0.take i = l0 := List.take_of_length_le (by omega)
              have HM2 := HM.out
              rw [htk] at HM2
              rw [latMade_none hne0, hne0, errW_none]
              refine ⟨_, rfl, ⟨⟨rfl, rfl, rfl⟩, some ⟨g, 0, none⟩, rfl, ?_⟩, below_step HB2.out HB.out⟩
              have hF := Kd.F_below (Kd.R_F HRC.out) HB.out
              obtain ⟨_, hcl, _⟩ := Kd.R_reads' HRC.out
              have hbg := BKg.out
              have h1 := HB2.out.size
              have h2 := GEg.out
              have h3 := HMm.out
              intro W' hW'
              have hg' := (hW' g (by omega) (blk_lt hbg)).trans hbg
              refine .inr ⟨g, Ac, cc, m, i, rfl, ?_⟩
              exact ⟨HNE.out, by have := HN.out; omega, HWF.out, (blk_cell hg' 0).trans rfl, (blk_cell hg' 1).trans rfl, hcl, hF W' (fun k hk hlt => hW' k (hk.2.1) hlt), lat_own_step HM2 (hW' m (by omega) (lat_own_lt HM2))⟩
theorem lattice_New.calls (A0 : Option Addr) (c0 : Nat) (l0 : List S37) (r1 : List S37) (r2 : Option Int) (w : World) (hr0 : Kd.C k37 w A0 l0.length l0) (hc0 : l0.length ≤ c0) (h : lattice_New.f l0 = some (r1, r2)) :
    Calls Tryz.prog 12 #[.slice A0 l0.length c0] w fun e w' => ∃ v0_ : Value, e = .returned (.tuple #[v0_, errW r2]) ∧ Kd.O k37 9022 w' w.heap.size (fun k_ => w.heap.size ≤ k_) v0_ r1 ∧ Below w.heap.size w w' := by
  unfold lattice_New.f at h
  by_cases hu : latU32 l0 = true
  case neg => rw [if_neg hu] at h; cases h
  rw [if_pos hu] at h
  injection h with h
  injection h with h1 h2
  subst h1
  subst h2
  by_cases h0 : l0 = []
  · subst h0
    refine (lat_new_nil A0 c0 w).mono ?_
    rintro e w' ⟨rfl, rfl⟩
    exact ⟨_, rfl, ⟨⟨rfl, rfl, rfl⟩, none, rfl, fun _ _ => .inl ⟨rfl, rfl⟩⟩, Below.refl _ _⟩
  · by_cases h16 : l0.length ≤ 16
    · exact lat_new A0 c0 l0 w hr0 hc0 hu h0 h16
    · have hn : latNew l0 = some 2 := by
        unfold latNew
        rw [if_neg h0, if_pos (by omega)]
      refine (lat_new_long A0 l0.length c0 (by omega) w).mono ?_
      rintro e w' ⟨rfl, rfl⟩
      rw [latMade_some hn, hn]
      exact ⟨_, rfl, ⟨⟨rfl, rfl, rfl⟩, none, rfl, fun _ _ => .inl ⟨rfl, rfl⟩⟩, Below.refl _ _⟩

end Go.Proofs.YtgcaalgaellciaaGreatDoor.XLar
