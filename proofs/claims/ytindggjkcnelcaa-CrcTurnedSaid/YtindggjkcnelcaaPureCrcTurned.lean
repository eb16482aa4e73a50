import Derived.Test.YtindggjkcnelcaaXAllx19
import Derived.Test.YtindggjkcnelcaaPure4
namespace Go.Proofs.Ytindggjkcnelcaa.Pure
open Go.RowKit Go.Proofs.Ytindggjkcnelcaa.XAll Go.Proofs.YtindggjkcnelcaaW.PrintWords Go.Proofs.YtindggjkcnelcaaW.PrintLast Go.Proofs.YtindggjkcnelcaaW.PrintMore
open CrcL
namespace CrcTurnedL
def zp (a b : List Int) : List Int := List.zipWith (fun p q => Go.bits .xor .u8 p q) a b
theorem st_lin (x y c d : Nat) : st (x ^^^ y) (c ^^^ d) = st x c ^^^ st y d := by
  unfold st
  rw [← DD_xor]
  congr 1
  apply Nat.eq_of_testBit_eq
  intro i
  simp only [Nat.testBit_xor]
  cases x.testBit i <;> cases y.testBit i <;> cases c.testBit i <;> cases d.testBit i <;> rfl
theorem u8x (p q : Int) (hp : 0 ≤ p ∧ p < 256) (hq : 0 ≤ q ∧ q < 256) : 0 ≤ Go.bits .xor .u8 p q ∧ Go.bits .xor .u8 p q < 256 ∧ (Go.bits .xor .u8 p q).toNat = p.toNat ^^^ q.toNat := by
  have h := Go.u8_xor p q hp.1 hp.2 hq.1 hq.2
  have hl : p.toNat ^^^ q.toNat < 256 := Nat.xor_lt_two_pow (n := 8) (by omega) (by omega)
  rw [h]
  refine ⟨by omega, by omega, by omega⟩
theorem zp_bytes (a : List Int) : ∀ b : List Int, Bytes a → Bytes b → Bytes (zp a b) := by
  induction a with
  | nil => intro b _ _ x hx; simp [zp] at hx
  | cons p a ih =>
    intro b ha hb
    cases b with
    | nil => intro x hx; simp [zp] at hx
    | cons q b =>
      intro x hx
      simp only [zp, List.zipWith_cons_cons, List.mem_cons] at hx
      rcases hx with rfl | hx
      · have := u8x p q (ha p (by simp)) (hb q (by simp)); exact ⟨this.1, this.2.1⟩
      · exact ih b (fun z hz => ha z (by simp [hz])) (fun z hz => hb z (by simp [hz])) x hx
theorem run_lin (a : List Int) : ∀ (b : List Int) (x y : Nat), a.length = b.length → Bytes a → Bytes b → run (x ^^^ y) (zp a b) = run x a ^^^ run y b := by
  induction a with
  | nil =>
    intro b x y h _ _
    cases b with
    | nil => rfl
    | cons q b => simp at h
  | cons p a ih =>
    intro b x y h ha hb
    cases b with
    | nil => simp at h
    | cons q b =>
      have hu := u8x p q (ha p (by simp)) (hb q (by simp))
      rw [run_cons, run_cons, show zp (p :: a) (q :: b) = Go.bits .xor .u8 p q :: zp a b from rfl, run_cons, hu.2.2, st_lin]
      exact ih b _ _ (by simpa using h) (fun z hz => ha z (by simp [hz])) (fun z hz => hb z (by simp [hz]))
theorem zeros_bytes (n : Nat) : Bytes (List.replicate n 0) := by
  intro x hx
  obtain rfl := List.eq_of_mem_replicate hx
  omega
theorem zp_zero (c : List Int) (hc : Bytes c) : zp c (List.replicate c.length 0) = c := by
  induction c with
  | nil => rfl
  | cons p c ih =>
    have h := u8x p 0 (hc p (by simp)) (by omega)
    have hp := hc p (by simp)
    rw [List.length_cons, List.replicate_succ, show zp (p :: c) (0 :: List.replicate c.length 0) = Go.bits .xor .u8 p 0 :: zp c (List.replicate c.length 0) from rfl, ih (fun z hz => hc z (by simp [hz]))]
    congr 1
    have h2 := h.2.2
    rw [show (0 : Int).toNat = 0 from rfl, Nat.xor_zero] at h2
    omega
theorem upd_xor (l : List Int) (hl : Bytes l) : upd 0 l = 4294967295 ^^^ run 4294967295 l := by
  unfold upd
  rw [ones_xor _ (run_lt _ _ (by omega) hl)]
theorem turned (a b : List Int) (h : a.length = b.length) (ha : Bytes a) (hb : Bytes b) :
    upd 0 a ^^^ upd 0 b ^^^ upd 0 (List.replicate a.length 0) = upd 0 (zp a b) := by
  have hz := zeros_bytes a.length
  have hc := zp_bytes a b ha hb
  have hlen : (zp a b).length = a.length := by simp [zp]; omega
  have e := run_lin (zp a b) (List.replicate a.length 0) (4294967295 ^^^ 4294967295) 4294967295 (by simp [hlen]) hc hz
  rw [run_lin a b _ _ h ha hb] at e
  have e2 := zp_zero (zp a b) hc
  rw [hlen] at e2
  rw [e2, Nat.xor_self, Nat.zero_xor] at e
  rw [upd_xor a ha, upd_xor b hb, upd_xor _ hz, upd_xor _ hc, e]
  apply Nat.eq_of_testBit_eq
  intro i
  simp only [Nat.testBit_xor]
  generalize (run 4294967295 a).testBit i = p
  generalize (run 4294967295 b).testBit i = q
  generalize (run 4294967295 (List.replicate a.length 0)).testBit i = s
  generalize Nat.testBit 4294967295 i = u
  cases p <;> cases q <;> cases s <;> cases u <;> rfl
theorem zp_step (a b : List Int) (n : Nat) (ha : n < a.length) (hb : n < b.length) : zp (a.take n) (b.take n) ++ [Go.bits .xor .u8 (rd a (n : Int)) (rd b (n : Int))] = zp (a.take (n + 1)) (b.take (n + 1)) := by
  have e1 : rd a (n : Int) = a[n] := by unfold rd; rw [Int.toNat_natCast]; simp [ha]
  have e2 : rd b (n : Int) = b[n] := by unfold rd; rw [Int.toNat_natCast]; simp [hb]
  rw [List.take_succ_eq_append_getElem ha, List.take_succ_eq_append_getElem hb, e1, e2]
  unfold zp
  rw [List.zipWith_append (by simp; omega)]
  rfl
theorem loop (a b : List Int) (ha : Bytes a) (hb : Bytes b) (n : Nat) (hna : n ≤ a.length) (hnb : n ≤ b.length) (hn : n < 140737488355328) (d : Nat) :
    ∀ (k : Nat), d ≤ n → d < k → barbicanlaw04_CrcTurned.l0 k a b (n : Int) (zp (a.take (n - d)) (b.take (n - d))) ((n - d : Nat) : Int) = some true := by
  induction d with
  | zero =>
    intro k _ hk
    obtain ⟨k, rfl⟩ : ∃ q, k = q + 1 := ⟨k - 1, by omega⟩
    have t1 := bytes_take n ha
    have t2 := bytes_take n hb
    have l1 : (a.take n).length = n := by simp; omega
    have l2 : (b.take n).length = n := by simp; omega
    have ht := turned (a.take n) (b.take n) (by omega) t1 t2
    rw [l1] at ht
    have hx : Go.bits .xor .u32 (Go.bits .xor .u32 ((upd 0 (a.take n) : Nat) : Int) ((upd 0 (b.take n) : Nat) : Int)) ((upd 0 (List.replicate n 0) : Nat) : Int) = ((upd 0 (zp (a.take n) (b.take n)) : Nat) : Int) := by
      rw [Go.u32_xor_nat _ _ (upd_lt _ _) (upd_lt _ _), Go.u32_xor_nat _ _ (Nat.xor_lt_two_pow (n := 32) (upd_lt _ _) (upd_lt _ _)) (upd_lt _ _), ht]
    simp only [barbicanlaw04_CrcTurned.l0]
    rw [if_neg (by omega), if_pos (by omega), if_pos (by omega), Int.toNat_natCast, Nat.sub_zero, twin4 _ (by omega), Option.bind_some, sum4_f _ t1, Option.bind_some, if_pos (by omega), twin4 _ (by omega), Option.bind_some, sum4_f _ t2, Option.bind_some,
      if_pos (by omega), sum4_f _ (zeros_bytes n), Option.bind_some, sum4_f _ (zp_bytes _ _ t1 t2), Option.bind_some, if_pos hx, sure4, Option.bind_some]
  | succ d ih =>
    intro k hd hk
    obtain ⟨k, rfl⟩ : ∃ q, k = q + 1 := ⟨k - 1, by omega⟩
    have hl : (zp (a.take (n - (d + 1))) (b.take (n - (d + 1)))).length < 140737488355328 := by unfold zp; simp; omega
    simp only [barbicanlaw04_CrcTurned.l0]
    rw [if_pos (by omega), if_pos (by omega), if_pos (by omega), if_pos (by omega), if_pos hl, zp_step _ _ _ (by omega) (by omega), wrap64_small _ (by omega) (by omega),
      show ((n - (d + 1) : Nat) : Int) + 1 = ((n - d : Nat) : Int) by omega, show n - (d + 1) + 1 = n - d by omega]
    exact ih k (by omega) (by omega)
end CrcTurnedL
theorem CrcTurned : barbicanlaw04_CrcTurned.Pure := by
  intro l0 l1 hm hs hb hm1 hs1 hb1
  have h0 := bytes_wf hb
  have h1 := bytes_wf hb1
  obtain ⟨n, hn⟩ : ∃ n : Nat, mn (l0.length : Int) (l1.length : Int) = (n : Int) ∧ n ≤ l0.length ∧ n ≤ l1.length := by
    unfold mn
    split
    · exact ⟨l1.length, rfl, by omega, by omega⟩
    · exact ⟨l0.length, rfl, by omega, by omega⟩
  refine ⟨n + 1, ?_⟩
  unfold barbicanlaw04_CrcTurned.f
  have h := CrcTurnedL.loop l0 l1 h0 h1 n hn.2.1 hn.2.2 (by omega) n (n + 1) (Nat.le_refl _) (by omega)
  rw [Nat.sub_self, List.take_zero, List.take_zero] at h
  rw [hn.1]
  exact h
end Go.Proofs.Ytindggjkcnelcaa.Pure
