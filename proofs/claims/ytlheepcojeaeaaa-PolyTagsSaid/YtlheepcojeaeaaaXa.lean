/-
  Plain law: the tag that the program makes, in numbers.
-/
import Derived.Test.YtlheepcojeaeaaaWj
namespace Go.Proofs.Ytlheepcojeaeaaa
set_option maxHeartbeats 400000
set_option linter.unusedVariables false
set_option linter.unusedSimpArgs false


/-- the number that five parts are -/
def N5.num (n : N5) : Nat := n.a.toNat + 67108864 * (n.b.toNat + 67108864 * (n.c.toNat + 67108864 * (n.d.toNat + 67108864 * n.e.toNat)))
/-- each part below some bound -/
structure N5.Lt (n : N5) (B : Nat) : Prop where
  a : n.a.toNat < B
  b : n.b.toNat < B
  c : n.c.toNat < B
  d : n.d.toNat < B
  e : n.e.toNat < B
def prime : Nat := 1361129467683753853853498429727072845819
theorem mask_nat (x : UInt64) : (x &&& 67108863).toNat = x.toNat % 67108864 := by
  rw [UInt64.toNat_and]; exact Nat.and_two_pow_sub_one_eq_mod x.toNat 26
theorem shr_nat (x : UInt64) : (x >>> 26).toNat = x.toNat / 67108864 := by
  rw [UInt64.toNat_shiftRight, Nat.shiftRight_eq_div_pow]; simp
theorem add_nat (x y : UInt64) (h : x.toNat + y.toNat < 18446744073709551616) : (x + y).toNat = x.toNat + y.toNat := by
  rw [UInt64.toNat_add]; omega
theorem mul_nat (x y : UInt64) (h : x.toNat * y.toNat < 18446744073709551616) : (x * y).toNat = x.toNat * y.toNat := by
  rw [UInt64.toNat_mul]; omega

/-- a carry, in numbers -/
theorem carry_nat (n : N5) (h : n.Lt (2^63)) : ∃ q0 q1 q2 q3 q4 a b c d e : Nat,
    n.a.toNat = 67108864 * q0 + a ∧ n.b.toNat + q0 = 67108864 * q1 + b ∧ n.c.toNat + q1 = 67108864 * q2 + c ∧ n.d.toNat + q2 = 67108864 * q3 + d ∧ n.e.toNat + q3 = 67108864 * q4 + e ∧
    a < 67108864 ∧ b < 67108864 ∧ c < 67108864 ∧ d < 67108864 ∧ e < 67108864 ∧
    (carryM n.list).a.toNat = (a + 5 * q4) % 67108864 ∧ (carryM n.list).b.toNat = b + (a + 5 * q4) / 67108864 ∧ (carryM n.list).c.toNat = c ∧ (carryM n.list).d.toNat = d ∧ (carryM n.list).e.toNat = e := by
  obtain ⟨a, b, c, d, e⟩ := n
  obtain ⟨ha, hb, hc, hd, he⟩ := h
  simp only at ha hb hc hd he
  have e0 : (a >>> 26).toNat = a.toNat / 67108864 := shr_nat a
  have e1 : (b + (a >>> 26)).toNat = b.toNat + a.toNat / 67108864 := by rw [add_nat _ _ (by omega), e0]
  have f1 : ((b + (a >>> 26)) >>> 26).toNat = (b.toNat + a.toNat / 67108864) / 67108864 := by rw [shr_nat, e1]
  have e2 : (c + ((b + (a >>> 26)) >>> 26)).toNat = c.toNat + (b.toNat + a.toNat / 67108864) / 67108864 := by rw [add_nat _ _ (by omega), f1]
  have f2 := shr_nat (c + ((b + (a >>> 26)) >>> 26)); rw [e2] at f2
  have e3 : (d + ((c + ((b + (a >>> 26)) >>> 26)) >>> 26)).toNat = d.toNat + (c.toNat + (b.toNat + a.toNat / 67108864) / 67108864) / 67108864 := by rw [add_nat _ _ (by omega), f2]
  have f3 := shr_nat (d + ((c + ((b + (a >>> 26)) >>> 26)) >>> 26)); rw [e3] at f3
  have e4 : (e + ((d + ((c + ((b + (a >>> 26)) >>> 26)) >>> 26)) >>> 26)).toNat = e.toNat + (d.toNat + (c.toNat + (b.toNat + a.toNat / 67108864) / 67108864) / 67108864) / 67108864 := by rw [add_nat _ _ (by omega), f3]
  have f4 := shr_nat (e + ((d + ((c + ((b + (a >>> 26)) >>> 26)) >>> 26)) >>> 26)); rw [e4] at f4
  have g0 : ((e + ((d + ((c + ((b + (a >>> 26)) >>> 26)) >>> 26)) >>> 26)) >>> 26 * 5).toNat = 5 * ((e.toNat + (d.toNat + (c.toNat + (b.toNat + a.toNat / 67108864) / 67108864) / 67108864) / 67108864) / 67108864) := by
    rw [mul_nat _ _ (by rw [f4]; simp; omega), f4]; simp; omega
  have m0 := mask_nat a
  have m1 := mask_nat (b + (a >>> 26)); rw [e1] at m1
  have m2 := mask_nat (c + ((b + (a >>> 26)) >>> 26)); rw [e2] at m2
  have m3 := mask_nat (d + ((c + ((b + (a >>> 26)) >>> 26)) >>> 26)); rw [e3] at m3
  have m4 := mask_nat (e + ((d + ((c + ((b + (a >>> 26)) >>> 26)) >>> 26)) >>> 26)); rw [e4] at m4
  have x0 : ((a &&& (67108863 : UInt64)) + (e + ((d + ((c + ((b + (a >>> 26)) >>> 26)) >>> 26)) >>> 26)) >>> 26 * 5).toNat = a.toNat % 67108864 + 5 * ((e.toNat + (d.toNat + (c.toNat + (b.toNat + a.toNat / 67108864) / 67108864) / 67108864) / 67108864) / 67108864) := by
    rw [add_nat _ _ (by rw [m0, g0]; omega), m0, g0]
  have x1 := mask_nat ((a &&& (67108863 : UInt64)) + (e + ((d + ((c + ((b + (a >>> 26)) >>> 26)) >>> 26)) >>> 26)) >>> 26 * 5); rw [x0] at x1
  have x2 := shr_nat ((a &&& (67108863 : UInt64)) + (e + ((d + ((c + ((b + (a >>> 26)) >>> 26)) >>> 26)) >>> 26)) >>> 26 * 5); rw [x0] at x2
  have x3 : (((b + (a >>> 26)) &&& (67108863 : UInt64)) + (((a &&& (67108863 : UInt64)) + (e + ((d + ((c + ((b + (a >>> 26)) >>> 26)) >>> 26)) >>> 26)) >>> 26 * 5) >>> 26)).toNat
      = (b.toNat + a.toNat / 67108864) % 67108864 + (a.toNat % 67108864 + 5 * ((e.toNat + (d.toNat + (c.toNat + (b.toNat + a.toNat / 67108864) / 67108864) / 67108864) / 67108864) / 67108864)) / 67108864 := by
    rw [add_nat _ _ (by rw [m1, x2]; omega), m1, x2]
  refine ⟨a.toNat / 67108864, (b.toNat + a.toNat / 67108864) / 67108864, (c.toNat + (b.toNat + a.toNat / 67108864) / 67108864) / 67108864, (d.toNat + (c.toNat + (b.toNat + a.toNat / 67108864) / 67108864) / 67108864) / 67108864,
    (e.toNat + (d.toNat + (c.toNat + (b.toNat + a.toNat / 67108864) / 67108864) / 67108864) / 67108864) / 67108864, a.toNat % 67108864, (b.toNat + a.toNat / 67108864) % 67108864, (c.toNat + (b.toNat + a.toNat / 67108864) / 67108864) % 67108864,
    (d.toNat + (c.toNat + (b.toNat + a.toNat / 67108864) / 67108864) / 67108864) % 67108864, (e.toNat + (d.toNat + (c.toNat + (b.toNat + a.toNat / 67108864) / 67108864) / 67108864) / 67108864) % 67108864,
    by dsimp only; omega, by dsimp only; omega, by dsimp only; omega, by dsimp only; omega, by dsimp only; omega, by omega, by omega, by omega, by omega, by omega, ?_, ?_, ?_, ?_, ?_⟩
  · refine Eq.trans ?_ x1; simp [carryM, cIter, cStep, N5.of, N5.list]
  · refine Eq.trans ?_ x3; simp [carryM, cIter, cStep, N5.of, N5.list]
  · refine Eq.trans ?_ m2; simp [carryM, cIter, cStep, N5.of, N5.list]
  · refine Eq.trans ?_ m3; simp [carryM, cIter, cStep, N5.of, N5.list]
  · refine Eq.trans ?_ m4; simp [carryM, cIter, cStep, N5.of, N5.list]
/-- a carry takes so many times the prime -/
theorem carry_num (n : N5) (h : n.Lt (2^63)) : ∃ q, n.num = (carryM n.list).num + prime * q ∧ (carryM n.list).Lt (2^26 + 2^16) ∧ (carryM n.list).a.toNat < 2^26 ∧ (carryM n.list).c.toNat < 2^26 ∧ (carryM n.list).d.toNat < 2^26 ∧ (carryM n.list).e.toNat < 2^26 := by
  obtain ⟨q0, q1, q2, q3, q4, a, b, c, d, e, h0, h1, h2, h3, h4, a1, b1, c1, d1, e1, ra, rb, rc, rd, re⟩ := carry_nat n h
  obtain ⟨ha, hb, hc, hd, he⟩ := h
  have hq : q4 < 2^38 := by omega
  refine ⟨q4, ?_, ⟨?_, ?_, ?_, ?_, ?_⟩, ?_, ?_, ?_, ?_⟩ <;> (try rw [ra]) <;> (try rw [rb]) <;> (try rw [rc]) <;> (try rw [rd]) <;> (try rw [re]) <;> (try omega)
  unfold N5.num prime
  rw [ra, rb, rc, rd, re]
  omega

theorem add_num (a b : N5) (B C : Nat) (ha : a.Lt B) (hb : b.Lt C) (h : B + C ≤ 2^63) : (addM a b).num = a.num + b.num ∧ (addM a b).Lt (B + C) := by
  obtain ⟨a0, a1, a2, a3, a4⟩ := a
  obtain ⟨b0, b1, b2, b3, b4⟩ := b
  obtain ⟨ha, hb1, hc, hd, he⟩ := ha
  obtain ⟨ka, kb, kc, kd, ke⟩ := hb
  simp only at ha hb1 hc hd he ka kb kc kd ke
  have e0 := add_nat a0 b0 (by omega)
  have e1 := add_nat a1 b1 (by omega)
  have e2 := add_nat a2 b2 (by omega)
  have e3 := add_nat a3 b3 (by omega)
  have e4 := add_nat a4 b4 (by omega)
  refine ⟨?_, ⟨?_, ?_, ?_, ?_, ?_⟩⟩ <;> simp only [addM, N5.num] <;> (try rw [e0]) <;> (try rw [e1]) <;> (try rw [e2]) <;> (try rw [e3]) <;> (try rw [e4]) <;> omega
/-- behind two carries all parts are small -/
theorem carry2 (n : N5) (h : n.Lt (2^28)) : ∃ q, n.num = (carryM (carryM n.list).list).num + prime * q ∧ (carryM (carryM n.list).list).Lt (2^26) := by
  have hL0 : n.Lt (2^63) := ⟨by have := h.a; omega, by have := h.b; omega, by have := h.c; omega, by have := h.d; omega, by have := h.e; omega⟩
  obtain ⟨q5, hM, -⟩ := carry_num n hL0
  obtain ⟨q0, q1, q2, q3, q4, a, b, c, d, e, h0, h1, h2, h3, h4, a1, b1, c1, d1, e1, ra, rb, rc, rd, re⟩ := carry_nat n hL0
  obtain ⟨ha, hb, hc, hd, he⟩ := h
  have hq0 : q0 ≤ 4 := by omega
  have hq1 : q1 ≤ 4 := by omega
  have hq2 : q2 ≤ 4 := by omega
  have hq3 : q3 ≤ 4 := by omega
  have hq4 : q4 ≤ 4 := by omega
  generalize hm : carryM n.list = m at hM ra rb rc rd re ⊢
  have hL : m.Lt (2^63) := ⟨by omega, by omega, by omega, by omega, by omega⟩
  obtain ⟨q6, hN, -⟩ := carry_num m hL
  obtain ⟨p0, p1, p2, p3, p4, a', b', c', d', e', k0, k1, k2, k3, k4, a2, b2, c2, d2, e2, sa, sb, sc, sd, se⟩ := carry_nat m hL
  rw [hN] at hM
  clear hN hL0 hL h0 h1 h2 h3 h4 hq0 hq1 hq2 hq3 ha hb hc hd he hm
  have hp0 : p0 = 0 := by omega
  subst hp0
  have hxe : m.b.toNat ≤ 67108864 ∧ (m.b.toNat = 67108864 → m.a.toNat ≤ 20) := by omega
  clear ra rb
  have hp1 : p1 ≤ 1 := by omega
  have hp2 : p2 ≤ 1 := by omega
  have hp3 : p3 ≤ 1 := by omega
  have hp4 : p4 ≤ 1 := by omega
  have h10 : p1 = 0 → p4 = 0 := by omega
  have h11 : ¬ p1 = 0 → b' = 0 ∧ a' ≤ 20 := by omega
  refine ⟨q6 + q5, by rw [hM, Nat.mul_add]; omega, ⟨?_, ?_, ?_, ?_, ?_⟩⟩
  · rw [sa]; omega
  · rw [sb]
    by_cases hx : p1 = 0
    · have := h10 hx
      subst this; omega
    · have := h11 hx
      omega
  · rw [sc]; omega
  · rw [sd]; omega
  · rw [se]; omega
theorem five_nat (n : N5) (h : n.Lt (2^26)) : ∃ o, five5 n = o ∧ o.num = n.num + 5 ∧ o.a.toNat < 2^26 ∧ o.b.toNat < 2^26 ∧ o.c.toNat < 2^26 ∧ o.d.toNat < 2^26 ∧ o.e.toNat < 2^27 := by
  obtain ⟨a, b, c, d, e⟩ := n
  obtain ⟨ha, hb, hc, hd, he⟩ := h
  simp only at ha hb hc hd he
  have z : (a + 5).toNat = a.toNat + 5 := add_nat a 5 (by simp; omega)
  have e0 := shr_nat (a + 5); rw [z] at e0
  have e1 : (b + ((a + 5) >>> 26)).toNat = b.toNat + (a.toNat + 5) / 67108864 := by rw [add_nat _ _ (by omega), e0]
  have f1 := shr_nat (b + ((a + 5) >>> 26)); rw [e1] at f1
  have e2 : (c + ((b + ((a + 5) >>> 26)) >>> 26)).toNat = c.toNat + (b.toNat + (a.toNat + 5) / 67108864) / 67108864 := by rw [add_nat _ _ (by omega), f1]
  have f2 := shr_nat (c + ((b + ((a + 5) >>> 26)) >>> 26)); rw [e2] at f2
  have e3 : (d + ((c + ((b + ((a + 5) >>> 26)) >>> 26)) >>> 26)).toNat = d.toNat + (c.toNat + (b.toNat + (a.toNat + 5) / 67108864) / 67108864) / 67108864 := by rw [add_nat _ _ (by omega), f2]
  have f3 := shr_nat (d + ((c + ((b + ((a + 5) >>> 26)) >>> 26)) >>> 26)); rw [e3] at f3
  have e4 : (e + ((d + ((c + ((b + ((a + 5) >>> 26)) >>> 26)) >>> 26)) >>> 26)).toNat = e.toNat + (d.toNat + (c.toNat + (b.toNat + (a.toNat + 5) / 67108864) / 67108864) / 67108864) / 67108864 := by rw [add_nat _ _ (by omega), f3]
  have m0 := mask_nat (a + 5); rw [z] at m0
  have m1 := mask_nat (b + ((a + 5) >>> 26)); rw [e1] at m1
  have m2 := mask_nat (c + ((b + ((a + 5) >>> 26)) >>> 26)); rw [e2] at m2
  have m3 := mask_nat (d + ((c + ((b + ((a + 5) >>> 26)) >>> 26)) >>> 26)); rw [e3] at m3
  refine ⟨⟨(a + 5) &&& 67108863, (b + ((a + 5) >>> 26)) &&& 67108863, (c + ((b + ((a + 5) >>> 26)) >>> 26)) &&& 67108863, (d + ((c + ((b + ((a + 5) >>> 26)) >>> 26)) >>> 26)) &&& 67108863, e + ((d + ((c + ((b + ((a + 5) >>> 26)) >>> 26)) >>> 26)) >>> 26)⟩, ?_, ?_, ?_, ?_, ?_, ?_, ?_⟩
  · simp [five5, fIter, N5.of]
  · simp only [N5.num]; rw [m0, m1, m2, m3, e4]; omega
  · simp only; rw [m0]; omega
  · simp only; rw [m1]; omega
  · simp only; rw [m2]; omega
  · simp only; rw [m3]; omega
  · simp only; rw [e4]; omega
theorem least_num (n : N5) (h : n.Lt (2^28)) : (leastM n).num = n.num % prime ∧ (leastM n).Lt (2^26) := by
  obtain ⟨q, hq, hL⟩ := carry2 n h
  generalize hm : carryM (carryM n.list).list = m at hq hL
  obtain ⟨o, ho, hn, oa, ob, oc, od, oe⟩ := five_nat m hL
  have h26 := shr_nat o.e
  have h27 := mask_nat o.e
  have hmod : n.num % prime = m.num % prime := by rw [hq, Nat.add_mul_mod_self_left]
  rw [hmod]
  have hlm : m.num < 2^130 := by
    obtain ⟨h1, h2, h3, h4, h5⟩ := hL
    unfold N5.num; omega
  have hz : (o.e >>> 26 = 0) ↔ o.e.toNat / 67108864 = 0 := by
    rw [← h26]
    constructor
    · intro e; rw [e]; rfl
    · intro e; exact UInt64.toNat_inj.1 (by rw [e]; rfl)
  have hle : leastM n = if o.e >>> 26 = 0 then m else ⟨o.a, o.b, o.c, o.d, o.e &&& 67108863⟩ := by
    unfold leastM; simp only [hm, ho]
  rw [hle]
  by_cases hc : o.e >>> 26 = 0
  · rw [if_pos hc]
    have h0 := hz.1 hc
    refine ⟨?_, hL⟩
    rw [Nat.mod_eq_of_lt]
    unfold N5.num at hn ⊢
    unfold prime; omega
  · rw [if_neg hc]
    have h0 : ¬ o.e.toNat / 67108864 = 0 := fun e => hc (hz.2 e)
    refine ⟨?_, ⟨oa, ob, oc, od, by simp only; rw [h27]; omega⟩⟩
    have hone : o.e.toNat = 67108864 + o.e.toNat % 67108864 := by omega
    have hv : (N5.mk o.a o.b o.c o.d (o.e &&& 67108863)).num + prime = m.num := by
      unfold N5.num at hn ⊢
      simp only; rw [h27]; unfold prime; omega
    rw [← hv, Nat.add_mod_right, Nat.mod_eq_of_lt]
    unfold prime at hv ⊢
    omega
/-- a list of parts as a number -/
def num26 : List UInt64 → Nat
  | [] => 0
  | x :: l => x.toNat + 67108864 * num26 l
theorem num26_of (l : List UInt64) (h : l.length = 5) : (N5.of l).num = num26 l := by
  match l, h with
  | [a, b, c, d, e], _ => simp [N5.of, N5.num, num26]
theorem num26_list (n : N5) : num26 n.list = n.num := by simp [N5.list, N5.num, num26]
theorem of_list (n : N5) : N5.of n.list = n := rfl
theorem part_nat (x y : UInt64) (hx : x.toNat < 2^27) (hy : y.toNat < 2^27) : (x * y).toNat = x.toNat * y.toNat ∧ (x * y * 5).toNat = x.toNat * y.toNat * 5 ∧ x.toNat * y.toNat < 2^54 := by
  have h : x.toNat * y.toNat < 2^54 := by
    calc x.toNat * y.toNat ≤ x.toNat * 2^27 := Nat.mul_le_mul_left _ (by omega)
      _ < 2^27 * 2^27 := Nat.mul_lt_mul_of_pos_right hx (by omega)
      _ = 2^54 := by decide
  have e := mul_nat x y (by omega)
  refine ⟨e, ?_, h⟩
  rw [mul_nat _ _ (by rw [e]; simp; omega), e]; rfl
theorem sum5 (z x0 x1 x2 x3 x4 : UInt64) (h : z = 0) (h0 : x0.toNat < 2^57) (h1 : x1.toNat < 2^57) (h2 : x2.toNat < 2^57) (h3 : x3.toNat < 2^57) (h4 : x4.toNat < 2^57) :
    (z + x0 + x1 + x2 + x3 + x4).toNat = x0.toNat + x1.toNat + x2.toNat + x3.toNat + x4.toNat := by
  subst h
  rw [add_nat _ _ (by rw [add_nat _ _ (by rw [add_nat _ _ (by rw [add_nat _ _ (by rw [add_nat _ _ (by simp; omega)]; simp; omega), add_nat _ _ (by simp; omega)]; simp; omega), add_nat _ _ (by rw [add_nat _ _ (by simp; omega)]; simp; omega), add_nat _ _ (by simp; omega)]; simp; omega), add_nat _ _ (by rw [add_nat _ _ (by rw [add_nat _ _ (by simp; omega)]; simp; omega), add_nat _ _ (by simp; omega)]; simp; omega), add_nat _ _ (by rw [add_nat _ _ (by simp; omega)]; simp; omega), add_nat _ _ (by simp; omega)]; simp; omega),
    add_nat _ _ (by rw [add_nat _ _ (by rw [add_nat _ _ (by rw [add_nat _ _ (by simp; omega)]; simp; omega), add_nat _ _ (by simp; omega)]; simp; omega), add_nat _ _ (by rw [add_nat _ _ (by simp; omega)]; simp; omega), add_nat _ _ (by simp; omega)]; simp; omega),
    add_nat _ _ (by rw [add_nat _ _ (by rw [add_nat _ _ (by simp; omega)]; simp; omega), add_nat _ _ (by simp; omega)]; simp; omega), add_nat _ _ (by rw [add_nat _ _ (by simp; omega)]; simp; omega), add_nat _ _ (by simp; omega)]
  simp
theorem tout_eq (a b : N5) : tOut a.list b.list 5 =
    [0 + a.a * b.a + a.b * b.e * 5 + a.c * b.d * 5 + a.d * b.c * 5 + a.e * b.b * 5,
     0 + a.a * b.b + a.b * b.a + a.c * b.e * 5 + a.d * b.d * 5 + a.e * b.c * 5,
     0 + a.a * b.c + a.b * b.b + a.c * b.a + a.d * b.e * 5 + a.e * b.d * 5,
     0 + a.a * b.d + a.b * b.c + a.c * b.b + a.d * b.a + a.e * b.e * 5,
     0 + a.a * b.e + a.b * b.d + a.c * b.c + a.d * b.b + a.e * b.a] := by
  simp [tOut, tIn, tPart, N5.list]
theorem times_alg (a b c d e v w x y z : Nat) :
    (a + 67108864 * (b + 67108864 * (c + 67108864 * (d + 67108864 * e)))) * (v + 67108864 * (w + 67108864 * (x + 67108864 * (y + 67108864 * z))))
    = (a*v + b*z*5 + c*y*5 + d*x*5 + e*w*5) + 67108864 * ((a*w + b*v + c*z*5 + d*y*5 + e*x*5) + 67108864 * ((a*x + b*w + c*v + d*z*5 + e*y*5) + 67108864 * ((a*y + b*x + c*w + d*v + e*z*5) + 67108864 * (a*z + b*y + c*x + d*w + e*v))))
    + 1361129467683753853853498429727072845819 * ((b*z + c*y + d*x + e*w) + 67108864 * ((c*z + d*y + e*x) + 67108864 * ((d*z + e*y) + 67108864 * (e*z)))) := by grind
theorem times_num (a b : N5) (ha : a.Lt (2^27)) (hb : b.Lt (2^27)) : (timesM a b).num % prime = (a.num * b.num) % prime ∧ (timesM a b).Lt (2^27) := by
  obtain ⟨a0, a1, a2, a3, a4⟩ := a
  obtain ⟨b0, b1, b2, b3, b4⟩ := b
  obtain ⟨p0, p1, p2, p3, p4⟩ := ha
  obtain ⟨q0, q1, q2, q3, q4⟩ := hb
  simp only at p0 p1 p2 p3 p4 q0 q1 q2 q3 q4
  have z00 := part_nat a0 b0 p0 q0; have z01 := part_nat a0 b1 p0 q1; have z02 := part_nat a0 b2 p0 q2; have z03 := part_nat a0 b3 p0 q3; have z04 := part_nat a0 b4 p0 q4
  have z10 := part_nat a1 b0 p1 q0; have z11 := part_nat a1 b1 p1 q1; have z12 := part_nat a1 b2 p1 q2; have z13 := part_nat a1 b3 p1 q3; have z14 := part_nat a1 b4 p1 q4
  have z20 := part_nat a2 b0 p2 q0; have z21 := part_nat a2 b1 p2 q1; have z22 := part_nat a2 b2 p2 q2; have z23 := part_nat a2 b3 p2 q3; have z24 := part_nat a2 b4 p2 q4
  have z30 := part_nat a3 b0 p3 q0; have z31 := part_nat a3 b1 p3 q1; have z32 := part_nat a3 b2 p3 q2; have z33 := part_nat a3 b3 p3 q3; have z34 := part_nat a3 b4 p3 q4
  have z40 := part_nat a4 b0 p4 q0; have z41 := part_nat a4 b1 p4 q1; have z42 := part_nat a4 b2 p4 q2; have z43 := part_nat a4 b3 p4 q3; have z44 := part_nat a4 b4 p4 q4
  have s0 := sum5 0 (a0*b0) (a1*b4*5) (a2*b3*5) (a3*b2*5) (a4*b1*5) rfl (by omega) (by omega) (by omega) (by omega) (by omega)
  have s1 := sum5 0 (a0*b1) (a1*b0) (a2*b4*5) (a3*b3*5) (a4*b2*5) rfl (by omega) (by omega) (by omega) (by omega) (by omega)
  have s2 := sum5 0 (a0*b2) (a1*b1) (a2*b0) (a3*b4*5) (a4*b3*5) rfl (by omega) (by omega) (by omega) (by omega) (by omega)
  have s3 := sum5 0 (a0*b3) (a1*b2) (a2*b1) (a3*b0) (a4*b4*5) rfl (by omega) (by omega) (by omega) (by omega) (by omega)
  have s4 := sum5 0 (a0*b4) (a1*b3) (a2*b2) (a3*b1) (a4*b0) rfl (by omega) (by omega) (by omega) (by omega) (by omega)
  have ht := tout_eq ⟨a0, a1, a2, a3, a4⟩ ⟨b0, b1, b2, b3, b4⟩
  simp only at ht
  obtain ⟨t, hto⟩ : ∃ t : N5, t.list = tOut (N5.mk a0 a1 a2 a3 a4).list (N5.mk b0 b1 b2 b3 b4).list 5 := ⟨⟨_, _, _, _, _⟩, ht.symm⟩
  have htl : t = N5.of (tOut (N5.mk a0 a1 a2 a3 a4).list (N5.mk b0 b1 b2 b3 b4).list 5) := by rw [← hto]; rfl
  rw [ht] at htl
  have e0 : t.a.toNat = a0.toNat * b0.toNat + a1.toNat * b4.toNat * 5 + a2.toNat * b3.toNat * 5 + a3.toNat * b2.toNat * 5 + a4.toNat * b1.toNat * 5 := by
    rw [htl]; refine Eq.trans s0 ?_; rw [z00.1, z14.2.1, z23.2.1, z32.2.1, z41.2.1]
  have e1 : t.b.toNat = a0.toNat * b1.toNat + a1.toNat * b0.toNat + a2.toNat * b4.toNat * 5 + a3.toNat * b3.toNat * 5 + a4.toNat * b2.toNat * 5 := by
    rw [htl]; refine Eq.trans s1 ?_; rw [z01.1, z10.1, z24.2.1, z33.2.1, z42.2.1]
  have e2 : t.c.toNat = a0.toNat * b2.toNat + a1.toNat * b1.toNat + a2.toNat * b0.toNat + a3.toNat * b4.toNat * 5 + a4.toNat * b3.toNat * 5 := by
    rw [htl]; refine Eq.trans s2 ?_; rw [z02.1, z11.1, z20.1, z34.2.1, z43.2.1]
  have e3 : t.d.toNat = a0.toNat * b3.toNat + a1.toNat * b2.toNat + a2.toNat * b1.toNat + a3.toNat * b0.toNat + a4.toNat * b4.toNat * 5 := by
    rw [htl]; refine Eq.trans s3 ?_; rw [z03.1, z12.1, z21.1, z30.1, z44.2.1]
  have e4 : t.e.toNat = a0.toNat * b4.toNat + a1.toNat * b3.toNat + a2.toNat * b2.toNat + a3.toNat * b1.toNat + a4.toNat * b0.toNat := by
    rw [htl]; refine Eq.trans s4 ?_; rw [z04.1, z13.1, z22.1, z31.1, z40.1]
  obtain ⟨q, hq, hL, -⟩ := carry_num t ⟨by omega, by omega, by omega, by omega, by omega⟩
  have hT : timesM (N5.mk a0 a1 a2 a3 a4) (N5.mk b0 b1 b2 b3 b4) = carryM t.list := by unfold timesM; rw [← hto]
  rw [hT]
  refine ⟨?_, ⟨by have := hL.a; omega, by have := hL.b; omega, by have := hL.c; omega, by have := hL.d; omega, by have := hL.e; omega⟩⟩
  have h1 : (carryM t.list).num % prime = t.num % prime := by rw [hq, Nat.add_mul_mod_self_left]
  rw [h1]
  have h2 : (N5.mk a0 a1 a2 a3 a4).num * (N5.mk b0 b1 b2 b3 b4).num = t.num + prime * ((a1.toNat*b4.toNat + a2.toNat*b3.toNat + a3.toNat*b2.toNat + a4.toNat*b1.toNat) + 67108864 * ((a2.toNat*b4.toNat + a3.toNat*b3.toNat + a4.toNat*b2.toNat) + 67108864 * ((a3.toNat*b4.toNat + a4.toNat*b3.toNat) + 67108864 * (a4.toNat*b4.toNat)))) := by
    show (a0.toNat + _) * (b0.toNat + _) = _
    rw [times_alg]
    unfold N5.num prime
    rw [e0, e1, e2, e3, e4]
  rw [h2, Nat.add_mul_mod_self_left]
/-- bytes as a number, the lowest first -/
def leNat : List UInt8 → Nat
  | [] => 0
  | x :: l => x.toNat + 256 * leNat l
theorem leNat_append (a b : List UInt8) : leNat (a ++ b) = leNat a + 256 ^ a.length * leNat b := by
  induction a with
  | nil => simp [leNat]
  | cons x a ih => simp only [List.cons_append, leNat, ih, List.length_cons, Nat.pow_succ, Nat.mul_add]; rw [Nat.mul_comm (256 ^ a.length) 256, Nat.mul_assoc]; omega
theorem leNat_lt (a : List UInt8) : leNat a < 256 ^ a.length := by
  induction a with
  | nil => simp [leNat]
  | cons x a ih =>
    have := x.toNat_lt
    simp only [leNat, List.length_cons, Nat.pow_succ]; omega
theorem leNat_take (l : List UInt8) (k : Nat) : leNat (l.take (k + 1)) = leNat (l.take k) + 256 ^ k * (l.getD k 0).toNat := by
  by_cases h : k < l.length
  · rw [List.take_succ_eq_append_getElem h, leNat_append, List.length_take, Nat.min_eq_left (by omega)]
    simp [leNat, h]
  · rw [List.take_of_length_le (by omega), List.take_of_length_le (by omega)]
    simp [h]
theorem num26_set (l : List UInt64) : ∀ (j : Nat) (v : UInt64), j < l.length → num26 (l.set j v) + 2 ^ (26 * j) * (l.getD j 0).toNat = num26 l + 2 ^ (26 * j) * v.toNat := by
  induction l with
  | nil => intro j v h; simp at h
  | cons x l ih =>
    intro j v h
    cases j with
    | zero => simp [num26]; omega
    | succ j =>
      have := ih j v (by simpa using h)
      have e : 2 ^ (26 * (j + 1)) = 67108864 * 2 ^ (26 * j) := by rw [Nat.mul_add, Nat.pow_add]; omega
      simp only [List.set_cons_succ, num26, List.getD_cons_succ, e, Nat.mul_assoc]
      omega
theorem or_low (s : Nat) (a b : Nat) (h : b < 2 ^ s) : b ||| 2 ^ s * a = 2 ^ s * a + b := by
  rw [Nat.two_pow_add_eq_or_of_lt h, Nat.or_comm]
structure RSt (l : List UInt8) (k : Nat) (m : List UInt64) : Prop where
  len : m.length = 5
  lt : ∀ j, (m.getD j 0).toNat < 2 ^ 26
  cur : (m.getD (8 * k / 26) 0).toNat < 2 ^ (8 * k % 26)
  aft : ∀ j, 8 * k / 26 < j → (m.getD j 0).toNat = 0
  num : num26 m = leNat (l.take k)
theorem getD_set5 (m : List UInt64) (j i : Nat) (v : UInt64) (h : j < m.length) : (m.set j v).getD i 0 = if i = j then v else m.getD i 0 := by
  rw [List.getD_eq_getElem?_getD, List.getD_eq_getElem?_getD, List.getElem?_set]
  by_cases e : j = i
  · subst e; simp [h]
  · rw [if_neg e, if_neg (fun x => e x.symm)]
theorem read_step (l : List UInt8) (k : Nat) (h : RSt l k (rIter l k)) (hk : k < 16 ∨ (k = 16 ∧ (l.getD k 0).toNat < 4)) : RSt l (k + 1) (rIter l (k + 1)) := by
  obtain ⟨hlen, hlt, hcur, haft, hnum⟩ := h
  have hc256 := (l.getD k 0).toNat_lt
  generalize hj : 8 * k / 26 = j at *
  generalize hs : 8 * k % 26 = s at *
  have hjs : 8 * k = 26 * j + s := by omega
  have hs24 : s ≤ 24 := by omega
  have hj5 : j < 5 := by omega
  have hR : 2 ^ 26 = 2 ^ s * 2 ^ (26 - s) := by rw [← Nat.pow_add]; congr 1; omega
  have hx : ((l.getD k 0).toUInt64 <<< (UInt64.ofNat s)).toNat = 2 ^ s * (l.getD k 0).toNat := by
    rw [UInt64.toNat_shiftLeft, Nat.shiftLeft_eq, UInt8.toNat_toUInt64, UInt64.toNat_ofNat', Nat.mod_eq_of_lt (a := s) (by omega), Nat.mod_eq_of_lt (a := s) (by omega), Nat.mul_comm]
    apply Nat.mod_eq_of_lt
    calc 2 ^ s * (l.getD k 0).toNat ≤ 2 ^ 24 * (l.getD k 0).toNat := Nat.mul_le_mul_right _ (Nat.pow_le_pow_right (by omega) hs24)
      _ < 2 ^ 64 := by omega
  generalize hcc : (l.getD k 0).toNat = c at *
  have hlo : (((l.getD k 0).toUInt64 <<< (UInt64.ofNat s)) &&& 67108863).toNat = 2 ^ s * (c % 2 ^ (26 - s)) := by
    rw [mask_nat, hx, show (67108864 : Nat) = 2 ^ s * 2 ^ (26 - s) from hR, Nat.mul_mod_mul_left]
  have hhi : (((l.getD k 0).toUInt64 <<< (UInt64.ofNat s)) >>> 26).toNat = c / 2 ^ (26 - s) := by
    rw [shr_nat, hx, show (67108864 : Nat) = 2 ^ s * 2 ^ (26 - s) from hR, Nat.mul_div_mul_left _ _ (Nat.pow_pos (by omega))]
  have hnew : ((rIter l k).getD j 0 ||| (((l.getD k 0).toUInt64 <<< (UInt64.ofNat s)) &&& 67108863)).toNat = 2 ^ s * (c % 2 ^ (26 - s)) + ((rIter l k).getD j 0).toNat := by
    rw [UInt64.toNat_or, hlo, or_low _ _ _ hcur]
  have hlt1 : 2 ^ s * (c % 2 ^ (26 - s)) + ((rIter l k).getD j 0).toNat < 2 ^ 26 := by
    have h1 : c % 2 ^ (26 - s) + 1 ≤ 2 ^ (26 - s) := Nat.mod_lt _ (Nat.pow_pos (by omega))
    have h2 : 2 ^ s * (c % 2 ^ (26 - s) + 1) ≤ 2 ^ s * 2 ^ (26 - s) := Nat.mul_le_mul_left _ h1
    rw [← hR, Nat.mul_add] at h2
    omega
  have hhb : c / 2 ^ (26 - s) < 2 ^ 26 := by
    refine Nat.lt_of_le_of_lt (Nat.div_le_self _ _) ?_; omega
  have hpow : 2 ^ (26 * j) * (2 ^ s * c) = 256 ^ k * c := by
    rw [← Nat.mul_assoc, ← Nat.pow_add, ← hjs, Nat.pow_mul]
  have hsplit : 2 ^ s * (c % 2 ^ (26 - s)) + 67108864 * (c / 2 ^ (26 - s)) = 2 ^ s * c := by
    rw [show (67108864 : Nat) = 2 ^ s * 2 ^ (26 - s) from hR, Nat.mul_assoc, ← Nat.mul_add, Nat.mod_add_div]
  have hn1 := num26_set (rIter l k) j ((rIter l k).getD j 0 ||| (((l.getD k 0).toUInt64 <<< (UInt64.ofNat s)) &&& 67108863)) (by omega)
  rw [hnew, Nat.mul_add] at hn1
  have hr : rIter l (k + 1) = if j + 1 < 5 then ((rIter l k).set j ((rIter l k).getD j 0 ||| (((l.getD k 0).toUInt64 <<< (UInt64.ofNat s)) &&& 67108863))).set (j + 1) (((rIter l k).set j ((rIter l k).getD j 0 ||| (((l.getD k 0).toUInt64 <<< (UInt64.ofNat s)) &&& 67108863))).getD (j + 1) 0 ||| (((l.getD k 0).toUInt64 <<< (UInt64.ofNat s)) >>> 26)) else (rIter l k).set j ((rIter l k).getD j 0 ||| (((l.getD k 0).toUInt64 <<< (UInt64.ofNat s)) &&& 67108863)) := by
    rw [← hj, ← hs]; rfl
  rw [hr]
  generalize hm : (rIter l k).set j ((rIter l k).getD j 0 ||| (((l.getD k 0).toUInt64 <<< (UInt64.ofNat s)) &&& 67108863)) = m at *
  have hml : m.length = 5 := by rw [← hm]; simpa using hlen
  have hmg : ∀ i, (m.getD i 0).toNat = if i = j then 2 ^ s * (c % 2 ^ (26 - s)) + ((rIter l k).getD j 0).toNat else ((rIter l k).getD i 0).toNat := by
    intro i
    rw [← hm, getD_set5 _ _ _ _ (by omega)]
    by_cases e : i = j
    · rw [if_pos e, if_pos e, hnew]
    · rw [if_neg e, if_neg e]
  have hm1 : (m.getD (j + 1) 0).toNat = 0 := by rw [hmg, if_neg (by omega)]; exact haft _ (by omega)
  have hnh : (m.getD (j + 1) 0 ||| (((l.getD k 0).toUInt64 <<< (UInt64.ofNat s)) >>> 26)).toNat = c / 2 ^ (26 - s) := by
    rw [UInt64.toNat_or, hm1, hhi, Nat.zero_or]
  -- the next place
  have hnext : (8 * (k + 1) / 26 = j ∧ 8 * (k + 1) % 26 = s + 8 ∧ s + 8 < 26) ∨ (8 * (k + 1) / 26 = j + 1 ∧ 8 * (k + 1) % 26 = s + 8 - 26 ∧ 26 ≤ s + 8) := by omega
  by_cases hj4 : j + 1 < 5
  · rw [if_pos hj4]
    have hn2 := num26_set m (j + 1) (m.getD (j + 1) 0 ||| (((l.getD k 0).toUInt64 <<< (UInt64.ofNat s)) >>> 26)) (by omega)
    rw [hnh, hm1, Nat.mul_zero, Nat.add_zero] at hn2
    have hg : ∀ i, ((m.set (j + 1) (m.getD (j + 1) 0 ||| (((l.getD k 0).toUInt64 <<< (UInt64.ofNat s)) >>> 26))).getD i 0).toNat = if i = j + 1 then c / 2 ^ (26 - s) else (m.getD i 0).toNat := by
      intro i
      rw [getD_set5 _ _ _ _ (by omega)]
      by_cases e : i = j + 1
      · rw [if_pos e, if_pos e, hnh]
      · rw [if_neg e, if_neg e]
    refine ⟨by simpa using hml, fun i => ?_, ?_, fun i hi => ?_, ?_⟩
    · rw [hg, hmg]; split
      · exact hhb
      · split
        · exact hlt1
        · exact hlt i
    · rcases hnext with ⟨e1, e2, e3⟩ | ⟨e1, e2, e3⟩
      · rw [e1, e2, hg, if_neg (by omega), hmg, if_pos rfl]
        have h1 : c % 2 ^ (26 - s) ≤ c := Nat.mod_le _ _
        have h2 : 2 ^ s * (c % 2 ^ (26 - s) + 1) ≤ 2 ^ s * 256 := Nat.mul_le_mul_left _ (by omega)
        rw [Nat.mul_add] at h2
        rw [Nat.pow_add]
        omega
      · rw [e1, e2, hg, if_pos rfl]
        refine Nat.div_lt_of_lt_mul ?_
        rw [← Nat.pow_add, show 26 - s + (s + 8 - 26) = 8 by omega]; exact hc256
    · rw [hg, hmg]
      rcases hnext with ⟨e1, e2, e3⟩ | ⟨e1, e2, e3⟩
      · rw [e1] at hi
        split
        · have : 2 ^ 10 ≤ 2 ^ (26 - s) := Nat.pow_le_pow_right (by omega) (by omega)
          exact Nat.div_eq_of_lt (by omega)
        · rw [if_neg (by omega)]; exact haft i hi
      · rw [e1] at hi
        rw [if_neg (by omega), if_neg (by omega)]; exact haft i (by omega)
    · have e : 2 ^ (26 * (j + 1)) = 2 ^ (26 * j) * 67108864 := by rw [Nat.mul_add, Nat.pow_add]
      rw [leNat_take, hcc, hn2, ← hpow, ← hsplit, e, Nat.mul_add, Nat.mul_assoc]
      omega
  · rw [if_neg hj4]
    have hj4' : j = 4 := by omega
    have hz : c / 2 ^ (26 - s) = 0 := by
      refine Nat.div_eq_of_lt ?_
      rcases hk with hk | ⟨hk, h3⟩
      · have : 2 ^ 10 ≤ 2 ^ (26 - s) := Nat.pow_le_pow_right (by omega) (by omega)
        omega
      · have : 2 ^ 2 ≤ 2 ^ (26 - s) := Nat.pow_le_pow_right (by omega) (by omega)
        omega
    rw [hz, Nat.mul_zero, Nat.add_zero] at hsplit
    refine ⟨hml, fun i => ?_, ?_, fun i hi => ?_, ?_⟩
    · rw [hmg]; split
      · exact hlt1
      · exact hlt i
    · rcases hnext with ⟨e1, e2, e3⟩ | ⟨e1, e2, e3⟩
      · rw [e1, e2, hmg, if_pos rfl]
        have h1 : c % 2 ^ (26 - s) ≤ c := Nat.mod_le _ _
        have h2 : 2 ^ s * (c % 2 ^ (26 - s) + 1) ≤ 2 ^ s * 256 := Nat.mul_le_mul_left _ (by omega)
        rw [Nat.mul_add] at h2
        rw [Nat.pow_add]
        omega
      · rw [e1, e2, hm1]; exact Nat.pow_pos (by omega)
    · rw [hmg, if_neg (by rcases hnext with ⟨e1, -⟩ | ⟨e1, -⟩ <;> rw [e1] at hi <;> omega)]
      exact haft i (by rcases hnext with ⟨e1, -⟩ | ⟨e1, -⟩ <;> rw [e1] at hi <;> omega)
    · rw [leNat_take, hcc, ← hpow, ← hsplit]
      omega
theorem read_all (l : List UInt8) : ∀ k, k ≤ 16 → RSt l k (rIter l k)
  | 0, _ => ⟨rfl, fun j => by
      match j with
      | 0 | 1 | 2 | 3 | 4 => simp [rIter]
      | j + 5 => simp [rIter], by simp [rIter], fun j _ => by
      match j with
      | 0 | 1 | 2 | 3 | 4 => rfl
      | j + 5 => simp [rIter], by simp [rIter, num26, leNat]⟩
  | k + 1, h => read_step l k (read_all l k (by omega)) (.inl (by omega))
theorem getD_of (m : List UInt64) (h : ∀ j, (m.getD j 0).toNat < 2 ^ 26) : (N5.of m).Lt (2 ^ 26) := ⟨h 0, h 1, h 2, h 3, h 4⟩
/-- what is read, in numbers: at most 16 bytes, or 17 of which the last one is below 4 -/
theorem read_num (l : List UInt8) (h : l.length ≤ 16 ∨ (l.length = 17 ∧ (l.getD 16 0).toNat < 4)) : (readM l).num = leNat l ∧ (readM l).Lt (2 ^ 26) := by
  have hR : RSt l l.length (rIter l l.length) := by
    rcases h with h | ⟨h, h2⟩
    · exact read_all l _ h
    · rw [h]; exact read_step l 16 (read_all l 16 (by omega)) (.inr ⟨rfl, h2⟩)
  refine ⟨?_, getD_of _ hR.lt⟩
  rw [readM, num26_of _ hR.len, hR.num, List.take_length]
/-- the lowest 16 bytes of a number -/
def le16 (n : Nat) : List UInt8 := (List.range 16).map fun i => UInt8.ofNat (n / 256 ^ i % 256)
theorem list_parts (l : List UInt64) (h : ∀ x ∈ l, x.toNat < 2 ^ 26) : ∀ j, num26 l / 2 ^ (26 * j) = num26 (l.drop j) := by
  induction l with
  | nil => intro j; simp [num26]
  | cons x l ih =>
    intro j
    cases j with
    | zero => simp
    | succ j =>
      have hx := h x (by simp)
      have e : 2 ^ (26 * (j + 1)) = 67108864 * 2 ^ (26 * j) := by rw [Nat.mul_add, Nat.pow_add]; omega
      have e2 : num26 (x :: l) / 67108864 = num26 l := by simp only [num26]; omega
      rw [List.drop_succ_cons, ← ih (fun y hy => h y (by simp [hy])) j, e, ← Nat.div_div_eq_div_mul, e2]
theorem drop2 (l : List UInt64) (j : Nat) : num26 (l.drop j) = (l.getD j 0).toNat + 67108864 * ((l.getD (j + 1) 0).toNat + 67108864 * num26 (l.drop (j + 2))) := by
  have one : ∀ j, num26 (l.drop j) = (l.getD j 0).toNat + 67108864 * num26 (l.drop (j + 1)) := by
    intro j
    by_cases h : j < l.length
    · rw [List.drop_eq_getElem_cons h]; simp [num26, h]
    · rw [List.drop_eq_nil_of_le (by omega), List.drop_eq_nil_of_le (by omega)]; simp [num26, h]
  rw [one j, one (j + 1)]
theorem pow256 (i : Nat) : 256 ^ i = 2 ^ (8 * i) := by rw [Nat.pow_mul]
theorem write_byte (n : N5) (h : n.Lt (2 ^ 26)) (i : Nat) (hi : i < 16) : wByte n i = UInt8.ofNat (n.num / 256 ^ i % 256) := by
  generalize hj : 8 * i / 26 = j
  generalize hs : 8 * i % 26 = s
  have hjs : 8 * i = 26 * j + s := by omega
  have hs24 : s ≤ 24 := by omega
  have hj5 : j < 5 := by omega
  have hR : 2 ^ 26 = 2 ^ s * 2 ^ (26 - s) := by rw [← Nat.pow_add]; congr 1; omega
  have hall : ∀ x ∈ n.list, x.toNat < 2 ^ 26 := by
    intro x hx
    simp only [N5.list, List.mem_cons, List.not_mem_nil, or_false] at hx
    rcases hx with rfl | rfl | rfl | rfl | rfl
    · exact h.a
    · exact h.b
    · exact h.c
    · exact h.d
    · exact h.e
  have hg : ∀ j, (n.list.getD j 0).toNat < 2 ^ 26 := by
    intro j
    by_cases hh : j < n.list.length
    · rw [List.getD_eq_getElem?_getD, List.getElem?_eq_getElem hh]; exact hall _ (List.getElem_mem hh)
    · rw [List.getD_eq_getElem?_getD, List.getElem?_eq_none (by omega)]; simp
  have hx0 : (n.list.getD j 0 >>> UInt64.ofNat s).toNat = (n.list.getD j 0).toNat / 2 ^ s := by
    rw [UInt64.toNat_shiftRight, UInt64.toNat_ofNat', Nat.mod_eq_of_lt (a := s) (by omega), Nat.mod_eq_of_lt (a := s) (by omega), Nat.shiftRight_eq_div_pow]
  have hq : (n.list.getD j 0).toNat / 2 ^ s < 2 ^ (26 - s) := Nat.div_lt_of_lt_mul (by rw [← hR]; exact hg j)
  have hx1 : (n.list.getD (j + 1) 0 <<< UInt64.ofNat (26 - s)).toNat = 2 ^ (26 - s) * (n.list.getD (j + 1) 0).toNat := by
    rw [UInt64.toNat_shiftLeft, Nat.shiftLeft_eq, UInt64.toNat_ofNat', Nat.mod_eq_of_lt (a := 26 - s) (by omega), Nat.mod_eq_of_lt (a := 26 - s) (by omega), Nat.mul_comm]
    apply Nat.mod_eq_of_lt
    have := hg (j + 1)
    calc 2 ^ (26 - s) * (n.list.getD (j + 1) 0).toNat ≤ 2 ^ 26 * (n.list.getD (j + 1) 0).toNat := Nat.mul_le_mul_right _ (Nat.pow_le_pow_right (by omega) (by omega))
      _ < 2 ^ 64 := by omega
  have hx2 : ((n.list.getD j 0 >>> UInt64.ofNat s) ||| (n.list.getD (j + 1) 0 <<< UInt64.ofNat (26 - s))).toNat = 2 ^ (26 - s) * (n.list.getD (j + 1) 0).toNat + (n.list.getD j 0).toNat / 2 ^ s := by
    rw [UInt64.toNat_or, hx0, hx1, or_low _ _ _ hq]
  have hN : n.num / 256 ^ i % 256 = (2 ^ (26 - s) * (n.list.getD (j + 1) 0).toNat + (n.list.getD j 0).toNat / 2 ^ s) % 256 := by
    rw [pow256, hjs, Nat.pow_add, ← Nat.div_div_eq_div_mul, ← num26_list, list_parts _ hall, drop2]
    have e1 : ∀ y z : Nat, y + 67108864 * z = y + 2 ^ s * (2 ^ (26 - s) * z) := by
      intro y z; rw [← Nat.mul_assoc, ← hR]
    rw [e1, Nat.add_mul_div_left _ _ (Nat.pow_pos (by omega)), Nat.mul_add]
    have e2 : ∀ z : Nat, 2 ^ (26 - s) * (67108864 * z) = 256 * (2 ^ (26 - s) * (262144 * z)) := by
      intro z; rw [show (67108864 : Nat) = 256 * 262144 from rfl, Nat.mul_assoc, Nat.mul_left_comm]
    rw [e2]; omega
  unfold wByte
  rw [hj, hs]
  apply UInt8.toNat_inj.1
  rw [UInt8.toNat_ofNat', hN]
  by_cases h5 : j + 1 < 5
  · rw [if_pos h5, UInt64.toNat_toUInt8, hx2]; omega
  · have z : (n.list.getD (j + 1) 0).toNat = 0 := by
      have : j = 4 := by omega
      subst this; rfl
    rw [if_neg h5, UInt64.toNat_toUInt8, hx0, z]; omega
theorem write_num (n : N5) (h : n.Lt (2 ^ 26)) : writeM n = le16 n.num := by
  unfold writeM le16
  exact List.map_congr_left fun i hi => write_byte n h i (List.mem_range.1 hi)
theorem over_num (a b : List UInt8) : ∀ k, sOver a b k = (leNat (a.take k) + leNat (b.take k)) / 256 ^ k
  | 0 => by simp [sOver, leNat]
  | k + 1 => by
    rw [sOver, over_num a b k, leNat_take, leNat_take, Nat.pow_succ, ← Nat.div_div_eq_div_mul]
    congr 1
    rw [show leNat (a.take k) + 256 ^ k * (a.getD k 0).toNat + (leNat (b.take k) + 256 ^ k * (b.getD k 0).toNat) = (leNat (a.take k) + leNat (b.take k)) + 256 ^ k * ((a.getD k 0).toNat + (b.getD k 0).toNat) by rw [Nat.mul_add]; omega,
      Nat.add_mul_div_left _ _ (Nat.pow_pos (by omega))]
theorem leNat_split (a : List UInt8) (k : Nat) : leNat a = leNat (a.take k) + 256 ^ k * leNat (a.drop k) := by
  by_cases h : k ≤ a.length
  · conv => lhs; rw [← List.take_append_drop k a, leNat_append, List.length_take, Nat.min_eq_left h]
  · rw [List.take_of_length_le (by omega), List.drop_eq_nil_of_le (by omega)]; simp [leNat]
theorem leNat_drop (a : List UInt8) (k : Nat) : leNat (a.drop k) % 256 = (a.getD k 0).toNat := by
  by_cases h : k < a.length
  · have := (a[k]).toNat_lt
    rw [List.drop_eq_getElem_cons h]; simp [leNat, h]
  · rw [List.drop_eq_nil_of_le (by omega)]; simp [leNat, h]
theorem sum_num (a b : List UInt8) : sumM a b = le16 (leNat a + leNat b) := by
  unfold sumM le16
  refine List.map_congr_left fun k _ => ?_
  unfold sByte
  rw [over_num]
  apply UInt8.toNat_inj.1
  rw [UInt8.toNat_ofNat', UInt8.toNat_ofNat']
  have e : leNat a + leNat b = (leNat (a.take k) + leNat (b.take k)) + 256 ^ k * (leNat (a.drop k) + leNat (b.drop k)) := by
    conv => lhs; rw [leNat_split a k, leNat_split b k]
    rw [Nat.mul_add]; omega
  have h1 := leNat_drop a k; have h2 := leNat_drop b k
  rw [e, Nat.add_mul_div_left _ _ (Nat.pow_pos (by omega))]
  omega
theorem le16_congr (x y : Nat) (h : x % 2 ^ 128 = y % 2 ^ 128) : le16 x = le16 y := by
  unfold le16
  refine List.map_congr_left fun i hi => ?_
  have hi := List.mem_range.1 hi
  congr 1
  have key : ∀ z : Nat, z / 256 ^ i % 256 = z % 2 ^ 128 / 256 ^ i % 256 := by
    intro z
    have e : (2 : Nat) ^ 128 = 256 ^ i * (256 * 256 ^ (15 - i)) := by
      rw [← Nat.mul_assoc, ← Nat.pow_succ, ← Nat.pow_add, show i + 1 + (15 - i) = 16 by omega]
    rw [e, Nat.mod_mul_right_div_self, Nat.mod_mul_right_mod]
  rw [key x, key y, h]
theorem leNat_map_range (x : Nat) : ∀ k, leNat ((List.range k).map fun i => UInt8.ofNat (x / 256 ^ i % 256)) = x % 256 ^ k
  | 0 => by simp [leNat, Nat.mod_one]
  | k + 1 => by
    rw [List.range_succ, List.map_append, leNat_append, leNat_map_range x k, List.length_map, List.length_range]
    simp only [List.map_cons, List.map_nil, leNat, Nat.mul_zero, Nat.add_zero, UInt8.toNat_ofNat']
    rw [show (2 : Nat) ^ 8 = 256 from rfl, Nat.mod_mod, Nat.pow_succ, Nat.mod_mul]
theorem leNat_le16 (x : Nat) : leNat (le16 x) = x % 2 ^ 128 := leNat_map_range x 16
/-- the number behind so many blocks, by the prime -/
def hornM (r : Nat) (msg : List UInt8) : Nat → Nat
  | 0 => 0
  | k + 1 => ((hornM r msg k + leNat (partM msg k ++ [1])) * r) % prime
theorem tagIter_num (r : N5) (hr : r.Lt (2 ^ 27)) (msg : List UInt8) : ∀ k, (tagIter r msg k).num % prime = hornM r.num msg k ∧ (tagIter r msg k).Lt (2 ^ 27)
  | 0 => ⟨rfl, ⟨Nat.zero_lt_succ _, Nat.zero_lt_succ _, Nat.zero_lt_succ _, Nat.zero_lt_succ _, Nat.zero_lt_succ _⟩⟩
  | k + 1 => by
    obtain ⟨h1, h2⟩ := tagIter_num r hr msg k
    have hpl : (partM msg k).length ≤ 16 := by simp [partM]; omega
    have hrd := read_num (partM msg k ++ [1]) (by
      by_cases e : (partM msg k).length = 16
      · right
        refine ⟨by simp [e], ?_⟩
        rw [List.getD_eq_getElem?_getD, List.getElem?_append_right (by omega)]
        simp [e]
      · left; simp; omega)
    obtain ⟨a1, a2⟩ := add_num _ _ _ _ h2 hrd.2 (by omega)
    obtain ⟨q, c1, c2, -⟩ := carry_num (addM (tagIter r msg k) (readM (partM msg k ++ [1]))) ⟨by have := a2.a; omega, by have := a2.b; omega, by have := a2.c; omega, by have := a2.d; omega, by have := a2.e; omega⟩
    obtain ⟨t1, t2⟩ := times_num (carryM (addM (tagIter r msg k) (readM (partM msg k ++ [1]))).list) r ⟨by have := c2.a; omega, by have := c2.b; omega, by have := c2.c; omega, by have := c2.d; omega, by have := c2.e; omega⟩ hr
    refine ⟨?_, t2⟩
    show (timesM _ r).num % prime = _
    rw [t1, hornM, ← h1]
    rw [a1, hrd.1] at c1
    have e1 : (carryM (addM (tagIter r msg k) (readM (partM msg k ++ [1]))).list).num % prime = ((tagIter r msg k).num + leNat (partM msg k ++ [1])) % prime := by
      rw [c1, Nat.add_mul_mod_self_left]
    rw [Nat.mul_mod, e1, ← Nat.mul_mod, Nat.mul_mod ((tagIter r msg k).num % prime + _), ← Nat.add_mod_mod ((tagIter r msg k).num % prime), Nat.mod_add_mod, Nat.add_mod_mod, ← Nat.mul_mod]
/-- the tag, in numbers -/
theorem tag_num (key msg : List UInt8) : tagM key msg = le16 (hornM (leNat (clampM key)) msg ((msg.length + 15) / 16) + leNat (key.drop 16)) := by
  have hlc : (clampM key).length = 16 := by simp [clampM]
  obtain ⟨r1, r2⟩ := read_num (clampM key) (by omega)
  obtain ⟨t1, t2⟩ := tagIter_num (readM (clampM key)) ⟨by have := r2.a; omega, by have := r2.b; omega, by have := r2.c; omega, by have := r2.d; omega, by have := r2.e; omega⟩ msg ((msg.length + 15) / 16)
  obtain ⟨l1, l2⟩ := least_num (tagIter (readM (clampM key)) msg ((msg.length + 15) / 16)) ⟨by have := t2.a; omega, by have := t2.b; omega, by have := t2.c; omega, by have := t2.d; omega, by have := t2.e; omega⟩
  unfold tagM
  rw [sum_num, write_num _ l2, leNat_le16, l1, t1, r1]
  exact le16_congr _ _ (by omega)
end Go.Proofs.Ytlheepcojeaeaaa
