/- A part of the proof: KwQ9, KwQA, KwQB, KwE1. -/
import Derived.Test.YtpakilamdannfaaGreatDoorKi
set_option linter.all false
set_option linter.unusedVariables false
set_option linter.unusedSimpArgs false
set_option linter.unusedSectionVars false
set_option maxRecDepth 20000
set_option linter.unusedVariables false
namespace Go.Kw
/-! ### how many squares a set has -/
def byts (c : Nat) : Nat → Nat
  | 0 => 0
  | k + 1 => 256 * byts c k + c
theorem land_byte {a x : Nat} (c y : Nat) (ha : a < 256) (hx : x < 256) : (256 * c + a) &&& (256 * y + x) = 256 * (c &&& y) + (a &&& x) := by
  apply Nat.eq_of_testBit_eq
  intro j
  have h : a &&& x < 2 ^ 8 := Nat.and_lt_two_pow _ hx
  rw [Nat.testBit_and]
  rw [show 256 = 2 ^ 8 from rfl, Nat.testBit_two_pow_mul_add c ha j, Nat.testBit_two_pow_mul_add y hx j, Nat.testBit_two_pow_mul_add (c &&& y) h j]
  split
  · rw [Nat.testBit_and]
  · rw [Nat.testBit_and]
def sw1 (n m : Nat) : Nat := ((n / 2) &&& m) + (n &&& m)
def sw2 (n m : Nat) : Nat := ((n / 4) &&& m) + (n &&& m)
def sw3 (n m : Nat) : Nat := (n / 16 + n) &&& m
def popB (n : Nat) : Nat := sw3 (sw2 (sw1 n 85) 51) 15
theorem pop_b1 : ∀ n : Fin 256, ∀ e : Fin 2, (128 * e.val + n.val / 2) &&& 85 = (n.val / 2) &&& 85 := by decide +kernel
theorem pop_b2 : ∀ n : Fin 256, ∀ e : Fin 4, (64 * e.val + n.val / 4) &&& 51 = (n.val / 4) &&& 51 := by decide +kernel
theorem pop_b3 : ∀ n : Fin 256, sw1 n.val 85 < 256 ∧ sw2 n.val 51 < 256 ∧ sw2 (sw1 n.val 85) 51 % 16 ≤ 4 ∧ sw2 (sw1 n.val 85) 51 ≤ 68 ∧ popB n.val ≤ 8 ∧ (popB n.val : Int) = cntF (fun j => n.val.testBit j) 8 := by decide +kernel
theorem sw1_step {n : Nat} (N M : Nat) (hn : n < 256) : sw1 (256 * N + n) (256 * M + 85) = 256 * sw1 N M + sw1 n 85 := by
  unfold sw1
  have e : (256 * N + n) / 2 = 256 * (N / 2) + (128 * (N % 2) + n / 2) := by omega
  have hb := pop_b1 ⟨n, hn⟩ ⟨N % 2, by omega⟩
  simp only at hb
  rw [e, land_byte _ _ yo yd, land_byte _ _ hn yd, hb]
  omega
theorem sw2_step {n : Nat} (N M : Nat) (hn : n < 256) : sw2 (256 * N + n) (256 * M + 51) = 256 * sw2 N M + sw2 n 51 := by
  unfold sw2
  have e : (256 * N + n) / 4 = 256 * (N / 4) + (64 * (N % 4) + n / 4) := by omega
  have hb := pop_b2 ⟨n, hn⟩ ⟨N % 4, by omega⟩
  simp only at hb
  rw [e, land_byte _ _ yo yd, land_byte _ _ hn yd, hb]
  omega
theorem and15 (n : Nat) : n &&& 15 = n % 16 := Nat.and_two_pow_sub_one_eq_mod n 4
theorem sw3_step {n : Nat} (N M : Nat) (hn : n ≤ 68) (hN : N % 16 ≤ 4) : sw3 (256 * N + n) (256 * M + 15) = 256 * sw3 N M + sw3 n 15 := by
  unfold sw3
  have e : (256 * N + n) / 16 + (256 * N + n) = 256 * (N / 16 + N) + (16 * (N % 16) + (n / 16 + n)) := by omega
  rw [e, land_byte _ _ yo yd, and15, and15]
  omega
def sw12 (k N : Nat) : Nat := sw2 (sw1 N (byts 85 k)) (byts 51 k)
theorem sw12_step (k N : Nat) : sw12 (k + 1) N = 256 * sw12 k (N / 256) + sw2 (sw1 (N % 256) 85) 51 := by
  have h := pop_b3 ⟨N % 256, by omega⟩
  simp only at h
  unfold sw12
  have e : N = 256 * (N / 256) + N % 256 := by omega
  rw [show byts 85 (k + 1) = 256 * byts 85 k + 85 from rfl, show byts 51 (k + 1) = 256 * byts 51 k + 51 from rfl]
  conv => lhs; rw [e]
  rw [sw1_step _ _ yo, sw2_step _ _ h.1]
theorem sw12_low : ∀ k N : Nat, sw12 k N % 16 ≤ 4
  | 0, N => by
    have : sw12 0 N = 0 := by simp [sw12, sw1, sw2, byts]
    rw [this]; decide
  | k + 1, N => by
    have h := pop_b3 ⟨N % 256, by omega⟩
    simp only at h
    rw [sw12_step]; omega
def swT (k N : Nat) : Nat := sw3 (sw12 k N) (byts 15 k)
theorem swT_step (k N : Nat) : swT (k + 1) N = 256 * swT k (N / 256) + popB (N % 256) := by
  have h := pop_b3 ⟨N % 256, by omega⟩
  simp only at h
  unfold swT
  rw [sw12_step, show byts 15 (k + 1) = 256 * byts 15 k + 15 from rfl, sw3_step _ _ h.2.2.2.1 (sw12_low k _)]
  rfl
theorem cntF_add (f : Nat → Bool) (a : Nat) : ∀ b, cntF f (a + b) = cntF f a + cntF (fun j => f (a + j)) b
  | 0 => by show cntF f a = cntF f a + 0; omega
  | b + 1 => by
    show cntF f (a + b + 1) = _
    have ih := cntF_add f a b
    rw [cntF, cntF]
    split <;> omega
theorem cntF_congr {f g : Nat → Bool} : ∀ {n : Nat}, (∀ i, i < n → f i = g i) → cntF f n = cntF g n
  | 0, _ => rfl
  | n + 1, h => by rw [cntF, cntF, cntF_congr fun i hi => h i yo, h n yo]
def sumB : Nat → Nat → Nat
  | 0, _ => 0
  | k + 1, N => popB (N % 256) + sumB k (N / 256)
theorem sum_cnt : ∀ k N : Nat, (sumB k N : Int) = cntF (fun j => N.testBit j) (8 * k)
  | 0, N => rfl
  | k + 1, N => by
    have h := (pop_b3 ⟨N % 256, by omega⟩).2.2.2.2.2
    simp only at h
    rw [sumB, show 8 * (k + 1) = 8 + 8 * k by omega, cntF_add]
    have e1 : cntF (fun j => N.testBit j) 8 = cntF (fun j => (N % 256).testBit j) 8 := cntF_congr fun i hi => by
      rw [show 256 = 2 ^ 8 from rfl, Nat.testBit_mod_two_pow]; simp [hi]
    have e2 : cntF (fun j => N.testBit (8 + j)) (8 * k) = cntF (fun j => (N / 256).testBit j) (8 * k) := cntF_congr fun i hi => by
      rw [show 256 = 2 ^ 8 from rfl, Nat.testBit_div_two_pow, Nat.add_comm]
    rw [e1, e2, ← h, ← sum_cnt k, Int.natCast_add]
theorem pop_le (n : Nat) (h : n < 256) : popB n ≤ 8 := (pop_b3 ⟨n, h⟩).2.2.2.2.1
theorem swT8 (N : Nat) : ∃ q0 q1 q2 q3 q4 q5 q6 q7 : Nat, q0 ≤ 8 ∧ q1 ≤ 8 ∧ q2 ≤ 8 ∧ q3 ≤ 8 ∧ q4 ≤ 8 ∧ q5 ≤ 8 ∧ q6 ≤ 8 ∧ q7 ≤ 8 ∧
    swT 8 N = 256 * (256 * (256 * (256 * (256 * (256 * (256 * q7 + q6) + q5) + q4) + q3) + q2) + q1) + q0 ∧ sumB 8 N = q0 + (q1 + (q2 + (q3 + (q4 + (q5 + (q6 + (q7 + 0))))))) := by
  have z : ∀ M, swT 0 M = 0 := fun M => by simp [swT, sw12, sw1, sw2, sw3, byts]
  refine ⟨_, _, _, _, _, _, _, _, pop_le _ ?_, pop_le _ ?_, pop_le _ ?_, pop_le _ ?_, pop_le _ ?_, pop_le _ ?_, pop_le _ ?_, pop_le _ ?_, ?_, rfl⟩
  iterate 8 exact Nat.mod_lt _ yd
  rw [swT_step, swT_step, swT_step, swT_step, swT_step, swT_step, swT_step, swT_step, z, Nat.mul_zero, Nat.zero_add]
theorem shr_n (b : BitVec 64) (k : Nat) : (b >>> k).toNat = b.toNat / 2 ^ k := by
  rw [BitVec.toNat_ushiftRight, Nat.shiftRight_eq_div_pow]
theorem div_of {x k lo z : Nat} (h : x = lo + k * z) (hl : lo < k) : x / k = z := by
  rw [h, Nat.add_mul_div_left _ _ yo, Nat.div_eq_of_lt hl, Nat.zero_add]
theorem fs_1 (x q0 q1 q2 q3 q4 q5 q6 q7 : Nat) (h0 : q0 ≤ 8) (h1 : q1 ≤ 8) (h2 : q2 ≤ 8) (h3 : q3 ≤ 8) (h4 : q4 ≤ 8) (h5 : q5 ≤ 8) (h6 : q6 ≤ 8) (h7 : q7 ≤ 8) (h : x = 256 * (256 * (256 * (256 * (256 * (256 * (256 * q7 + q6) + q5) + q4) + q3) + q2) + q1) + q0) : x / 256 = (q1 + 256 * q2 + 65536 * q3 + 16777216 * q4 + 4294967296 * q5 + 1099511627776 * q6 + 281474976710656 * q7) := by
  have h' : x = q0 + 256 * (q1 + 256 * q2 + 65536 * q3 + 16777216 * q4 + 4294967296 * q5 + 1099511627776 * q6 + 281474976710656 * q7) := by omega
  exact div_of h' yo
theorem fs_2 (x q0 q1 q2 q3 q4 q5 q6 q7 : Nat) (h0 : q0 ≤ 8) (h1 : q1 ≤ 8) (h2 : q2 ≤ 8) (h3 : q3 ≤ 8) (h4 : q4 ≤ 8) (h5 : q5 ≤ 8) (h6 : q6 ≤ 8) (h7 : q7 ≤ 8) (h : x = 256 * (256 * (256 * (256 * (256 * (256 * (256 * q7 + q6) + q5) + q4) + q3) + q2) + q1) + q0 + (q1 + 256 * q2 + 65536 * q3 + 16777216 * q4 + 4294967296 * q5 + 1099511627776 * q6 + 281474976710656 * q7)) : x / 65536 = ((q2 + q3) + 256 * (q3 + q4) + 65536 * (q4 + q5) + 16777216 * (q5 + q6) + 4294967296 * (q6 + q7) + 1099511627776 * q7) := by
  have h' : x = ((q0 + q1) + 256 * (q1 + q2)) + 65536 * ((q2 + q3) + 256 * (q3 + q4) + 65536 * (q4 + q5) + 16777216 * (q5 + q6) + 4294967296 * (q6 + q7) + 1099511627776 * q7) := by omega
  exact div_of h' yo
theorem fs_3 (x q0 q1 q2 q3 q4 q5 q6 q7 : Nat) (h0 : q0 ≤ 8) (h1 : q1 ≤ 8) (h2 : q2 ≤ 8) (h3 : q3 ≤ 8) (h4 : q4 ≤ 8) (h5 : q5 ≤ 8) (h6 : q6 ≤ 8) (h7 : q7 ≤ 8) (h : x = 256 * (256 * (256 * (256 * (256 * (256 * (256 * q7 + q6) + q5) + q4) + q3) + q2) + q1) + q0 + (q1 + 256 * q2 + 65536 * q3 + 16777216 * q4 + 4294967296 * q5 + 1099511627776 * q6 + 281474976710656 * q7) + ((q2 + q3) + 256 * (q3 + q4) + 65536 * (q4 + q5) + 16777216 * (q5 + q6) + 4294967296 * (q6 + q7) + 1099511627776 * q7)) : x / 4294967296 = ((q4 + q5 + q6 + q7) + 256 * (q5 + q6 + q7) + 65536 * (q6 + q7) + 16777216 * q7) := by
  have h' : x = ((q0 + q1 + q2 + q3) + 256 * (q1 + q2 + q3 + q4) + 65536 * (q2 + q3 + q4 + q5) + 16777216 * (q3 + q4 + q5 + q6)) + 4294967296 * ((q4 + q5 + q6 + q7) + 256 * (q5 + q6 + q7) + 65536 * (q6 + q7) + 16777216 * q7) := by omega
  exact div_of h' yo
theorem fs_4 (x q0 q1 q2 q3 q4 q5 q6 q7 : Nat) (h0 : q0 ≤ 8) (h1 : q1 ≤ 8) (h2 : q2 ≤ 8) (h3 : q3 ≤ 8) (h4 : q4 ≤ 8) (h5 : q5 ≤ 8) (h6 : q6 ≤ 8) (h7 : q7 ≤ 8) (h : x = 256 * (256 * (256 * (256 * (256 * (256 * (256 * q7 + q6) + q5) + q4) + q3) + q2) + q1) + q0 + (q1 + 256 * q2 + 65536 * q3 + 16777216 * q4 + 4294967296 * q5 + 1099511627776 * q6 + 281474976710656 * q7) + ((q2 + q3) + 256 * (q3 + q4) + 65536 * (q4 + q5) + 16777216 * (q5 + q6) + 4294967296 * (q6 + q7) + 1099511627776 * q7) + ((q4 + q5 + q6 + q7) + 256 * (q5 + q6 + q7) + 65536 * (q6 + q7) + 16777216 * q7)) : x < 9223372036854775808 ∧ x % 128 = (q0 + (q1 + (q2 + (q3 + (q4 + (q5 + (q6 + (q7 + 0)))))))) := by
  refine ⟨by omega, ?_⟩
  have : ∃ t, x = (q0 + (q1 + (q2 + (q3 + (q4 + (q5 + (q6 + (q7 + 0)))))))) + 128 * t := ⟨(x - (q0 + (q1 + (q2 + (q3 + (q4 + (q5 + (q6 + (q7 + 0))))))))) / 128, by omega⟩
  obtain ⟨t, e⟩ := this
  have l : (q0 + (q1 + (q2 + (q3 + (q4 + (q5 + (q6 + (q7 + 0)))))))) < 128 := by omega
  generalize (q0 + (q1 + (q2 + (q3 + (q4 + (q5 + (q6 + (q7 + 0)))))))) = z at e l ⊢
  omega
theorem fin_sum (x q0 q1 q2 q3 q4 q5 q6 q7 : Nat) (h0 : q0 ≤ 8) (h1 : q1 ≤ 8) (h2 : q2 ≤ 8) (h3 : q3 ≤ 8) (h4 : q4 ≤ 8) (h5 : q5 ≤ 8) (h6 : q6 ≤ 8) (h7 : q7 ≤ 8)
    (h : x = 256 * (256 * (256 * (256 * (256 * (256 * (256 * q7 + q6) + q5) + q4) + q3) + q2) + q1) + q0) (x4 x5 x6 : Nat) (e4 : x4 = x + x / 256) (e5 : x5 = x4 + x4 / 65536) (e6 : x6 = x5 + x5 / 4294967296) :
    x4 < 9223372036854775808 ∧ x5 < 9223372036854775808 ∧ x6 < 9223372036854775808 ∧ x6 % 128 = (q0 + (q1 + (q2 + (q3 + (q4 + (q5 + (q6 + (q7 + 0)))))))) := by
  have d1 := fs_1 x q0 q1 q2 q3 q4 q5 q6 q7 h0 h1 h2 h3 h4 h5 h6 h7 h
  have e4' : x4 = 256 * (256 * (256 * (256 * (256 * (256 * (256 * q7 + q6) + q5) + q4) + q3) + q2) + q1) + q0 + (q1 + 256 * q2 + 65536 * q3 + 16777216 * q4 + 4294967296 * q5 + 1099511627776 * q6 + 281474976710656 * q7) := e4.trans (by rw [d1]; exact congrArg (· + (q1 + 256 * q2 + 65536 * q3 + 16777216 * q4 + 4294967296 * q5 + 1099511627776 * q6 + 281474976710656 * q7)) h)
  have d2 := fs_2 x4 q0 q1 q2 q3 q4 q5 q6 q7 h0 h1 h2 h3 h4 h5 h6 h7 e4'
  have e5' : x5 = 256 * (256 * (256 * (256 * (256 * (256 * (256 * q7 + q6) + q5) + q4) + q3) + q2) + q1) + q0 + (q1 + 256 * q2 + 65536 * q3 + 16777216 * q4 + 4294967296 * q5 + 1099511627776 * q6 + 281474976710656 * q7) + ((q2 + q3) + 256 * (q3 + q4) + 65536 * (q4 + q5) + 16777216 * (q5 + q6) + 4294967296 * (q6 + q7) + 1099511627776 * q7) := e5.trans (by rw [d2]; exact congrArg (· + ((q2 + q3) + 256 * (q3 + q4) + 65536 * (q4 + q5) + 16777216 * (q5 + q6) + 4294967296 * (q6 + q7) + 1099511627776 * q7)) e4')
  have d3 := fs_3 x5 q0 q1 q2 q3 q4 q5 q6 q7 h0 h1 h2 h3 h4 h5 h6 h7 e5'
  have e6' : x6 = 256 * (256 * (256 * (256 * (256 * (256 * (256 * q7 + q6) + q5) + q4) + q3) + q2) + q1) + q0 + (q1 + 256 * q2 + 65536 * q3 + 16777216 * q4 + 4294967296 * q5 + 1099511627776 * q6 + 281474976710656 * q7) + ((q2 + q3) + 256 * (q3 + q4) + 65536 * (q4 + q5) + 16777216 * (q5 + q6) + 4294967296 * (q6 + q7) + 1099511627776 * q7) + ((q4 + q5 + q6 + q7) + 256 * (q5 + q6 + q7) + 65536 * (q6 + q7) + 16777216 * q7) := e6.trans (by rw [d3]; exact congrArg (· + ((q4 + q5 + q6 + q7) + 256 * (q5 + q6 + q7) + 65536 * (q6 + q7) + 16777216 * q7)) e5')
  have d4 := fs_4 x6 q0 q1 q2 q3 q4 q5 q6 q7 h0 h1 h2 h3 h4 h5 h6 h7 e6'
  have l5 : x5 ≤ x6 := by rw [e6]; exact Nat.le_add_right _ _
  have l4 : x4 ≤ x5 := by rw [e5]; exact Nat.le_add_right _ _
  exact ⟨Nat.lt_of_le_of_lt (Nat.le_trans l4 l5) d4.1, Nat.lt_of_le_of_lt l5 d4.1, d4.1, d4.2⟩
theorem add_nat {a b : BitVec 64} (h : a.toNat + b.toNat < 18446744073709551616) : (a + b).toNat = a.toNat + b.toNat := by
  rw [BitVec.toNat_add]; exact Nat.mod_eq_of_lt h
theorem sw1_bv (b : BitVec 64) : (((b >>> (1 : Int).toNat) &&& 6148914691236517205#64) + (b &&& 6148914691236517205#64)).toNat = sw1 b.toNat 6148914691236517205 := by
  have e1 : ((b >>> (1 : Int).toNat) &&& 6148914691236517205#64).toNat = (b.toNat / 2) &&& 6148914691236517205 := by
    rw [BitVec.toNat_and, shr_n]; rfl
  have e2 : (b &&& 6148914691236517205#64).toNat = b.toNat &&& 6148914691236517205 := by rw [BitVec.toNat_and]; rfl
  have l1 : (b.toNat / 2) &&& 6148914691236517205 ≤ 6148914691236517205 := Nat.and_le_right
  have l2 : b.toNat &&& 6148914691236517205 ≤ 6148914691236517205 := Nat.and_le_right
  rw [add_nat (by rw [e1, e2]; omega), e1, e2]; rfl
theorem sw2_bv (b : BitVec 64) : (((b >>> (2 : Int).toNat) &&& 3689348814741910323#64) + (b &&& 3689348814741910323#64)).toNat = sw2 b.toNat 3689348814741910323 := by
  have e1 : ((b >>> (2 : Int).toNat) &&& 3689348814741910323#64).toNat = (b.toNat / 4) &&& 3689348814741910323 := by
    rw [BitVec.toNat_and, shr_n]; rfl
  have e2 : (b &&& 3689348814741910323#64).toNat = b.toNat &&& 3689348814741910323 := by rw [BitVec.toNat_and]; rfl
  have l1 : (b.toNat / 4) &&& 3689348814741910323 ≤ 3689348814741910323 := Nat.and_le_right
  have l2 : b.toNat &&& 3689348814741910323 ≤ 3689348814741910323 := Nat.and_le_right
  rw [add_nat (by rw [e1, e2]; omega), e1, e2]; rfl
theorem sw2_le (n : Nat) : sw2 n 3689348814741910323 ≤ 7378697629483820646 := by
  have l1 : (n / 4) &&& 3689348814741910323 ≤ 3689348814741910323 := Nat.and_le_right
  have l2 : n &&& 3689348814741910323 ≤ 3689348814741910323 := Nat.and_le_right
  unfold sw2; omega
theorem sw3_bv (b : BitVec 64) (h : b.toNat ≤ 7378697629483820646) : (((b >>> (4 : Int).toNat) + b) &&& 1085102592571150095#64).toNat = sw3 b.toNat 1085102592571150095 := by
  have e1 : (b >>> (4 : Int).toNat).toNat = b.toNat / 16 := by rw [shr_n]; rfl
  rw [BitVec.toNat_and, add_nat (by rw [e1]; omega), e1]; rfl
theorem sh_bv (b : BitVec 64) (k : Nat) (h : b.toNat + b.toNat / 2 ^ k < 18446744073709551616) : (b + (b >>> k)).toNat = b.toNat + b.toNat / 2 ^ k := by
  rw [add_nat (by rw [shr_n]; exact h), shr_n]
theorem onesF_nat (b : BitVec 64) : (onesF b).toNat < 9223372036854775808 ∧ (onesF b).toNat % 128 = sumB 8 b.toNat := by
  have m1 : byts 85 8 = 6148914691236517205 := by decide
  have m2 : byts 51 8 = 3689348814741910323 := by decide
  have m3 : byts 15 8 = 1085102592571150095 := by decide
  obtain ⟨q0, q1, q2, q3, q4, q5, q6, q7, h0, h1, h2, h3, h4, h5, h6, h7, hT, hS⟩ := swT8 b.toNat
  unfold swT sw12 at hT
  rw [m1, m2, m3] at hT
  have g1 := sw1_bv b
  unfold onesF
  generalize ((b >>> (1 : Int).toNat) &&& 6148914691236517205#64) + (b &&& 6148914691236517205#64) = x1 at g1 ⊢
  have g2 := sw2_bv x1
  rw [← g1] at hT
  simp only
  generalize ((x1 >>> (2 : Int).toNat) &&& 3689348814741910323#64) + (x1 &&& 3689348814741910323#64) = x2 at g2 ⊢
  have g3 := sw3_bv x2 (by rw [g2]; exact sw2_le _)
  rw [← g2] at hT
  generalize ((x2 >>> (4 : Int).toNat) + x2) &&& 1085102592571150095#64 = x3 at g3 ⊢
  rw [← g3] at hT
  obtain ⟨k4, k5, k6, k7⟩ := fin_sum _ q0 q1 q2 q3 q4 q5 q6 q7 h0 h1 h2 h3 h4 h5 h6 h7 hT _ _ _ rfl rfl rfl
  have e4 : (x3 + (x3 >>> (8 : Int).toNat)).toNat = x3.toNat + x3.toNat / 256 := sh_bv x3 8 (Nat.lt_trans k4 yd)
  generalize x3 + (x3 >>> (8 : Int).toNat) = x4 at e4 ⊢
  rw [← e4] at k5 k6 k7
  have e5 : (x4 + (x4 >>> (16 : Int).toNat)).toNat = x4.toNat + x4.toNat / 65536 := sh_bv x4 16 (Nat.lt_trans k5 yd)
  generalize x4 + (x4 >>> (16 : Int).toNat) = x5 at e5 ⊢
  rw [← e5] at k6 k7
  have e6 : (x5 + (x5 >>> (32 : Int).toNat)).toNat = x5.toNat + x5.toNat / 4294967296 := sh_bv x5 32 (Nat.lt_trans k6 yd)
  rw [e6, hS]
  exact ⟨k6, k7⟩
theorem ones_cnt (b : BitVec 64) : onesI b = cntF (fun j => b.getLsbD j) 64 := by
  obtain ⟨h1, h2⟩ := onesF_nat b
  have hs : (sumB 8 b.toNat : Int) = cntF (fun j => b.getLsbD j) 64 := by
    rw [sum_cnt]; rfl
  have hr := cntF_rng (fun j => b.getLsbD j) 64
  unfold onesI andI
  rw [wrap_i64 (show -9223372036854775808 ≤ (((onesF b).toNat : Nat) : Int) ∧ (((onesF b).toNat : Nat) : Int) ≤ 9223372036854775807 by omega)]
  have e1 : (BitVec.ofInt 64 (((onesF b).toNat : Nat) : Int)).toNat = (onesF b).toNat := by
    rw [BitVec.ofInt_natCast, BitVec.toNat_ofNat]; omega
  rw [BitVec.toNat_and, e1, show (BitVec.ofInt 64 127).toNat = 127 from rfl, Nat.and_two_pow_sub_one_eq_mod _ 7]
  show IntKind.i64.wrap (((onesF b).toNat % 128 : Nat) : Int) = _
  rw [h2, hs]
  exact wrap_i64 yo
/-! ### what is left to mate with -/
theorem cntF_zero (f : Nat → Bool) : ∀ n, cntF f n = 0 ↔ ∀ i, i < n → f i = false
  | 0 => ⟨fun _ i hi => by omega, fun _ => rfl⟩
  | n + 1 => by
    have ih := cntF_zero f n
    have hr := cntF_rng f n
    rw [cntF]
    constructor
    · intro h i hi
      split at h
      · omega
      · rename_i hf
        by_cases e : i = n
        · subst e; simpa using hf
        · exact ih.1 h i yo
    · intro h
      rw [if_neg (by rw [h n yo]; simp)]
      exact ih.2 fun i hi => h i yo
theorem cls_le (p : Pos) (i : Nat) : clsR p i ≤ 5 := by
  unfold clsR; repeat' split
  all_goals decide
theorem cnt_men (p : Pos) : ∀ n, cntF (fun i => decide (2 ≤ clsR p i)) n = ((cntC p 5 n + cntC p 2 n) + cntC p 3 n) + cntC p 4 n
  | 0 => rfl
  | n + 1 => by
    have ih := cnt_men p n
    have hc := cls_le p n
    unfold cntC at ih ⊢
    rw [cntF, cntF, cntF, cntF, cntF]
    have : clsR p n = 0 ∨ clsR p n = 1 ∨ clsR p n = 2 ∨ clsR p n = 3 ∨ clsR p n = 4 ∨ clsR p n = 5 := by omega
    rcases this with e | e | e | e | e | e <;> simp only [e] <;> simp <;> omega
section
variable {p : Pos} (hp : POK p)
include hp
theorem both_bit {k : Int} (hk : ¬ k = 0) {i : Nat} (hi : i < 64) : (bothB p k).getLsbD i = decide (kind (pb p (i : Int)) = k) := by
  unfold bothB
  rw [BitVec.getLsbD_or, ofB_kind p 0 hk hi, ofB_kind p 1 hk hi]
  unfold isAt
  by_cases h : kind (pb p (i : Int)) = k
  · rw [decide_eq_true h]
    have := kind_c (x := pb p (i : Int)) (hp.board _).1 (by rw [h]; exact hk)
    rcases this with e | e <;> rw [e] <;> rfl
  · rw [decide_eq_false h]; rfl
theorem men_bit {i : Nat} (hi : i < 64) : (menB p).getLsbD i = decide (2 ≤ clsR p i) := by
  unfold menB
  rw [BitVec.getLsbD_and, BitVec.getLsbD_not, allB_bit p hi, both_bit hp yd hi]
  simp only [hi, decide_true, Bool.true_and]
  unfold clsR
  by_cases h0 : kind (pb p (i : Int)) = 0
  · rw [if_pos h0, decide_eq_true h0]; rfl
  rw [if_neg h0, decide_eq_false h0]
  by_cases h6 : kind (pb p (i : Int)) = 6
  · rw [if_pos h6, decide_eq_true h6]; rfl
  rw [if_neg h6, decide_eq_false h6]
  repeat' split
  all_goals rfl
theorem bish_bit {i : Nat} (hi : i < 64) : (bothB p 3).getLsbD i = (decide (clsR p i = 3) || decide (clsR p i = 4)) := by
  rw [both_bit hp yd hi]
  unfold clsR
  by_cases h : kind (pb p (i : Int)) = 3
  · rw [if_neg yo, if_neg yo, if_neg yo, if_pos h, decide_eq_true h]
    split <;> rfl
  · rw [decide_eq_false h, if_neg h]
    repeat' split
    all_goals rfl
theorem knig_bit {i : Nat} (hi : i < 64) : (bothB p 2).getLsbD i = decide (clsR p i = 2) := by
  rw [both_bit hp yd hi]
  unfold clsR
  by_cases h : kind (pb p (i : Int)) = 2
  · rw [if_neg yo, if_neg yo, if_pos h, decide_eq_true h]; rfl
  · rw [decide_eq_false h, if_neg h]
    repeat' split
    all_goals rfl
omit hp in
theorem light_bit : ∀ i : Fin 64, lightB.getLsbD i.val = decide (((i.val : Nat) : Int) / 8 % 2 ≠ ((i.val : Nat) : Int) % 8 % 2) := by decide +kernel
omit hp in
theorem cls_light {i : Nat} (hi : i < 64) : (clsR p i = 3 → lightB.getLsbD i = false) ∧ (clsR p i = 4 → lightB.getLsbD i = true) := by
  have hl := light_bit ⟨i, hi⟩
  simp only at hl
  rw [hl]
  unfold clsR
  constructor
  · intro h
    split at h
    · cases h
    · split at h
      · cases h
      · split at h
        · cases h
        · split at h
          · split at h
            · exact decide_eq_false yo
            · cases h
          · cases h
  · intro h
    split at h
    · cases h
    · split at h
      · cases h
      · split at h
        · cases h
        · split at h
          · split at h
            · cases h
            · exact decide_eq_true yo
          · cases h
theorem ones_men : onesI (menB p) = ((cntC p 5 64 + cntC p 2 64) + cntC p 3 64) + cntC p 4 64 := by
  rw [ones_cnt, ← cnt_men]
  exact cntF_congr fun i hi => men_bit hp hi
omit hp in
theorem cnt0 (c : Nat) : cntC p c 64 = 0 ↔ ∀ i, i < 64 → ¬ clsR p i = c := by
  unfold cntC
  rw [cntF_zero]
  exact ⟨fun h i hi => of_decide_eq_false (h i hi), fun h i hi => decide_eq_false (h i hi)⟩
theorem others_ref : decide ((menB p &&& ~~~bothB p 3) &&& ~~~bothB p 2 = 0#64) = decide (cntC p 5 64 = 0) := by
  rw [decide_eq_decide, cnt0]
  have hb : ∀ i, i < 64 → ((menB p &&& ~~~bothB p 3) &&& ~~~bothB p 2).getLsbD i = decide (clsR p i = 5) := fun i hi => by
    rw [BitVec.getLsbD_and, BitVec.getLsbD_and, BitVec.getLsbD_not, BitVec.getLsbD_not, men_bit hp hi, bish_bit hp hi, knig_bit hp hi]
    have := cls_le p i
    simp only [hi, decide_true, Bool.true_and]
    have : clsR p i = 0 ∨ clsR p i = 1 ∨ clsR p i = 2 ∨ clsR p i = 3 ∨ clsR p i = 4 ∨ clsR p i = 5 := by omega
    rcases this with e | e | e | e | e | e <;> rw [e] <;> rfl
  constructor
  · intro h i hi e
    have := hb i hi
    rw [h, decide_eq_true e] at this
    simp at this
  · intro h
    apply BitVec.eq_of_getLsbD_eq
    intro i hi
    rw [hb i hi, decide_eq_false (h i hi)]; simp
theorem few_ref (h5 : cntC p 5 64 = 0) : fewP p = fewR p := by
  have n5 := (cnt0 5).1 h5
  unfold fewP fewR
  rw [ones_men hp, h5, show (0 : Int) + cntC p 2 64 + cntC p 3 64 + cntC p 4 64 = cntC p 2 64 + cntC p 3 64 + cntC p 4 64 by omega, show decide ((0 : Int) = 0) = true from rfl, Bool.true_and]
  congr 1
  have e1 : menB p = bothB p 3 ↔ cntC p 2 64 = 0 := by
    rw [cnt0]
    constructor
    · intro h i hi e
      have a := men_bit hp hi
      rw [h, bish_bit hp hi, e] at a
      cases a
    · intro h
      apply BitVec.eq_of_getLsbD_eq
      intro i hi
      rw [men_bit hp hi, bish_bit hp hi]
      have h2 := h i hi
      have h5 := n5 i hi
      have := cls_le p i
      have : clsR p i = 0 ∨ clsR p i = 1 ∨ clsR p i = 3 ∨ clsR p i = 4 := by omega
      rcases this with e | e | e | e <;> rw [e] <;> rfl
  by_cases h2 : cntC p 2 64 = 0
  · have hm := e1.2 h2
    have n2 := (cnt0 2).1 h2
    have cl : ∀ i, i < 64 → (menB p).getLsbD i = (decide (clsR p i = 3) || decide (clsR p i = 4)) := fun i hi => by rw [hm]; exact bish_bit hp hi
    have e3 : menB p &&& lightB = 0#64 ↔ cntC p 4 64 = 0 := by
      rw [cnt0, and_zero]
      constructor
      · intro h i hi e
        exact h i hi (by rw [cl i hi, e]; rfl) ((cls_light hi).2 e)
      · intro h i hi a b
        rw [cl i hi] at a
        have h4 := h i hi
        rw [decide_eq_false h4, Bool.or_false, decide_eq_true_eq] at a
        rw [(cls_light hi).1 a] at b; cases b
    have e4 : menB p &&& ~~~lightB = 0#64 ↔ cntC p 3 64 = 0 := by
      rw [cnt0, and_zero]
      constructor
      · intro h i hi e
        refine h i hi (by rw [cl i hi, e]; rfl) ?_
        rw [BitVec.getLsbD_not, (cls_light hi).1 e]; simp [hi]
      · intro h i hi a b
        rw [cl i hi] at a
        have h3 := h i hi
        rw [decide_eq_false h3, Bool.false_or, decide_eq_true_eq] at a
        rw [BitVec.getLsbD_not, (cls_light hi).2 a] at b
        simp at b
    rw [decide_eq_true hm, decide_eq_true h2, decide_eq_decide.2 e3, decide_eq_decide.2 e4, Bool.or_comm]
  · rw [decide_eq_false h2, decide_eq_false (fun h => h2 (e1.1 h))]; rfl
theorem kg_ref {c : Int} : onesI (ofB p c 6) = cntF (kgF p c) 64 := by
  rw [ones_cnt]
  refine cntF_congr fun i hi => ?_
  rw [ofB_kind p c yd hi]
  unfold kgF isAt clsR
  by_cases h6 : kind (pb p (i : Int)) = 6
  · rw [decide_eq_true h6, if_neg yo, if_pos h6]; rfl
  · rw [decide_eq_false h6]
    by_cases h0 : kind (pb p (i : Int)) = 0
    · rw [if_pos h0]; rfl
    · rw [if_neg h0, if_neg h6]
      repeat' split
      all_goals rfl
theorem kings_ref : kingsP p = oneR2 p := by
  unfold kingsP oneR2
  have e1 : allB p = ofB p 0 6 ||| ofB p 1 6 ↔ ((cntC p 5 64 + cntC p 2 64) + cntC p 3 64) + cntC p 4 64 = 0 := by
    rw [← cnt_men, cntF_zero]
    constructor
    · intro h i hi
      rw [← men_bit hp hi]
      unfold menB bothB
      rw [← h, BitVec.getLsbD_and, BitVec.getLsbD_not]
      cases (allB p).getLsbD i <;> simp
    · intro h
      apply BitVec.eq_of_getLsbD_eq
      intro i hi
      have := h i hi
      rw [← men_bit hp hi] at this
      have hb := both_bit hp (k := 6) yd hi
      have ha := allB_bit p hi
      unfold menB at this
      rw [BitVec.getLsbD_and, BitVec.getLsbD_not, hb, ha] at this
      simp only [hi, decide_true, Bool.true_and] at this
      show (allB p).getLsbD i = (bothB p 6).getLsbD i
      rw [hb, ha]
      by_cases h6 : kind (pb p (i : Int)) = 6
      · rw [decide_eq_true h6, h6]; rfl
      · rw [decide_eq_false h6] at this ⊢
        simpa using this
  have e2 : eqv (.ar 2 i64) (kgL p 64) ([1, 1] : List Int) = (decide (cntF (kgF p 0) 64 = 1) && decide (cntF (kgF p 1) 64 = 1)) := by
    rw [Bool.eq_iff_iff, eqv_iff (.ar 2 i64) rfl _ _ (kgL_wf p 64) ⟨rfl, fun _ _ => trivial⟩, Bool.and_eq_true, decide_eq_true_eq, decide_eq_true_eq]
    show ([cntF (kgF p 0) 64, cntF (kgF p 1) 64] : List Int) = [1, 1] ↔ _
    simp
  rw [decide_eq_decide.2 e1, e2, kg_ref hp, kg_ref hp, Bool.and_assoc]
theorem mat_ref : matP p = matR p := by
  unfold matP matR
  split
  · rw [others_ref hp]
    by_cases h : cntC p 5 64 = 0
    · rw [decide_eq_true h, if_neg (by simp), few_ref hp h]
    · rw [decide_eq_false h, if_pos (by rfl)]
      unfold fewR; rw [decide_eq_false h]; rfl
  · split
    · exact kings_ref hp
    · rfl
theorem out_ref : outP p = outX p := by
  have h0 := hp.tu.1
  unfold outP outX
  by_cases h9 : 9 ≤ vr p
  · rw [decide_eq_true h9, if_pos (by rfl), if_pos]
    unfold thereR; rw [decide_eq_false (show ¬ vr p < 9 by omega)]; rfl
  by_cases h1 : 1 < tu p
  · rw [decide_eq_true h1, if_pos (by simp), if_pos]
    unfold thereR; rw [decide_eq_false (show ¬ tu p < 2 by omega)]; simp
  have ht : thereR p = true := by unfold thereR; rw [decide_eq_true (show vr p < 9 by omega), decide_eq_true (show tu p < 2 by omega)]; rfl
  have t1 : tu p ≤ 1 := by omega
  rw [if_neg (by rw [decide_eq_false h9, decide_eq_false h1]; simp), if_neg (by rw [ht]; simp), won_ref hp]
  cases hw : (!decide ((wonR p).1 = 0)) with
  | true => rw [if_pos rfl, pick_n hw]
  | false =>
    rw [if_neg (by simp), pick_z (by simpa using hw)]
    have hS : stuckP p = if decide (((list17 p).length : Int) = 0) = true then (if decide (vr p = 4) = true then (mineR p, (8 : Int), ()) else if refCheck p (tu p) = true then (othR p, (1 : Int), ()) else drawR 2) else zero resT := by
      unfold stuckP
      rw [legal_ref hp, check_ref hp h0 t1]
      have e1 : (1 + tu p : Int) = mineR p := by
        unfold mineR
        by_cases h : tu p = 1
        · rw [decide_eq_true h, if_pos rfl]; omega
        · rw [decide_eq_false h, if_neg (by simp)]; omega
      have e2 : (2 - tu p : Int) = othR p := by
        unfold othR
        by_cases h : tu p = 1
        · rw [decide_eq_true h, if_pos rfl]; omega
        · rw [decide_eq_false h, if_neg (by simp)]; omega
      rw [e1, e2]
      by_cases h : ((list17 p).length : Int) = 0
      · rw [decide_eq_true h, decide_eq_false (show ¬ 0 < ((list17 p).length : Int) by omega), if_neg (by simp), if_pos rfl]; rfl
      · rw [decide_eq_false h, decide_eq_true (show 0 < ((list17 p).length : Int) by omega), if_pos rfl, if_neg (by simp)]
    have nz : ∀ (x : Int) (w : Int) (r : Res), 1 ≤ x → pickR ((x, w, ()) : Res) r = (x, w, ()) := fun x w r hx => by
      refine pick_n ?_
      show (!decide (x = 0)) = true
      rw [decide_eq_false yo]; rfl
    have hm : 1 ≤ mineR p := by unfold mineR; split <;> decide
    have ho : 1 ≤ othR p := by unfold othR; split <;> decide
    rw [hS]
    by_cases h : ((list17 p).length : Int) = 0
    · rw [decide_eq_true h, if_pos rfl, if_pos rfl]
      split
      · exact nz _ _ _ hm
      · split
        · exact nz _ _ _ ho
        · exact nz 3 2 _ yd
    · rw [decide_eq_false h, if_neg (by simp), if_neg (by simp), pick_z rfl]
      unfold littleP
      rw [mat_ref hp]
      split
      · exact nz 3 3 _ yd
      · rw [pick_z rfl]
        unfold lateP
        split
        · exact nz 3 4 _ yd
        · exact pick_z rfl
theorem ended_ref : endedP p = !decide ((outX p).1 = 0) := by unfold endedP; rw [out_ref hp]
end
end Go.Kw
set_option linter.unusedVariables false
namespace Go.Kw
/-! ### the ways, level by level -/
theorem lv_front (p : Pos) : ∀ n, (lvR (n + 1) p : List Pos) = (stR p).flatMap (fun q => (lvR n q : List Pos))
  | 0 => by
    show ([p] : List Pos).flatMap stR = (stR p).flatMap fun q => [q]
    simp
  | n + 1 => by
    show (show List Pos from lvR (n + 1) p).flatMap stR = _
    have ih := lv_front p n
    rw [show (show List Pos from lvR (n + 1) p) = _ from ih, List.flatMap_assoc]
    rfl
theorem ways_lv : ∀ (n : Nat) {p : Pos}, POK p → waysP n p = lvR n p
  | 0, p, hp => rfl
  | n + 1, p, hp => by
    refine Eq.trans ?_ (lv_front p n).symm
    unfold stR
    have he := ended_ref hp
    cases h : (!decide ((outX p).1 = 0)) with
    | true =>
      rw [if_pos rfl, waysP_e (by rw [he, h])]; rfl
    | false =>
      rw [if_neg (by simp), waysP_n (by rw [he, h]), legal_ref hp, List.flatMap_map]
      refine flat_congr fun m hm => ?_
      have ha := list17_mem hm
      have hl := allR_lm hp ha
      have hmv : (moveP p m).1 = madeR p m := by
        rw [move_ok (by rw [all_ref hp]; exact ha), made_ref hp ha]
      rw [hmv]
      exact ways_lv n (POK_madeR hp hl.1 hl.2.toLMv)
theorem tally_ref (qs : List Pos) (h : ∀ q ∈ qs, POK q) : tallyP qs = tallyX qs := by
  unfold tallyP tallyX
  show qs.foldl talF _ = qs.foldl talX _
  have key : ∀ (qs : List Pos) (l : List (El i64)), (∀ q ∈ qs, POK q) → qs.foldl talF l = qs.foldl talX l := by
    intro qs
    induction qs with
    | nil => exact fun _ _ => rfl
    | cons q qs ih =>
      intro l h
      rw [List.foldl_cons, List.foldl_cons, ih _ fun x hx => h x (by simp [hx])]
      congr 1
      unfold talF talX
      rw [out_ref (h q (by simp))]
  exact key qs _ h
def sum4 (l : List (El i64)) : Int := ((gAt l 0 + gAt l 1) + gAt l 2) + gAt l 3
theorem sum_tal {l : List (El i64)} (hl : l.length = 4) {q : Pos} (hq : POK q) : sum4 (talX l q) = sum4 l + 1 := by
  have hs := outX_state hq
  have key : ∀ (l : List Int) (k : Nat), l.length = 4 → k ≤ 3 → (((l.set k (l.getD k 0 + 1)).getD 0 0 + (l.set k (l.getD k 0 + 1)).getD 1 0) + (l.set k (l.getD k 0 + 1)).getD 2 0) + (l.set k (l.getD k 0 + 1)).getD 3 0 = ((l.getD 0 0 + l.getD 1 0) + l.getD 2 0) + l.getD 3 0 + 1 := fun l k h hk => by
    match l, h with
    | [a, b, c, d], _ =>
      have : k = 0 ∨ k = 1 ∨ k = 2 ∨ k = 3 := by omega
      rcases this with rfl | rfl | rfl | rfl <;> simp <;> omega
  exact key l (outX q).1.toNat hl (Int.toNat_le.2 hs.2)
theorem sum_tally (qs : List Pos) (h : ∀ q ∈ qs, POK q) : sum4 (tallyX qs) = (qs.length : Int) := by
  have key : ∀ (qs : List Pos) (l : List (El i64)), l.length = 4 → (∀ q ∈ qs, POK q) → sum4 (qs.foldl talX l) = sum4 l + (qs.length : Int) := by
    intro qs
    induction qs with
    | nil => intro l _ _; simp
    | cons q qs ih =>
      intro l hl h
      rw [List.foldl_cons, ih _ (talX_len q hl) fun x hx => h x (by simp [hx]), sum_tal hl (h q (by simp)), List.length_cons]
      omega
  have := key qs (zero (.ar 4 i64)) rfl h
  have z : sum4 (zero (.ar 4 i64)) = 0 := rfl
  rw [z, Int.zero_add] at this
  exact this
/-! ### not more than a million -/
theorem cntF_mono {f g : Nat → Bool} : ∀ {n : Nat}, (∀ i, i < n → f i = true → g i = true) → cntF f n ≤ cntF g n
  | 0, _ => Int.le_refl _
  | n + 1, h => by
    have ih := cntF_mono (f := f) (g := g) (n := n) fun i hi => h i yo
    rw [cntF, cntF]
    by_cases hf : f n = true
    · rw [if_pos hf, if_pos (h n yo hf)]; omega
    · rw [if_neg hf]; split <;> omega
theorem flat_cnt {α : Type} (f : Nat → List α) (g : Nat → Bool) (c : Int) : ∀ n : Nat, (∀ i, i < n → ((f i).length : Int) ≤ if g i = true then c else 0) → (((List.range n).flatMap f).length : Int) ≤ c * cntF g n
  | 0, _ => by simp [cntF]
  | n + 1, h => by
    have ih := flat_cnt f g c n fun i hi => h i yo
    have h1 := h n yo
    rw [range_flat, List.length_append, cntF]
    split
    · rename_i hg
      rw [if_pos hg] at h1
      rw [Int.mul_add]; omega
    · rename_i hg
      rw [if_neg hg] at h1
      omega
def pawnGo (c a b : Int) : Bool := (decide (upOf a b = if c = 0 then 1 else -1) && decide (asideOf a b ≤ 1)) || decide (b = a + 2 * upR c)
theorem pawnGo_cnt : ∀ c : Fin 2, ∀ a : Fin 64, cntF (fun b => pawnGo (c.val : Int) (a.val : Int) (b : Int)) 64 ≤ 4 := by decide +kernel
theorem line_cnt : ∀ a : Fin 64, cntF (fun b => straight (a.val : Int) (b : Int) || across (a.val : Int) (b : Int)) 64 ≤ 27 := by decide +kernel
theorem knight_cnt : ∀ a : Fin 64, cntF (fun b => knightR (a.val : Int) (b : Int)) 64 ≤ 27 := by decide +kernel
theorem king_cnt : ∀ a : Fin 64, cntF (fun b => beside (a.val : Int) (b : Int)) 64 ≤ 27 := by decide +kernel
section
variable {p : Pos} (hp : POK p)
include hp
theorem row_len (ht : tu p ≤ 1) {a : Nat} (ha : a < 64) : ((rowR p (a : Int) 64).length : Int) ≤ if ownR p (a : Int) (tu p) = true then 27 else 0 := by
  have h0 := hp.tu.1
  by_cases ho : ownR p (a : Int) (tu p) = true
  · rw [if_pos ho]
    have hc := own_tu ho
    by_cases hk : kind (pb p (a : Int)) = 1
    · have h5 : ∀ b : Nat, b < 64 → ((mvsR p (a : Int) (b : Int)).length : Int) ≤ if pawnGo (tu p) (a : Int) (b : Int) = true then 5 else 0 := fun b hb => by
        by_cases hm : mayR p (a : Int) (b : Int) = true
        · have hpw := may_pawn_is hm hk
          have : pawnGo (tu p) (a : Int) (b : Int) = true := by
            unfold pawnGo
            cases hh : hits p (a : Int) (b : Int) with
            | true =>
              have := hits_pawn hk hh
              rw [hc] at this
              rw [decide_eq_true this.1, decide_eq_true (show asideOf (a : Int) (b : Int) ≤ 1 by omega)]; rfl
            | false =>
              rcases pawn_straight hpw hh with e | e
              · have h1 : upOf (a : Int) (b : Int) = if tu p = 0 then 1 else -1 := by
                  unfold upOf
                  rw [e]; unfold upR
                  split <;> omega
                have h2 : asideOf (a : Int) (b : Int) ≤ 1 := by
                  unfold asideOf iabs
                  rw [e]; unfold upR
                  split <;> split <;> omega
                rw [decide_eq_true h1, decide_eq_true h2]; rfl
              · rw [decide_eq_true e, Bool.or_true]
          rw [if_pos this]
          have := mvsR_len p (a : Int) (b : Int)
          omega
        · have : mvsR p (a : Int) (b : Int) = [] := by unfold mvsR; rw [if_neg hm]
          rw [this]
          split <;> simp
      have h := flat_cnt (fun b : Nat => mvsR p (a : Int) (b : Int)) _ 5 64 h5
      have hp4 := pawnGo_cnt ⟨(tu p).toNat, by omega⟩ ⟨a, ha⟩
      simp only [Int.toNat_of_nonneg h0] at hp4
      show (((List.range 64).flatMap fun b : Nat => mvsR p (a : Int) (b : Int)).length : Int) ≤ 27
      omega
    · have one : ∀ b : Nat, ((mvsR p (a : Int) (b : Int)).length : Int) ≤ if mayR p (a : Int) (b : Int) = true then 1 else 0 := fun b => by
        unfold mvsR
        split
        · have : oneR p (a : Int) (b : Int) = true := by unfold oneR; rw [decide_eq_false hk]; rfl
          rw [if_pos this]; simp
        · simp
      have h := flat_cnt (fun b : Nat => mvsR p (a : Int) (b : Int)) _ 1 64 fun b _ => one b
      show (((List.range 64).flatMap fun b : Nat => mvsR p (a : Int) (b : Int)).length : Int) ≤ 27
      have hits_of : ∀ b : Nat, mayR p (a : Int) (b : Int) = true → hits p (a : Int) (b : Int) = true := fun b hm => by
        unfold mayR at hm
        split at hm
        · cases hm
        · rw [if_neg (by simpa using hk)] at hm
          split at hm
          · exact (Bool.and_eq_true_iff.1 hm).1
          · exact hm
      have le27 : cntF (fun b : Nat => mayR p (a : Int) (b : Int)) 64 ≤ 27 := by
        by_cases h2 : kind (pb p (a : Int)) = 2
        · refine Int.le_trans (cntF_mono fun b hb hm => ?_) (knight_cnt ⟨a, ha⟩)
          have := hits_of b hm
          rw [hits_eq, if_neg hk, if_pos h2] at this
          exact this
        · by_cases h6 : kind (pb p (a : Int)) = 6
          · refine Int.le_trans (cntF_mono fun b hb hm => ?_) (king_cnt ⟨a, ha⟩)
            have := hits_of b hm
            rw [hits_eq, if_neg hk, if_neg h2, if_pos h6] at this
            exact this
          · refine Int.le_trans (cntF_mono fun b hb hm => ?_) (line_cnt ⟨a, ha⟩)
            have := hits_of b hm
            unfold hits at this
            rw [if_neg hk, if_neg h2, if_neg h6] at this
            show (straight (a : Int) (b : Int) || across (a : Int) (b : Int)) = true
            split at this
            · rw [(Bool.and_eq_true_iff.1 this).1]; rfl
            · split at this
              · rw [(Bool.and_eq_true_iff.1 this).1, Bool.or_true]
              · split at this
                · exact (Bool.and_eq_true_iff.1 this).1
                · cases this
      omega
  · rw [if_neg ho]
    have : ∀ b : Nat, mvsR p (a : Int) (b : Int) = [] := fun b => by
      unfold mvsR
      rw [if_neg]
      intro hm
      exact ho (may_own hm).1
    unfold rowR
    rw [List.flatMap_eq_nil_iff.2 fun b _ => this b]
    simp
def menN (p : Pos) (c : Int) : Int := cntF (fun s => ownR p (s : Int) c) 64
omit hp in
theorem menN_rng (p : Pos) (c : Int) : 0 ≤ menN p c ∧ menN p c ≤ 64 := cntF_rng _ 64
theorem len13 : ((list13 p).length : Int) ≤ 27 * menN p (tu p) := by
  have hr := menN_rng p (tu p)
  cases ht : thereR p with
  | false =>
    rw [list13_n (by rw [ht]; rfl)]
    simp; omega
  | true =>
    rw [list13_y (by rw [ht]; rfl)]
    exact flat_cnt (fun a : Nat => rowR p (a : Int) 64) _ 27 64 fun a ha => row_len hp (there_tu2 ht) ha
theorem len15 : ((list15 p).length : Int) ≤ 5 * cntF (fun s => emptyR p (s : Int)) 64 := by
  have hr := cntF_rng (fun s => emptyR p (s : Int)) 64
  have hA : ∀ kd : Int, ((dAll p kd 64).length : Int) ≤ 1 * cntF (fun s => emptyR p (s : Int)) 64 := fun kd => by
    refine flat_cnt (dOne p kd) _ 1 64 fun s hs => ?_
    unfold dOne dBad emptyR
    by_cases h : kind (pb p (s : Int)) = 0
    · rw [decide_eq_true h]; split <;> simp
    · rw [decide_eq_false h, if_pos (by rfl)]; simp
  have hK : ∀ kd : Int, ((dKind p kd).length : Int) ≤ cntF (fun s => emptyR p (s : Int)) 64 := fun kd => by
    have := hA kd
    unfold dKind; split
    · omega
    · simp; omega
  unfold list15
  split
  · simp; omega
  · show (((List.range 5).flatMap fun k : Nat => dKind p ((k : Int) + 1)).length : Int) ≤ _
    have h0 := hK (((0 : Nat) : Int) + 1)
    have h1 := hK (((1 : Nat) : Int) + 1)
    have h2 := hK (((2 : Nat) : Int) + 1)
    have h3 := hK (((3 : Nat) : Int) + 1)
    have h4 := hK (((4 : Nat) : Int) + 1)
    show ((dKind p _ ++ (dKind p _ ++ (dKind p _ ++ (dKind p _ ++ (dKind p _ ++ []))))).length : Int) ≤ _
    simp only [List.length_append, List.length_nil]
    omega
theorem men_sum : (menN p 0 + menN p 1) + cntF (fun s => emptyR p (s : Int)) 64 = 64 := by
  have key : ∀ n : Nat, (cntF (fun s => ownR p (s : Int) 0) n + cntF (fun s => ownR p (s : Int) 1) n) + cntF (fun s => emptyR p (s : Int)) n = (n : Int) := by
    intro n
    induction n with
    | zero => rfl
    | succ n ih =>
      rw [cntF, cntF, cntF]
      unfold ownR emptyR at *
      by_cases h : kind (pb p (n : Int)) = 0
      · rw [decide_eq_true h]
        simp only [Bool.not_true, Bool.false_and]
        simp; omega
      · rw [decide_eq_false h]
        rcases kind_c (x := pb p (n : Int)) (hp.board _).1 h with e | e <;> rw [e] <;> simp <;> omega
  exact key 64
theorem allR_cnt : ((allR p).length : Int) ≤ 27 * menN p (tu p) + 2 + 5 * cntF (fun s => emptyR p (s : Int)) 64 := by
  have h1 := len13 hp
  have h2 := list14_len p
  have h3 := len15 hp
  unfold allR
  rw [List.length_append, List.length_append]
  omega
end
end Go.Kw
set_option linter.unusedVariables false
namespace Go.Kw
theorem list14_rook {p : Pos} (hp : POK p) {m : Mv} (h : m ∈ list14 p) : isAt p (mT m) (tu p) 4 = true := by
  have key : ∀ side : Int, m ∈ (if (mayC p side).2.2 = true then [castM (mayC p side)] else []) → isAt p (mT m) (tu p) 4 = true := fun side h => by
    split at h
    · rename_i hc
      rw [List.mem_singleton] at h; subst h
      unfold mayC at hc ⊢
      split at hc
      · cases hc
      · split at hc
        · cases hc
        · split at hc
          · cases hc
          · split at hc
            · rename_i n1 n2 n3 n4
              rw [if_neg n1, if_neg n2, if_neg n3, if_pos n4]
              have h3 := Bool.eq_false_iff.2 n3
              unfold mayC2 at h3
              have hr := (Bool.or_eq_false_iff.1 (Bool.or_eq_false_iff.1 h3).1).1
              have hr : isAt p (56 * tu p + castF p side) (tu p) 4 = true := by simpa using hr
              exact hr
            · cases hc
    · cases h
  rcases List.mem_append.1 (show m ∈ ([] ++ _) ++ _ from h) with h | h
  · rcases List.mem_append.1 h with h | h
    · cases h
    · exact key 1 h
  · exact key 0 h
/-- No man more of the color that isn't to move in p. -/
def NoGain (p q : Pos) : Prop := ∀ s : Int, 0 ≤ s → s < 64 → ownR q s (1 - tu p) = true → ownR p s (1 - tu p) = true
theorem NoGain.put {p q : Pos} (h : NoGain p q) (hq : POK q) (i v : Int) (i0 : 0 ≤ i) (hv : kind v = 0 ∨ ¬ v / 8 = 1 - tu p) : NoGain p (putB q i v) := fun s h0 h1 ho => by
  refine h s h0 h1 ?_
  unfold ownR emptyR at *
  rw [pb_put hq i v h0 h1 i0] at ho
  by_cases e : s = i
  · rw [if_pos e] at ho
    rcases hv with hv | hv
    · rw [decide_eq_true hv] at ho; cases ho
    · rw [decide_eq_false hv, Bool.and_false] at ho; cases ho
  · rw [if_neg e] at ho; exact ho
theorem NoGain.same {p q r : Pos} (h : NoGain p q) (e : bd r = bd q) : NoGain p r := fun s h0 h1 ho => by
  refine h s h0 h1 ?_
  have : pb r s = pb q s := by unfold pb; rw [e]
  unfold ownR emptyR at *
  rw [this] at ho; exact ho
theorem kind0 : kind 0 = 0 := by decide
section
variable {p : Pos} {m : Mv} (hp : POK p) (h : m ∈ allR p)
include hp h
theorem NoGain_men : NoGain p (menR p m (takenR p m)) := by
  obtain ⟨hm, hL⟩ := allR_lm hp h
  have h0 := hp.tu
  have ht := hL.t
  have f0 : NoGain p p := fun _ _ _ h => h
  have own : ∀ {s c : Int}, ownR p s c = true → ¬ c = 1 - tu p → ¬ pb p s / 8 = 1 - tu p := fun ho hc => by rw [own_tu ho]; exact hc
  have own' : ∀ {s k : Int}, isAt p s (tu p) k = true → ¬ pb p s / 8 = 1 - tu p := fun {s k} ho => by
    have := of_decide_eq_true (Bool.and_eq_true_iff.1 ho).2; omega
  rcases List.mem_append.1 (show m ∈ (list13 p ++ list14 p) ++ list15 p from h) with h' | h'
  · rcases List.mem_append.1 h' with h' | h'
    · have ok := list13_ok h'
      have h13 := (mem_list13 p m).1 h'
      have hmay : mayR p (mF m) (mT m) = true := by
        have := h13.2.2.2
        unfold mvsR at this
        split at this
        · rename_i hh; exact hh
        · cases this
      have hown := (may_own hmay).1
      have hF : ¬ pb p (mF m) / 8 = 1 - tu p := own hown yo
      unfold menR
      rw [if_neg (by rw [ok.2.2.2.2.1]; simp), if_neg (by rw [decide_eq_true ok.2.2.2.1]; simp)]
      have g1 : NoGain p (men1 p (takenR p m)) := by
        unfold men1; split
        · rename_i hh
          exact f0.put hp _ _ (of_decide_eq_true hh) (.inl kind0)
        · exact f0
      have k1 : POK (men1 p (takenR p m)) := POK_men1 hp _
      have g2 : NoGain p (men2 (men1 p (takenR p m)) p m) := (g1.put k1 _ _ hL.f.1 (.inl kind0)).put (POK_put k1 _ yd yd) _ _ hL.to.1 (.inr hF)
      have k2 : POK (men2 (men1 p (takenR p m)) p m) := POK_men2 k1 hp m
      unfold men3r; split
      · refine g2.put k2 _ _ hL.to.1 (.inr ?_)
        have := hL.p6; have := hL.pr; omega
      · exact g2
    · have ok := list14_ok hp h'
      have hc := list14_cast hp h'
      have hr := list14_rook hp h'
      have hs := side_pos hp hL ok.2.2.2.2.1
      have hg := goR_rng (sideR p m)
      unfold menR
      rw [if_pos ok.2.2.2.2.1]
      have k1 : POK (putB p (mF m) 0) := POK_put hp _ yd yd
      have k2 : POK (putB (putB p (mF m) 0) (mT m) 0) := POK_put k1 _ yd yd
      have k3 := POK_putP k2 (56 * tu p + (goR (sideR p m)).1) hp (mF m)
      exact (((f0.put hp _ _ hL.f.1 (.inl kind0)).put k1 _ _ hL.to.1 (.inl kind0)).put k2 _ _ yo (.inr (own' hc.1))).put k3 _ _ yo (.inr (own' hr))
  · have ok := list15_ok h'
    unfold menR
    rw [if_neg (by rw [ok.2.2.2.2.1]; simp), if_pos (by rw [decide_eq_false (show ¬ mD m = 0 by omega)]; rfl)]
    have hr := pkAt_rng hp (tu p) (mD m)
    have k1 : POK (setPk p (tu p) (mD m) (pkAt p (tu p) (mD m) - 1)) := POK_setPk hp _ _ yo yo
    have g1 : NoGain p (setPk p (tu p) (mD m) (pkAt p (tu p) (mD m) - 1)) := f0.same rfl
    exact g1.put k1 _ _ hL.to.1 (.inr yo)
omit hp h in
theorem bd_pocket (q : Pos) (tk : Int) : bd (pocketR p q m tk) = bd q := by
  unfold pocketR pk2
  repeat' split
  all_goals rfl
omit hp h in
theorem NoGain_blow {q : Pos} (hg : NoGain p q) (hq : POK q) (b : BitVec 64) : ∀ n, NoGain p (blowTo q b n)
  | 0 => hg
  | n + 1 => by
    rw [blowTo]; split
    · exact (NoGain_blow hg hq b n).put (POK_blowTo hq b n) _ _ yo (.inl kind0)
    · exact NoGain_blow hg hq b n
omit hp h in
theorem bd_rrJ (q : Pos) (tk c : Int) : ∀ j, bd (rrJ m tk q c j) = bd q
  | 0 => rfl
  | j + 1 => by
    have ih := bd_rrJ q tk c j
    rw [rrJ, rrSide]
    split
    · exact ih
    · split
      · exact ih
      · exact ih
omit hp h in
theorem bd_rrC (q : Pos) (tk : Int) : ∀ n, bd (rrC m tk q n) = bd q
  | 0 => rfl
  | n + 1 => (bd_rrJ _ tk _ 2).trans (bd_rrC q tk n)
omit hp h in
theorem bd_rights (q : Pos) (tk : Int) : bd (rightsR p q m tk) = bd q := by
  unfold rightsR
  rw [bd_rrC]
  unfold rr1; split <;> rfl
omit hp h in
theorem bd_last (q : Pos) : bd (mdE p (md9 p m q)) = bd q := by
  have e7 : bd (md7 p m q) = bd q := by unfold md7 md5; split <;> rfl
  have e8 : bd (md8 p m q) = bd q := by unfold md8; split <;> exact e7
  have e9 : bd (md9 p m q) = bd q := e8
  unfold mdE; split
  · exact e9
  · exact e9
omit hp h in
theorem tu_made : tu (madeR p m) = 1 - tu p := by
  unfold madeR mdE; split <;> rfl
theorem NoGain_made : NoGain p (madeR p m) := by
  obtain ⟨hm, hL⟩ := allR_lm hp h
  have g1 := NoGain_men hp h
  have k1 := POK_menR hp hm hL.toLMv (takenR p m)
  have g2 : NoGain p (md2 p m) := g1.same (bd_pocket _ _)
  have k2 : POK (md2 p m) := POK_pocketR k1 m _
  have g3 : NoGain p (md3 p m) := by
    unfold md3; split
    · exact NoGain_blow g2 k2 _ 64
    · exact g2
  have g4 : NoGain p (md4 p m) := g3.same (bd_rights _ _)
  exact g4.same (bd_last _)
end
theorem st_len {p : Pos} : (stR p).length ≤ (allR p).length := by
  unfold stR
  split
  · exact Nat.zero_le _
  · rw [List.length_map]
    unfold list17; split
    · exact Nat.zero_le _
    · unfold wouldR; split
      · exact Nat.zero_le _
      · split
        · exact Nat.le_trans (List.length_filter_le _ _) (List.length_take_le' _ _)
        · exact Nat.le_trans (List.length_filter_le _ _) (List.length_take_le' _ _)
theorem flat_bnd {α β : Type} (f : α → List β) (c : Nat) : ∀ l : List α, (∀ x ∈ l, (f x).length ≤ c) → (l.flatMap f).length ≤ l.length * c
  | [], _ => by simp
  | x :: l, h => by
    have := flat_bnd f c l fun y hy => h y (by simp [hy])
    have := h x (by simp)
    rw [List.flatMap_cons, List.length_append, List.length_cons, Nat.add_mul]; omega
theorem prod_bnd : ∀ x : Fin 65, (1730 - 27 * x.val) * (22 * x.val + 322) ≤ 1000000 := by decide
theorem lv2_len {p : Pos} (hp : POK p) : (lvR 2 p).length ≤ 1000000 := by
  have e : (lvR 2 p : List Pos) = (stR p).flatMap fun q => stR q := by
    rw [lv_front p 1]
    congr 1
    funext q
    show ([q] : List Pos).flatMap stR = stR q
    simp
  cases ht : thereR p with
  | false =>
    have : stR p = [] := by
      have h := @st_len p
      rw [not_there_all hp (by rw [ht]; rfl)] at h
      exact List.eq_nil_of_length_eq_zero (by simpa using h)
    rw [show lvR 2 p = _ from e, this]; simp
  | true =>
    have h0 := hp.tu
    have t1 := there_tu2 ht
    have hs := men_sum hp
    have ha := allR_cnt hp
    have r1 := menN_rng p (tu p)
    have r2 := menN_rng p (1 - tu p)
    have hcol : menN p (tu p) + menN p (1 - tu p) = menN p 0 + menN p 1 := by
      have : tu p = 0 ∨ tu p = 1 := by omega
      rcases this with e | e <;> rw [e]
      · rfl
      · exact Int.add_comm _ _
    have hz := cntF_rng (fun s => emptyR p (s : Int)) 64
    have hB : ∀ q ∈ stR p, (stR q).length ≤ 22 * (menN p (1 - tu p)).toNat + 322 := fun q hq => by
      unfold stR at hq
      split at hq
      · cases hq
      · obtain ⟨m, hm, rfl⟩ := List.mem_map.1 hq
        have hall := list17_mem hm
        obtain ⟨hmk, hL⟩ := allR_lm hp hall
        have hq : POK (madeR p m) := POK_madeR hp hmk hL.toLMv
        have h1 := @st_len (madeR p m)
        have h2 := allR_cnt hq
        have h3 := men_sum hq
        rw [tu_made] at h2
        have h4 : menN (madeR p m) (1 - tu p) ≤ menN p (1 - tu p) := cntF_mono fun s hs ho => NoGain_made hp hall (s : Int) yo yo ho
        have h5 := menN_rng (madeR p m) (tu p)
        have hcol : menN (madeR p m) (tu p) + menN (madeR p m) (1 - tu p) = menN (madeR p m) 0 + menN (madeR p m) 1 := by
          have : tu p = 0 ∨ tu p = 1 := by omega
          rcases this with e | e <;> rw [e]
          · rfl
          · exact Int.add_comm _ _
        omega
    have h1 := flat_bnd stR _ (stR p) hB
    have h2 := @st_len p
    have h3 := prod_bnd ⟨(menN p (1 - tu p)).toNat, by omega⟩
    simp only at h3
    have hA : (stR p).length ≤ 1730 - 27 * (menN p (1 - tu p)).toNat := by omega
    rw [show (lvR 2 p).length = ((stR p).flatMap fun q => stR q).length from congrArg List.length e]
    exact Nat.le_trans h1 (Nat.le_trans (Nat.mul_le_mul_right _ hA) h3)
theorem lv_len {p : Pos} (hp : POK p) : ∀ i : Nat, i ≤ 2 → (lvR i p).length ≤ 1000000
  | 0, _ => Nat.le_of_ble_eq_true rfl
  | 1, _ => by
    have h := @st_len p
    have h2 := allR_len p
    have e : (lvR 1 p : List Pos) = stR p := by
      show ([p] : List Pos).flatMap stR = stR p
      simp
    rw [show (lvR 1 p).length = (stR p).length from congrArg List.length e]
    omega
  | 2, _ => lv2_len hp
  | n + 3, h => by omega
end Go.Kw
set_option linter.unusedVariables false
set_option linter.unusedSimpArgs false
namespace Go.Kw
open Go.Proofs
set_option maxRecDepth 20000 in
theorem eqt37_ (d : Nat) : EqT Tryz.prog (d + 2) 37 (.ar 4 i64) := eqt_ar (d := d + 1) Tryz.underlying37 rfl rfl tok3 (eqt3_ d)
set_option maxRecDepth 20000 in
theorem eqt37 : EqT Tryz.prog 6 37 (.ar 4 i64) := eqt37_ 4
theorem eqg37 : Tryz.prog.eqGuardType Tryz.prog.depth 37 = false := by kernel_rfl

theorem ways_b {p : Pos} (hp : POK p) {d : Int} (h : d ≤ 2) : ∀ i : Nat, (i : Int) ≤ d → d ≤ 64 → ((waysP i p).length : Int) ≤ 1000000 := fun i h1 _ => by
  rw [ways_lv i hp]
  have := lv_len hp i yo
  exact Int.ofNat_le.2 this
theorem ways_law {p : Pos} (hp : POK p) {d : Int} (h : ((decide (2 < d) && decide (d ≤ 64)) || (decide (d = 2) && wideR p)) = false) : ∀ i : Nat, (i : Int) ≤ d → d ≤ 64 → ((waysP i p).length : Int) ≤ 1000000 := fun i h1 h2 => by
  refine ways_b hp (d := d) ?_ i h1 h2
  have := (Bool.or_eq_false_iff.1 h).1
  rw [decide_eq_true h2, Bool.and_true] at this
  exact Int.not_lt.1 (of_decide_eq_false this)
theorem deep_two {p : Pos} {dn : Nat} (h : ((decide (2 < (dn : Int)) && decide ((dn : Int) ≤ 64)) || (decide ((dn : Int) = 2) && wideR p)) = false) (hn : dn ≤ 64) : dn ≤ 2 := by
  have := (Bool.or_eq_false_iff.1 h).1
  rw [decide_eq_true (show (dn : Int) ≤ 64 by omega), Bool.and_true] at this
  have := Int.not_lt.1 (of_decide_eq_false this)
  omega
theorem start_list : (lvR 1 startP).length = 20 := by decide +kernel
theorem start_0 : countP startP 0 = (1, 0) := rfl
theorem start_1 : countP startP 1 = (20, 0) := by
  have h : (waysP 1 startP).length = 20 := by rw [ways_lv 1 startP_ok]; exact start_list
  show (((waysP 1 startP).length : Int), (0 : Int)) = (20, 0)
  rw [h]; rfl
theorem start_m : countP startP (-1) = (0, 2) := rfl
theorem law_arg {p : Pos} {d : Int} (h : (decide (d < 0) || decide (64 < d)) = true) : ((((decide ((countP p d).1 = 0) && decide ((countP p d).2 = 2)) && eqv (.ar 4 i64) (endsP p d).1 (zero (.ar 4 i64))) && decide ((endsP p d).2 = 2)) && true) = true := by
  unfold countP endsP
  rw [if_pos h, if_pos h]; rfl
theorem endsP_wf (p : Pos) (d : Int) : wf (.ar 4 i64) (endsP p d).1 := by
  unfold endsP; split
  · exact wf_zero _
  · exact ⟨tally_len _, fun _ _ => trivial⟩
theorem tallyX_len (qs : List (El posT)) : (tallyX qs).length = 4 := by
  rw [tlR_all qs _ (Nat.le_refl _)]; exact tlR_len _ _
theorem tallyX_rng {qs : List (El posT)} (h : qs.length ≤ 1000000) (i : Nat) : 0 ≤ gAt (tallyX qs) i ∧ gAt (tallyX qs) i ≤ 1000000 := by
  rw [tlR_all qs _ (Nat.le_refl _)]; exact tlR_rng _ _ h i
theorem tallyX_wf (qs : List (El posT)) : wf (.ar 4 i64) (tallyX qs) := ⟨tallyX_len qs, fun _ _ => trivial⟩
theorem law_two {p : Pos} (hp : POK p) {dn : Nat} (h2 : dn ≤ 2) : ((((decide ((countP p (dn : Int)).2 = 0) && decide ((endsP p (dn : Int)).2 = 0)) && eqv (.ar 4 i64) (endsP p (dn : Int)).1 (tallyX (lvR dn p))) && decide ((countP p (dn : Int)).1 = ((gAt (tallyX (lvR dn p)) 0 + gAt (tallyX (lvR dn p)) 1) + gAt (tallyX (lvR dn p)) 2) + gAt (tallyX (lvR dn p)) 3)) && true) = true := by
  have hn : (decide ((dn : Int) < 0) || decide (64 < (dn : Int))) = false := by
    rw [decide_eq_false (show ¬ (dn : Int) < 0 by omega), decide_eq_false (show ¬ 64 < (dn : Int) by omega)]; rfl
  have e1 : countP p (dn : Int) = (((lvR dn p).length : Int), 0) := by
    unfold countP
    rw [if_neg (by rw [hn]; simp), Int.toNat_natCast, ways_lv dn hp]
  have e2 : endsP p (dn : Int) = (tallyX (lvR dn p), 0) := by
    unfold endsP
    rw [if_neg (by rw [hn]; simp), Int.toNat_natCast, ways_lv dn hp, tally_ref _ (lvR_ok hp dn)]
  have e3 := sum_tally (lvR dn p) (lvR_ok hp dn)
  unfold sum4 at e3
  have e4 : eqv (.ar 4 i64) (tallyX (lvR dn p)) (tallyX (lvR dn p)) = true := (eqv_iff (.ar 4 i64) rfl _ _ (tallyX_wf _) (tallyX_wf _)).2 rfl
  have e5 : decide (((lvR dn p).length : Int) = ((gAt (tallyX (lvR dn p)) 0 + gAt (tallyX (lvR dn p)) 1) + gAt (tallyX (lvR dn p)) 2) + gAt (tallyX (lvR dn p)) 3) = true := decide_eq_true e3.symm
  rw [e1, e2]
  show ((((decide ((0 : Int) = 0) && decide ((0 : Int) = 0)) && eqv (.ar 4 i64) (tallyX (lvR dn p)) (tallyX (lvR dn p))) && decide (((lvR dn p).length : Int) = _)) && true) = true
  rw [e4, e5]; rfl

theorem c_law22_awake (M : List Fact) (hT : TAB ∈ M) : Pure Tryz.prog 7 [] M (.bool true) := by
 have hsw := startP_ok.wf
 refine pure_of_W (n := 49) Tryz.func7 rfl rfl yn ?_
 refine W_seq (W_reg ?_)
 refine yA_ ?_
 refine RO_nil ?_
 refine W_seq (W_regl fun w0 => ?_)
 refine yQ (yV rfl rfl rfl Tryz.call25 (c_rules_Start _)) ?_
 refine zM ?_
 refine yL (ov_extract rfl rfl rfl) ?_
 refine yL (ov_extract rfl rfl rfl) ?_
 refine LO_l rfl (by decide : 1 < 49) (ol_alloc (t := posT) rfl tok31 yf (fun b1 => ?_))
 refine LO_l rfl trivial (ol_sw0 rfl rfl rfl rfl yf tok31 ?_)
 refine zA ?_
 refine LO_nil ?_
 refine W_seq (W_reg ?_)
 refine yR (ov_load rfl rfl ye trivial rfl rfl tok31) ?_
 refine yP (yV rfl rfl rfl Tryz.call8 (c_perft_Count startP startP_ok 0 _ ye yd (ways_b startP_ok yd))) ?_
 refine yM ?_
 refine yR (ov_extract rfl rfl rfl) ?_
 refine yR (ov_extract rfl rfl rfl) ?_
 refine yA_ ?_
 refine yA_ ?_
 refine RO_nil ?_
 refine W_seq (W_reg ?_)
 refine yR (ov_load rfl rfl ye trivial rfl rfl tok31) ?_
 refine yP (yV rfl rfl rfl Tryz.call8 (c_perft_Count startP startP_ok 1 _ ye yd (ways_b startP_ok yd))) ?_
 refine yM ?_
 refine yR (ov_extract rfl rfl rfl) ?_
 refine yR (ov_extract rfl rfl rfl) ?_
 refine yA_ ?_
 refine yA_ ?_
 refine RO_nil ?_
 refine W_seq (W_reg ?_)
 refine yR (ov_load rfl rfl ye trivial rfl rfl tok31) ?_
 refine yP (yV rfl rfl rfl Tryz.call8 (c_perft_Count startP startP_ok (-1) _ ye yd (ways_b startP_ok yd))) ?_
 refine yM ?_
 refine yR (ov_extract rfl rfl rfl) ?_
 refine yR (ov_extract rfl rfl rfl) ?_
 refine yA_ ?_
 refine yA_ ?_
 refine RO_nil ?_
 refine W_seq (W_reg ?_)
 refine yM ?_
 refine yM ?_
 refine yG (fun hg => OpX.v (ov_move rfl rfl)) ?_
 refine yG (fun hg => OpX.v (ov_eql rfl (look_gv rfl (bq hg)) rfl)) ?_
 refine yR (ov_and rfl rfl rfl rfl (fun h => bq h)) ?_
 refine yM ?_
 refine yG (fun hg => OpX.v (ov_move rfl rfl)) ?_
 refine yG (fun hg => OpX.v (ov_eql rfl (look_gv rfl (bq hg)) rfl)) ?_
 refine yR (ov_and rfl rfl rfl rfl (fun h => bq h)) ?_
 refine yM ?_
 refine yG (fun hg => OpX.v (ov_move rfl rfl)) ?_
 refine yG (fun hg => OpX.v (ov_eql rfl (look_gv rfl (bq hg)) rfl)) ?_
 refine yR (ov_and rfl rfl rfl rfl (fun h => bq h)) ?_
 refine yM ?_
 refine yG (fun hg => OpX.v (ov_move rfl rfl)) ?_
 refine yG (fun hg => OpX.v (ov_eql rfl (look_gv rfl (bq hg)) rfl)) ?_
 refine yR (ov_and rfl rfl rfl rfl (fun h => bq h)) ?_
 refine yM ?_
 refine yG (fun hg => OpX.v (ov_move rfl rfl)) ?_
 refine yG (fun hg => OpX.v (ov_eql rfl (look_gv rfl (bq hg)) rfl)) ?_
 refine yR (ov_and rfl rfl rfl rfl (fun h => bq h)) ?_
 refine yA_ ?_
 refine RO_nil ?_
 refine W_ret ?_
 refine ⟨trivial, yb, (ResV_tmp1 rfl rfl ?_)⟩
 exact val_bool (by rw [start_0, start_1, start_m]; rfl)

theorem c_law22_PerftEnds (p : Pos) (hp : POK p) (d : Int) (M : List Fact) (hT : TAB ∈ M) (hd0 : -9223372036854775808 ≤ d) : Pure Tryz.prog 3 [enc posT p, .int .i64 d] M (.bool true) := by
 have hpw := hp.wf
 have hwe := endsP_wf p d
 refine pure_of_W (n := 84) Tryz.func3 rfl rfl yn ?_
 refine W_seq (W_regl fun w0 => ?_)
 refine LO_l rfl (by decide : 2 < 84) (ol_box (t := posT) rfl rfl rfl yf (fun b1 => ?_))
 refine zA ?_
 refine LO_nil ?_
 refine W_seq ?_
 refine W_seq (W_reg ?_)
 refine yM ?_
 refine yR (ov_gtr rfl rfl rfl) ?_
 refine yM ?_
 refine yG (fun hg => OpX.v (ov_move rfl rfl)) ?_
 refine yG (fun hg => OpX.v (ov_leq rfl (look_gv rfl (bq hg)) rfl)) ?_
 refine yR (ov_and rfl rfl rfl rfl (fun h => bq h)) ?_
 refine yM ?_
 refine yG (fun hg => OpX.v (ov_move rfl rfl)) ?_
 refine yG (fun hg => OpX.v (ov_eql rfl (look_gv rfl (bq hg)) rfl)) ?_
 refine yG (fun hg => OpX.v (ov_move rfl (look_gv rfl (bq hg)))) ?_
 refine RO_g rfl rfl rfl rfl rfl yd (fun hg1 hg2 => OpX.v (ov_load rfl rfl ye trivial rfl rfl tok31)) ?_
 refine RO_g rfl rfl rfl rfl rfl yd (fun hg1 hg2 => yV rfl rfl (looks_cons (look_gv rfl (bq2 hg1 hg2)) looks_nil) Tryz.call6 (c_law22_Wide p hp _)) ?_
 refine yG (fun hg => OpX.v (ov_and rfl (look_gv rfl (bq hg)) rfl rfl (fun h => bq2 (bq hg) h))) ?_
 refine yR (ov_or rfl rfl rfl rfl (fun h => bq h)) ?_
 refine RO_nil ?_
 refine W_cond rfl (fun hc1 => ?_) (fun hc1 => ?_)
 ·
  refine W_seq (W_reg ?_)
  refine yP (yV rfl rfl rfl Tryz.call7 (c_law22_awake _ ye)) ?_
  refine yA_ ?_
  refine RO_nil ?_
  refine W_ret ?_
  refine ⟨trivial, yb, (ResV_tmp1 rfl rfl ?_)⟩
  first | rfl | exact val_bool (law_arg hc2) | exact val_bool (law_two hp hd2)
 ·
  have hbn := ways_law hp hc1
  refine W_skip ?_
  refine W_seq (W_reg ?_)
  refine yR (ov_load rfl rfl ye trivial rfl rfl tok31) ?_
  refine yM ?_
  refine yP (yV rfl rfl rfl Tryz.call8 (c_perft_Count p hp d _ ye hd0 hbn)) ?_
  refine yM ?_
  refine yR (ov_extract rfl rfl rfl) ?_
  refine yR (ov_extract rfl rfl rfl) ?_
  refine yA_ ?_
  refine yA_ ?_
  refine RO_nil ?_
  refine W_seq (W_regl fun w0 => ?_)
  refine yL (ov_load rfl rfl ye trivial rfl rfl tok31) ?_
  refine zM ?_
  refine yQ (yV rfl rfl rfl Tryz.call9 (c_perft_Ends p hp d _ ye hd0 hbn)) ?_
  refine zM ?_
  refine yL (ov_extract rfl rfl rfl) ?_
  refine yL (ov_extract rfl rfl rfl) ?_
  refine LO_l rfl (by decide : 7 < 84) (ol_alloc (t := (.ar 4 i64)) rfl tok37 yf (fun b2 => ?_))
  refine LO_l rfl trivial (ol_sw0 rfl rfl rfl rfl yf tok37 ?_)
  refine zA ?_
  refine LO_nil ?_
  refine W_seq ?_
  refine W_seq (W_reg ?_)
  refine yM ?_
  refine yR (ov_lss rfl rfl rfl) ?_
  refine yM ?_
  refine yG (fun hg => OpX.v (ov_move rfl rfl)) ?_
  refine yG (fun hg => OpX.v (ov_gtr rfl (look_gv rfl (bq hg)) rfl)) ?_
  refine yR (ov_or rfl rfl rfl rfl (fun h => bq h)) ?_
  refine RO_nil ?_
  refine W_cond rfl (fun hc2 => ?_) (fun hc2 => ?_)
  ·
   refine W_seq (W_reg ?_)
   refine yM ?_
   refine yR (ov_eql rfl rfl rfl) ?_
   refine yM ?_
   refine yG (fun hg => OpX.v (ov_move rfl rfl)) ?_
   refine yG (fun hg => OpX.v (ov_eql rfl (look_gv rfl (bq hg)) rfl)) ?_
   refine yR (ov_and rfl rfl rfl rfl (fun h => bq h)) ?_
   refine yM ?_
   refine yG (fun hg => OpX.v (ov_load rfl rfl ye trivial rfl rfl tok37)) ?_
   refine yG (fun hg => OpX.v (ov_buildA (t := i64) (ds := []) rfl rfl bl37 trivial rfl)) ?_
   refine yG (fun hg => OpX.v (ov_eqlA (t := (.ar 4 i64)) (d := 6) rfl (look_gv rfl (bq hg)) (look_gv rfl (bq hg)) rfl yn eqt37 eqg37 yf yf)) ?_
   refine yR (ov_and rfl rfl rfl rfl (fun h => bq h)) ?_
   refine yM ?_
   refine yG (fun hg => OpX.v (ov_move rfl rfl)) ?_
   refine yG (fun hg => OpX.v (ov_eql rfl (look_gv rfl (bq hg)) rfl)) ?_
   refine yR (ov_and rfl rfl rfl rfl (fun h => bq h)) ?_
   refine yM ?_
   refine yG (fun hg => yV rfl rfl rfl Tryz.call7 (c_law22_awake _ ye)) ?_
   refine yR (ov_and rfl rfl rfl rfl (fun h => bq h)) ?_
   refine yA_ ?_
   refine RO_nil ?_
   refine W_ret ?_
   refine ⟨trivial, yb, (ResV_tmp1 rfl rfl ?_)⟩
   first | rfl | exact val_bool (law_arg hc2) | exact val_bool (law_two hp hd2)
  ·
   obtain ⟨dn, rfl, hdn⟩ := deep_nat hc2
   have hd2 := deep_two hc1 hdn
   have hln := lv_len hp dn hd2
   have hwx := tallyX_wf (lvR dn p)
   refine W_skip ?_
   refine W_seq (W_regl fun w0 => ?_)
   refine yL (ov_load rfl rfl ye trivial rfl rfl tok31) ?_
   refine zM ?_
   refine yQ (yV rfl rfl rfl Tryz.call10 (c_ref22_Ends p hp dn _ yo (fun i hi => lv_len hp i yo))) ?_
   refine LO_l rfl (by decide : 9 < 84) (ol_alloc (t := (.ar 4 i64)) rfl tok37 yf (fun b3 => ?_))
   refine LO_l rfl trivial (ol_sw0 rfl rfl rfl rfl yf tok37 ?_)
   refine LO_nil ?_
   refine W_seq (W_reg ?_)
   refine yM ?_
   refine yR (ov_eql rfl rfl rfl) ?_
   refine yM ?_
   refine yG (fun hg => OpX.v (ov_move rfl rfl)) ?_
   refine yG (fun hg => OpX.v (ov_eql rfl (look_gv rfl (bq hg)) rfl)) ?_
   refine yR (ov_and rfl rfl rfl rfl (fun h => bq h)) ?_
   refine yM ?_
   refine yG (fun hg => OpX.v (ov_load rfl rfl ye trivial rfl rfl tok37)) ?_
   refine yG (fun hg => OpX.v (ov_load rfl rfl ye trivial rfl rfl tok37)) ?_
   refine yG (fun hg => OpX.v (ov_eqlA (t := (.ar 4 i64)) (d := 6) rfl (look_gv rfl (bq hg)) (look_gv rfl (bq hg)) rfl yn eqt37 eqg37 yf yf)) ?_
   refine yR (ov_and rfl rfl rfl rfl (fun h => bq h)) ?_
   refine yM ?_
   refine yG (fun hg => OpX.v (ov_move rfl rfl)) ?_
   refine yG (fun hg => OpX.v (ov_load rfl rfl ye trivial rfl rfl tok37)) ?_
   refine yG (fun hg => yV rfl rfl (looks_cons (look_gv rfl (bq hg)) looks_nil) Tryz.call11 (c_law22_sum (tallyX (lvR dn p)) _ (tallyX_len _) (tallyX_rng hln))) ?_
   refine yG (fun hg => OpX.v (ov_eql rfl (look_gv rfl (bq hg)) (look_gv rfl (bq hg)))) ?_
   refine yR (ov_and rfl rfl rfl rfl (fun h => bq h)) ?_
   refine yM ?_
   refine yG (fun hg => yV rfl rfl rfl Tryz.call7 (c_law22_awake _ ye)) ?_
   refine yR (ov_and rfl rfl rfl rfl (fun h => bq h)) ?_
   refine yA_ ?_
   refine RO_nil ?_
   refine W_ret ?_
   refine ⟨trivial, yb, (ResV_tmp1 rfl rfl ?_)⟩
   first | rfl | exact val_bool (law_arg hc2) | exact val_bool (law_two hp hd2)
end Go.Kw
