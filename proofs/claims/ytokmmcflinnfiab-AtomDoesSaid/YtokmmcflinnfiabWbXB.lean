/- WbXB: a part of the proof. -/
import Derived.Test.YtokmmcflinnfiabWbX
set_option linter.unusedVariables false
set_option linter.unusedSimpArgs false
namespace Go.Wb
open Go

/-! ### How many bits -/
/-- the sum of n digits to the base 2^w -/
def ds (w : Nat) : Nat → Nat → Nat
  | 0, _ => 0
  | n + 1, x => x % 2 ^ w + ds w n (x / 2 ^ w)
def mk (w : Nat) : Nat → Nat
  | 0 => 0
  | n + 1 => 2 ^ (2 * w) * mk w n + (2 ^ w - 1)
theorem pow_pos' (w : Nat) : 0 < 2 ^ w := Nat.pow_pos (by decide)
theorem and_mk (w n x : Nat) : x &&& mk w (n + 1) = 2 ^ (2 * w) * ((x / 2 ^ (2 * w)) &&& mk w n) + x % 2 ^ w := by
  have hw : 2 ^ w - 1 < 2 ^ (2 * w) := by
    have h1 := pow_pos' w
    have h2 : 2 ^ w ≤ 2 ^ (2 * w) := Nat.pow_le_pow_right (by decide) (by omega)
    omega
  have hx : x % 2 ^ w < 2 ^ (2 * w) := by
    have h1 := Nat.mod_lt x (pow_pos' w)
    have h2 : 2 ^ w ≤ 2 ^ (2 * w) := Nat.pow_le_pow_right (by decide) (by omega)
    omega
  apply Nat.eq_of_testBit_eq
  intro j
  rw [Nat.testBit_and, mk, Nat.testBit_two_pow_mul_add _ hw, Nat.testBit_two_pow_mul_add _ hx]
  by_cases h : j < 2 * w
  · rw [if_pos h, if_pos h, Nat.testBit_two_pow_sub_one, Nat.testBit_mod_two_pow, Bool.and_comm]
  · rw [if_neg h, if_neg h, Nat.testBit_and, Nat.testBit_div_two_pow]
    congr 2
    omega
theorem mul_add_div' (a b c : Nat) (h : c < a) : (a * b + c) / a = b := by
  rw [Nat.mul_add_div (by omega), Nat.div_eq_of_lt h, Nat.add_zero]
theorem mul_add_mod' (a b c : Nat) (h : c < a) : (a * b + c) % a = c := by
  rw [Nat.mul_add_mod, Nat.mod_eq_of_lt h]
theorem ds_step (w : Nat) (hw : 0 < w) : ∀ (n x : Nat), ds (2 * w) n (((x / 2 ^ w) &&& mk w n) + (x &&& mk w n)) = ds w (2 * n) x
  | 0, x => rfl
  | n + 1, x => by
    have h1 := Nat.mod_lt x (pow_pos' w)
    have h2 := Nat.mod_lt (x / 2 ^ w) (pow_pos' w)
    have h3 : 2 * 2 ^ w ≤ 2 ^ (2 * w) := by
      have : 2 ^ (w + 1) ≤ 2 ^ (2 * w) := Nat.pow_le_pow_right (by decide) (by omega)
      rwa [Nat.pow_succ, Nat.mul_comm] at this
    have e1 : x / 2 ^ w / 2 ^ (2 * w) = x / 2 ^ (2 * w) / 2 ^ w := by rw [Nat.div_div_eq_div_mul, Nat.div_div_eq_div_mul, Nat.mul_comm]
    have e2 : x / 2 ^ w / 2 ^ w = x / 2 ^ (2 * w) := by rw [Nat.div_div_eq_div_mul, ← Nat.pow_add]; congr 2; omega
    have e : ((x / 2 ^ w) &&& mk w (n + 1)) + (x &&& mk w (n + 1)) = 2 ^ (2 * w) * (((x / 2 ^ (2 * w) / 2 ^ w) &&& mk w n) + ((x / 2 ^ (2 * w)) &&& mk w n)) + (x % 2 ^ w + (x / 2 ^ w) % 2 ^ w) := by
      rw [and_mk, and_mk, e1, Nat.mul_add]; omega
    have h5 := ds_step w hw n (x / 2 ^ (2 * w))
    show ds (2 * w) (n + 1) _ = ds w (2 * n + 2) x
    rw [e, ds, mul_add_mod' _ _ _ (by omega), mul_add_div' _ _ _ (by omega), h5]
    show _ = x % 2 ^ w + (x / 2 ^ w % 2 ^ w + ds w (2 * n) (x / 2 ^ w / 2 ^ w))
    rw [e2]; omega
/-- all digits to the base 16 are 4 at most -/
def le4 : Nat → Nat → Prop
  | 0, x => x = 0
  | n + 1, x => x % 16 ≤ 4 ∧ le4 n (x / 16)
theorem ds_nib : ∀ (n x : Nat), le4 (2 * n) x → ds 8 n ((x / 16 + x) &&& mk 4 n) = ds 4 (2 * n) x ∧ ((x / 16 + x) &&& mk 4 n) < 256 ^ n ∧ ∀ k, k < n → ((x / 16 + x) &&& mk 4 n) / 256 ^ k % 256 ≤ 8
  | 0, x, h => by simp [ds, mk]
  | n + 1, x, h => by
    obtain ⟨h1, h2, h3⟩ : x % 16 ≤ 4 ∧ x / 16 % 16 ≤ 4 ∧ le4 (2 * n) (x / 16 / 16) := h
    have e2 : x / 16 / 16 = x / 256 := by omega
    rw [e2] at h3
    have h6 : x / 256 % 16 ≤ 4 := by
      cases n with
      | zero => have : x / 256 = 0 := h3; omega
      | succ n => exact h3.1
    have ea : (x / 16 + x) / 256 = x / 256 / 16 + x / 256 := by omega
    have em : (x / 16 + x) % 16 = x % 16 + x / 16 % 16 := by omega
    obtain ⟨i1, i2, i3⟩ := ds_nib n (x / 256) h3
    have e : (x / 16 + x) &&& mk 4 (n + 1) = 256 * ((x / 256 / 16 + x / 256) &&& mk 4 n) + (x % 16 + x / 16 % 16) := by
      rw [and_mk]
      show 256 * (((x / 16 + x) / 256) &&& mk 4 n) + (x / 16 + x) % 16 = _
      rw [ea, em]
    rw [e]
    generalize (x / 256 / 16 + x / 256) &&& mk 4 n = y at *
    refine ⟨?_, ?_, ?_⟩
    · show (256 * y + (x % 16 + x / 16 % 16)) % 256 + ds 8 n ((256 * y + (x % 16 + x / 16 % 16)) / 256) = x % 16 + (x / 16 % 16 + ds 4 (2 * n) (x / 16 / 16))
      rw [e2, ← i1]
      have h7 : (256 * y + (x % 16 + x / 16 % 16)) % 256 = x % 16 + x / 16 % 16 := by omega
      have h8 : (256 * y + (x % 16 + x / 16 % 16)) / 256 = y := by omega
      rw [h7, h8]; omega
    · rw [Nat.pow_succ]
      generalize 256 ^ n = p at *
      omega
    · intro k hk
      cases k with
      | zero => rw [Nat.pow_zero, Nat.div_one]; omega
      | succ k =>
        have h8 : (256 * y + (x % 16 + x / 16 % 16)) / 256 = y := by omega
        rw [Nat.pow_succ, Nat.mul_comm (256 ^ k), ← Nat.div_div_eq_div_mul, h8]
        exact i3 k (by omega)
/-- pairs, and then pairs of them, are small -/
theorem le4_step : ∀ (n x : Nat), x < 16 ^ n → (∀ k, k < n → x / 16 ^ k % 16 ≤ 4) → le4 n x
  | 0, x, h, _ => by simpa [le4] using h
  | n + 1, x, h, hk => by
    refine ⟨by have := hk 0 (by omega); simpa using this, le4_step n (x / 16) ?_ fun k h1 => ?_⟩
    · rw [Nat.pow_succ] at h
      generalize 16 ^ n = p at *
      omega
    · have := hk (k + 1) (by omega)
      rwa [Nat.pow_succ, Nat.mul_comm (16 ^ k), ← Nat.div_div_eq_div_mul] at this
/-- the sum of two masked parts: each digit is small -/
theorem sum_mk (w : Nat) (hw : 0 < w) : ∀ (n x : Nat), (((x / 2 ^ w) &&& mk w n) + (x &&& mk w n)) < (2 ^ (2 * w)) ^ n ∧ ∀ k, k < n → ∃ a b, a < 2 ^ w ∧ b < 2 ^ w ∧ (((x / 2 ^ w) &&& mk w n) + (x &&& mk w n)) / (2 ^ (2 * w)) ^ k % 2 ^ (2 * w) = x / (2 ^ (2 * w)) ^ k % 2 ^ w + x / (2 ^ (2 * w)) ^ k / 2 ^ w % 2 ^ w
  | 0, x => by simp [mk]
  | n + 1, x => by
    have h1 := Nat.mod_lt x (pow_pos' w)
    have h2 := Nat.mod_lt (x / 2 ^ w) (pow_pos' w)
    have h3 : 2 * 2 ^ w ≤ 2 ^ (2 * w) := by
      have : 2 ^ (w + 1) ≤ 2 ^ (2 * w) := Nat.pow_le_pow_right (by decide) (by omega)
      rwa [Nat.pow_succ, Nat.mul_comm] at this
    have e1 : x / 2 ^ w / 2 ^ (2 * w) = x / 2 ^ (2 * w) / 2 ^ w := by rw [Nat.div_div_eq_div_mul, Nat.div_div_eq_div_mul, Nat.mul_comm]
    have e : ((x / 2 ^ w) &&& mk w (n + 1)) + (x &&& mk w (n + 1)) = 2 ^ (2 * w) * (((x / 2 ^ (2 * w) / 2 ^ w) &&& mk w n) + ((x / 2 ^ (2 * w)) &&& mk w n)) + (x % 2 ^ w + (x / 2 ^ w) % 2 ^ w) := by
      rw [and_mk, and_mk, e1, Nat.mul_add]; omega
    obtain ⟨i1, i2⟩ := sum_mk w hw n (x / 2 ^ (2 * w))
    rw [e]
    generalize (((x / 2 ^ (2 * w) / 2 ^ w) &&& mk w n) + ((x / 2 ^ (2 * w)) &&& mk w n)) = y at *
    generalize 2 ^ (2 * w) = q at *
    refine ⟨?_, fun k hk => ?_⟩
    · have h4 : (y + 1) * q ≤ q ^ n * q := Nat.mul_le_mul_right _ i1
      rw [Nat.pow_succ]
      have : (y + 1) * q = q * y + q := by rw [Nat.add_mul, Nat.one_mul, Nat.mul_comm]
      omega
    · cases k with
      | zero => exact ⟨x % 2 ^ w, x / 2 ^ w % 2 ^ w, h1, h2, by rw [Nat.pow_zero, Nat.div_one, Nat.div_one, mul_add_mod' _ _ _ (by omega)]⟩
      | succ k =>
        obtain ⟨a, b, ha, hb, hab⟩ := i2 k (by omega)
        refine ⟨a, b, ha, hb, ?_⟩
        rw [Nat.pow_succ, Nat.mul_comm (q ^ k), ← Nat.div_div_eq_div_mul, mul_add_div' _ _ _ (by omega), hab, ← Nat.div_div_eq_div_mul]
theorem bytes_sum (c : Nat) (h : c < 256 ^ 8) (hk : ∀ k, k < 8 → c / 256 ^ k % 256 ≤ 8) : (c + c / 256 + (c + c / 256) / 65536 + (c + c / 256 + (c + c / 256) / 65536) / 4294967296) % 128 = ds 8 8 c ∧ c + c / 256 < 18446744073709551616 ∧ c + c / 256 + (c + c / 256) / 65536 < 18446744073709551616 ∧ c + c / 256 + (c + c / 256) / 65536 + (c + c / 256 + (c + c / 256) / 65536) / 4294967296 < 18446744073709551616 := by
  have k0 := hk 0 (by omega)
  have k1 := hk 1 (by omega)
  have k2 := hk 2 (by omega)
  have k3 := hk 3 (by omega)
  have k4 := hk 4 (by omega)
  have k5 := hk 5 (by omega)
  have k6 := hk 6 (by omega)
  have k7 := hk 7 (by omega)
  simp only [Nat.reducePow, Nat.div_one] at k0 k1 k2 k3 k4 k5 k6 k7 h
  simp only [ds, Nat.reducePow]
  obtain ⟨b0, e0⟩ : ∃ b, b = c % 256 := ⟨_, rfl⟩
  obtain ⟨b1, e1⟩ : ∃ b, b = c / 256 % 256 := ⟨_, rfl⟩
  obtain ⟨b2, e2⟩ : ∃ b, b = c / 65536 % 256 := ⟨_, rfl⟩
  obtain ⟨b3, e3⟩ : ∃ b, b = c / 16777216 % 256 := ⟨_, rfl⟩
  obtain ⟨b4, e4⟩ : ∃ b, b = c / 4294967296 % 256 := ⟨_, rfl⟩
  obtain ⟨b5, e5⟩ : ∃ b, b = c / 1099511627776 % 256 := ⟨_, rfl⟩
  obtain ⟨b6, e6⟩ : ∃ b, b = c / 281474976710656 % 256 := ⟨_, rfl⟩
  obtain ⟨b7, e7⟩ : ∃ b, b = c / 72057594037927936 % 256 := ⟨_, rfl⟩
  have ec : c = b0 + 256 * b1 + 65536 * b2 + 16777216 * b3 + 4294967296 * b4 + 1099511627776 * b5 + 281474976710656 * b6 + 72057594037927936 * b7 := by omega
  have h0 : b0 ≤ 8 := by omega
  have h1 : b1 ≤ 8 := by omega
  have h2 : b2 ≤ 8 := by omega
  have h3 : b3 ≤ 8 := by omega
  have h4 : b4 ≤ 8 := by omega
  have h5 : b5 ≤ 8 := by omega
  have h6 : b6 ≤ 8 := by omega
  have h7 : b7 ≤ 8 := by omega
  have s : c % 256 + (c / 256 % 256 + (c / 256 / 256 % 256 + (c / 256 / 256 / 256 % 256 + (c / 256 / 256 / 256 / 256 % 256 + (c / 256 / 256 / 256 / 256 / 256 % 256 + (c / 256 / 256 / 256 / 256 / 256 / 256 % 256 + (c / 256 / 256 / 256 / 256 / 256 / 256 / 256 % 256 + 0))))))) = b0 + b1 + b2 + b3 + b4 + b5 + b6 + b7 := by
    clear hk
    simp only [Nat.div_div_eq_div_mul, Nat.reduceMul]
    omega
  rw [s]
  clear s k0 k1 k2 k3 k4 k5 k6 k7 e0 e1 e2 e3 e4 e5 e6 e7 hk
  have d1 : c / 256 = b1 + 256 * b2 + 65536 * b3 + 16777216 * b4 + 4294967296 * b5 + 1099511627776 * b6 + 281474976710656 * b7 := by omega
  obtain ⟨y, hy⟩ : ∃ y, y = c + c / 256 := ⟨_, rfl⟩
  have y1 : y = (b0 + b1) + 256 * (b1 + b2) + 65536 * (b2 + b3) + 16777216 * (b3 + b4) + 4294967296 * (b4 + b5) + 1099511627776 * (b5 + b6) + 281474976710656 * (b6 + b7) + 72057594037927936 * b7 := by omega
  rw [← hy]
  clear hy d1 ec h
  obtain ⟨z, hz⟩ : ∃ z, z = y / 65536 := ⟨_, rfl⟩
  have z1 : z = (b2 + b3) + 256 * (b3 + b4) + 65536 * (b4 + b5) + 16777216 * (b5 + b6) + 4294967296 * (b6 + b7) + 1099511627776 * b7 := by omega
  rw [← hz]
  clear hz
  obtain ⟨v, hv⟩ : ∃ v, v = (y + z) / 4294967296 := ⟨_, rfl⟩
  have v1 : v = (b4 + b5 + b6 + b7) + 256 * (b5 + b6 + b7) + 65536 * (b6 + b7) + 16777216 * b7 := by omega
  rw [← hv]
  clear hv
  refine ⟨?_, by omega, by omega, by omega⟩
  have : y + z + v = (b0 + b1 + b2 + b3 + b4 + b5 + b6 + b7) + 128 * (2 * (b1 + b2 + b3 + b4 + b5 + b6 + b7) + 512 * (b2 + b3 + b4 + b5 + b6 + b7) + 131072 * (b3 + b4 + b5 + b6 + b7) + 33554432 * (b4 + b5 + b6 + b7) + 8589934592 * (b5 + b6 + b7) + 2199023255552 * (b6 + b7) + 562949953421312 * b7) := by omega
  rw [this, Nat.add_mul_mod_self_left]
  omega
theorem mk1 : mk 1 32 = 6148914691236517205 := by decide
theorem mk2 : mk 2 16 = 3689348814741910323 := by decide
theorem mk4 : mk 4 8 = 1085102592571150095 := by decide
theorem swar (x : Nat) (hx : x < 2 ^ 64) :
    let a := ((x / 2 &&& 6148914691236517205) + (x &&& 6148914691236517205))
    let b := ((a / 4 &&& 3689348814741910323) + (a &&& 3689348814741910323))
    let c := ((b / 16 + b) &&& 1085102592571150095)
    let d := c + c / 256
    let e := d + d / 65536
    let f := e + e / 4294967296
    f % 128 = ds 1 64 x ∧ a < 18446744073709551616 ∧ b < 18446744073709551616 ∧ b / 16 + b < 18446744073709551616 ∧ d < 18446744073709551616 ∧ e < 18446744073709551616 ∧ f < 18446744073709551616 := by
  intro a b c d e f
  have s1 := ds_step 1 (by decide) 32 x
  have t1 := sum_mk 1 (by decide) 32 x
  have s2 := ds_step 2 (by decide) 16 a
  have t2 := sum_mk 2 (by decide) 16 a
  rw [mk1] at s1 t1
  rw [mk2] at s2 t2
  have ha : a < 18446744073709551616 := t1.1
  have hb : b < 18446744073709551616 := t2.1
  have da : ∀ k, k < 32 → a / 4 ^ k % 4 ≤ 2 := fun k hk => by
    obtain ⟨p, q, hp, hq, e⟩ := t1.2 k hk
    have e' : a / 4 ^ k % 4 = x / 4 ^ k % 2 + x / 4 ^ k / 2 % 2 := e
    omega
  have db : ∀ k, k < 16 → b / 16 ^ k % 16 ≤ 4 := fun k hk => by
    obtain ⟨p, q, hp, hq, e⟩ := t2.2 k hk
    have e' : b / 16 ^ k % 16 = a / 16 ^ k % 4 + a / 16 ^ k / 4 % 4 := e
    have h1 := da (2 * k) (by omega)
    have h2 := da (2 * k + 1) (by omega)
    rw [Nat.pow_mul] at h1
    rw [Nat.pow_succ, Nat.pow_mul, ← Nat.div_div_eq_div_mul] at h2
    simp only [Nat.reducePow] at h1 h2
    omega
  have hle := le4_step 16 b (by simpa using hb) db
  obtain ⟨n1, n2, n3⟩ := ds_nib 8 b hle
  rw [mk4] at n1 n2 n3
  have hc := bytes_sum c n2 n3
  have hbb : b / 16 + b < 18446744073709551616 := by
    have h15 := db 15 (by omega)
    simp only [Nat.reducePow] at h15
    omega
  refine ⟨?_, ha, hb, hbb, hc.2.1, hc.2.2.1, hc.2.2.2⟩
  rw [hc.1, n1]
  exact s2.trans s1
/-- the digits to the base 2 are the bits -/
theorem ds_bits : ∀ (n x : Nat), ds 1 n x = ((List.range n).filter (fun i => x.testBit i)).length
  | 0, x => rfl
  | n + 1, x => by
    rw [ds, ds_bits n, List.range_succ_eq_map, List.filter_cons]
    have e : ((List.range n).map Nat.succ).filter (fun i => x.testBit i) = ((List.range n).filter (fun i => (x / 2 ^ 1).testBit i)).map Nat.succ := by
      rw [List.filter_map]
      congr 1
      apply List.filter_congr
      intro i _
      simp [Nat.testBit_succ]
    rw [e]
    have h0 : x.testBit 0 = decide (x % 2 = 1) := by simp [Nat.testBit_zero]
    rw [h0]
    by_cases h : x % 2 = 1
    · simp [h]; omega
    · have : x % 2 = 0 := by omega
      simp [this]
end Go.Wb
