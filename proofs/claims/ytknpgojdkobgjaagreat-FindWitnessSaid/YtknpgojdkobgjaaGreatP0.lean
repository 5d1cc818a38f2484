/- A part of the proof. -/
import Derived.Test.YtknpgojdkobgjaaGreatG2
set_option linter.unusedVariables false
set_option linter.unusedSimpArgs false
namespace Go.Proofs.YtknpgojdkobgjaaGreat.W
open Go Go.Wb
end Go.Proofs.YtknpgojdkobgjaaGreat.W
set_option linter.unusedVariables false
set_option linter.unusedSimpArgs false
namespace Go.Proofs.YtknpgojdkobgjaaGreat.W
open Go Go.Wb
section sym
variable (lt : Action → Action → Bool) (cmp : Action → Action → Option Int)
variable {lt cmp}
end sym
end Go.Proofs.YtknpgojdkobgjaaGreat.W
set_option linter.unusedVariables false
set_option linter.unusedSimpArgs false
namespace Go.Proofs.YtknpgojdkobgjaaGreat.W
open Go Go.Wb
section sym
variable {lt : Action → Action → Bool} {cmp : Action → Action → Option Int}
end sym
end Go.Proofs.YtknpgojdkobgjaaGreat.W
set_option linter.unusedVariables false
set_option linter.unusedSimpArgs false
namespace Go.Proofs.YtknpgojdkobgjaaGreat.W
open Go Go.Wb
section ins
variable {lt : Action → Action → Bool} {cmp : Action → Action → Option Int}
end ins
end Go.Proofs.YtknpgojdkobgjaaGreat.W
set_option linter.unusedVariables false
set_option linter.unusedSimpArgs false
namespace Go.Proofs.YtknpgojdkobgjaaGreat.W
open Go Go.Wb
section stable
variable {lt : Action → Action → Bool} {cmp : Action → Action → Option Int}
end stable
end Go.Proofs.YtknpgojdkobgjaaGreat.W
set_option linter.unusedVariables false
set_option linter.unusedSimpArgs false
namespace Go.Proofs.YtknpgojdkobgjaaGreat.W
open Go Go.Wb
def wand (a b : Wide) : Wide := ⟨a.Hi &&& b.Hi, a.Lo &&& b.Lo⟩
def wor (a b : Wide) : Wide := ⟨a.Hi ||| b.Hi, a.Lo ||| b.Lo⟩
def wxor (a b : Wide) : Wide := ⟨a.Hi ^^^ b.Hi, a.Lo ^^^ b.Lo⟩
def wless (a b : Wide) : Wide := ⟨a.Hi &&& ~~~b.Hi, a.Lo &&& ~~~b.Lo⟩
def wt (a : Wide) (i : Nat) : Bool := bif Nat.blt i 64 then a.Lo.getLsbD i else a.Hi.getLsbD (i - 64)
def wbit (i : Nat) : Wide := bif Nat.blt i 64 then ⟨0, 1#64 <<< i⟩ else ⟨1#64 <<< (i - 64), 0⟩
theorem blt_t {i n : Nat} (h : i < n) : Nat.blt i n = true := by simpa using h
theorem blt_f {i n : Nat} (h : ¬ i < n) : Nat.blt i n = false := by
  cases hb : Nat.blt i n
  · rfl
  · exact absurd (by simpa using hb) h
theorem wt_ext {a b : Wide} (h : ∀ i, i < 128 → wt a i = wt b i) : a = b := by
  obtain ⟨ah, al⟩ := a
  obtain ⟨bh, bl⟩ := b
  have h1 : ah = bh := BitVec.eq_of_getLsbD_eq fun i hi => by
    have := h (i + 64) (by omega)
    unfold wt at this
    rw [blt_f (by omega)] at this
    simpa using this
  have h2 : al = bl := BitVec.eq_of_getLsbD_eq fun i hi => by
    have := h i (by omega)
    unfold wt at this
    rw [blt_t (by omega)] at this
    simpa using this
  rw [h1, h2]
theorem wt_and (a b : Wide) (i : Nat) : wt (wand a b) i = (wt a i && wt b i) := by
  unfold wt wand
  cases Nat.blt i 64 <;> simp
theorem wt_or (a b : Wide) (i : Nat) : wt (wor a b) i = (wt a i || wt b i) := by
  unfold wt wor
  cases Nat.blt i 64 <;> simp
theorem wt_xor (a b : Wide) (i : Nat) : wt (wxor a b) i = (wt a i != wt b i) := by
  unfold wt wxor
  cases Nat.blt i 64 <;> simp
theorem wt_less (a b : Wide) (i : Nat) (h : i < 128) : wt (wless a b) i = (wt a i && !wt b i) := by
  unfold wt wless
  by_cases hi : i < 64
  · rw [blt_t hi]; simp [hi]
  · rw [blt_f hi]; simp [show i - 64 < 64 by omega]
theorem wt_zero (i : Nat) : wt zWide i = false := by
  unfold wt zWide
  cases Nat.blt i 64 <;> simp
theorem wt_bit (i j : Nat) (hi : i < 128) (hj : j < 128) : wt (wbit i) j = decide (i = j) := by
  unfold wt wbit
  by_cases h1 : i < 64
  · rw [blt_t h1, cond_true]
    by_cases h2 : j < 64
    · rw [blt_t h2, cond_true, BitVec.getLsbD_shiftLeft]
      by_cases e : i = j
      · subst e; simp [h2]
      · simp [h2, e, BitVec.getLsbD_one]; omega
    · rw [blt_f h2, cond_false]
      have : i ≠ j := by omega
      simp [this]
  · rw [blt_f h1, cond_false]
    by_cases h2 : j < 64
    · rw [blt_t h2, cond_true]
      have : i ≠ j := by omega
      simp [this]
    · rw [blt_f h2, cond_false, BitVec.getLsbD_shiftLeft]
      by_cases e : i = j
      · subst e; simp [show i - 64 < 64 by omega]
      · simp [show j - 64 < 64 by omega, e, BitVec.getLsbD_one]; omega
def wzero (a : Wide) : Bool := decide ((a.Hi ||| a.Lo) = (0 : BitVec 64))
theorem wzero_iff (a : Wide) : wzero a = true ↔ ∀ i, i < 128 → wt a i = false := by
  unfold wzero
  rw [decide_eq_true_eq]
  constructor
  · intro h i hi
    have hb : ∀ j, (a.Hi.getLsbD j || a.Lo.getLsbD j) = false := fun j => by rw [← BitVec.getLsbD_or, h]; simp
    unfold wt
    by_cases h1 : i < 64
    · rw [blt_t h1, cond_true]
      have := hb i
      simp only [Bool.or_eq_false_iff] at this
      exact this.2
    · rw [blt_f h1, cond_false]
      have := hb (i - 64)
      simp only [Bool.or_eq_false_iff] at this
      exact this.1
  · intro h
    apply BitVec.eq_of_getLsbD_eq
    intro j hj
    have h1 := h j (by omega)
    have h2 := h (j + 64) (by omega)
    unfold wt at h1 h2
    rw [blt_t hj] at h1
    rw [blt_f (by omega)] at h2
    simp at h1 h2
    simp [h1, h2]
theorem wzero_eq (a : Wide) : wzero a = decide (a = zWide) := by
  rw [Bool.eq_iff_iff, wzero_iff, decide_eq_true_eq]
  constructor
  · intro h
    exact wt_ext fun i hi => by rw [h i hi, wt_zero]
  · rintro rfl i _
    exact wt_zero i
theorem wzero_false {a : Wide} : wzero a = false ↔ ∃ i, i < 128 ∧ wt a i = true := by
  rw [← Bool.not_eq_true, wzero_iff]
  constructor
  · intro h
    apply Classical.byContradiction
    intro hn
    exact h fun i hi => by
      cases hw : wt a i
      · rfl
      · exact absurd ⟨i, hi, hw⟩ hn
  · rintro ⟨i, hi, hw⟩ h
    rw [h i hi] at hw; cases hw
theorem has_bit (a : Wide) (i : Nat) (h : i < 128) : (!wzero (wand a (wbit i))) = wt a i := by
  cases hw : wt a i
  · have : wzero (wand a (wbit i)) = true := by
      rw [wzero_iff]
      intro j hj
      rw [wt_and, wt_bit i j h hj]
      by_cases e : i = j
      · subst e; rw [hw]; rfl
      · simp [e]
    rw [this]; rfl
  · have : wzero (wand a (wbit i)) = false := by
      rw [wzero_false]
      exact ⟨i, h, by rw [wt_and, wt_bit i i h h, hw]; simp⟩
    rw [this]; rfl
theorem oushl_nat (x : BitVec 64) (n : Nat) : oushl x (n : Int) = some (x <<< n) := by
  unfold oushl
  rw [decide_eq_false (by omega)]
  simp
theorem oushr_nat (x : BitVec 64) (n : Nat) : oushr x (n : Int) = some (x >>> n) := by
  unfold oushr
  rw [decide_eq_false (by omega)]
  simp
theorem F_wide_And_eq (a b : Wide) : F_wide_And a b = some (wand a b) := rfl
theorem F_wide_Or_eq (a b : Wide) : F_wide_Or a b = some (wor a b) := rfl
theorem F_wide_Less_eq (a b : Wide) : F_wide_Less a b = some (wless a b) := rfl
theorem F_wide_Bit_eq (i : Nat) (h : i < 128) : F_wide_Bit (i : Int) = some (wbit i) := by
  unfold F_wide_Bit
  have h1 : (decide ((i : Int) < 0) || decide ((i : Int) > 127)) = false := by simp; omega
  have hq : oquo .i64 (i : Int) 64 = some ((i / 64 : Nat) : Int) := by
    unfold oquo
    rw [decide_eq_false (by decide)]
    show some (IntKind.i64.wrap ((i / 64 : Nat) : Int)) = _
    rw [wrap_i64 (by omega) (by omega)]
  have hm : omod (i : Int) 64 = some ((i % 64 : Nat) : Int) := omod_nat i 64 (by omega)
  rw [h1, cond_false, hq, Option.bind_some, hm, Option.bind_some, oushl_nat, Option.bind_some, chk_nat (by omega), Option.bind_some]
  unfold wbit
  by_cases h2 : i < 64
  · rw [blt_t h2, cond_true]
    have e1 : i / 64 = 0 := by omega
    have e2 : i % 64 = i := by omega
    simp only [e1, e2]
    rfl
  · rw [blt_f h2, cond_false]
    have e1 : i / 64 = 1 := by omega
    have e2 : i % 64 = i - 64 := by omega
    simp only [e1, e2]
    rfl
abbrev Cube := Vector Tern 24
abbrev Header := Vector Wide 24
def tclean (t : Tern) : Tern := ⟨wand t.Value t.Mask, t.Mask⟩
theorem F_tern_Clean_eq (t : Tern) : F_tern_Clean t = some (tclean t) := rfl
def cclean (c : Cube) : Cube := Vector.ofFn fun i => tclean (ve c i.1)
theorem ve_cclean (c : Cube) (i : Nat) (h : i < 24) : ve (cclean c) i = tclean (ve c i) := ve_ofFn (fun i => tclean (ve c i)) i h
def none24 : Cube := Vector.replicate 24 zTern
end Go.Proofs.YtknpgojdkobgjaaGreat.W
set_option linter.unusedVariables false
set_option linter.unusedSimpArgs false
namespace Go.Proofs.YtknpgojdkobgjaaGreat.W
open Go Go.Wb
end Go.Proofs.YtknpgojdkobgjaaGreat.W
set_option linter.unusedVariables false
set_option linter.unusedSimpArgs false
namespace Go.Proofs.YtknpgojdkobgjaaGreat.W
open Go Go.Wb
end Go.Proofs.YtknpgojdkobgjaaGreat.W
set_option linter.unusedVariables false
set_option linter.unusedSimpArgs false
namespace Go.Proofs.YtknpgojdkobgjaaGreat.W
open Go Go.Wb
end Go.Proofs.YtknpgojdkobgjaaGreat.W
set_option linter.unusedVariables false
set_option linter.unusedSimpArgs false
namespace Go.Proofs.YtknpgojdkobgjaaGreat.W
open Go Go.Wb
theorem F_r02_And_eq (a b : Wide) : F_r02_And a b = some (wand a b) := rfl
theorem F_r02_Or_eq (a b : Wide) : F_r02_Or a b = some (wor a b) := rfl
theorem F_r02_Less_eq (a b : Wide) : F_r02_Less a b = some (wless a b) := rfl
theorem inc (n : Nat) (h : n < 9223372036854775807) : IntKind.i64.wrap ((n : Int) + 1) = ((n + 1 : Nat) : Int) := by rw [wrap_i64 (by omega) (by omega)]; omega
end Go.Proofs.YtknpgojdkobgjaaGreat.W
set_option linter.unusedVariables false
set_option linter.unusedSimpArgs false
namespace Go.Proofs.YtknpgojdkobgjaaGreat.W
open Go Go.Wb
end Go.Proofs.YtknpgojdkobgjaaGreat.W
set_option linter.unusedVariables false
set_option linter.unusedSimpArgs false
namespace Go.Proofs.YtknpgojdkobgjaaGreat.W
open Go Go.Wb
end Go.Proofs.YtknpgojdkobgjaaGreat.W
set_option linter.unusedVariables false
set_option linter.unusedSimpArgs false
namespace Go.Proofs.YtknpgojdkobgjaaGreat.W
open Go Go.Wb
end Go.Proofs.YtknpgojdkobgjaaGreat.W
set_option linter.unusedVariables false
set_option linter.unusedSimpArgs false
namespace Go.Proofs.YtknpgojdkobgjaaGreat.W
open Go Go.Wb
end Go.Proofs.YtknpgojdkobgjaaGreat.W
set_option linter.unusedVariables false
set_option linter.unusedSimpArgs false
namespace Go.Proofs.YtknpgojdkobgjaaGreat.W
open Go Go.Wb
theorem F_r02_Xor_eq (a b : Wide) : F_r02_Xor a b = some (wxor a b) := rfl
theorem F_wide_Zero_eq (a : Wide) : F_wide_Zero a = some (wzero a) := rfl
theorem F_r02_Zero_eq (a : Wide) : F_r02_Zero a = some (wzero a) := by
  unfold F_r02_Zero
  congr 1
  rw [wzero_eq, Bool.eq_iff_iff]
  obtain ⟨h, l⟩ := a
  simp [zWide]
theorem bvn (i : Nat) (h : i < 18446744073709551616) : ((BitVec.ofInt 64 (i : Int)).toNat : Int) = (i : Int) := by
  rw [BitVec.toNat_ofInt]; omega
theorem F_r02_Bit_eq (i : Nat) (h : i < 128) : F_r02_Bit (i : Int) = some (wbit i) := by
  unfold F_r02_Bit
  have h1 : (decide ((i : Int) < 0) || decide ((i : Int) > 127)) = false := by simp; omega
  rw [h1, cond_false]
  unfold wbit
  by_cases h2 : i < 64
  · rw [blt_t h2, cond_true, decide_eq_true (by omega), cond_true, bvn i (by omega), oushl_nat, Option.bind_some]
    rfl
  · have e : IntKind.i64.wrap ((i : Int) - 64) = ((i - 64 : Nat) : Int) := by rw [wrap_i64 (by omega) (by omega)]; omega
    rw [blt_f h2, cond_false, decide_eq_false (by omega), cond_false, e, bvn (i - 64) (by omega), oushl_nat, Option.bind_some]
    rfl
theorem F_wide_Has_eq (a : Wide) (i : Nat) (h : i < 128) : F_wide_Has a (i : Int) = some (wt a i) := by
  unfold F_wide_Has
  rw [F_wide_Bit_eq i h, Option.bind_some, F_wide_And_eq, Option.bind_some, F_wide_Zero_eq, Option.bind_some, has_bit a i h]
theorem F_r02_Has_eq (a : Wide) (i : Nat) (h : i < 128) : F_r02_Has a (i : Int) = some (wt a i) := by
  unfold F_r02_Has
  rw [F_r02_Bit_eq i h, Option.bind_some, F_r02_And_eq, Option.bind_some, F_r02_Zero_eq, Option.bind_some, has_bit a i h]
theorem ibits_127 (n : Nat) (h : n < 18446744073709551616) : ibits .and .i64 (IntKind.i64.wrap (n : Int)) 127 = ((n % 128 : Nat) : Int) := by
  have e : (BitVec.ofInt 64 (IntKind.i64.wrap (n : Int)) &&& BitVec.ofInt 64 127).toNat = n % 128 := by
    have e1 : BitVec.ofInt 64 (IntKind.i64.wrap (n : Int)) = BitVec.ofNat 64 n := by
      apply BitVec.eq_of_toNat_eq
      rw [BitVec.toNat_ofInt, BitVec.toNat_ofNat]
      simp only [IntKind.wrap, IntKind.signed, IntKind.bits]
      simp
      omega
    have e2 : BitVec.ofInt 64 127 = BitVec.ofNat 64 127 := rfl
    rw [e1, e2, BitVec.toNat_and, BitVec.toNat_ofNat, BitVec.toNat_ofNat, Nat.mod_eq_of_lt h]
    exact Nat.and_two_pow_sub_one_eq_mod n 7
  show IntKind.i64.wrap ((BitVec.ofInt 64 (IntKind.i64.wrap (n : Int)) &&& BitVec.ofInt 64 127).toNat : Int) = _
  rw [e, wrap_i64 (by omega) (by omega)]
def cnt (x : BitVec 64) : Nat := ds 1 64 x.toNat
theorem F_math_bits_OnesCount64_eq (x : BitVec 64) : F_math_bits_OnesCount64 x = some (cnt x : Int) := by
  obtain ⟨h0, ha, hb, hbb, hd, he, hf⟩ := swar x.toNat x.isLt
  have sh : ∀ (x : BitVec 64) (n : BitVec 64), oushr x (n.toNat : Int) = some (x >>> n.toNat) := fun x n => oushr_nat x n.toNat
  unfold F_math_bits_OnesCount64
  simp only [sh, Option.bind_some]
  congr 1
  have t1 : ((1 : BitVec 64)).toNat = 1 := rfl
  have t2 : ((2 : BitVec 64)).toNat = 2 := rfl
  have t4 : ((4 : BitVec 64)).toNat = 4 := rfl
  have t8 : ((8 : BitVec 64)).toNat = 8 := rfl
  have t16 : ((16 : BitVec 64)).toNat = 16 := rfl
  have t32 : ((32 : BitVec 64)).toNat = 32 := rfl
  rw [t1, t2, t4, t8, t16, t32]
  generalize hA : (x >>> 1 &&& (6148914691236517205 : BitVec 64)) + (x &&& (6148914691236517205 : BitVec 64)) = A
  have eA : A.toNat = (x.toNat / 2 &&& 6148914691236517205) + (x.toNat &&& 6148914691236517205) := by
    rw [← hA, BitVec.toNat_add, BitVec.toNat_and, BitVec.toNat_and, BitVec.toNat_ushiftRight, Nat.shiftRight_eq_div_pow]
    exact Nat.mod_eq_of_lt ha
  generalize hB : (A >>> 2 &&& (3689348814741910323 : BitVec 64)) + (A &&& (3689348814741910323 : BitVec 64)) = B
  have eB : B.toNat = (A.toNat / 4 &&& 3689348814741910323) + (A.toNat &&& 3689348814741910323) := by
    rw [← hB, BitVec.toNat_add, BitVec.toNat_and, BitVec.toNat_and, BitVec.toNat_ushiftRight, Nat.shiftRight_eq_div_pow]
    rw [eA]
    exact Nat.mod_eq_of_lt hb
  generalize hC : (B >>> 4 + B) &&& (1085102592571150095 : BitVec 64) = D
  have eC : D.toNat = (B.toNat / 16 + B.toNat) &&& 1085102592571150095 := by
    rw [← hC, BitVec.toNat_and, BitVec.toNat_add, BitVec.toNat_ushiftRight, Nat.shiftRight_eq_div_pow]
    have : (B.toNat / 2 ^ 4 + B.toNat) % 2 ^ 64 = B.toNat / 16 + B.toNat := by
      rw [eB, eA]
      exact Nat.mod_eq_of_lt hbb
    rw [this]; rfl
  rw [← eA, ← eB, ← eC] at hd he hf h0
  generalize hE : D + D >>> 8 = E
  have eE : E.toNat = D.toNat + D.toNat / 256 := by
    rw [← hE, BitVec.toNat_add, BitVec.toNat_ushiftRight, Nat.shiftRight_eq_div_pow]
    exact Nat.mod_eq_of_lt hd
  rw [← eE] at he hf h0
  generalize hG : E + E >>> 16 = G
  have eG : G.toNat = E.toNat + E.toNat / 65536 := by
    rw [← hG, BitVec.toNat_add, BitVec.toNat_ushiftRight, Nat.shiftRight_eq_div_pow]
    exact Nat.mod_eq_of_lt he
  rw [← eG] at hf h0
  generalize hK : G + G >>> 32 = K
  have eK : K.toNat = G.toNat + G.toNat / 4294967296 := by
    rw [← hK, BitVec.toNat_add, BitVec.toNat_ushiftRight, Nat.shiftRight_eq_div_pow]
    exact Nat.mod_eq_of_lt hf
  rw [← eK] at h0
  rw [ibits_127 _ K.isLt, h0]
  rfl
theorem cnt_le (x : BitVec 64) : cnt x ≤ 64 := by
  unfold cnt
  rw [ds_bits]
  exact Nat.le_trans (List.length_filter_le ..) (by simp)
def bitsUp (a : Wide) : List Nat := (List.range 128).filter (wt a)
theorem bitsUp_len (a : Wide) : (bitsUp a).length = cnt a.Lo + cnt a.Hi := by
  have e : List.range (64 + 64) = List.range 64 ++ (List.range 64).map (64 + ·) := List.range_add
  unfold bitsUp cnt
  rw [show (128 : Nat) = 64 + 64 from rfl, e, List.filter_append, List.length_append, ds_bits, ds_bits, List.filter_map, List.length_map]
  congr 2
theorem F_wide_Many_eq (a : Wide) : F_wide_Many a = some ((bitsUp a).length : Int) := by
  have h1 := cnt_le a.Hi
  have h2 := cnt_le a.Lo
  rw [bitsUp_len]
  unfold F_wide_Many
  rw [F_math_bits_OnesCount64_eq, Option.bind_some, F_math_bits_OnesCount64_eq, Option.bind_some]
  generalize cnt a.Hi = p at *
  generalize cnt a.Lo = q at *
  rw [wrap_i64 (by omega) (by omega)]
  congr 1
  omega
def bitsDn (a : Wide) : Nat → List Int
  | 0 => []
  | n + 1 => bif wt a n then (n : Int) :: bitsDn a n else bitsDn a n
theorem bitsDn_len (a : Wide) : ∀ n, (bitsDn a n).length = ((List.range n).filter (wt a)).length
  | 0 => rfl
  | n + 1 => by
    rw [List.range_succ, List.filter_append, List.length_append, bitsDn, ← bitsDn_len a n]
    cases h : wt a n <;> simp [h]
theorem bitsDn_mem (a : Wide) : ∀ (n : Nat) (i : Int), i ∈ bitsDn a n ↔ ∃ k : Nat, i = (k : Int) ∧ k < n ∧ wt a k = true
  | 0, i => by simp [bitsDn]
  | n + 1, i => by
    rw [bitsDn]
    cases h : wt a n
    · rw [cond_false, bitsDn_mem a n i]
      constructor
      · rintro ⟨k, rfl, h1, h2⟩; exact ⟨k, rfl, by omega, h2⟩
      · rintro ⟨k, rfl, h1, h2⟩
        have : k ≠ n := fun e => by rw [e, h] at h2; cases h2
        exact ⟨k, rfl, by omega, h2⟩
    · rw [cond_true, List.mem_cons, bitsDn_mem a n i]
      constructor
      · rintro (rfl | ⟨k, rfl, h1, h2⟩)
        · exact ⟨n, rfl, by omega, h⟩
        · exact ⟨k, rfl, by omega, h2⟩
      · rintro ⟨k, rfl, h1, h2⟩
        by_cases e : k = n
        · left; rw [e]
        · right; exact ⟨k, rfl, by omega, h2⟩
theorem F_tern_Bits_l1_eq (a : Wide) : ∀ (n m : Nat) (acc : List Int), n ≤ 128 → n < m → acc.length + (bitsDn a n).length = (bitsUp a).length → F_tern_Bits_l1 a m acc ((n : Int) - 1) = some (acc ++ bitsDn a n) := by
  have hlim : lim = 4294967296 := rfl
  have hup : (bitsUp a).length ≤ 128 := by
    unfold bitsUp; exact Nat.le_trans (List.length_filter_le ..) (by simp)
  intro n
  induction n with
  | zero =>
    intro m acc h1 h2 h3
    obtain ⟨m, rfl⟩ : ∃ k, m = k + 1 := ⟨m - 1, by omega⟩
    rw [F_tern_Bits_l1, decide_eq_false (by omega), opt_false, Option.bind_some, Bool.false_and, cond_false]
    simp [bitsDn]
  | succ n ih =>
    intro m acc h1 h2 h3
    obtain ⟨m, rfl⟩ : ∃ k, m = k + 1 := ⟨m - 1, by omega⟩
    have e : ((n + 1 : Nat) : Int) - 1 = (n : Int) := by omega
    rw [e, F_tern_Bits_l1, decide_eq_true (by omega), opt_true, F_wide_Many_eq, Option.bind_some, Bool.true_and]
    by_cases hc : acc.length < (bitsUp a).length
    · have e2 : IntKind.i64.wrap ((n : Int) - 1) = (n : Int) - 1 := wrap_i64 (by omega) (by omega)
      rw [decide_eq_true (by omega), cond_true, F_wide_Has_eq a n (by omega), Option.bind_some, e2, bitsDn]
      rw [bitsDn] at h3
      cases hw : wt a n
      · rw [hw, cond_false] at h3
        rw [cond_false, cond_false, ih m acc (by omega) (by omega) h3]
      · rw [hw, cond_true, List.length_cons] at h3
        rw [cond_true, cond_true, appd_ok (by simp; omega), Option.bind_some, ih m _ (by omega) (by omega) (by simp; omega)]
        simp
    · rw [decide_eq_false (by omega), cond_false]
      have : bitsDn a (n + 1) = [] := List.eq_nil_of_length_eq_zero (by omega)
      rw [this]; simp
end Go.Proofs.YtknpgojdkobgjaaGreat.W
set_option linter.unusedVariables false
set_option linter.unusedSimpArgs false
namespace Go.Proofs.YtknpgojdkobgjaaGreat.W
open Go Go.Wb
theorem F_r05_Clean_eq (t : Tern) : F_r05_Clean t = some (tclean t) := rfl
theorem F_cube_each_l1_eq (f : Int → Option (Tern × Bool)) (g : Nat → Tern) (hf : ∀ i : Nat, i < 24 → f (i : Int) = some (g i, true)) (b : Cube) : ∀ (m i : Nat), i + m = 24 → F_cube_each_l1 f m i (upto g b i) = some (Vector.ofFn (fun i => g i.1), true)
  | 0, i, h => by
    have : i = 24 := by omega
    subst this
    rw [F_cube_each_l1, upto_all]
  | m + 1, i, h => by
    rw [F_cube_each_l1, hf i (by omega), Option.bind_some, Bool.not_true, cond_false, chk_nat (by omega), Option.bind_some]
    show F_cube_each_l1 f m (i + 1) (Vector.set (upto g b i) i (g i) _) = _
    rw [upto_set g b i (by omega), F_cube_each_l1_eq f g hf b m (i + 1) (by omega)]
theorem F_cube_Clean_eq (c : Cube) : F_cube_Clean c = some (cclean c) := by
  unfold F_cube_Clean F_cube_each
  have := F_cube_each_l1_eq (fun x => F_cube_Clean_1 x c) (fun i => tclean (ve c i)) (fun i hi => by unfold F_cube_Clean_1; rw [chk_nat hi, Option.bind_some, vget_eq, F_tern_Clean_eq]; rfl) (Vector.replicate 24 zTern) 24 0 rfl
  rw [upto_zero] at this
  rw [show ((24 : Int)).toNat = 24 from rfl, this]
  rfl
theorem F_r06_Clean_l1_eq (c : Cube) : ∀ (m i : Nat), i ≤ 24 → 24 < i + m → F_r06_Clean_l1 m (upto (fun i => tclean (ve c i)) c i) (i : Int) = some (cclean c)
  | 0, i, h1, h2 => by omega
  | m + 1, i, h1, h2 => by
    rw [F_r06_Clean_l1]
    by_cases h : i < 24
    · have e : IntKind.i64.wrap ((i : Int) + 1) = ((i + 1 : Nat) : Int) := by rw [wrap_i64 (by omega) (by omega)]; omega
      rw [decide_eq_true (by omega), cond_true, chk_nat h, Option.bind_some, F_r05_Clean_eq, Option.bind_some, Option.bind_some, vget_eq, ve_upto _ _ _ _ h, if_neg (by omega), e]
      show F_r06_Clean_l1 m (Vector.set (upto (fun i => tclean (ve c i)) c i) i (tclean (ve c i)) _) _ = _
      rw [upto_set (fun i => tclean (ve c i)) c i h, F_r06_Clean_l1_eq c m (i + 1) (by omega) (by omega)]
    · have : i = 24 := by omega
      subst this
      rw [decide_eq_false (by omega), cond_false, upto_all]; rfl
theorem F_r06_Clean_eq (c : Cube) : F_r06_Clean c = some (cclean c) := by
  unfold F_r06_Clean
  have := F_r06_Clean_l1_eq c (((24 : Int) - 0).toNat + 1) 0 (by omega) (by decide)
  rw [upto_zero] at this
  exact this
def bad2 (x y : Tern) : Bool := !wzero (wand (wand x.Mask y.Mask) (wxor x.Value y.Value))
def apart (a b : Atom) : Bool := !(a.Group == b.Group) || decide (a.Port ≠ b.Port) || decide (a.Max ≠ b.Max) || (List.range' 0 24).any fun f => bad2 (ve a.Rewrite f) (ve b.Rewrite f)
def fixT (t : Tern) (i : Nat) (on : Bool) : Tern := bif on then ⟨wor (wless (tclean t).Value (wbit i)) (wbit i), wor (tclean t).Mask (wbit i)⟩ else ⟨wless (tclean t).Value (wbit i), wor (tclean t).Mask (wbit i)⟩
theorem F_tern_Fix_eq (t : Tern) (i : Nat) (h : i < 128) (on : Bool) : F_tern_Fix t (i : Int) on = some (fixT t i on) := by
  unfold F_tern_Fix
  rw [F_wide_Bit_eq i h, Option.bind_some, F_tern_Clean_eq, Option.bind_some, F_wide_Or_eq, Option.bind_some, F_wide_Less_eq, Option.bind_some]
  cases on
  · rfl
  · rw [cond_true, F_wide_Or_eq]; rfl
theorem F_r05_Fix_eq (t : Tern) (i : Nat) (h : i < 128) (on : Bool) : F_r05_Fix t (i : Int) on = some (fixT t i on) := by
  unfold F_r05_Fix
  rw [F_r05_Clean_eq, Option.bind_some, F_r02_Bit_eq i h, Option.bind_some, F_r02_Or_eq, Option.bind_some, F_r02_Less_eq, Option.bind_some]
  cases on
  · rfl
  · rw [cond_true, F_r02_Or_eq]; rfl
def partOf (c : Cube) (f bit : Nat) (on : Bool) : Option Cube :=
  bif wt (ve c f).Mask bit && (wt (ve c f).Value bit == on) then none else some (Vector.ofFn fun k => if f = k.1 then fixT (ve c f) bit (!on) else ve c k.1)
theorem set_part (c : Cube) (f : Nat) (hf : f < 24) (t : Tern) : Vector.set c f t hf = Vector.ofFn fun k => if f = k.1 then t else ve c k.1 := ve_ext fun j hj => by
  rw [ve_set _ _ _ _ _ hj, ve_ofFn (fun k => if f = k then t else ve c k) j hj]
def sgl (x y : Tern) (k : Nat) : Bool × Bool := bif wt x.Mask k == wt y.Mask k then (false, false) else (true, bif wt x.Mask k then wt x.Value k else wt y.Value k)
def rp (c : Cube) (x y : Tern) (f k : Nat) : Option Cube := bif (sgl x y k).1 then partOf c f k (sgl x y k).2 else none
def thas (t : Tern) (v : Wide) : Bool := wzero (wand (wxor t.Value v) t.Mask)
theorem thas_iff (t : Tern) (v : Wide) : thas t v = true ↔ ∀ k, k < 128 → wt t.Mask k = true → wt t.Value k = wt v k := by
  unfold thas
  rw [wzero_iff]
  constructor
  · intro h k hk hm
    have := h k hk
    rw [wt_and, wt_xor, hm] at this
    revert this
    cases wt t.Value k <;> cases wt v k <;> decide
  · intro h k hk
    rw [wt_and, wt_xor]
    cases hm : wt t.Mask k
    · simp
    · rw [h k hk hm]; simp
theorem F_tern_Has_eq (t : Tern) (v : Wide) : F_tern_Has t v = some (thas t v) := rfl
def chas (c : Cube) (h : Header) : Bool := (List.range' 0 24).all fun f => thas (ve c f) (ve h f)
theorem F_cube_Has_l1_eq (c : Cube) (h : Header) : ∀ (l : List Tern) (i : Nat), i + l.length = 24 → l = (Vector.toList c).drop i → F_cube_Has_l1 h l i = some ((List.range' i l.length).all fun f => thas (ve c f) (ve h f))
  | [], i, h1, h2 => by rw [F_cube_Has_l1]; rfl
  | x :: l, i, h1, h2 => by
    simp only [List.length_cons] at h1
    have hi : i < (Vector.toList c).length := by simp; omega
    rw [List.drop_eq_getElem_cons hi] at h2
    obtain ⟨rfl, h3⟩ := List.cons.inj h2
    have hx : (Vector.toList c)[i] = ve c i := by rw [Vector.getElem_toList, ve_lt _ _ (by omega)]
    rw [F_cube_Has_l1, chk_nat (by omega), Option.bind_some, vget_eq, F_tern_Has_eq, Option.bind_some, F_cube_Has_l1_eq c h l (i + 1) (by omega) h3, List.length_cons, List.range'_succ, List.all_cons, hx]
    cases thas (ve c i) (ve h i) <;> rfl
theorem F_cube_Has_eq (c : Cube) (h : Header) : F_cube_Has c h = some (chas c h) := by
  unfold F_cube_Has chas
  have := F_cube_Has_l1_eq c h (Vector.toList c) 0 (by simp) rfl
  rw [this]
  simp
theorem chas_iff (c : Cube) (h : Header) : chas c h = true ↔ ∀ f, f < 24 → thas (ve c f) (ve h f) = true := by
  unfold chas
  rw [List.all_eq_true]
  constructor
  · intro hh f hf
    exact hh f (by rw [List.mem_range'_1]; omega)
  · intro hh f hf
    exact hh f (by have := (List.mem_range'_1.1 hf).2; omega)
theorem thas_clean (t : Tern) (v : Wide) : thas (tclean t) v = thas t v := by
  rw [Bool.eq_iff_iff, thas_iff, thas_iff]
  unfold tclean
  constructor
  · intro h k hk hm
    have := h k hk hm
    rw [wt_and, hm, Bool.and_true] at this
    exact this
  · intro h k hk hm
    have hm' : wt t.Mask k = true := hm
    rw [wt_and, hm', Bool.and_true]
    exact h k hk hm'
theorem chas_clean (c : Cube) (h : Header) : chas (cclean c) h = chas c h := by
  rw [Bool.eq_iff_iff, chas_iff, chas_iff]
  constructor
  · intro hh f hf
    have := hh f hf
    rwa [ve_cclean _ _ hf, thas_clean] at this
  · intro hh f hf
    rw [ve_cclean _ _ hf, thas_clean]
    exact hh f hf
theorem thas_fix (t : Tern) (i : Nat) (hi : i < 128) (on : Bool) (v : Wide) : thas (fixT t i on) v = true ↔ (∀ k, k < 128 → k ≠ i → wt t.Mask k = true → wt t.Value k = wt v k) ∧ wt v i = on := by
  have hm : ∀ k, k < 128 → wt (fixT t i on).Mask k = (wt t.Mask k || decide (i = k)) := fun k hk => by
    unfold fixT tclean
    cases on <;> simp only [cond_true, cond_false, wt_or, wt_bit i k hi hk]
  have hv : ∀ k, k < 128 → wt (fixT t i on).Value k = if i = k then on else (wt t.Value k && wt t.Mask k) := fun k hk => by
    unfold fixT tclean
    by_cases e : i = k
    · subst e
      cases on <;> simp [cond_true, cond_false, wt_or, wt_less _ _ _ hk, wt_and, wt_bit i i hi hi]
    · cases on <;> simp [cond_true, cond_false, wt_or, wt_less _ _ _ hk, wt_and, wt_bit i k hi hk, e]
  rw [thas_iff]
  constructor
  · intro h
    refine ⟨fun k hk hne hmk => ?_, ?_⟩
    · have := h k hk (by rw [hm k hk, hmk]; rfl)
      rw [hv k hk, if_neg (fun e => hne e.symm), hmk, Bool.and_true] at this
      exact this
    · have := h i hi (by rw [hm i hi]; simp)
      rw [hv i hi, if_pos rfl] at this
      exact this.symm
  · rintro ⟨h1, h2⟩ k hk hmk
    rw [hv k hk]
    by_cases e : i = k
    · subst e; rw [if_pos rfl, h2]
    · rw [if_neg e]
      rw [hm k hk] at hmk
      have hmk' : wt t.Mask k = true := by simpa [e] using hmk
      rw [hmk', Bool.and_true]
      exact h1 k hk (fun e' => e e'.symm) hmk'
end Go.Proofs.YtknpgojdkobgjaaGreat.W
set_option linter.unusedVariables false
set_option linter.unusedSimpArgs false
namespace Go.Proofs.YtknpgojdkobgjaaGreat.W
open Go Go.Wb
theorem F_slices_IndexFunc_Rule_eq (s : List Rule) (f : Rule → Option Bool) (p : Rule → Bool) (hf : ∀ x ∈ s, f x = some (p x)) : F_slices_IndexFunc_Rule s f = some (fidx p s) := by
  unfold F_slices_IndexFunc_Rule
  rw [show ((s.length : Int)).toNat = s.length by omega]
  exact idx_spec p (fun i => by rw [F_slices_IndexFunc_Rule_l1]) (fun m i => by rw [F_slices_IndexFunc_Rule_l1]) hf
def hasR (h : Header) (r : Rule) : Bool := chas r.Cube h
theorem F_slices_ContainsFunc_Rule_eq (s : List Rule) (f : Rule → Option Bool) (p : Rule → Bool) (hf : ∀ x ∈ s, f x = some (p x)) : F_slices_ContainsFunc_Rule s f = some (s.any p) := by
  unfold F_slices_ContainsFunc_Rule; rw [F_slices_IndexFunc_Rule_eq s f p hf, Option.bind_some, fidx_any]
def fewR (l : List Rule) (many : Int) : Bool := decide ((l.length : Int) ≤ many) && !(l.any fun r => !decide ((r.Atoms.length : Int) ≤ 12))
theorem F_pl_Rules_eq (l : List Rule) (many : Int) : F_pl_Rules l many = some (fewR l many) := by
  unfold F_pl_Rules fewR
  rw [F_slices_ContainsFunc_Rule_eq l F_pl_Rules_1 (fun r => !decide ((r.Atoms.length : Int) ≤ 12)) (fun r _ => rfl)]
  cases decide ((l.length : Int) ≤ many) <;> rfl
theorem fewR_light {l : List Rule} {many : Nat} (h : fewR l (many : Int) = true) : l.length ≤ many ∧ ∀ r ∈ l, r.Atoms.length ≤ 12 := by
  unfold fewR at h
  rw [Bool.and_eq_true, decide_eq_true_eq, Bool.not_eq_true', List.any_eq_false] at h
  refine ⟨by have := h.1; omega, fun r hr => ?_⟩
  have := h.2 r hr
  simp only [Bool.not_eq_true, Bool.not_eq_false', decide_eq_true_eq] at this
  omega
end Go.Proofs.YtknpgojdkobgjaaGreat.W
set_option linter.unusedVariables false
set_option linter.unusedSimpArgs false
namespace Go.Proofs.YtknpgojdkobgjaaGreat.W
open Go Go.Wb
def tmeet (a b : Tern) : Option Tern := bif wzero (wand (wxor a.Value b.Value) (wand a.Mask b.Mask)) then some ⟨wor (tclean a).Value (tclean b).Value, wor a.Mask b.Mask⟩ else none
def optP {α : Type} (z : α) : Option α → α × Bool
  | some a => (a, true)
  | none => (z, false)
theorem F_tern_Meet_eq (a b : Tern) : F_tern_Meet a b = some (optP zTern (tmeet a b)) := by
  have h : F_tern_Meet a b = bif !(wzero (wand (wxor a.Value b.Value) (wand a.Mask b.Mask))) then some (zTern, false) else some (⟨wor (tclean a).Value (tclean b).Value, wor a.Mask b.Mask⟩, true) := rfl
  rw [h]
  unfold tmeet
  cases wzero (wand (wxor a.Value b.Value) (wand a.Mask b.Mask)) <;> rfl
def ceach (g : Nat → Option Tern) : Option Cube := bif (List.range 24).all (fun i => (g i).isSome) then some (Vector.ofFn fun i => (g i.1).getD zTern) else none
theorem ceach_some {g : Nat → Option Tern} {c : Cube} (h : ceach g = some c) (i : Nat) (hi : i < 24) : g i = some (ve c i) := by
  unfold ceach at h
  cases ha : (List.range 24).all (fun i => (g i).isSome)
  · rw [ha] at h; cases h
  · rw [ha, cond_true] at h
    rw [List.all_eq_true] at ha
    have h1 := ha i (by simpa using hi)
    obtain ⟨x, hx⟩ := Option.isSome_iff_exists.1 h1
    rw [← Option.some.inj h, ve_ofFn (fun i => (g i).getD zTern) i hi, hx]; rfl
theorem ceach_none {g : Nat → Option Tern} (h : ceach g = none) : ∃ i, i < 24 ∧ g i = none := by
  unfold ceach at h
  cases ha : (List.range 24).all (fun i => (g i).isSome)
  · rw [List.all_eq_false] at ha
    obtain ⟨i, hi, h1⟩ := ha
    exact ⟨i, by simpa using hi, by simpa using h1⟩
  · rw [ha] at h; cases h
theorem ceach_of {g : Nat → Option Tern} {c : Cube} (h : ∀ i, i < 24 → g i = some (ve c i)) : ceach g = some c := by
  cases hc : ceach g with
  | none => obtain ⟨i, hi, h1⟩ := ceach_none hc; rw [h i hi] at h1; cases h1
  | some d =>
    congr 1
    refine ve_ext fun i hi => ?_
    have := ceach_some hc i hi
    rw [h i hi] at this
    exact (Option.some.inj this).symm
theorem ceach_none_of {g : Nat → Option Tern} (i : Nat) (hi : i < 24) (h : g i = none) : ceach g = none := by
  cases hc : ceach g with
  | none => rfl
  | some c => have := ceach_some hc i hi; rw [h] at this; cases this
theorem F_cube_each_l1_eqP (f : Int → Option (Tern × Bool)) (g : Nat → Option Tern) (hf : ∀ i : Nat, i < 24 → f (i : Int) = some (optP zTern (g i))) : ∀ (m i : Nat) (b : Cube), i + m = 24 → (∀ j, j < i → g j = some (ve b j)) →
    F_cube_each_l1 f m i b = some (optP none24 (ceach g))
  | 0, i, b, h, hb => by
    rw [F_cube_each_l1, ceach_of (c := b) (fun j hj => hb j (by omega))]; rfl
  | m + 1, i, b, h, hb => by
    rw [F_cube_each_l1, hf i (by omega), Option.bind_some]
    cases hg : g i with
    | none =>
      rw [ceach_none_of i (by omega) hg]; rfl
    | some t =>
      show (chk 24 (i : Int)).bind _ = _
      rw [chk_nat (by omega), Option.bind_some]
      refine F_cube_each_l1_eqP f g hf m (i + 1) _ (by omega) fun j hj => ?_
      rw [ve_set _ _ _ _ _ (by omega)]
      by_cases e : i = j
      · subst e; rw [if_pos rfl, hg]; rfl
      · rw [if_neg e]; exact hb j (by omega)
theorem F_cube_each_eqP (f : Int → Option (Tern × Bool)) (g : Nat → Option Tern) (hf : ∀ i : Nat, i < 24 → f (i : Int) = some (optP zTern (g i))) : F_cube_each f = some (optP none24 (ceach g)) := by
  unfold F_cube_each
  exact F_cube_each_l1_eqP f g hf 24 0 _ rfl fun j hj => by omega
def cmeet (a b : Cube) : Option Cube := ceach fun i => tmeet (ve a i) (ve b i)
theorem F_cube_Meet_eq (a b : Cube) : F_cube_Meet a b = some (optP none24 (cmeet a b)) := by
  unfold F_cube_Meet
  rw [F_cube_each_eqP _ (fun i => tmeet (ve a i) (ve b i)) (fun i hi => by unfold F_cube_Meet_1; rw [chk_nat hi, Option.bind_some, Option.bind_some, vget_eq, vget_eq, F_tern_Meet_eq]; rfl)]
  rfl
end Go.Proofs.YtknpgojdkobgjaaGreat.W
set_option linter.unusedVariables false
set_option linter.unusedSimpArgs false
namespace Go.Proofs.YtknpgojdkobgjaaGreat.W
open Go Go.Wb
theorem wzero_not {a : Wide} (h : wzero a = false) : ∃ k, k < 128 ∧ wt a k = true := by
  by_cases hx : ∃ k, k < 128 ∧ wt a k = true
  · exact hx
  · exfalso
    have : wzero a = true := (wzero_iff a).2 fun k hk => by
      cases hq : wt a k
      · rfl
      · exact absurd ⟨k, hk, hq⟩ hx
    rw [this] at h; cases h
theorem thas_meet_none {a b : Tern} (h : tmeet a b = none) (v : Wide) (ha : thas a v = true) (hb : thas b v = true) : False := by
  unfold tmeet at h
  cases hz : wzero (wand (wxor a.Value b.Value) (wand a.Mask b.Mask))
  · obtain ⟨k, hk, h1⟩ := wzero_not hz
    have h2 := (thas_iff a v).1 ha k hk
    have h3 := (thas_iff b v).1 hb k hk
    simp only [wt_and, wt_xor] at h1
    revert h1 h2 h3
    cases wt a.Mask k <;> cases wt b.Mask k <;> cases wt a.Value k <;> cases wt b.Value k <;> cases wt v k <;> simp
  · rw [hz] at h; cases h
theorem chas_meet_none {a b : Cube} (h : cmeet a b = none) (v : Header) (ha : chas a v = true) (hb : chas b v = true) : False := by
  unfold cmeet at h
  obtain ⟨f, hf, h1⟩ := ceach_none h
  exact thas_meet_none h1 (ve v f) ((chas_iff _ _).1 ha f hf) ((chas_iff _ _).1 hb f hf)
end Go.Proofs.YtknpgojdkobgjaaGreat.W
set_option linter.unusedVariables false
set_option linter.unusedSimpArgs false
namespace Go.Proofs.YtknpgojdkobgjaaGreat.W
open Go Go.Wb
def bitsOf (x a : Tern) : List Int := bitsDn (wless x.Mask a.Mask) 128
theorem F_tern_Bits_eqG (a x : Tern) : F_tern_Bits a x = some (bitsOf x a) := by
  unfold F_tern_Bits bitsOf
  rw [F_wide_Less_eq, Option.bind_some]
  have := F_tern_Bits_l1_eq (wless x.Mask a.Mask) 128 fuel0 [] (by omega) (by unfold fuel0; omega) (by rw [bitsDn_len]; simp [bitsUp])
  simpa using this
theorem bitsDn_le128 (a : Wide) : ∀ n, (bitsDn a n).length ≤ n
  | 0 => Nat.le_refl _
  | n + 1 => by
    have := bitsDn_le128 a n
    rw [bitsDn]
    cases wt a n
    · rw [cond_false]; omega
    · rw [cond_true, List.length_cons]; omega
theorem F_r05_Bits_l1_eq (x a : Tern) : ∀ (n m : Nat) (acc : List Int), n ≤ 128 → n < m → acc.length + n ≤ 128 → F_r05_Bits_l1 x a m acc ((n : Int) - 1) = some (acc ++ bitsDn (wless x.Mask a.Mask) n)
  | 0, m, acc, h1, h2, h3 => by
    obtain ⟨m, rfl⟩ : ∃ k, m = k + 1 := ⟨m - 1, by omega⟩
    rw [F_r05_Bits_l1, decide_eq_false (by omega), cond_false]
    simp [bitsDn]
  | n + 1, m, acc, h1, h2, h3 => by
    have hlim : lim = 4294967296 := rfl
    obtain ⟨m, rfl⟩ : ∃ k, m = k + 1 := ⟨m - 1, by omega⟩
    have e : ((n + 1 : Nat) : Int) - 1 = (n : Int) := by omega
    have e2 : IntKind.i64.wrap ((n : Int) - 1) = (n : Int) - 1 := wrap_i64 (by omega) (by omega)
    have hw : wt (wless x.Mask a.Mask) n = (wt x.Mask n && !wt a.Mask n) := wt_less _ _ _ (by omega)
    rw [e, F_r05_Bits_l1, decide_eq_true (by omega), cond_true, F_r02_Has_eq x.Mask n (by omega), Option.bind_some, e2, bitsDn, hw]
    cases hx : wt x.Mask n
    · rw [opt_false, Option.bind_some, Bool.false_and, Bool.false_and, cond_false, cond_false]
      exact F_r05_Bits_l1_eq x a n m acc (by omega) (by omega) (by omega)
    · rw [opt_true, F_r02_Has_eq a.Mask n (by omega), Option.bind_some, Bool.true_and]
      cases wt a.Mask n
      · rw [Bool.not_false, cond_true, cond_true, appd_ok (by simp; omega), Option.bind_some, F_r05_Bits_l1_eq x a n m _ (by omega) (by omega) (by simp; omega)]
        simp
      · rw [Bool.not_true, cond_false, cond_false]
        exact F_r05_Bits_l1_eq x a n m acc (by omega) (by omega) (by omega)
theorem F_r05_Bits_eqG (a x : Tern) : F_r05_Bits a x = some (bitsOf x a) := by
  unfold F_r05_Bits
  have := F_r05_Bits_l1_eq x a 128 (((127 : Int) - 0).toNat + 2) [] (by omega) (by decide) (by simp)
  simpa [bitsOf] using this
def setC (c : Cube) (f : Nat) (t : Tern) : Cube := Vector.ofFn fun k => if f = k.1 then t else ve c k.1
theorem set_setC (c : Cube) (f : Nat) (hf : f < 24) (t : Tern) : Vector.set c f t hf = setC c f t := set_part c f hf t
theorem ve_setC (c : Cube) (f : Nat) (t : Tern) (g : Nat) (hg : g < 24) : ve (setC c f t) g = if f = g then t else ve c g := ve_ofFn (fun k => if f = k then t else ve c k) g hg
def carveB (xv : Wide) (f : Nat) : List Int → Cube → List Cube × Cube
  | [], left => ([], left)
  | i :: l, left => (setC left f (fixT (ve left f) i.toNat (!wt xv i.toNat)) :: (carveB xv f l (setC left f (fixT (ve left f) i.toNat (wt xv i.toNat)))).1, (carveB xv f l (setC left f (fixT (ve left f) i.toNat (wt xv i.toNat)))).2)
def carveF (x : Cube) : Nat → Nat → Cube → List Cube
  | 0, f, left => []
  | m + 1, f, left => (carveB (ve x f).Value f (bitsOf (ve x f) (ve left f)) left).1 ++ carveF x m (f + 1) (carveB (ve x f).Value f (bitsOf (ve x f) (ve left f)) left).2
def meetsB (a x : Cube) : Bool := (cmeet a x).isSome
def partsC (a x : Cube) : List Cube := bif meetsB a x then carveF x 24 0 (cclean a) else [cclean a]
def bits128 (l : List Int) : Prop := ∀ i ∈ l, ∃ k : Nat, i = (k : Int) ∧ k < 128
theorem bitsOf_128 (x a : Tern) : bits128 (bitsOf x a) := fun i hi => by
  obtain ⟨k, h1, h2, _⟩ := (bitsDn_mem _ _ _).1 hi
  exact ⟨k, h1, h2⟩
theorem F_carve_Parts_1_l2_eq (sg : Type) (y : sg → Cube → Option (Lp sg)) (go : Nat → Cube → Lp sg → Option (Lp sg)) (f : Nat) (hf : f < 24) (x : Tern) : ∀ (l : List Int) (k : Nat) (left : Cube) (s : sg), bits128 l →
    F_carve_Parts_1_l2 sg go f x y l k left (.go s) = (yf y (carveB x.Value f l left).1 s).bind fun r => match r with
      | .go s' => go (f + 1) (carveB x.Value f l left).2 (.go s')
      | .out c s' => some (.out c s')
  | [], k, left, s, _ => rfl
  | i :: l, k, left, s, hl => by
    obtain ⟨b, rfl, hb⟩ := hl i (by simp)
    have ih := fun left s => F_carve_Parts_1_l2_eq sg y go f hf x l (k + 1) left s fun j hj => hl j (by simp [hj])
    rw [F_carve_Parts_1_l2, F_wide_Has_eq _ b hb, Option.bind_some, chk_nat hf, Option.bind_some, vget_eq, F_tern_Fix_eq _ b hb, Option.bind_some, Option.bind_some, set_setC]
    rw [carveB, Int.toNat_natCast, yf]
    show (y s _).bind _ = _
    cases y s (setC left f (fixT (ve left f) b (!wt x.Value b))) with
    | none => rfl
    | some r =>
      cases r with
      | out c q => rfl
      | go q =>
        simp only [Option.bind_some, Lp.isGo, Bool.not_true, cond_false]
        rw [vget_eq, F_tern_Fix_eq _ b hb, Option.bind_some, set_setC, ih]
theorem F_carve_Parts_1_l1_eq (sg : Type) (y : sg → Cube → Option (Lp sg)) (x : Cube) : ∀ (l : List Tern) (f : Nat) (left : Cube) (s : sg), f + l.length = 24 → l = (Vector.toList x).drop f →
    F_carve_Parts_1_l1 sg y l f left (.go s) = yf y (carveF x l.length f left) s
  | [], f, left, s, h1, h2 => rfl
  | t :: l, f, left, s, h1, h2 => by
    simp only [List.length_cons] at h1
    have hi : f < (Vector.toList x).length := by simp; omega
    rw [List.drop_eq_getElem_cons hi] at h2
    obtain ⟨rfl, h3⟩ := List.cons.inj h2
    have hx : (Vector.toList x)[f] = ve x f := by rw [Vector.getElem_toList, ve_lt _ _ (by omega)]
    have ih := fun left s => F_carve_Parts_1_l1_eq sg y x l (f + 1) left s (by omega) h3
    rw [F_carve_Parts_1_l1, chk_nat (by omega), Option.bind_some, vget_eq, hx, F_tern_Bits_eqG, Option.bind_some, List.length_cons, carveF, yf_append]
    cases hb : bitsOf (ve x f) (ve left f) with
    | nil =>
      rw [decide_eq_true (by simp), cond_true, ih]
      rfl
    | cons i bl =>
      rw [decide_eq_false (by simp; omega), cond_false, F_carve_Parts_1_l2_eq sg y _ f (by omega) (ve x f) _ 0 left s (by rw [← hb]; exact bitsOf_128 _ _)]
      cases yf y (carveB (ve x f).Value f (i :: bl) left).1 s with
      | none => rfl
      | some r =>
        cases r with
        | out c q => rfl
        | go q => exact ih _ q
theorem F_carve_Parts_1_eq (sg : Type) (y : sg → Cube → Option (Lp sg)) (a x : Cube) (s : sg) : F_carve_Parts_1 sg y (.go s) a x = yf y (partsC a x) s := by
  unfold F_carve_Parts_1 partsC meetsB
  rw [F_cube_Clean_eq, Option.bind_some, F_cube_Meet_eq, Option.bind_some]
  cases cmeet a x with
  | none =>
    show (bif (!false) then _ else _) = yf y [cclean a] s
    rw [Bool.not_false, cond_true, yf]
    show (y s (cclean a)).bind _ = _
    cases y s (cclean a) with
    | none => rfl
    | some r => cases r <;> rfl
  | some z =>
    show (bif (!true) then _ else _) = yf y (carveF x 24 0 (cclean a)) s
    rw [Bool.not_true, cond_false]
    have := F_carve_Parts_1_l1_eq sg y x (Vector.toList x) 0 (cclean a) s (by simp) rfl
    rw [this]; simp
theorem F_r07_List_l2_eq (x : Cube) (f : Nat) (hf : f < 24) (go : Cube → List Cube → Int → Option (List Cube)) (bl : List Int) (hbl : bits128 bl) (hlen : bl.length ≤ 128) : ∀ (m i : Nat) (left : Cube) (acc : List Cube), i ≤ bl.length → bl.length < i + m → acc.length + (bl.length - i) ≤ 10000 →
    F_r07_List_l2 bl (f : Int) x go m left acc (i : Int) = go (carveB (ve x f).Value f (bl.drop i) left).2 (acc ++ (carveB (ve x f).Value f (bl.drop i) left).1) ((f + 1 : Nat) : Int)
  | 0, i, left, acc, h1, h2, _ => by omega
  | m + 1, i, left, acc, h1, h2, h3 => by
    have hlim : lim = 4294967296 := rfl
    rw [F_r07_List_l2]
    by_cases hi : i < bl.length
    · have ih := fun left acc => F_r07_List_l2_eq x f hf go bl hbl hlen m (i + 1) left acc (by omega) (by omega)
      obtain ⟨b, e, hb⟩ := hbl _ (List.getElem_mem hi)
      rw [decide_eq_true (by omega), cond_true, chk_nat hf, Option.bind_some, lget_lt hi, Option.bind_some, vget_eq, e, F_r02_Has_eq _ b hb, Option.bind_some, Option.bind_some, Option.bind_some, vget_eq, F_r05_Fix_eq _ b hb, Option.bind_some, Option.bind_some, set_setC, appd_ok (by simp; omega), Option.bind_some, Option.bind_some, Option.bind_some, F_r05_Fix_eq _ b hb, Option.bind_some, Option.bind_some, set_setC, inc i (by omega), ih _ _ (by simp; omega), List.drop_eq_getElem_cons hi, carveB, e, Int.toNat_natCast, vget_eq]
      simp
    · rw [decide_eq_false (by omega), cond_false, List.drop_of_length_le (by omega), inc f (by omega)]
      simp [carveB]
theorem carveB_len (xv : Wide) (f : Nat) : ∀ (l : List Int) (left : Cube), (carveB xv f l left).1.length = l.length
  | [], left => rfl
  | i :: l, left => by rw [carveB, List.length_cons, List.length_cons, carveB_len xv f l]
theorem carveB_other (xv : Wide) (f : Nat) : ∀ (l : List Int) (left : Cube) (g : Nat), g < 24 → g ≠ f → ve (carveB xv f l left).2 g = ve left g
  | [], left, g, _, _ => rfl
  | i :: l, left, g, hg, hne => by
    rw [carveB]
    show ve (carveB xv f l _).2 g = _
    rw [carveB_other xv f l _ g hg hne, ve_setC _ _ _ _ hg, if_neg (fun e => hne e.symm)]
theorem F_r07_List_l1_eq (a x : Cube) : ∀ (m f : Nat) (left : Cube) (acc : List Cube), f ≤ 24 → 24 < f + m → acc.length ≤ 128 * f → (∀ g, f ≤ g → g < 24 → (ve left g).Mask = (ve a g).Mask) →
    F_r07_List_l1 a x m left acc (f : Int) = some (acc ++ carveF x (24 - f) f left)
  | 0, f, left, acc, h1, h2, _, _ => by omega
  | m + 1, f, left, acc, h1, h2, h3, h4 => by
    rw [F_r07_List_l1]
    by_cases hf : f < 24
    · have hb : bitsOf (ve x f) (ve a f) = bitsOf (ve x f) (ve left f) := by unfold bitsOf; rw [h4 f (by omega) hf]
      have hl := bitsDn_le128 (wless (ve x f).Mask (ve left f).Mask) 128
      have e : 24 - f = (24 - (f + 1)) + 1 := by omega
      rw [decide_eq_true (by omega), cond_true, chk_nat hf, Option.bind_some, Option.bind_some, vget_eq, vget_eq, F_r05_Bits_eqG, Option.bind_some, hb]
      have h5 := F_r07_List_l2_eq x f hf (F_r07_List_l1 a x m) (bitsOf (ve x f) (ve left f)) (bitsOf_128 _ _) hl ((((bitsOf (ve x f) (ve left f)).length : Int) - 0).toNat + 1) 0 left acc (by omega) (by omega) (by unfold bitsOf; omega)
      rw [List.drop_zero] at h5
      refine Eq.trans h5 ?_
      rw [F_r07_List_l1_eq a x m (f + 1) _ _ (by omega) (by omega) (by rw [List.length_append, carveB_len]; unfold bitsOf; omega) (fun g hg hg' => by rw [carveB_other _ _ _ _ _ hg' (by omega)]; exact h4 g (by omega) hg'), e, carveF, List.append_assoc]
    · have : f = 24 := by omega
      subst this
      rw [decide_eq_false (by omega), cond_false]
      simp [carveF]
theorem F_r06_Meet_l1_eq (a x : Cube) : ∀ (m i : Nat) (b : Cube), i ≤ 24 → 24 < i + m → ∃ z, F_r06_Meet_l1 a x m b (i : Int) = some (z, (List.range' i (24 - i)).all fun f => (tmeet (ve a f) (ve x f)).isSome)
  | 0, i, b, h1, h2 => by omega
  | m + 1, i, b, h1, h2 => by
    rw [F_r06_Meet_l1]
    by_cases hi : i < 24
    · have e : 24 - i = (24 - (i + 1)) + 1 := by omega
      have hm : ∃ t, F_r05_Meet (ve a i) (ve x i) = some (t, (tmeet (ve a i) (ve x i)).isSome) := by
        unfold F_r05_Meet tmeet
        rw [F_r02_And_eq, Option.bind_some, F_r02_Xor_eq, Option.bind_some, F_r02_And_eq, Option.bind_some, F_r02_Zero_eq, Option.bind_some]
        cases wzero (wand (wxor (ve a i).Value (ve x i).Value) (wand (ve a i).Mask (ve x i).Mask))
        · exact ⟨_, rfl⟩
        · exact ⟨_, rfl⟩
      obtain ⟨t, ht⟩ := hm
      rw [decide_eq_true (by omega), cond_true, chk_nat hi, Option.bind_some, Option.bind_some, vget_eq, vget_eq, ht, Option.bind_some, e, List.range'_succ, List.all_cons]
      cases (tmeet (ve a i) (ve x i)).isSome
      · exact ⟨_, rfl⟩
      · obtain ⟨z, hz⟩ := F_r06_Meet_l1_eq a x m (i + 1) (Vector.set b i t hi) (by omega) (by omega)
        refine ⟨z, ?_⟩
        rw [Bool.not_true, cond_false, Option.bind_some, inc i (by omega), Bool.true_and]
        exact hz
    · have : i = 24 := by omega
      subst this
      rw [decide_eq_false (by omega)]; exact ⟨_, rfl⟩
theorem meetsB_all (a x : Cube) : meetsB a x = (List.range' 0 24).all fun f => (tmeet (ve a f) (ve x f)).isSome := by
  unfold meetsB cmeet ceach
  rw [List.range_eq_range']
  cases (List.range' 0 24).all fun f => (tmeet (ve a f) (ve x f)).isSome <;> rfl
theorem F_r06_Meet_eqB (a x : Cube) : ∃ z, F_r06_Meet a x = some (z, meetsB a x) := by
  rw [meetsB_all]
  unfold F_r06_Meet
  obtain ⟨z, hz⟩ := F_r06_Meet_l1_eq a x (((24 : Int) - 0).toNat + 1) 0 (Vector.replicate 24 zTern) (by omega) (by decide)
  rw [show ((0 : Nat) : Int) = 0 from rfl, Nat.sub_zero] at hz
  exact ⟨z, hz⟩
theorem F_r07_List_eq (a x : Cube) : F_r07_List a x = some (partsC a x) := by
  obtain ⟨z, hz⟩ := F_r06_Meet_eqB a x
  unfold F_r07_List partsC
  rw [F_r06_Clean_eq, Option.bind_some, hz, Option.bind_some]
  cases meetsB a x
  · rw [Bool.not_false, cond_true, cond_false]
  · rw [Bool.not_true, cond_false, cond_true]
    have := F_r07_List_l1_eq a x (((24 : Int) - 0).toNat + 1) 0 (cclean a) [] (by omega) (by decide) (by simp) (fun g _ hg => by rw [ve_cclean _ _ hg]; rfl)
    rw [show ((0 : Nat) : Int) = 0 from rfl, List.nil_append, Nat.sub_zero] at this
    exact this
end Go.Proofs.YtknpgojdkobgjaaGreat.W
set_option linter.unusedVariables false
set_option linter.unusedSimpArgs false
namespace Go.Proofs.YtknpgojdkobgjaaGreat.W
open Go Go.Wb
def twithin (a b : Tern) : Bool := wzero (wless b.Mask a.Mask) && thas b a.Value
theorem F_tern_Within_eq (a b : Tern) : F_tern_Within a b = some (twithin a b) := by
  unfold F_tern_Within twithin
  rw [F_wide_Less_eq, Option.bind_some, F_wide_Zero_eq, Option.bind_some, F_tern_Has_eq]
  cases wzero (wless b.Mask a.Mask) <;> rfl
theorem F_r05_Within_eq (a b : Tern) : F_r05_Within a b = some (twithin a b) := by
  unfold F_r05_Within twithin thas
  have hx : wxor b.Value a.Value = wxor a.Value b.Value := wt_ext fun k _ => by
    rw [wt_xor, wt_xor]; cases wt a.Value k <;> cases wt b.Value k <;> rfl
  rw [F_r02_Less_eq, Option.bind_some, F_r02_Zero_eq, Option.bind_some, hx]
  cases wzero (wless b.Mask a.Mask)
  · rfl
  · rw [opt_true, F_r02_Xor_eq, Option.bind_some, opt_true, F_r02_And_eq, Option.bind_some, opt_true, F_r02_Zero_eq]; rfl
def cwithin (a b : Cube) : Bool := (List.range' 0 24).all fun f => twithin (ve a f) (ve b f)
theorem F_cube_Within_l1_eq (a b : Cube) : ∀ (l : List Tern) (i : Nat), i + l.length = 24 → l = (Vector.toList a).drop i → F_cube_Within_l1 b l i = some ((List.range' i l.length).all fun f => twithin (ve a f) (ve b f))
  | [], i, h1, h2 => by rw [F_cube_Within_l1]; rfl
  | x :: l, i, h1, h2 => by
    simp only [List.length_cons] at h1
    have hi : i < (Vector.toList a).length := by simp; omega
    rw [List.drop_eq_getElem_cons hi] at h2
    obtain ⟨rfl, h3⟩ := List.cons.inj h2
    have hx : (Vector.toList a)[i] = ve a i := by rw [Vector.getElem_toList, ve_lt _ _ (by omega)]
    rw [F_cube_Within_l1, chk_nat (by omega), Option.bind_some, vget_eq, F_tern_Within_eq, Option.bind_some, F_cube_Within_l1_eq a b l (i + 1) (by omega) h3, List.length_cons, List.range'_succ, List.all_cons, hx]
    cases twithin (ve a i) (ve b i) <;> rfl
theorem F_cube_Within_eq (a b : Cube) : F_cube_Within a b = some (cwithin a b) := by
  unfold F_cube_Within cwithin
  have := F_cube_Within_l1_eq a b (Vector.toList a) 0 (by simp) rfl
  rw [this]; simp
theorem F_r06_Within_l1_eq (a b : Cube) : ∀ (m i : Nat), i ≤ 24 → 24 < i + m → F_r06_Within_l1 a b m (i : Int) = some ((List.range' i (24 - i)).all fun f => twithin (ve a f) (ve b f))
  | 0, i, h1, h2 => by omega
  | m + 1, i, h1, h2 => by
    rw [F_r06_Within_l1]
    by_cases hi : i < 24
    · have e : 24 - i = (24 - (i + 1)) + 1 := by omega
      rw [decide_eq_true (by omega), cond_true, chk_nat hi, Option.bind_some, Option.bind_some, vget_eq, vget_eq, F_r05_Within_eq, Option.bind_some, inc i (by omega), F_r06_Within_l1_eq a b m (i + 1) (by omega) (by omega), e, List.range'_succ, List.all_cons]
      show (bif !(twithin (ve a i) (ve b i)) then _ else _) = _
      cases twithin (ve a i) (ve b i) <;> rfl
    · have : i = 24 := by omega
      subst this
      rw [decide_eq_false (by omega)]; rfl
theorem F_r06_Within_eq (a b : Cube) : F_r06_Within a b = some (cwithin a b) := by
  unfold F_r06_Within cwithin
  exact F_r06_Within_l1_eq a b (((24 : Int) - 0).toNat + 1) 0 (by omega) (by decide)
theorem within_meets {a b : Cube} (h : cwithin a b = true) : meetsB a b = true := by
  rw [meetsB_all]
  unfold cwithin at h
  rw [List.all_eq_true] at h ⊢
  intro f hf
  have h1 := h f hf
  unfold twithin at h1
  rw [Bool.and_eq_true] at h1
  have h2 := (thas_iff _ _).1 h1.2
  unfold tmeet
  have : wzero (wand (wxor (ve a f).Value (ve b f).Value) (wand (ve a f).Mask (ve b f).Mask)) = true := (wzero_iff _).2 fun k hk => by
    have h3 := h2 k hk
    simp only [wt_and, wt_xor]
    revert h3
    cases wt (ve b f).Mask k <;> cases wt (ve a f).Mask k <;> cases wt (ve a f).Value k <;> cases wt (ve b f).Value k <;> simp
  rw [this]; rfl
def cpick (c : Cube) : Header := Vector.ofFn fun f => (tclean (ve c f.1)).Value
theorem F_cube_Pick_l1_eq (c : Cube) (b : Header) : ∀ (l : List Tern) (i : Nat), i + l.length = 24 → l = (Vector.toList c).drop i → F_cube_Pick_l1 l i (upto (fun f => (tclean (ve c f)).Value) b i) = some (cpick c)
  | [], i, h1, h2 => by
    have : i = 24 := by simpa using h1
    subst this
    rw [F_cube_Pick_l1, upto_all]; rfl
  | x :: l, i, h1, h2 => by
    simp only [List.length_cons] at h1
    have hi : i < (Vector.toList c).length := by simp; omega
    rw [List.drop_eq_getElem_cons hi] at h2
    obtain ⟨rfl, h3⟩ := List.cons.inj h2
    have hx : (Vector.toList c)[i] = ve c i := by rw [Vector.getElem_toList, ve_lt _ _ (by omega)]
    rw [F_cube_Pick_l1, F_tern_Clean_eq, Option.bind_some, chk_nat (by omega), Option.bind_some, hx]
    show F_cube_Pick_l1 l (i + 1) (Vector.set (upto (fun f => (tclean (ve c f)).Value) b i) i ((tclean (ve c i)).Value) _) = _
    rw [upto_set (fun f => (tclean (ve c f)).Value) b i (by omega), F_cube_Pick_l1_eq c b l (i + 1) (by omega) h3]
theorem F_cube_Pick_eq (c : Cube) : F_cube_Pick c = some (cpick c) := by
  unfold F_cube_Pick
  have := F_cube_Pick_l1_eq c (Vector.replicate 24 zWide) (Vector.toList c) 0 (by simp) rfl
  rw [upto_zero] at this
  exact this
theorem F_r06_Pick_l1_eq (c : Cube) (b : Header) : ∀ (m i : Nat), i ≤ 24 → 24 < i + m → F_r06_Pick_l1 c m (upto (fun f => (tclean (ve c f)).Value) b i) (i : Int) = some (cpick c)
  | 0, i, h1, h2 => by omega
  | m + 1, i, h1, h2 => by
    rw [F_r06_Pick_l1]
    by_cases hi : i < 24
    · rw [decide_eq_true (by omega), cond_true, chk_nat hi, Option.bind_some, vget_eq, F_r05_Clean_eq, Option.bind_some, Option.bind_some, inc i (by omega)]
      show F_r06_Pick_l1 c m (Vector.set (upto (fun f => (tclean (ve c f)).Value) b i) i ((tclean (ve c i)).Value) _) _ = _
      rw [upto_set (fun f => (tclean (ve c f)).Value) b i hi, F_r06_Pick_l1_eq c b m (i + 1) (by omega) (by omega)]
    · have : i = 24 := by omega
      subst this
      rw [decide_eq_false (by omega), cond_false, upto_all]; rfl
theorem F_r06_Pick_eq (c : Cube) : F_r06_Pick c = some (cpick c) := by
  unfold F_r06_Pick
  have := F_r06_Pick_l1_eq c (Vector.replicate 24 zWide) (((24 : Int) - 0).toNat + 1) 0 (by omega) (by decide)
  rw [upto_zero] at this
  exact this
def noneH : Header := Vector.replicate 24 zWide
def firstM (c : Cube) : List Cube → Nat → Option Nat
  | [], i => none
  | x :: l, i => bif meetsB c x then some i else firstM c l (i + 1)
def loopC (R : Cube → Int → Header × Bool × Int) : List Cube → Int → Header × Bool × Int
  | [], n => (noneH, false, n)
  | p :: ps, n => bif (R p n).2.1 || decide ((R p n).2.2 < 0) then R p n else loopC R ps (R p n).2.2
def lookC (free : Bool) : Nat → Cube → List Cube → Int → Header × Bool × Int
  | 0, _, _, _ => (noneH, false, -1)
  | d + 1, c, l, n => bif !free && decide (n < 1) then (noneH, false, -1) else
      bif l.any (cwithin c) then (noneH, false, bif free then n else n - 1) else
        match firstM c l 0 with
        | none => (cpick c, true, bif free then n else n - 1)
        | some i => match l[i]? with
          | none => (noneH, false, -1)
          | some x => loopC (fun p m => lookC free d p (l.drop (i + 1)) m) (partsC c x) (bif free then n else n - 1)
theorem firstM_spec (c : Cube) : ∀ (l : List Cube) (k : Nat), match firstM c l k with
    | none => ∀ x ∈ l, meetsB c x = false
    | some i => ∃ j, i = k + j ∧ ∃ h : j < l.length, meetsB c l[j] = true ∧ ∀ x ∈ l.take j, meetsB c x = false
  | [], k => by simp [firstM]
  | x :: l, k => by
    rw [firstM]
    cases hm : meetsB c x
    · rw [cond_false]
      have ih := firstM_spec c l (k + 1)
      cases hf : firstM c l (k + 1) with
      | none =>
        rw [hf] at ih
        intro y hy
        rcases List.mem_cons.1 hy with rfl | hy
        · exact hm
        · exact ih y hy
      | some i =>
        rw [hf] at ih
        obtain ⟨j, h1, h2, h3, h4⟩ := ih
        refine ⟨j + 1, by omega, by simpa using h2, by simpa using h3, fun y hy => ?_⟩
        rw [List.take_succ_cons] at hy
        rcases List.mem_cons.1 hy with rfl | hy
        · exact hm
        · exact h4 y hy
    · rw [cond_true]
      exact ⟨0, by omega, by simp, by simpa using hm, by simp⟩
theorem loopC_none {R : Cube → Int → Header × Bool × Int} (hR : ∀ p m, (R p m).2.1 = false → (R p m).1 = noneH) : ∀ (ps : List Cube) (n : Int), (loopC R ps n).2.1 = false → (loopC R ps n).1 = noneH
  | [], n, _ => rfl
  | p :: ps, n, h => by
    rw [loopC] at h ⊢
    cases hc : (R p n).2.1 || decide ((R p n).2.2 < 0)
    · rw [hc, cond_false] at h
      rw [cond_false]
      exact loopC_none hR ps _ h
    · rw [hc, cond_true] at h
      rw [cond_true]
      exact hR _ _ h
theorem lookC_none (free : Bool) : ∀ (d : Nat) (c : Cube) (l : List Cube) (n : Int), (lookC free d c l n).2.1 = false → (lookC free d c l n).1 = noneH
  | 0, c, l, n, _ => rfl
  | d + 1, c, l, n, h => by
    rw [lookC] at h ⊢
    cases h1 : !free && decide (n < 1)
    · rw [h1, cond_false] at h
      rw [cond_false]
      cases h2 : l.any (cwithin c)
      · rw [h2, cond_false] at h
        rw [cond_false]
        cases h3 : firstM c l 0 with
        | none => rw [h3] at h; cases h
        | some i =>
          rw [h3] at h
          simp only at h ⊢
          cases h4 : l[i]? with
          | none => rfl
          | some x =>
            rw [h4] at h
            simp only at h ⊢
            exact loopC_none (fun p m => lookC_none free d p _ m) _ _ h
      · rfl
    · rfl
end Go.Proofs.YtknpgojdkobgjaaGreat.W
set_option linter.unusedVariables false
set_option linter.unusedSimpArgs false
namespace Go.Proofs.YtknpgojdkobgjaaGreat.W
open Go Go.Wb
theorem optP_snd {α : Type} (z : α) (o : Option α) : (optP z o).2 = o.isSome := by cases o <;> rfl
def firstI (c : Cube) (l : List Cube) (i : Nat) (first : Int) : Int := bif decide (first < 0) then (match firstM c l i with | none => first | some k => (k : Int)) else first
theorem F_cover_among_l1_eq (c : Cube) : ∀ (l : List Cube) (i : Nat) (first : Int), ∃ j : Int, F_cover_among_l1 c l i first = some (bif l.any (cwithin c) then (true, j) else (false, firstI c l i first))
  | [], i, first => by
    refine ⟨0, ?_⟩
    rw [F_cover_among_l1]
    unfold firstI firstM
    cases decide (first < 0) <;> rfl
  | x :: l, i, first => by
    rw [F_cover_among_l1, F_cube_Meet_eq, Option.bind_some, optP_snd, List.any_cons]
    show ∃ j, (bif !(meetsB c x) then _ else _) = _
    cases hm : meetsB c x
    · have hw : cwithin c x = false := by
        cases hw : cwithin c x
        · rfl
        · rw [within_meets hw] at hm; cases hm
      obtain ⟨j, hj⟩ := F_cover_among_l1_eq c l (i + 1) first
      refine ⟨j, ?_⟩
      rw [Bool.not_false, cond_true, hw, Bool.false_or, hj]
      unfold firstI
      rw [firstM, hm, cond_false]
    · rw [Bool.not_true, cond_false, F_cube_Within_eq, Option.bind_some]
      cases hw : cwithin c x
      · rw [cond_false, Bool.false_or]
        have hf : ∀ f : Int, firstI c (x :: l) i f = bif decide (f < 0) then (i : Int) else f := fun f => by
          unfold firstI
          rw [firstM, hm, cond_true]
        by_cases h : first < 0
        · obtain ⟨j, hj⟩ := F_cover_among_l1_eq c l (i + 1) (i : Int)
          refine ⟨j, ?_⟩
          rw [decide_eq_true h, cond_true, hj, hf, decide_eq_true h, cond_true]
          unfold firstI
          rw [decide_eq_false (by omega), cond_false]
        · obtain ⟨j, hj⟩ := F_cover_among_l1_eq c l (i + 1) first
          refine ⟨j, ?_⟩
          rw [decide_eq_false h, cond_false, hj, hf, decide_eq_false h, cond_false]
          unfold firstI
          rw [decide_eq_false h, cond_false]
      · exact ⟨_, rfl⟩
theorem odrop_ok {α : Type} (l : List α) (i : Nat) (h : i ≤ l.length) : odrop l (i : Int) = some (l.drop i) := by
  unfold odrop
  rw [decide_eq_true (by omega), Int.toNat_natCast, Nat.ble_eq_true_of_le h]; rfl
theorem carveF_len (x : Cube) : ∀ (m f : Nat) (left : Cube), (carveF x m f left).length ≤ 128 * m
  | 0, f, left => by simp [carveF]
  | m + 1, f, left => by
    have h1 := carveF_len x m (f + 1) (carveB (ve x f).Value f (bitsOf (ve x f) (ve left f)) left).2
    have h2 := bitsDn_le128 (wless (ve x f).Mask (ve left f).Mask) 128
    rw [carveF, List.length_append, carveB_len]
    unfold bitsOf at *
    omega
theorem partsC_len (a x : Cube) : (partsC a x).length ≤ 3072 := by
  unfold partsC
  cases meetsB a x
  · simp
  · have := carveF_len x 24 0 (cclean a)
    rw [cond_true]; omega
def cl (n : Int) (free : Bool) : cover_look := ⟨⟨n, free⟩⟩
def Told (free : Bool) (N : Int) (f : Option (Header × Bool × Bool × cover_look)) (n : Int) (r : Header × Bool × Int) : Prop :=
  ∃ s', f = some (r.1, r.2.1, decide (0 ≤ r.2.2), s') ∧ (0 ≤ r.2.2 → s' = cl r.2.2 free ∧ r.2.2 ≤ N)
theorem body_run (free : Bool) (N : Int) (l : List Cube) (i : Nat) (hi : i < l.length) (hN : N < 9223372036854775808) (x10 : Bool × Int) (hx : x10.2 = (i : Int)) (hl : l.length < 4294967296) (R : cover_look → Cube → List Cube → Option (Header × Bool × Bool × cover_look)) (R' : Cube → Int → Header × Bool × Int)
    (hR : ∀ p n, 0 ≤ n → n ≤ N → Told free N (R (cl n free) p (l.drop (i + 1))) n (R' p n)) (hn : ∀ p m, (R' p m).2.1 = false → (R' p m).1 = noneH) : ∀ (ps : List Cube) (n : Int), 0 ≤ n → n ≤ N →
    ∃ s', yf (fun (s : cover_look × Header × Bool × Bool) x => F_cover_look_at_s_b1 l x10 R s.1 s.2.1 s.2.2.1 s.2.2.2 x) ps (cl n free, noneH, false, true) =
      some (bif (loopC R' ps n).2.1 || decide ((loopC R' ps n).2.2 < 0) then .out (.exit 1) (s', (loopC R' ps n).1, (loopC R' ps n).2.1, decide (0 ≤ (loopC R' ps n).2.2)) else .go (s', noneH, false, true)) ∧ (0 ≤ (loopC R' ps n).2.2 → s' = cl (loopC R' ps n).2.2 free ∧ (loopC R' ps n).2.2 ≤ N)
  | [], n, h0, h1 => by
    refine ⟨cl n free, ?_, fun _ => ⟨rfl, h1⟩⟩
    rw [yf, loopC, decide_eq_false (by show ¬ (n < 0); omega)]; rfl
  | p :: ps, n, h0, h1 => by
    obtain ⟨s', h2, h3⟩ := hR p n h0 h1
    have hb : F_cover_look_at_s_b1 l x10 R (cl n free) noneH false true p = some (bif (R' p n).2.1 || decide ((R' p n).2.2 < 0) then .out (.exit 1) (s', (R' p n).1, (R' p n).2.1, decide (0 ≤ (R' p n).2.2)) else .go (s', (R' p n).1, (R' p n).2.1, decide (0 ≤ (R' p n).2.2))) := by
      unfold F_cover_look_at_s_b1
      rw [hx, inc i (by omega), odrop_ok _ _ (by omega), Option.bind_some, h2, Option.bind_some]
      have : (!decide (0 ≤ (R' p n).2.2)) = decide ((R' p n).2.2 < 0) := by
        by_cases h : (R' p n).2.2 < 0
        · rw [decide_eq_true h, decide_eq_false (by omega)]; rfl
        · rw [decide_eq_false h, decide_eq_true (by omega)]; rfl
      show (bif ((R' p n).2.1 || !decide (0 ≤ (R' p n).2.2)) then _ else _) = _
      rw [this]
      cases (R' p n).2.1 || decide ((R' p n).2.2 < 0) <;> rfl
    rw [yf]
    show ∃ s'', (F_cover_look_at_s_b1 l x10 R (cl n free) noneH false true p).bind _ = _ ∧ _
    rw [hb, Option.bind_some, loopC]
    cases hc : (R' p n).2.1 || decide ((R' p n).2.2 < 0)
    · rw [Bool.or_eq_false_iff, decide_eq_false_iff_not] at hc
      have h4 : 0 ≤ (R' p n).2.2 := by omega
      obtain ⟨h5, h6⟩ := h3 h4
      obtain ⟨s'', h7, h8⟩ := body_run free N l i hi hN x10 hx hl R R' hR hn ps (R' p n).2.2 h4 h6
      refine ⟨s'', ?_, h8⟩
      rw [cond_false, cond_false, h5, hn p n hc.1, hc.1, decide_eq_true h4]
      exact h7
    · refine ⟨s', ?_, h3⟩
      rw [cond_true, cond_true, hc]; rfl
theorem look_at_step (free : Bool) (N : Int) (hN : N < 9223372036854775808) (d fuel : Nat) (c : Cube) (l : List Cube) (hl : l.length < 4294967296) (n : Int) (h0 : 0 ≤ n) (h1 : n ≤ N)
    (ih : ∀ i, i < l.length → ∀ p n, 0 ≤ n → n ≤ N → Told free N (FR_cover_look_at fuel (cl n free) p (l.drop (i + 1))) n (lookC free d p (l.drop (i + 1)) n)) :
    Told free N (FR_cover_look_at (fuel + 1) (cl n free) c l) n (lookC free (d + 1) c l n) := by
  show Told free N (F_cover_look_at_s (FR_cover_look_at fuel) (cl n free) c l) n _
  unfold F_cover_look_at_s
  have hpay : F_cover_purse_pay (cl n free).purse = some (!(!free && decide (n < 1)), ⟨bif free then n else n - 1, free⟩) := by
    unfold F_cover_purse_pay
    cases free
    · have e : IntKind.i64.wrap (n - 1) = n - 1 := wrap_i64 (by omega) (by omega)
      show some (decide (IntKind.i64.wrap (n - 1) ≥ 0), (⟨IntKind.i64.wrap (n - 1), false⟩ : cover_purse)) = _
      rw [e]
      by_cases h : n < 1
      · rw [decide_eq_true h, decide_eq_false (by omega)]; rfl
      · rw [decide_eq_false h, decide_eq_true (by omega)]; rfl
    · rfl
  rw [hpay, Option.bind_some, lookC]
  cases hp : !free && decide (n < 1)
  · have hn1 : 0 ≤ (bif free then n else n - 1) ∧ (bif free then n else n - 1) ≤ N := by
      cases free
      · simp only [Bool.not_false, Bool.true_and, decide_eq_false_iff_not] at hp
        simp only [cond_false]; omega
      · simp only [cond_true]; omega
    generalize (bif free then n else n - 1) = n1 at hn1 ⊢
    simp only [Bool.not_false, Bool.not_true, cond_false]
    obtain ⟨j, hj⟩ := F_cover_among_l1_eq c l 0 (-1)
    unfold F_cover_among
    rw [hj, Option.bind_some]
    cases hw : l.any (cwithin c)
    · simp only [cond_false]
      have hfi : firstI c l 0 (-1) = match firstM c l 0 with | none => -1 | some k => (k : Int) := rfl
      rw [hfi]
      have hsp := firstM_spec c l 0
      cases hf : firstM c l 0 with
      | none =>
        simp only
        rw [show decide ((-1 : Int) < 0) = true from rfl, cond_true, F_cube_Pick_eq, Option.bind_some]
        exact ⟨cl n1 free, by rw [decide_eq_true hn1.1]; rfl, fun _ => ⟨rfl, hn1.2⟩⟩
      | some i =>
        rw [hf] at hsp
        obtain ⟨j', hj1, hj2, hj3, hj4⟩ := hsp
        have hij : i = j' := by omega
        subst hij
        simp only
        rw [decide_eq_false (by omega), cond_false, lget_lt hj2, Option.bind_some, List.getElem?_eq_getElem hj2]
        unfold F_carve_Parts
        rw [Option.bind_some]
        obtain ⟨s', h2, h3⟩ := body_run free N l i hj2 hN (false, (i : Int)) rfl hl (FR_cover_look_at fuel) (fun p m => lookC free d p (l.drop (i + 1)) m) (fun p n a b => ih i hj2 p n a b) (fun p m h => lookC_none free d p _ m h) (partsC c l[i]) n1 hn1.1 hn1.2
        show Told free N ((F_carve_Parts_1 (cover_look × Header × Bool × Bool) (fun s x => F_cover_look_at_s_b1 l (false, (i : Int)) (FR_cover_look_at fuel) s.1 s.2.1 s.2.2.1 s.2.2.2 x) (.go (cl n1 free, noneH, false, true)) c l[i]).bind _) n (loopC (fun p m => lookC free d p (l.drop (i + 1)) m) (partsC c l[i]) n1)
        rw [F_carve_Parts_1_eq, h2, Option.bind_some]
        have hnn := loopC_none (R := fun p m => lookC free d p (l.drop (i + 1)) m) (fun p m h => lookC_none free d p _ m h) (partsC c l[i]) n1
        generalize loopC (fun p m => lookC free d p (l.drop (i + 1)) m) (partsC c l[i]) n1 = r at *
        cases hc : r.2.1 || decide (r.2.2 < 0)
        · rw [Bool.or_eq_false_iff, decide_eq_false_iff_not] at hc
          refine ⟨s', ?_, h3⟩
          rw [hnn hc.1, hc.1, decide_eq_true (show 0 ≤ r.2.2 by omega)]; rfl
        · exact ⟨s', rfl, h3⟩
    · refine ⟨cl n1 free, ?_, fun _ => ⟨rfl, hn1.2⟩⟩
      show some (noneH, false, true, cl n1 free) = some (noneH, false, decide (0 ≤ n1), cl n1 free)
      rw [decide_eq_true hn1.1]
  · exact ⟨_, rfl, fun h => by simp at h⟩
theorem F_cover_look_at_eq (free : Bool) (N : Int) (hN : N < 9223372036854775808) : ∀ (d fuel : Nat) (c : Cube) (l : List Cube) (n : Int), l.length < d → d ≤ fuel → l.length < 4294967296 → 0 ≤ n → n ≤ N →
    Told free N (FR_cover_look_at fuel (cl n free) c l) n (lookC free d c l n)
  | 0, fuel, c, l, n, h, _, _, _, _ => by omega
  | d + 1, 0, c, l, n, _, h, _, _, _ => by omega
  | d + 1, fuel + 1, c, l, n, h1, h2, h3, h4, h5 =>
    look_at_step free N hN d fuel c l h3 n h4 h5 fun i hi p m h6 h7 => F_cover_look_at_eq free N hN d fuel p (l.drop (i + 1)) m (by rw [List.length_drop]; omega) (by omega) (by rw [List.length_drop]; omega) h6 h7
theorem F_r08_look_l3_eq (free : Bool) (N : Int) (pts l : List Cube) (hpl : pts.length ≤ 100000) (i0 : Nat) (hi0 : i0 < l.length) (hl : l.length < 4294967296) (R : Cube → List Cube → Int → Bool → Option (Header × Bool × Int)) (R' : Cube → Int → Header × Bool × Int)
    (hR : ∀ p n, 0 ≤ n → n ≤ N → R p (l.drop (i0 + 1)) n free = some (R' p n) ∧ (R' p n).2.2 ≤ N) (hn : ∀ p m, (R' p m).2.1 = false → (R' p m).1 = noneH) : ∀ (m i : Nat) (n : Int), i ≤ pts.length → pts.length < i + m → 0 ≤ n → n ≤ N →
    F_r08_look_s_l3 pts l (i0 : Int) R free m n (i : Int) = some (loopC R' (pts.drop i) n)
  | 0, i, n, h1, h2, _, _ => by omega
  | m + 1, i, n, h1, h2, h3, h4 => by
    rw [F_r08_look_s_l3]
    by_cases hi : i < pts.length
    · obtain ⟨h5, h6⟩ := hR pts[i] n h3 h4
      rw [decide_eq_true (by omega), cond_true, lget_lt hi, Option.bind_some, inc i0 (by omega), odrop_ok _ _ (by omega), Option.bind_some, h5, Option.bind_some, List.drop_eq_getElem_cons hi, loopC]
      cases hc : (R' pts[i] n).2.1 || decide ((R' pts[i] n).2.2 < 0)
      · rw [Bool.or_eq_false_iff, decide_eq_false_iff_not] at hc
        rw [cond_false, cond_false, inc i (by omega)]
        exact F_r08_look_l3_eq free N pts l hpl i0 hi0 hl R R' hR hn m (i + 1) _ (by omega) (by omega) (by omega) h6
      · rfl
    · rw [decide_eq_false (by omega), cond_false, List.drop_of_length_le (by omega)]; rfl
theorem F_r08_look_l2_eq (free : Bool) (l : List Cube) (hl : l.length < 4294967296) (c : Cube) (n1 : Int) (R : Cube → List Cube → Int → Bool → Option (Header × Bool × Int)) : ∀ (m i : Nat) (first : Int), i ≤ l.length → l.length < i + m →
    F_r08_look_s_l2 l c n1 R free m first (i : Int) = bif (l.drop i).any (cwithin c) then some (noneH, false, n1) else
      (bif decide (firstI c (l.drop i) i first < 0) then some (cpick c, true, n1) else (lget l (firstI c (l.drop i) i first)).bind fun e => F_r08_look_s_l3 (partsC c e) l (firstI c (l.drop i) i first) R free ((((partsC c e).length : Int) - 0).toNat + 1) n1 0)
  | 0, i, first, h1, h2 => by omega
  | m + 1, i, first, h1, h2 => by
    rw [F_r08_look_s_l2]
    by_cases hi : i < l.length
    · obtain ⟨z, hz⟩ := F_r06_Meet_eqB c l[i]
      have ih := fun f => F_r08_look_l2_eq free l hl c n1 R m (i + 1) f (by omega) (by omega)
      rw [decide_eq_true (by omega), cond_true, lget_lt hi, Option.bind_some, F_r06_Within_eq, Option.bind_some, List.drop_eq_getElem_cons hi, List.any_cons]
      cases hw : cwithin c l[i]
      · rw [cond_false, Bool.false_or, Option.bind_some, hz, Option.bind_some, inc i (by omega)]
        cases hm : meetsB c l[i]
        · have hf : firstI c (l[i] :: l.drop (i + 1)) i first = firstI c (l.drop (i + 1)) (i + 1) first := by
            unfold firstI
            rw [firstM, hm, cond_false]
          rw [hf]
          exact ih first
        · have hf : firstI c (l[i] :: l.drop (i + 1)) i first = bif decide (first < 0) then (i : Int) else first := by
            unfold firstI
            rw [firstM, hm, cond_true]
          by_cases h : first < 0
          · have hg : firstI c (l.drop (i + 1)) (i + 1) (i : Int) = (i : Int) := by unfold firstI; rw [decide_eq_false (by omega)]; rfl
            rw [hf, decide_eq_true h]
            simp only [Bool.true_and, cond_true]
            rw [ih (i : Int), hg]
          · have hg : firstI c (l.drop (i + 1)) (i + 1) first = first := by unfold firstI; rw [decide_eq_false h]; rfl
            rw [hf, decide_eq_false h]
            simp only [Bool.and_false, cond_false]
            rw [ih first, hg]
      · rfl
    · rw [decide_eq_false (by omega), cond_false, List.drop_of_length_le (by omega)]
      have hf : firstI c [] i first = first := by unfold firstI firstM; cases decide (first < 0) <;> rfl
      rw [hf, List.any_nil, cond_false]
      cases decide (first < 0)
      · rw [cond_false, cond_false]
        cases lget l first with
        | none => rfl
        | some e => rw [Option.bind_some, Option.bind_some, F_r07_List_eq]; rfl
      · rw [cond_true, cond_true, F_r06_Pick_eq]; rfl
theorem loopC_le (N : Int) {R : Cube → Int → Header × Bool × Int} (hR : ∀ p n, 0 ≤ n → n ≤ N → (R p n).2.2 ≤ N) : ∀ (ps : List Cube) (n : Int), 0 ≤ n → n ≤ N → (loopC R ps n).2.2 ≤ N
  | [], n, _, h => h
  | p :: ps, n, h0, h => by
    rw [loopC]
    cases hc : (R p n).2.1 || decide ((R p n).2.2 < 0)
    · rw [Bool.or_eq_false_iff, decide_eq_false_iff_not] at hc
      rw [cond_false]
      exact loopC_le N hR ps _ (by omega) (hR p n h0 h)
    · exact hR p n h0 h
theorem F_r08_look_step (free : Bool) (N : Int) (hN : N < 9223372036854775808) (hN0 : 0 ≤ N) (d fuel : Nat) (c : Cube) (l : List Cube) (hl : l.length < 4294967296) (n : Int) (h0 : 0 ≤ n) (h1 : n ≤ N)
    (ih : ∀ i, i < l.length → ∀ p n, 0 ≤ n → n ≤ N → FR_r08_look fuel p (l.drop (i + 1)) n free = some (lookC free d p (l.drop (i + 1)) n) ∧ (lookC free d p (l.drop (i + 1)) n).2.2 ≤ N) :
    FR_r08_look (fuel + 1) c l n free = some (lookC free (d + 1) c l n) ∧ (lookC free (d + 1) c l n).2.2 ≤ N := by
  show F_r08_look_s (FR_r08_look fuel) c l n free = _ ∧ _
  unfold F_r08_look_s
  rw [lookC]
  cases hp : !free && decide (n < 1)
  · have hn1 : 0 ≤ (bif free then n else n - 1) ∧ (bif free then n else n - 1) ≤ N := by
      cases free
      · simp only [Bool.not_false, Bool.true_and, decide_eq_false_iff_not] at hp
        simp only [cond_false]; omega
      · simp only [cond_true]; omega
    have hj : (bif !free then F_r08_look_s_j1 l c (FR_r08_look fuel) free (IntKind.i64.wrap (n - 1)) else F_r08_look_s_j1 l c (FR_r08_look fuel) free n) = F_r08_look_s_j1 l c (FR_r08_look fuel) free (bif free then n else n - 1) := by
      cases free
      · rw [wrap_i64 (by omega) (by omega)]; rfl
      · rfl
    rw [cond_false, hj]
    generalize (bif free then n else n - 1) = n1 at hn1 ⊢
    unfold F_r08_look_s_j1
    have h2 := F_r08_look_l2_eq free l hl c n1 (FR_r08_look fuel) ((((l.length : Int) : Int) - 0).toNat + 1) 0 (-1) (by omega) (by omega)
    rw [show ((0 : Nat) : Int) = 0 from rfl, List.drop_zero] at h2
    rw [h2, cond_false]
    cases hw : l.any (cwithin c)
    · simp only [cond_false]
      have hfi : firstI c l 0 (-1) = match firstM c l 0 with | none => -1 | some k => (k : Int) := rfl
      rw [hfi]
      have hsp := firstM_spec c l 0
      cases hf : firstM c l 0 with
      | none => exact ⟨rfl, hn1.2⟩
      | some i =>
        rw [hf] at hsp
        obtain ⟨j', hj1, hj2, hj3, hj4⟩ := hsp
        have hij : i = j' := by omega
        subst hij
        simp only
        rw [decide_eq_false (by omega), cond_false, lget_lt hj2, Option.bind_some, List.getElem?_eq_getElem hj2]
        have hpl := partsC_len c l[i]
        have h3 := F_r08_look_l3_eq free N (partsC c l[i]) l (by omega) i hj2 hl (FR_r08_look fuel) (fun p m => lookC free d p (l.drop (i + 1)) m) (fun p n a b => ih i hj2 p n a b) (fun p m h => lookC_none free d p _ m h) ((((partsC c l[i]).length : Int) - 0).toNat + 1) 0 n1 (by omega) (by omega) hn1.1 hn1.2
        rw [show ((0 : Nat) : Int) = 0 from rfl, List.drop_zero] at h3
        exact ⟨h3, loopC_le N (fun p n a b => (ih i hj2 p n a b).2) _ _ hn1.1 hn1.2⟩
    · exact ⟨rfl, hn1.2⟩
  · exact ⟨rfl, by show (-1 : Int) ≤ N; omega⟩
theorem F_r08_look_eq (free : Bool) (N : Int) (hN : N < 9223372036854775808) (hN0 : 0 ≤ N) : ∀ (d fuel : Nat) (c : Cube) (l : List Cube) (n : Int), l.length < d → d ≤ fuel → l.length < 4294967296 → 0 ≤ n → n ≤ N →
    FR_r08_look fuel c l n free = some (lookC free d c l n) ∧ (lookC free d c l n).2.2 ≤ N
  | 0, fuel, c, l, n, h, _, _, _, _ => by omega
  | d + 1, 0, c, l, n, _, h, _, _, _ => by omega
  | d + 1, fuel + 1, c, l, n, h1, h2, h3, h4, h5 =>
    F_r08_look_step free N hN hN0 d fuel c l h3 n h4 h5 fun i hi p m h6 h7 => F_r08_look_eq free N hN hN0 d fuel p (l.drop (i + 1)) m (by rw [List.length_drop]; omega) (by omega) (by rw [List.length_drop]; omega) h6 h7
end Go.Proofs.YtknpgojdkobgjaaGreat.W
set_option linter.unusedVariables false
set_option linter.unusedSimpArgs false
namespace Go.Proofs.YtknpgojdkobgjaaGreat.W
open Go Go.Wb
def findR (l : List Rule) (h : Header) : Int × Bool := (imax (fidx (hasR h) l) 0, decide (fidx (hasR h) l ≥ 0))
theorem F_find_Find_eq (f : Flat) (h : Header) : F_find_Find f h = some (findR f.Rules h) := by
  unfold F_find_Find F_find_has
  rw [Option.bind_some, F_slices_IndexFunc_Rule_eq f.Rules (fun x => F_find_has_1 x h) (hasR h) (fun r _ => by unfold F_find_has_1; rw [F_cube_Has_eq]; rfl), Option.bind_some]; rfl
theorem imax_nat (k : Nat) : imax (k : Int) 0 = (k : Int) := by unfold imax; rw [decide_eq_false (show ¬ ((0 : Int) > (k : Int)) by omega)]; rfl
set_option maxRecDepth 100000 in
theorem F_l36_awake_eq : F_l36_awake = some true := by decide +kernel
end Go.Proofs.YtknpgojdkobgjaaGreat.W
set_option linter.unusedVariables false
set_option linter.unusedSimpArgs false
namespace Go.Proofs.YtknpgojdkobgjaaGreat.W
open Go Go.Wb
theorem bitsDn_nodup (a : Wide) : ∀ n, (bitsDn a n).Nodup
  | 0 => List.nodup_nil
  | n + 1 => by
    rw [bitsDn]
    cases wt a n
    · exact bitsDn_nodup a n
    · rw [cond_true, List.nodup_cons]
      refine ⟨fun h => ?_, bitsDn_nodup a n⟩
      obtain ⟨k, h1, h2, _⟩ := (bitsDn_mem _ _ _).1 h
      omega
theorem fixT_mask (t : Tern) (i : Nat) (hi : i < 128) (on : Bool) (k : Nat) (hk : k < 128) : wt (fixT t i on).Mask k = (wt t.Mask k || decide (i = k)) := by
  unfold fixT tclean
  cases on <;> simp only [cond_true, cond_false, wt_or, wt_bit i k hi hk]
theorem chas_setC {c : Cube} {f : Nat} (hf : f < 24) {t : Tern} {h : Header} : chas (setC c f t) h = true ↔ (∀ g, g < 24 → g ≠ f → thas (ve c g) (ve h g) = true) ∧ thas t (ve h f) = true := by
  rw [chas_iff]
  constructor
  · intro hh
    refine ⟨fun g hg hne => ?_, ?_⟩
    · have := hh g hg
      rwa [ve_setC _ _ _ _ hg, if_neg (fun e => hne e.symm)] at this
    · have := hh f hf
      rwa [ve_setC _ _ _ _ hf, if_pos rfl] at this
  · rintro ⟨h1, h2⟩ g hg
    rw [ve_setC _ _ _ _ hg]
    by_cases e : f = g
    · subst e; rw [if_pos rfl]; exact h2
    · rw [if_neg e]; exact h1 g hg fun e' => e e'.symm
theorem fix_sub {c : Cube} {f b : Nat} (hf : f < 24) (hb : b < 128) {on : Bool} {h : Header} (hm : wt (ve c f).Mask b = false) (hh : chas (setC c f (fixT (ve c f) b on)) h = true) : chas c h = true ∧ wt (ve h f) b = on := by
  obtain ⟨h1, h2⟩ := (chas_setC hf).1 hh
  obtain ⟨h3, h4⟩ := (thas_fix _ _ hb _ _).1 h2
  refine ⟨(chas_iff _ _).2 fun g hg => ?_, h4⟩
  by_cases e : g = f
  · subst e
    exact (thas_iff _ _).2 fun k hk hmk => h3 k hk (fun e => by rw [e, hm] at hmk; cases hmk) hmk
  · exact h1 g hg e
theorem carveB_sound (xv : Wide) (f : Nat) (hf : f < 24) (h : Header) : ∀ (l : List Int) (left : Cube), bits128 l → l.Nodup → (∀ i ∈ l, wt (ve left f).Mask i.toNat = false) →
    (∀ p ∈ (carveB xv f l left).1, chas p h = true → chas left h = true ∧ ∃ i ∈ l, wt (ve h f) i.toNat = !wt xv i.toNat) ∧ (chas (carveB xv f l left).2 h = true → chas left h = true)
  | [], left, _, _, _ => ⟨fun p hp => (List.not_mem_nil hp).elim, fun hh => hh⟩
  | i :: l, left, hl, hn, hm => by
    obtain ⟨b, rfl, hb⟩ := hl i (by simp)
    rw [List.nodup_cons] at hn
    have hmb := hm _ (List.mem_cons_self ..)
    rw [Int.toNat_natCast] at hmb
    have ih := carveB_sound xv f hf h l (setC left f (fixT (ve left f) b (wt xv b))) (fun j hj => hl j (by simp [hj])) hn.2 (fun j hj => by
      obtain ⟨k, rfl, hk⟩ := hl j (by simp [hj])
      have h1 := hm _ (List.mem_cons_of_mem _ hj)
      rw [Int.toNat_natCast] at h1 ⊢
      rw [ve_setC _ _ _ _ hf, if_pos rfl, fixT_mask _ _ hb _ _ hk, h1, Bool.false_or, decide_eq_false_iff_not]
      intro e
      subst e
      exact hn.1 hj)
    rw [carveB, Int.toNat_natCast]
    refine ⟨fun p hp hh => ?_, fun hh => (fix_sub hf hb hmb (ih.2 hh)).1⟩
    rcases List.mem_cons.1 hp with rfl | hp
    · obtain ⟨h1, h2⟩ := fix_sub hf hb hmb hh
      exact ⟨h1, (b : Int), by simp, by rw [Int.toNat_natCast]; exact h2⟩
    · obtain ⟨h1, i, hi, h2⟩ := ih.1 p hp hh
      exact ⟨(fix_sub hf hb hmb h1).1, i, by simp [hi], h2⟩
theorem carveF_sound (x : Cube) (h : Header) : ∀ (m f : Nat) (left : Cube), f + m = 24 → ∀ p ∈ carveF x m f left, chas p h = true → chas left h = true ∧ chas x h = false
  | 0, f, left, _, p, hp => by cases hp
  | m + 1, f, left, hm, p, hp => by
    intro hh
    have hf : f < 24 := by omega
    have hs := carveB_sound (ve x f).Value f hf h (bitsOf (ve x f) (ve left f)) left (bitsOf_128 _ _) (bitsDn_nodup _ _) (fun i hi => by
      obtain ⟨k, rfl, hk, hw⟩ := (bitsDn_mem _ _ _).1 hi
      rw [wt_less _ _ _ hk] at hw
      rw [Int.toNat_natCast]
      cases hq : wt (ve left f).Mask k
      · rfl
      · rw [hq] at hw; simp at hw)
    rw [carveF] at hp
    rcases List.mem_append.1 hp with hp | hp
    · obtain ⟨h1, i, hi, h2⟩ := hs.1 p hp hh
      obtain ⟨k, rfl, hk, hw⟩ := (bitsDn_mem _ _ _).1 hi
      rw [wt_less _ _ _ hk, Bool.and_eq_true] at hw
      rw [Int.toNat_natCast] at h2
      refine ⟨h1, ?_⟩
      cases hx : chas x h
      · rfl
      · have := (thas_iff _ _).1 ((chas_iff _ _).1 hx f hf) k hk hw.1
        rw [h2] at this
        cases hv : wt (ve x f).Value k <;> rw [hv] at this <;> simp at this
    · obtain ⟨h1, h2⟩ := carveF_sound x h m (f + 1) _ (by omega) p hp hh
      exact ⟨hs.2 h1, h2⟩
theorem partsC_sound {a x : Cube} (hm : meetsB a x = true) {h : Header} {p : Cube} (hp : p ∈ partsC a x) (hh : chas p h = true) : chas a h = true ∧ chas x h = false := by
  unfold partsC at hp
  rw [hm, cond_true] at hp
  have := carveF_sound x h 24 0 (cclean a) rfl p hp hh
  rwa [chas_clean] at this
theorem chas_pick (c : Cube) : chas c (cpick c) = true := (chas_iff _ _).2 fun f hf => (thas_iff _ _).2 fun k hk hm => by
  unfold cpick
  rw [ve_ofFn (fun f => (tclean (ve c f)).Value) f hf]
  unfold tclean
  rw [wt_and, hm, Bool.and_true]
theorem meetsB_none {a x : Cube} (hm : meetsB a x = false) {h : Header} (h1 : chas a h = true) : chas x h = false := by
  cases hx : chas x h
  · rfl
  · unfold meetsB at hm
    cases hc : cmeet a x with
    | none => exact (chas_meet_none hc h h1 hx).elim
    | some z => rw [hc] at hm; cases hm
theorem loopC_found {R : Cube → Int → Header × Bool × Int} : ∀ (ps : List Cube) (n : Int), (loopC R ps n).2.1 = true → ∃ p ∈ ps, ∃ m, loopC R ps n = R p m
  | [], n, h => by cases h
  | p :: ps, n, h => by
    rw [loopC] at h ⊢
    cases hc : (R p n).2.1 || decide ((R p n).2.2 < 0)
    · rw [hc, cond_false] at h
      rw [cond_false]
      obtain ⟨q, hq, m, e⟩ := loopC_found ps _ h
      exact ⟨q, by simp [hq], m, e⟩
    · exact ⟨p, by simp, n, rfl⟩
theorem lookC_sound (free : Bool) : ∀ (d : Nat) (c : Cube) (l : List Cube) (n : Int), (lookC free d c l n).2.1 = true → chas c (lookC free d c l n).1 = true ∧ ∀ x ∈ l, chas x (lookC free d c l n).1 = false
  | 0, c, l, n, h => by cases h
  | d + 1, c, l, n, h => by
    rw [lookC] at h ⊢
    cases h1 : !free && decide (n < 1)
    · rw [h1, cond_false] at h
      rw [cond_false]
      cases h2 : l.any (cwithin c)
      · rw [h2, cond_false] at h
        rw [cond_false]
        have hsp := firstM_spec c l 0
        cases h3 : firstM c l 0 with
        | none =>
          rw [h3] at hsp
          exact ⟨chas_pick c, fun x hx => meetsB_none (hsp x hx) (chas_pick c)⟩
        | some i =>
          rw [h3] at h hsp
          obtain ⟨j, hj1, hj2, hj3, hj4⟩ := hsp
          have hij : i = j := by omega
          subst hij
          simp only at h ⊢
          rw [List.getElem?_eq_getElem hj2] at h ⊢
          simp only at h ⊢
          obtain ⟨p, hp, m, e⟩ := loopC_found _ _ h
          rw [e] at h ⊢
          obtain ⟨h5, h6⟩ := lookC_sound free d p (l.drop (i + 1)) m h
          obtain ⟨h7, h8⟩ := partsC_sound hj3 hp h5
          refine ⟨h7, fun x hx => ?_⟩
          rw [← List.take_append_drop i l, List.mem_append] at hx
          rcases hx with hx | hx
          · exact meetsB_none (hj4 x hx) h7
          · rw [List.drop_eq_getElem_cons hj2] at hx
            rcases List.mem_cons.1 hx with rfl | hx
            · exact h8
            · exact h6 x hx
      · rw [h2] at h; cases h
    · rw [h1] at h; cases h
def lookW (c : Cube) (l : List Cube) (most : Int) : Header × Bool × Int := lookC (decide (most ≥ 1099511627776)) (l.length + 1) c l (imax most 0)
def lookT (c : Cube) (l : List Cube) (most : Int) : Header × Bool × Int := bif decide ((lookW c l most).2.2 < 0) then (noneH, false, 5) else ((lookW c l most).1, (lookW c l most).2.1, 0)
theorem imax0 (m : Int) : 0 ≤ imax m 0 ∧ imax m 0 ≤ max m 0 := by
  unfold imax
  by_cases h : (0 : Int) > m
  · rw [decide_eq_true h, cond_true]; omega
  · rw [decide_eq_false h, cond_false]; omega
theorem F_cover_Look_eq (c : Cube) (l : List Cube) (most : Int) (hm : most ≤ 9223372036854775807) (hl : l.length ≤ 1000000) : F_cover_Look c l most = some (lookT c l most) := by
  have hi := imax0 most
  unfold F_cover_Look F_cover_look_at lookT
  obtain ⟨s', h1, h2⟩ := F_cover_look_at_eq (decide (most ≥ 1099511627776)) (imax most 0) (by omega) (l.length + 1) fuel0 c l (imax most 0) (by omega) (by unfold fuel0; omega) (by omega) hi.1 (by omega)
  show (FR_cover_look_at fuel0 (cl (imax most 0) (decide (most ≥ 1099511627776))) c l).bind _ = _
  rw [h1, Option.bind_some]
  show (bif !(decide (0 ≤ (lookW c l most).2.2)) then _ else _) = _
  by_cases h : (lookW c l most).2.2 < 0
  · rw [decide_eq_true h, decide_eq_false (by omega)]; rfl
  · rw [decide_eq_false h, decide_eq_true (by omega)]; rfl
theorem F_r08_Look_eq (c : Cube) (l : List Cube) (most : Int) (hm : most ≤ 9223372036854775807) (hl : l.length ≤ 1000000) : F_r08_Look c l most = some (lookT c l most) := by
  have hi := imax0 most
  unfold F_r08_Look F_r08_look lookT
  obtain ⟨h1, h2⟩ := F_r08_look_eq (decide (most ≥ 1099511627776)) (imax most 0) (by omega) hi.1 (l.length + 1) fuel0 c l (imax most 0) (by omega) (by unfold fuel0; omega) (by omega) hi.1 (by omega)
  rw [h1, Option.bind_some]
  show (bif decide ((lookW c l most).2.2 < 0) then _ else _) = _
  cases decide ((lookW c l most).2.2 < 0) <;> rfl
theorem lookT_sound {c : Cube} {l : List Cube} {most : Int} (h : (lookT c l most).2.1 = true) : chas c (lookT c l most).1 = true ∧ ∀ x ∈ l, chas x (lookT c l most).1 = false := by
  unfold lookT at h ⊢
  cases hc : decide ((lookW c l most).2.2 < 0)
  · rw [hc, cond_false] at h
    rw [cond_false]
    exact lookC_sound _ _ _ _ _ h
  · rw [hc] at h; cases h
theorem F_shadow_Cubes_l1_eq : ∀ (l : List Rule) (pre : List Cube), F_shadow_Cubes_l1 l pre.length (pre ++ List.replicate l.length (Vector.replicate 24 zTern)) = some (pre ++ l.map (·.Cube))
  | [], pre => by simp [F_shadow_Cubes_l1]
  | r :: l, pre => by
    have hlt : pre.length < (pre ++ List.replicate (r :: l).length (Vector.replicate 24 zTern)).length := by simp
    rw [F_shadow_Cubes_l1, lget_lt hlt, Option.bind_some, Int.toNat_natCast]
    have e : List.set (pre ++ List.replicate (r :: l).length (Vector.replicate 24 zTern)) pre.length r.Cube = (pre ++ [r.Cube]) ++ List.replicate l.length (Vector.replicate 24 zTern) := by
      rw [List.length_cons, List.replicate_succ, List.set_append_right _ _ (Nat.le_refl _)]; simp
    have ih := F_shadow_Cubes_l1_eq l (pre ++ [r.Cube])
    rw [e]
    rw [List.length_append, List.length_singleton] at ih
    rw [ih]; simp
theorem omk_natW (n : Nat) (h : n ≤ lim) : omk (n : Int) = some () := by
  unfold omk
  rw [decide_eq_false (by omega), decide_eq_false (by omega)]; rfl
theorem F_shadow_Cubes_eq (l : List Rule) (h : l.length ≤ 1000000) : F_shadow_Cubes l = some (l.map (·.Cube)) := by
  have hlim : lim = 4294967296 := rfl
  unfold F_shadow_Cubes
  rw [omk_natW _ (by omega), Option.bind_some, Int.toNat_natCast]
  exact F_shadow_Cubes_l1_eq l []
theorem F_r34_Cubes_l1_eq (l : List Rule) (hl : l.length ≤ 1000000) : ∀ (m i : Nat) (acc : List Cube), i ≤ l.length → l.length < i + m → acc.length ≤ i → F_r34_Cubes_l1 l m acc (i : Int) = some (acc ++ (l.drop i).map (·.Cube))
  | 0, i, acc, h1, h2, _ => by omega
  | m + 1, i, acc, h1, h2, h3 => by
    have hlim : lim = 4294967296 := rfl
    rw [F_r34_Cubes_l1]
    by_cases hi : i < l.length
    · rw [decide_eq_true (by omega), cond_true, lget_lt hi, Option.bind_some, appd_ok (by simp; omega), Option.bind_some, inc i (by omega), F_r34_Cubes_l1_eq l hl m (i + 1) _ (by omega) (by omega) (by simp; omega), List.drop_eq_getElem_cons hi, List.map_cons, List.append_assoc]
      rfl
    · rw [decide_eq_false (by omega), cond_false, List.drop_of_length_le (by omega)]; simp
theorem F_r34_Cubes_eq (l : List Rule) (hl : l.length ≤ 1000000) : F_r34_Cubes l = some (l.map (·.Cube)) := by
  unfold F_r34_Cubes
  have := F_r34_Cubes_l1_eq l hl ((((l.length : Int) : Int) - 0).toNat + 1) 0 [] (by omega) (by omega) (by simp)
  rw [show ((0 : Nat) : Int) = 0 from rfl, List.drop_zero, List.nil_append] at this
  exact this
theorem otake_nat {α : Type} (l : List α) (i : Nat) (h : i ≤ l.length) : otake l (i : Int) = some (l.take i) := by
  unfold otake
  simp [Nat.ble_eq_true_of_le h]
def lookR (l : List Rule) (i most : Int) : Header × Bool × Int := bif decide (i < 0) || decide (i ≥ (l.length : Int)) then (noneH, false, 6) else match l[i.toNat]? with
  | none => (noneH, false, 6)
  | some r => lookT r.Cube ((l.take i.toNat).map (·.Cube)) most
theorem F_shadow_Look_eq (l : List Rule) (i most : Int) (hl : l.length ≤ 1000000) (hm : most ≤ 9223372036854775807) : F_shadow_Look l i most = some (lookR l i most) := by
  unfold F_shadow_Look lookR
  cases hc : decide (i < 0) || decide (i ≥ (l.length : Int))
  · rw [Bool.or_eq_false_iff, decide_eq_false_iff_not, decide_eq_false_iff_not] at hc
    obtain ⟨n, rfl⟩ : ∃ n : Nat, i = (n : Int) := ⟨i.toNat, by omega⟩
    have hn : n < l.length := by omega
    rw [cond_false, cond_false, F_shadow_Cubes_eq l hl, Option.bind_some, lget_lt (show n < (l.map (·.Cube)).length by simpa using hn), Option.bind_some, otake_nat _ _ (by simp; omega), Option.bind_some, Int.toNat_natCast, List.getElem?_eq_getElem hn, F_cover_Look_eq _ _ _ hm (by simp; omega), Option.bind_some]
    simp [List.map_take]
  · rfl
theorem F_r34_Look_eq (l : List Rule) (i most : Int) (hl : l.length ≤ 1000000) (hm : most ≤ 9223372036854775807) : F_r34_Look l i most = some (lookR l i most) := by
  unfold F_r34_Look lookR
  cases hc : decide (i < 0) || decide (i ≥ (l.length : Int))
  · rw [Bool.or_eq_false_iff, decide_eq_false_iff_not, decide_eq_false_iff_not] at hc
    obtain ⟨n, rfl⟩ : ∃ n : Nat, i = (n : Int) := ⟨i.toNat, by omega⟩
    have hn : n < l.length := by omega
    rw [cond_false, cond_false, lget_lt hn, Option.bind_some, otake_nat _ _ (by omega), Option.bind_some, F_r34_Cubes_eq _ (by rw [List.length_take]; omega), Option.bind_some, F_r08_Look_eq _ _ _ hm (by rw [List.length_map, List.length_take]; omega), Option.bind_some, Int.toNat_natCast, List.getElem?_eq_getElem hn]
  · rfl
theorem fidx_at {α : Type} (p : α → Bool) : ∀ (l : List α) (n : Nat) (h : n < l.length), p l[n] = true → (∀ x ∈ l.take n, p x = false) → fidx p l = (n : Int)
  | [], n, h, _, _ => by simp at h
  | x :: l, 0, h, hp, _ => by
    rw [fidx]
    rw [List.getElem_cons_zero] at hp
    rw [hp]; rfl
  | x :: l, n + 1, h, hp, hq => by
    have h0 : p x = false := hq x (by simp)
    have ih := fidx_at p l n (by simpa using h) (by simpa using hp) (fun y hy => hq y (by rw [List.take_succ_cons]; exact List.mem_cons_of_mem _ hy))
    rw [fidx, h0, cond_false, ih, decide_eq_false (by omega), cond_false]; omega
theorem lookR_finds {l : List Rule} {i most : Int} (h : (lookR l i most).2.1 = true) : findR l (lookR l i most).1 = (i, true) := by
  unfold lookR at h ⊢
  cases hc : decide (i < 0) || decide (i ≥ (l.length : Int))
  · rw [hc, cond_false] at h
    rw [cond_false]
    rw [Bool.or_eq_false_iff, decide_eq_false_iff_not, decide_eq_false_iff_not] at hc
    obtain ⟨n, rfl⟩ : ∃ n : Nat, i = (n : Int) := ⟨i.toNat, by omega⟩
    have hn : n < l.length := by omega
    rw [Int.toNat_natCast, List.getElem?_eq_getElem hn] at h ⊢
    simp only at h ⊢
    obtain ⟨h1, h2⟩ := lookT_sound h
    generalize (lookT l[n].Cube (List.map (·.Cube) (List.take n l)) most).1 = w at h1 h2 ⊢
    have hf : fidx (hasR w) l = (n : Int) := fidx_at (hasR w) l n hn h1 fun r hr => h2 _ (List.mem_map_of_mem hr)
    unfold findR
    rw [hf, imax_nat, decide_eq_true (by omega)]
  · rw [hc] at h; cases h
theorem F_l36_FindWitness_eq (f : Flat) (i most : Int) : F_l36_FindWitness f i most = some true := by
  unfold F_l36_FindWitness
  rw [F_pl_Rules_eq, Option.bind_some]
  cases hf : fewR f.Rules 8
  · rw [Bool.not_false, Bool.true_or, cond_true, F_l36_awake_eq]; rfl
  · by_cases hm : most > 4096
    · rw [decide_eq_true hm, Bool.or_true, cond_true, F_l36_awake_eq]; rfl
    · have hR := fewR_light (many := 8) hf
      rw [decide_eq_false hm, Bool.not_true, Bool.false_or, cond_false]
      unfold F_find_Witness F_r36_Witness
      rw [F_shadow_Look_eq _ _ _ (by omega) (by omega), Option.bind_some, Option.bind_some, F_r34_Look_eq _ _ _ (by omega) (by omega), Option.bind_some, Option.bind_some]
      have hfin := @lookR_finds f.Rules i most
      generalize lookR f.Rules i most = r at *
      have e1 : ((decide (r.1 ≠ r.1) || !(r.2.1 == r.2.1)) || decide (r.2.2 ≠ r.2.2)) = false := by simp
      show (bif ((decide (r.1 ≠ r.1) || !(r.2.1 == r.2.1)) || decide (r.2.2 ≠ r.2.2)) then _ else _) = _
      rw [e1, cond_false]
      show (F_find_Find f r.1).bind _ = _
      rw [F_find_Find_eq, Option.bind_some, F_l36_awake_eq]
      have e2 : (!r.2.1 || ((findR f.Rules r.1).2 && decide ((findR f.Rules r.1).1 = i))) = true := by
        cases hr : r.2.1
        · rfl
        · rw [hfin hr]; simp
      show (opt (!r.2.1 || ((findR f.Rules r.1).2 && decide ((findR f.Rules r.1).1 = i))) (some true)).bind (fun x12 => some ((!r.2.1 || ((findR f.Rules r.1).2 && decide ((findR f.Rules r.1).1 = i))) && x12)) = _
      rw [e2]; rfl
end Go.Proofs.YtknpgojdkobgjaaGreat.W
