/- LawW: a part of the proof. -/
import Derived.Test.YtokmmcflinnfiaaGdX
import Derived.Test.YtokmmcflinnfiaaWbXB
set_option linter.unusedVariables false
set_option linter.unusedSimpArgs false
namespace Go.Proofs.Ytokmmcflinnfiaa.W
open Go Go.Wb

/-! ### 128 bits -/
def wand (a b : Wide) : Wide := ⟨a.Hi &&& b.Hi, a.Lo &&& b.Lo⟩
def wor (a b : Wide) : Wide := ⟨a.Hi ||| b.Hi, a.Lo ||| b.Lo⟩
def wxor (a b : Wide) : Wide := ⟨a.Hi ^^^ b.Hi, a.Lo ^^^ b.Lo⟩
def wless (a b : Wide) : Wide := ⟨a.Hi &&& ~~~b.Hi, a.Lo &&& ~~~b.Lo⟩
/-- bit i -/
def wt (a : Wide) (i : Nat) : Bool := bif Nat.blt i 64 then a.Lo.getLsbD i else a.Hi.getLsbD (i - 64)
def wbit (i : Nat) : Wide := bif Nat.blt i 64 then ⟨0, 1#64 <<< i⟩ else ⟨1#64 <<< (i - 64), 0⟩
theorem blt_t {i n : Nat} (h : i < n) : Nat.blt i n = true := by simpa using h
theorem blt_f {i n : Nat} (h : ¬ i < n) : Nat.blt i n = false := by
  cases hb : Nat.blt i n
  · rfl
  · exact absurd (by simpa using hb) h
theorem wt_ext {a b : Wide} (h : ∀ i, i < 128 → wt a i = wt b i) : a = b := by
  obtain ⟨ah, al⟩ := a
  obtain ⟨bh, bl⟩ := b
  have h1 : ah = bh := BitVec.eq_of_getLsbD_eq fun i hi => by
    have := h (i + 64) (by omega)
    unfold wt at this
    rw [blt_f (by omega)] at this
    simpa using this
  have h2 : al = bl := BitVec.eq_of_getLsbD_eq fun i hi => by
    have := h i (by omega)
    unfold wt at this
    rw [blt_t (by omega)] at this
    simpa using this
  rw [h1, h2]
theorem wt_and (a b : Wide) (i : Nat) : wt (wand a b) i = (wt a i && wt b i) := by
  unfold wt wand
  cases Nat.blt i 64 <;> simp
theorem wt_or (a b : Wide) (i : Nat) : wt (wor a b) i = (wt a i || wt b i) := by
  unfold wt wor
  cases Nat.blt i 64 <;> simp
theorem wt_xor (a b : Wide) (i : Nat) : wt (wxor a b) i = (wt a i != wt b i) := by
  unfold wt wxor
  cases Nat.blt i 64 <;> simp
theorem wt_less (a b : Wide) (i : Nat) (h : i < 128) : wt (wless a b) i = (wt a i && !wt b i) := by
  unfold wt wless
  by_cases hi : i < 64
  · rw [blt_t hi]; simp [hi]
  · rw [blt_f hi]; simp [show i - 64 < 64 by omega]
theorem wt_zero (i : Nat) : wt zWide i = false := by
  unfold wt zWide
  cases Nat.blt i 64 <;> simp
theorem wt_bit (i j : Nat) (hi : i < 128) (hj : j < 128) : wt (wbit i) j = decide (i = j) := by
  unfold wt wbit
  by_cases h1 : i < 64
  · rw [blt_t h1, cond_true]
    by_cases h2 : j < 64
    · rw [blt_t h2, cond_true, BitVec.getLsbD_shiftLeft]
      by_cases e : i = j
      · subst e; simp [h2]
      · simp [h2, e, BitVec.getLsbD_one]; omega
    · rw [blt_f h2, cond_false]
      have : i ≠ j := by omega
      simp [this]
  · rw [blt_f h1, cond_false]
    by_cases h2 : j < 64
    · rw [blt_t h2, cond_true]
      have : i ≠ j := by omega
      simp [this]
    · rw [blt_f h2, cond_false, BitVec.getLsbD_shiftLeft]
      by_cases e : i = j
      · subst e; simp [show i - 64 < 64 by omega]
      · simp [show j - 64 < 64 by omega, e, BitVec.getLsbD_one]; omega
def wzero (a : Wide) : Bool := decide ((a.Hi ||| a.Lo) = (0 : BitVec 64))
theorem wzero_iff (a : Wide) : wzero a = true ↔ ∀ i, i < 128 → wt a i = false := by
  unfold wzero
  rw [decide_eq_true_eq]
  constructor
  · intro h i hi
    have hb : ∀ j, (a.Hi.getLsbD j || a.Lo.getLsbD j) = false := fun j => by rw [← BitVec.getLsbD_or, h]; simp
    unfold wt
    by_cases h1 : i < 64
    · rw [blt_t h1, cond_true]
      have := hb i
      simp only [Bool.or_eq_false_iff] at this
      exact this.2
    · rw [blt_f h1, cond_false]
      have := hb (i - 64)
      simp only [Bool.or_eq_false_iff] at this
      exact this.1
  · intro h
    apply BitVec.eq_of_getLsbD_eq
    intro j hj
    have h1 := h j (by omega)
    have h2 := h (j + 64) (by omega)
    unfold wt at h1 h2
    rw [blt_t hj] at h1
    rw [blt_f (by omega)] at h2
    simp at h1 h2
    simp [h1, h2]
theorem wzero_eq (a : Wide) : wzero a = decide (a = zWide) := by
  rw [Bool.eq_iff_iff, wzero_iff, decide_eq_true_eq]
  constructor
  · intro h
    exact wt_ext fun i hi => by rw [h i hi, wt_zero]
  · rintro rfl i _
    exact wt_zero i
theorem wzero_false {a : Wide} : wzero a = false ↔ ∃ i, i < 128 ∧ wt a i = true := by
  rw [← Bool.not_eq_true, wzero_iff]
  constructor
  · intro h
    apply Classical.byContradiction
    intro hn
    exact h fun i hi => by
      cases hw : wt a i
      · rfl
      · exact absurd ⟨i, hi, hw⟩ hn
  · rintro ⟨i, hi, hw⟩ h
    rw [h i hi] at hw; cases hw
theorem has_bit (a : Wide) (i : Nat) (h : i < 128) : (!wzero (wand a (wbit i))) = wt a i := by
  cases hw : wt a i
  · have : wzero (wand a (wbit i)) = true := by
      rw [wzero_iff]
      intro j hj
      rw [wt_and, wt_bit i j h hj]
      by_cases e : i = j
      · subst e; rw [hw]; rfl
      · simp [e]
    rw [this]; rfl
  · have : wzero (wand a (wbit i)) = false := by
      rw [wzero_false]
      exact ⟨i, h, by rw [wt_and, wt_bit i i h h, hw]; simp⟩
    rw [this]; rfl
theorem oushl_nat (x : BitVec 64) (n : Nat) : oushl x (n : Int) = some (x <<< n) := by
  unfold oushl
  rw [decide_eq_false (by omega)]
  simp
theorem oushr_nat (x : BitVec 64) (n : Nat) : oushr x (n : Int) = some (x >>> n) := by
  unfold oushr
  rw [decide_eq_false (by omega)]
  simp

/-! the functions -/
theorem F124_eq (a b : Wide) : F124 a b = some (wand a b) := rfl
theorem F130_eq (a b : Wide) : F130 a b = some (wand a b) := rfl
theorem F123_eq (a b : Wide) : F123 a b = some (wor a b) := rfl
theorem F132_eq (a b : Wide) : F132 a b = some (wor a b) := rfl
theorem F121_eq (a b : Wide) : F121 a b = some (wxor a b) := rfl
theorem F136_eq (a b : Wide) : F136 a b = some (wxor a b) := rfl
theorem F127_eq (a b : Wide) : F127 a b = some (wless a b) := rfl
theorem F133_eq (a b : Wide) : F133 a b = some (wless a b) := rfl
theorem F122_eq (a : Wide) : F122 a = some (wzero a) := rfl
theorem F129_eq (a : Wide) : F129 a = some (wzero a) := by
  unfold F129
  congr 1
  rw [wzero_eq, Bool.eq_iff_iff]
  obtain ⟨h, l⟩ := a
  simp [zWide]
theorem F126_out (i : Int) (h : i < 0 ∨ 127 < i) : F126 i = some zWide := by
  unfold F126
  have : (decide (i < 0) || decide (i > 127)) = true := by simp; omega
  rw [this]; rfl
theorem F131_out (i : Int) (h : i < 0 ∨ 127 < i) : F131 i = some zWide := by
  unfold F131
  have : (decide (i < 0) || decide (i > 127)) = true := by simp; omega
  rw [this]; rfl
theorem F126_eq (i : Nat) (h : i < 128) : F126 (i : Int) = some (wbit i) := by
  unfold F126
  have h1 : (decide ((i : Int) < 0) || decide ((i : Int) > 127)) = false := by simp; omega
  have hq : oquo .i64 (i : Int) 64 = some ((i / 64 : Nat) : Int) := by
    unfold oquo
    rw [decide_eq_false (by decide)]
    show some (IntKind.i64.wrap ((i / 64 : Nat) : Int)) = _
    rw [wrap_i64 (by omega) (by omega)]
  have hm : omod (i : Int) 64 = some ((i % 64 : Nat) : Int) := omod_nat i 64 (by omega)
  rw [h1, cond_false, hq, Option.bind_some, hm, Option.bind_some, oushl_nat, Option.bind_some, chk_nat (by omega), Option.bind_some]
  unfold wbit
  by_cases h2 : i < 64
  · rw [blt_t h2, cond_true]
    have e1 : i / 64 = 0 := by omega
    have e2 : i % 64 = i := by omega
    simp only [e1, e2]
    rfl
  · rw [blt_f h2, cond_false]
    have e1 : i / 64 = 1 := by omega
    have e2 : i % 64 = i - 64 := by omega
    simp only [e1, e2]
    rfl
theorem bvn (i : Nat) (h : i < 18446744073709551616) : ((BitVec.ofInt 64 (i : Int)).toNat : Int) = (i : Int) := by
  rw [BitVec.toNat_ofInt]; omega
theorem F131_eq (i : Nat) (h : i < 128) : F131 (i : Int) = some (wbit i) := by
  unfold F131
  have h1 : (decide ((i : Int) < 0) || decide ((i : Int) > 127)) = false := by simp; omega
  rw [h1, cond_false]
  unfold wbit
  by_cases h2 : i < 64
  · rw [blt_t h2, cond_true, decide_eq_true (by omega), cond_true, bvn i (by omega), oushl_nat, Option.bind_some]
    rfl
  · have e : IntKind.i64.wrap ((i : Int) - 64) = ((i - 64 : Nat) : Int) := by rw [wrap_i64 (by omega) (by omega)]; omega
    rw [blt_f h2, cond_false, decide_eq_false (by omega), cond_false, e, bvn (i - 64) (by omega), oushl_nat, Option.bind_some]
    rfl
theorem F81_eq (a : Wide) (i : Nat) (h : i < 128) : F81 a (i : Int) = some (wt a i) := by
  unfold F81
  rw [F126_eq i h, Option.bind_some, F124_eq, Option.bind_some, F122_eq, Option.bind_some, has_bit a i h]
theorem F85_eq (a : Wide) (i : Nat) (h : i < 128) : F85 a (i : Int) = some (wt a i) := by
  unfold F85
  rw [F131_eq i h, Option.bind_some, F130_eq, Option.bind_some, F129_eq, Option.bind_some, has_bit a i h]

/-! how many -/
theorem ibits_127 (n : Nat) (h : n < 18446744073709551616) : ibits .and .i64 (IntKind.i64.wrap (n : Int)) 127 = ((n % 128 : Nat) : Int) := by
  have e : (BitVec.ofInt 64 (IntKind.i64.wrap (n : Int)) &&& BitVec.ofInt 64 127).toNat = n % 128 := by
    have e1 : BitVec.ofInt 64 (IntKind.i64.wrap (n : Int)) = BitVec.ofNat 64 n := by
      apply BitVec.eq_of_toNat_eq
      rw [BitVec.toNat_ofInt, BitVec.toNat_ofNat]
      simp only [IntKind.wrap, IntKind.signed, IntKind.bits]
      simp
      omega
    have e2 : BitVec.ofInt 64 127 = BitVec.ofNat 64 127 := rfl
    rw [e1, e2, BitVec.toNat_and, BitVec.toNat_ofNat, BitVec.toNat_ofNat, Nat.mod_eq_of_lt h]
    exact Nat.and_two_pow_sub_one_eq_mod n 7
  show IntKind.i64.wrap ((BitVec.ofInt 64 (IntKind.i64.wrap (n : Int)) &&& BitVec.ofInt 64 127).toNat : Int) = _
  rw [e, wrap_i64 (by omega) (by omega)]
def cnt (x : BitVec 64) : Nat := ds 1 64 x.toNat
theorem F160_eq (x : BitVec 64) : F160 x = some (cnt x : Int) := by
  obtain ⟨h0, ha, hb, hbb, hd, he, hf⟩ := swar x.toNat x.isLt
  have sh : ∀ (x : BitVec 64) (n : BitVec 64), oushr x (n.toNat : Int) = some (x >>> n.toNat) := fun x n => oushr_nat x n.toNat
  unfold F160
  simp only [sh, Option.bind_some]
  congr 1
  have t1 : ((1 : BitVec 64)).toNat = 1 := rfl
  have t2 : ((2 : BitVec 64)).toNat = 2 := rfl
  have t4 : ((4 : BitVec 64)).toNat = 4 := rfl
  have t8 : ((8 : BitVec 64)).toNat = 8 := rfl
  have t16 : ((16 : BitVec 64)).toNat = 16 := rfl
  have t32 : ((32 : BitVec 64)).toNat = 32 := rfl
  rw [t1, t2, t4, t8, t16, t32]
  generalize hA : (x >>> 1 &&& (6148914691236517205 : BitVec 64)) + (x &&& (6148914691236517205 : BitVec 64)) = A
  have eA : A.toNat = (x.toNat / 2 &&& 6148914691236517205) + (x.toNat &&& 6148914691236517205) := by
    rw [← hA, BitVec.toNat_add, BitVec.toNat_and, BitVec.toNat_and, BitVec.toNat_ushiftRight, Nat.shiftRight_eq_div_pow]
    exact Nat.mod_eq_of_lt ha
  generalize hB : (A >>> 2 &&& (3689348814741910323 : BitVec 64)) + (A &&& (3689348814741910323 : BitVec 64)) = B
  have eB : B.toNat = (A.toNat / 4 &&& 3689348814741910323) + (A.toNat &&& 3689348814741910323) := by
    rw [← hB, BitVec.toNat_add, BitVec.toNat_and, BitVec.toNat_and, BitVec.toNat_ushiftRight, Nat.shiftRight_eq_div_pow]
    rw [eA]
    exact Nat.mod_eq_of_lt hb
  generalize hC : (B >>> 4 + B) &&& (1085102592571150095 : BitVec 64) = D
  have eC : D.toNat = (B.toNat / 16 + B.toNat) &&& 1085102592571150095 := by
    rw [← hC, BitVec.toNat_and, BitVec.toNat_add, BitVec.toNat_ushiftRight, Nat.shiftRight_eq_div_pow]
    have : (B.toNat / 2 ^ 4 + B.toNat) % 2 ^ 64 = B.toNat / 16 + B.toNat := by
      rw [eB, eA]
      exact Nat.mod_eq_of_lt hbb
    rw [this]; rfl
  rw [← eA, ← eB, ← eC] at hd he hf h0
  generalize hE : D + D >>> 8 = E
  have eE : E.toNat = D.toNat + D.toNat / 256 := by
    rw [← hE, BitVec.toNat_add, BitVec.toNat_ushiftRight, Nat.shiftRight_eq_div_pow]
    exact Nat.mod_eq_of_lt hd
  rw [← eE] at he hf h0
  generalize hG : E + E >>> 16 = G
  have eG : G.toNat = E.toNat + E.toNat / 65536 := by
    rw [← hG, BitVec.toNat_add, BitVec.toNat_ushiftRight, Nat.shiftRight_eq_div_pow]
    exact Nat.mod_eq_of_lt he
  rw [← eG] at hf h0
  generalize hK : G + G >>> 32 = K
  have eK : K.toNat = G.toNat + G.toNat / 4294967296 := by
    rw [← hK, BitVec.toNat_add, BitVec.toNat_ushiftRight, Nat.shiftRight_eq_div_pow]
    exact Nat.mod_eq_of_lt hf
  rw [← eK] at h0
  rw [ibits_127 _ K.isLt, h0]
  rfl
theorem cnt_le (x : BitVec 64) : cnt x ≤ 64 := by
  unfold cnt
  rw [ds_bits]
  exact Nat.le_trans (List.length_filter_le ..) (by simp)
/-- the bits, the lower ones first -/
def bitsUp (a : Wide) : List Nat := (List.range 128).filter (wt a)
theorem bitsUp_len (a : Wide) : (bitsUp a).length = cnt a.Lo + cnt a.Hi := by
  have e : List.range (64 + 64) = List.range 64 ++ (List.range 64).map (64 + ·) := List.range_add
  unfold bitsUp cnt
  rw [show (128 : Nat) = 64 + 64 from rfl, e, List.filter_append, List.length_append, ds_bits, ds_bits, List.filter_map, List.length_map]
  congr 2
theorem F150_eq (a : Wide) : F150 a = some ((bitsUp a).length : Int) := by
  have h1 := cnt_le a.Hi
  have h2 := cnt_le a.Lo
  rw [bitsUp_len]
  unfold F150
  rw [F160_eq, Option.bind_some, F160_eq, Option.bind_some]
  generalize cnt a.Hi = p at *
  generalize cnt a.Lo = q at *
  rw [wrap_i64 (by omega) (by omega)]
  congr 1
  omega
/-- the bits below n, the higher ones first -/
def bitsDn (a : Wide) : Nat → List Int
  | 0 => []
  | n + 1 => bif wt a n then (n : Int) :: bitsDn a n else bitsDn a n
theorem bitsDn_len (a : Wide) : ∀ n, (bitsDn a n).length = ((List.range n).filter (wt a)).length
  | 0 => rfl
  | n + 1 => by
    rw [List.range_succ, List.filter_append, List.length_append, bitsDn, ← bitsDn_len a n]
    cases h : wt a n <;> simp [h]
theorem bitsDn_mem (a : Wide) : ∀ (n : Nat) (i : Int), i ∈ bitsDn a n ↔ ∃ k : Nat, i = (k : Int) ∧ k < n ∧ wt a k = true
  | 0, i => by simp [bitsDn]
  | n + 1, i => by
    rw [bitsDn]
    cases h : wt a n
    · rw [cond_false, bitsDn_mem a n i]
      constructor
      · rintro ⟨k, rfl, h1, h2⟩; exact ⟨k, rfl, by omega, h2⟩
      · rintro ⟨k, rfl, h1, h2⟩
        have : k ≠ n := fun e => by rw [e, h] at h2; cases h2
        exact ⟨k, rfl, by omega, h2⟩
    · rw [cond_true, List.mem_cons, bitsDn_mem a n i]
      constructor
      · rintro (rfl | ⟨k, rfl, h1, h2⟩)
        · exact ⟨n, rfl, by omega, h⟩
        · exact ⟨k, rfl, by omega, h2⟩
      · rintro ⟨k, rfl, h1, h2⟩
        by_cases e : k = n
        · left; rw [e]
        · right; exact ⟨k, rfl, by omega, h2⟩
theorem F125_l1_eq (a : Wide) : ∀ (n m : Nat) (acc : List Int), n ≤ 128 → n < m → acc.length + (bitsDn a n).length = (bitsUp a).length → F125_l1 a m acc ((n : Int) - 1) = some (acc ++ bitsDn a n) := by
  have hlim : lim = 4294967296 := rfl
  have hup : (bitsUp a).length ≤ 128 := by
    unfold bitsUp; exact Nat.le_trans (List.length_filter_le ..) (by simp)
  intro n
  induction n with
  | zero =>
    intro m acc h1 h2 h3
    obtain ⟨m, rfl⟩ : ∃ k, m = k + 1 := ⟨m - 1, by omega⟩
    rw [F125_l1, decide_eq_false (by omega), opt_false, Option.bind_some, Bool.false_and, cond_false]
    simp [bitsDn]
  | succ n ih =>
    intro m acc h1 h2 h3
    obtain ⟨m, rfl⟩ : ∃ k, m = k + 1 := ⟨m - 1, by omega⟩
    have e : ((n + 1 : Nat) : Int) - 1 = (n : Int) := by omega
    rw [e, F125_l1, decide_eq_true (by omega), opt_true, F150_eq, Option.bind_some, Bool.true_and]
    by_cases hc : acc.length < (bitsUp a).length
    · have e2 : IntKind.i64.wrap ((n : Int) - 1) = (n : Int) - 1 := wrap_i64 (by omega) (by omega)
      rw [decide_eq_true (by omega), cond_true, F81_eq a n (by omega), Option.bind_some, e2, bitsDn]
      rw [bitsDn] at h3
      cases hw : wt a n
      · rw [hw, cond_false] at h3
        rw [cond_false, cond_false, ih m acc (by omega) (by omega) h3]
      · rw [hw, cond_true, List.length_cons] at h3
        rw [cond_true, cond_true, appd_ok (by simp; omega), Option.bind_some, ih m _ (by omega) (by omega) (by simp; omega)]
        simp
    · rw [decide_eq_false (by omega), cond_false]
      have : bitsDn a (n + 1) = [] := List.eq_nil_of_length_eq_zero (by omega)
      rw [this]; simp
theorem wless_zero (a : Wide) : wless a zWide = a :=
  wt_ext fun i hi => by rw [wt_less _ _ _ hi, wt_zero]; simp
theorem F125_eq (a : Wide) : F125 (⟨zWide, zWide⟩ : Tern) (⟨zWide, a⟩ : Tern) = some (bitsDn a 128) := by
  unfold F125
  rw [F127_eq, Option.bind_some]
  show F125_l1 (wless a zWide) fuel0 [] 127 = _
  rw [wless_zero]
  have := F125_l1_eq a 128 fuel0 [] (by omega) (by unfold fuel0; omega) (by rw [bitsDn_len]; simp [bitsUp])
  simpa using this
end Go.Proofs.Ytokmmcflinnfiaa.W
