/- LawBE: a part of the proof. -/
import Derived.Test.YtokmmcflinnfiabGbX
import Derived.Test.YtokmmcflinnfiabWbXB
import Derived.Test.YtokmmcflinnfiabWbXC
set_option linter.unusedVariables false
set_option linter.unusedSimpArgs false
namespace Go.Proofs.Ytokmmcflinnfiab.W
open Go Go.Wb

/-! ### 128 bits -/
def wand (a b : Wide) : Wide := ⟨a.Hi &&& b.Hi, a.Lo &&& b.Lo⟩
def wor (a b : Wide) : Wide := ⟨a.Hi ||| b.Hi, a.Lo ||| b.Lo⟩
def wxor (a b : Wide) : Wide := ⟨a.Hi ^^^ b.Hi, a.Lo ^^^ b.Lo⟩
def wless (a b : Wide) : Wide := ⟨a.Hi &&& ~~~b.Hi, a.Lo &&& ~~~b.Lo⟩
/-- bit i -/
def wt (a : Wide) (i : Nat) : Bool := bif Nat.blt i 64 then a.Lo.getLsbD i else a.Hi.getLsbD (i - 64)
def wbit (i : Nat) : Wide := bif Nat.blt i 64 then ⟨0, 1#64 <<< i⟩ else ⟨1#64 <<< (i - 64), 0⟩
theorem blt_t {i n : Nat} (h : i < n) : Nat.blt i n = true := by simpa using h
theorem blt_f {i n : Nat} (h : ¬ i < n) : Nat.blt i n = false := by
  cases hb : Nat.blt i n
  · rfl
  · exact absurd (by simpa using hb) h
theorem wt_ext {a b : Wide} (h : ∀ i, i < 128 → wt a i = wt b i) : a = b := by
  obtain ⟨ah, al⟩ := a
  obtain ⟨bh, bl⟩ := b
  have h1 : ah = bh := BitVec.eq_of_getLsbD_eq fun i hi => by
    have := h (i + 64) (by omega)
    unfold wt at this
    rw [blt_f (by omega)] at this
    simpa using this
  have h2 : al = bl := BitVec.eq_of_getLsbD_eq fun i hi => by
    have := h i (by omega)
    unfold wt at this
    rw [blt_t (by omega)] at this
    simpa using this
  rw [h1, h2]
theorem wt_and (a b : Wide) (i : Nat) : wt (wand a b) i = (wt a i && wt b i) := by
  unfold wt wand
  cases Nat.blt i 64 <;> simp
theorem wt_or (a b : Wide) (i : Nat) : wt (wor a b) i = (wt a i || wt b i) := by
  unfold wt wor
  cases Nat.blt i 64 <;> simp
theorem wt_xor (a b : Wide) (i : Nat) : wt (wxor a b) i = (wt a i != wt b i) := by
  unfold wt wxor
  cases Nat.blt i 64 <;> simp
theorem wt_less (a b : Wide) (i : Nat) (h : i < 128) : wt (wless a b) i = (wt a i && !wt b i) := by
  unfold wt wless
  by_cases hi : i < 64
  · rw [blt_t hi]; simp [hi]
  · rw [blt_f hi]; simp [show i - 64 < 64 by omega]
theorem wt_zero (i : Nat) : wt zWide i = false := by
  unfold wt zWide
  cases Nat.blt i 64 <;> simp
theorem wt_bit (i j : Nat) (hi : i < 128) (hj : j < 128) : wt (wbit i) j = decide (i = j) := by
  unfold wt wbit
  by_cases h1 : i < 64
  · rw [blt_t h1, cond_true]
    by_cases h2 : j < 64
    · rw [blt_t h2, cond_true, BitVec.getLsbD_shiftLeft]
      by_cases e : i = j
      · subst e; simp [h2]
      · simp [h2, e, BitVec.getLsbD_one]; omega
    · rw [blt_f h2, cond_false]
      have : i ≠ j := by omega
      simp [this]
  · rw [blt_f h1, cond_false]
    by_cases h2 : j < 64
    · rw [blt_t h2, cond_true]
      have : i ≠ j := by omega
      simp [this]
    · rw [blt_f h2, cond_false, BitVec.getLsbD_shiftLeft]
      by_cases e : i = j
      · subst e; simp [show i - 64 < 64 by omega]
      · simp [show j - 64 < 64 by omega, e, BitVec.getLsbD_one]; omega
def wzero (a : Wide) : Bool := decide ((a.Hi ||| a.Lo) = (0 : BitVec 64))
theorem wzero_iff (a : Wide) : wzero a = true ↔ ∀ i, i < 128 → wt a i = false := by
  unfold wzero
  rw [decide_eq_true_eq]
  constructor
  · intro h i hi
    have hb : ∀ j, (a.Hi.getLsbD j || a.Lo.getLsbD j) = false := fun j => by rw [← BitVec.getLsbD_or, h]; simp
    unfold wt
    by_cases h1 : i < 64
    · rw [blt_t h1, cond_true]
      have := hb i
      simp only [Bool.or_eq_false_iff] at this
      exact this.2
    · rw [blt_f h1, cond_false]
      have := hb (i - 64)
      simp only [Bool.or_eq_false_iff] at this
      exact this.1
  · intro h
    apply BitVec.eq_of_getLsbD_eq
    intro j hj
    have h1 := h j (by omega)
    have h2 := h (j + 64) (by omega)
    unfold wt at h1 h2
    rw [blt_t hj] at h1
    rw [blt_f (by omega)] at h2
    simp at h1 h2
    simp [h1, h2]
theorem wzero_eq (a : Wide) : wzero a = decide (a = zWide) := by
  rw [Bool.eq_iff_iff, wzero_iff, decide_eq_true_eq]
  constructor
  · intro h
    exact wt_ext fun i hi => by rw [h i hi, wt_zero]
  · rintro rfl i _
    exact wt_zero i
theorem wzero_false {a : Wide} : wzero a = false ↔ ∃ i, i < 128 ∧ wt a i = true := by
  rw [← Bool.not_eq_true, wzero_iff]
  constructor
  · intro h
    apply Classical.byContradiction
    intro hn
    exact h fun i hi => by
      cases hw : wt a i
      · rfl
      · exact absurd ⟨i, hi, hw⟩ hn
  · rintro ⟨i, hi, hw⟩ h
    rw [h i hi] at hw; cases hw
theorem has_bit (a : Wide) (i : Nat) (h : i < 128) : (!wzero (wand a (wbit i))) = wt a i := by
  cases hw : wt a i
  · have : wzero (wand a (wbit i)) = true := by
      rw [wzero_iff]
      intro j hj
      rw [wt_and, wt_bit i j h hj]
      by_cases e : i = j
      · subst e; rw [hw]; rfl
      · simp [e]
    rw [this]; rfl
  · have : wzero (wand a (wbit i)) = false := by
      rw [wzero_false]
      exact ⟨i, h, by rw [wt_and, wt_bit i i h h, hw]; simp⟩
    rw [this]; rfl
theorem oushl_nat (x : BitVec 64) (n : Nat) : oushl x (n : Int) = some (x <<< n) := by
  unfold oushl
  rw [decide_eq_false (by omega)]
  simp
theorem oushr_nat (x : BitVec 64) (n : Nat) : oushr x (n : Int) = some (x >>> n) := by
  unfold oushr
  rw [decide_eq_false (by omega)]
  simp

theorem F32_eq (a b : Wide) : F32 a b = some (wand a b) := rfl
theorem F30_eq (a b : Wide) : F30 a b = some (wor a b) := rfl
theorem F31_eq (a b : Wide) : F31 a b = some (wless a b) := rfl
theorem F59_out (i : Int) (h : i < 0 ∨ 127 < i) : F59 i = some zWide := by
  unfold F59
  have : (decide (i < 0) || decide (i > 127)) = true := by simp; omega
  rw [this]; rfl
theorem F59_eq (i : Nat) (h : i < 128) : F59 (i : Int) = some (wbit i) := by
  unfold F59
  have h1 : (decide ((i : Int) < 0) || decide ((i : Int) > 127)) = false := by simp; omega
  have hq : oquo .i64 (i : Int) 64 = some ((i / 64 : Nat) : Int) := by
    unfold oquo
    rw [decide_eq_false (by decide)]
    show some (IntKind.i64.wrap ((i / 64 : Nat) : Int)) = _
    rw [wrap_i64 (by omega) (by omega)]
  have hm : omod (i : Int) 64 = some ((i % 64 : Nat) : Int) := omod_nat i 64 (by omega)
  rw [h1, cond_false, hq, Option.bind_some, hm, Option.bind_some, oushl_nat, Option.bind_some, chk_nat (by omega), Option.bind_some]
  unfold wbit
  by_cases h2 : i < 64
  · rw [blt_t h2, cond_true]
    have e1 : i / 64 = 0 := by omega
    have e2 : i % 64 = i := by omega
    simp only [e1, e2]
    rfl
  · rw [blt_f h2, cond_false]
    have e1 : i / 64 = 1 := by omega
    have e2 : i % 64 = i - 64 := by omega
    simp only [e1, e2]
    rfl

/-! ### terns, cubes, rewritings -/
abbrev Cube := Vector Tern 24
abbrev Header := Vector Wide 24
def tclean (t : Tern) : Tern := ⟨wand t.Value t.Mask, t.Mask⟩
theorem F39_eq (t : Tern) : F39 t = some (tclean t) := rfl
def cclean (c : Cube) : Cube := Vector.ofFn fun i => tclean (ve c i.1)
theorem ve_cclean (c : Cube) (i : Nat) (h : i < 24) : ve (cclean c) i = tclean (ve c i) := ve_ofFn (fun i => tclean (ve c i)) i h
theorem tclean_clean (t : Tern) : tclean (tclean t) = tclean t := by
  unfold tclean
  congr 1
  exact wt_ext fun i hi => by simp only [wt_and]; cases wt t.Value i <;> cases wt t.Mask i <;> rfl
theorem cclean_clean (c : Cube) : cclean (cclean c) = cclean c := ve_ext fun i hi => by
  rw [ve_cclean _ _ hi, ve_cclean _ _ hi, tclean_clean]
def tover (a b : Tern) : Tern := ⟨wor (wless (tclean a).Value b.Mask) (tclean b).Value, wor a.Mask b.Mask⟩
theorem F56_eq (a b : Tern) : F56 a b = some (tover a b) := rfl
theorem tover_clean (a b : Tern) : tclean (tover a b) = tover a b := by
  unfold tover
  unfold tclean
  congr 1
  exact wt_ext fun i hi => by
    simp only [wt_and, wt_or, wt_less _ _ _ hi]
    cases wt a.Value i <;> cases wt a.Mask i <;> cases wt b.Value i <;> cases wt b.Mask i <;> rfl
def cthen (a b : Cube) : Cube := Vector.ofFn fun i => tover (ve a i.1) (ve b i.1)
theorem ve_cthen (a b : Cube) (i : Nat) (h : i < 24) : ve (cthen a b) i = tover (ve a i) (ve b i) := ve_ofFn (fun i => tover (ve a i) (ve b i)) i h
theorem cthen_clean (a b : Cube) : cclean (cthen a b) = cthen a b := ve_ext fun i hi => by
  rw [ve_cclean _ _ hi, ve_cthen _ _ _ hi, tover_clean]
theorem F37_l1_eq (f : Int → Option Tern) (g : Nat → Tern) (hf : ∀ i : Nat, i < 24 → f (i : Int) = some (g i)) (b : Cube) : ∀ (m i : Nat), i + m = 24 → F37_l1 f m i (upto g b i) = some (Vector.ofFn (fun i => g i.1))
  | 0, i, h => by
    have : i = 24 := by omega
    subst this
    rw [F37_l1, upto_all]
  | m + 1, i, h => by
    rw [F37_l1, hf i (by omega), Option.bind_some, chk_nat (by omega), Option.bind_some]
    show F37_l1 f m (i + 1) (Vector.set (upto g b i) i (g i) _) = _
    rw [upto_set g b i (by omega), F37_l1_eq f g hf b m (i + 1) (by omega)]
theorem F37_eq (f : Int → Option Tern) (g : Nat → Tern) (hf : ∀ i : Nat, i < 24 → f (i : Int) = some (g i)) : F37 f = some (Vector.ofFn (fun i => g i.1)) := by
  unfold F37
  have := F37_l1_eq f g hf (Vector.replicate 24 zTern) 24 0 rfl
  rw [upto_zero] at this
  exact this
theorem F18_eq (r : Cube) : F18 r = some (cclean r) := by
  unfold F18
  rw [F37_eq (fun x => F38 x r) (fun i => tclean (ve r i)) (fun i hi => by unfold F38; rw [chk_nat hi, Option.bind_some, vget_eq, F39_eq]; rfl)]
  rfl
def capply (r : Cube) (h : Header) : Header := Vector.ofFn fun f => wor (wless (ve h f.1) (ve r f.1).Mask) (wand (ve r f.1).Value (ve r f.1).Mask)
theorem ve_capply (r : Cube) (h : Header) (f : Nat) (hf : f < 24) : ve (capply r h) f = wor (wless (ve h f) (ve r f).Mask) (wand (ve r f).Value (ve r f).Mask) := ve_ofFn (fun f => wor (wless (ve h f) (ve r f).Mask) (wand (ve r f).Value (ve r f).Mask)) f hf
theorem F14_l1_eq (r : Cube) (h : Header) : ∀ (l : List Tern) (i : Nat), i + l.length = 24 → l = (Vector.toList r).drop i → F14_l1 l i (upto (fun f => wor (wless (ve h f) (ve r f).Mask) (wand (ve r f).Value (ve r f).Mask)) h i) = some (capply r h)
  | [], i, h1, h2 => by
    have : i = 24 := by simpa using h1
    subst this
    rw [F14_l1, upto_all]; rfl
  | x :: l, i, h1, h2 => by
    simp only [List.length_cons] at h1
    have hi : i < (Vector.toList r).length := by simp; omega
    rw [List.drop_eq_getElem_cons hi] at h2
    obtain ⟨rfl, h3⟩ := List.cons.inj h2
    have hx : (Vector.toList r)[i] = ve r i := by rw [Vector.getElem_toList, ve_lt _ _ (by omega)]
    rw [F14_l1, hx, chk_nat (by omega), Option.bind_some, vget_eq, F31_eq, Option.bind_some, F32_eq, Option.bind_some, F30_eq, Option.bind_some, Option.bind_some, ve_upto _ _ _ _ (by omega), if_neg (by omega)]
    have := upto_set (fun f => wor (wless (ve h f) (ve r f).Mask) (wand (ve r f).Value (ve r f).Mask)) h i (by omega)
    rw [this]
    exact F14_l1_eq r h l (i + 1) (by omega) h3
theorem F14_eq (r : Cube) (h : Header) : F14 r h = some (capply r h) := by
  unfold F14
  have := F14_l1_eq r h (Vector.toList r) 0 (by simp) rfl
  rw [upto_zero] at this
  exact this

/-! what an action makes of fields -/
def cset (r : Cube) (f : Int) (v m : Wide) : Cube := bif decide (f ≥ 0) && decide (f < 24) then Vector.ofFn fun i => if f.toNat = i.1 then tover (ve (cclean r) f.toNat) ⟨v, m⟩ else ve (cclean r) i.1 else cclean r
theorem F58_eq (r : Cube) (f : Int) (v m : Wide) : F58 r f v m = some (cset r f v m) := by
  unfold F58 cset F69
  rw [F18_eq, Option.bind_some, Option.bind_some]
  cases hc : (decide (f ≥ 0) && decide (f < 24))
  · rfl
  · simp only [Bool.and_eq_true, decide_eq_true_eq] at hc
    obtain ⟨n, rfl⟩ : ∃ n : Nat, f = (n : Int) := ⟨f.toNat, by omega⟩
    have hn : n < 24 := by omega
    have e : Vector.set (cclean r) n (tover (ve (cclean r) n) ⟨v, m⟩) hn = Vector.ofFn fun i : _root_.Fin 24 => if n = i.1 then tover (ve (cclean r) n) ⟨v, m⟩ else ve (cclean r) i.1 := ve_ext fun j hj => by
      rw [ve_set _ _ _ _ _ hj]
      exact (ve_ofFn (fun i => if n = i then tover (ve (cclean r) n) ⟨v, m⟩ else ve (cclean r) i) j hj).symm
    rw [cond_true, cond_true, chk_nat hn, Option.bind_some, vget_eq, F56_eq, Option.bind_some, Option.bind_some, Int.toNat_natCast]
    exact congrArg some e
theorem F71_some (n : Int) : ∃ x, F71 n = some x := by
  unfold F71
  cases decide (n ≥ 64)
  · have h0 : 0 ≤ imax n 0 := by
      unfold imax
      by_cases h : (0 : Int) > n
      · simp [h]
      · simp [h]; omega
    obtain ⟨k, hk⟩ : ∃ k : Nat, imax n 0 = (k : Int) := ⟨(imax n 0).toNat, by omega⟩
    rw [cond_false, hk, oushl_nat]
    exact ⟨_, rfl⟩
  · exact ⟨_, rfl⟩
def wlow (n : Int) : Wide := (F60 n).getD zWide
theorem F60_eq (n : Int) : F60 n = some (wlow n) := by
  obtain ⟨x, hx⟩ := F71_some (IntKind.i64.wrap ((imin (imax n 0) 128) - 64))
  obtain ⟨y, hy⟩ := F71_some (imin (imax n 0) 128)
  have : F60 n = some ⟨x, y⟩ := by unfold F60; rw [hx, Option.bind_some, hy]; rfl
  unfold wlow
  rw [this]; rfl
def fbits (n : Int) : Int := (F70 n).getD 0
theorem F97_some : ∃ v, F97 = some v := by unfold F97; exact ⟨_, rfl⟩
theorem F70_eq (n : Int) : F70 n = some (fbits n) := by
  have : ∃ x, F70 n = some x := by
    unfold F70 F88 F69
    rw [Option.bind_some]
    cases hc : (decide (n ≥ 0) && decide (n < 24))
    · exact ⟨_, rfl⟩
    · simp only [Bool.and_eq_true, decide_eq_true_eq] at hc
      obtain ⟨k, rfl⟩ : ∃ k : Nat, n = (k : Int) := ⟨n.toNat, by omega⟩
      obtain ⟨v, hv⟩ := F97_some
      rw [Bool.not_true, cond_false, hv, Option.bind_some, lget_lt (by simp; omega), Option.bind_some, Option.bind_some]
      exact ⟨_, rfl⟩
  obtain ⟨x, hx⟩ := this
  unfold fbits
  rw [hx]; rfl
def oxT (o : Oxm) : Tern := bif decide (o.Field ≥ 0) && decide (o.Field < 24) then (bif o.Masked then ⟨o.Value, o.Mask⟩ else ⟨o.Value, wlow (fbits o.Field)⟩) else ⟨zWide, zWide⟩
theorem F57_eq (o : Oxm) : F57 o = some (oxT o) := by
  unfold F57 oxT F69
  rw [Option.bind_some]
  cases decide (o.Field ≥ 0) && decide (o.Field < 24)
  · rfl
  · rw [Bool.not_true, cond_false, cond_true]
    cases o.Masked
    · rw [cond_false, cond_false, F70_eq, Option.bind_some, F60_eq]; rfl
    · rfl
def none24 : Cube := Vector.replicate 24 zTern
def rwOf (a : Action) : Cube :=
  bif decide (a.Kind = 25) then cset none24 a.Oxm.Field (oxT a.Oxm).Value (oxT a.Oxm).Mask
  else bif decide (a.Kind = 17) then cset none24 5 (wbit 12) (wbit 12)
  else bif decide (a.Kind = 18) then cset (cset none24 5 ⟨0, 0⟩ (wlow 13)) 6 ⟨0, 0⟩ (wlow 3)
  else none24
theorem F41_eq (a : Action) : F41 a = some (rwOf a) := by
  unfold F41 rwOf
  rw [show F17 = some none24 from rfl, Option.bind_some]
  cases decide (a.Kind = 25)
  · rw [cond_false, cond_false]
    cases decide (a.Kind = 17)
    · rw [cond_false, cond_false]
      cases decide (a.Kind = 18)
      · rfl
      · rw [cond_true, cond_true, F60_eq, Option.bind_some, F58_eq, Option.bind_some, F60_eq, Option.bind_some, F58_eq]; rfl
    · rw [cond_true, cond_true, show (12 : Int) = ((12 : Nat) : Int) from rfl, F59_eq 12 (by decide), Option.bind_some, Option.bind_some, F58_eq]; rfl
  · rw [cond_true, cond_true, F57_eq, Option.bind_some, F58_eq]; rfl
def mostOf (a : Action) : Int := bif decide (a.Port = 4294967293) then a.Max else 0
theorem F53_eq (a : Action) : F53 a = some (mostOf a) := by
  unfold F53 mostOf
  cases decide (a.Port = 4294967293) <;> rfl

/-! ### slices -/
theorem fidx_split {α : Type} (p : α → Bool) : ∀ l : List α, 0 ≤ fidx p l → (l.take ((fidx p l).toNat + 1)).filter (fun x => !p x) = l.take (fidx p l).toNat
  | [], h => by simp [fidx] at h
  | x :: l, h => by
    unfold fidx at h ⊢
    cases hp : p x
    · rw [hp] at h
      by_cases h' : fidx p l < 0
      · simp [h'] at h
      · simp only [cond_false, decide_eq_false h']
        have e : (fidx p l + 1).toNat = (fidx p l).toNat + 1 := by omega
        rw [e, List.take_succ_cons, List.take_succ_cons, List.filter_cons_of_pos (by simp [hp]), fidx_split p l (by omega)]
    · simp [hp]
theorem fidx_all {α : Type} (p : α → Bool) (l : List α) (h : fidx p l < 0) : l.filter (fun x => !p x) = l := by
  rw [List.filter_eq_self]
  intro x hx
  rw [fidx_none p l h x hx]; rfl
theorem fidx_find {α : Type} (p : α → Bool) : ∀ l : List α, (fidx p l < 0 ∧ l.find? p = none) ∨ ∃ n : Nat, fidx p l = (n : Int) ∧ ∃ h : n < l.length, l.find? p = some l[n] ∧ p l[n] = true
  | [] => .inl ⟨by simp [fidx], rfl⟩
  | x :: l => by
    unfold fidx
    cases hp : p x
    · rw [cond_false, List.find?_cons_of_neg (by simp [hp])]
      rcases fidx_find p l with ⟨h1, h2⟩ | ⟨n, h1, h2, h3, h4⟩
      · left; rw [decide_eq_true h1]; exact ⟨by show (-1 : Int) < 0; decide, h2⟩
      · right
        rw [decide_eq_false (by omega)]
        exact ⟨n + 1, by show fidx p l + 1 = _; omega, by simp; omega, by simpa using h3, by simpa using h4⟩
    · right
      exact ⟨0, rfl, by simp, by rw [List.find?_cons_of_pos hp]; rfl, hp⟩
theorem F86_eq (s : List Action) (f : Action → Option Bool) (p : Action → Bool) (hf : ∀ x ∈ s, f x = some (p x)) : F86 s f = some (fidx p s) := by
  unfold F86
  rw [show ((s.length : Int)).toNat = s.length by omega]
  exact idx_spec p (fun i => by rw [F86_l1]) (fun m i => by rw [F86_l1]) hf
theorem F50_eq (s : List Group) (f : Group → Option Bool) (p : Group → Bool) (hf : ∀ x ∈ s, f x = some (p x)) : F50 s f = some (fidx p s) := by
  unfold F50
  rw [show ((s.length : Int)).toNat = s.length by omega]
  exact idx_spec p (fun i => by rw [F50_l1]) (fun m i => by rw [F50_l1]) hf
theorem F64_eq (s : List Bucket) (f : Bucket → Option Bool) (p : Bucket → Bool) (hf : ∀ x ∈ s, f x = some (p x)) : F64 s f = some (fidx p s) := by
  unfold F64
  rw [show ((s.length : Int)).toNat = s.length by omega]
  exact idx_spec p (fun i => by rw [F64_l1]) (fun m i => by rw [F64_l1]) hf
theorem F95_eq (s : List Int) (v : Int) : F95 s v = some (fidx (fun x => decide (v = x)) s) := by
  unfold F95
  rw [show ((s.length : Int)).toNat = s.length by omega]
  exact idx_spec (f := fun x => some (decide (v = x))) (fun x => decide (v = x)) (fun i => by rw [F95_l1]) (fun m i => by rw [F95_l1]; rfl) (fun _ _ => rfl)
theorem F99_eq (s : List Int) (v : Int) : F99 s v = some (s.contains v) := by
  unfold F99; rw [F95_eq, Option.bind_some, fidx_any]
  congr 1
  rw [Bool.eq_iff_iff, List.any_eq_true, List.contains_iff_mem]
  simp
theorem F94_eq (e : Env) (n : Int) : F94 e n = some (!e.Down.contains n) := by
  unfold F94; rw [F99_eq]; rfl
theorem F79_eq (s : List Action) (f : Action → Option Bool) (p : Action → Bool) (hf : ∀ x ∈ s, f x = some (p x)) (hl : s.length ≤ lim) : F79 s f = some (s.filter (fun x => !p x)) := by
  have hlim : lim = 4294967296 := rfl
  unfold F79
  rw [F86_eq s f p hf, Option.bind_some]
  by_cases h : fidx p s < 0
  · have := fidx_ge p s
    rw [decide_eq_true (by omega), cond_true, fidx_all p s h]
  · have hlt := fidx_lt p s
    rw [decide_eq_false (by omega), cond_false, wrap_i64 (by omega) (by omega)]
    have key := del_spec (z := zAction) (G := F79_l1 f) (s := s) (f := f) p (fun m l i j => by rw [F79_l1]) hf hl (((s.length : Int) - (fidx p s + 1)).toNat + 1) s (fidx p s).toNat ((fidx p s).toNat + 1) (by omega) (by omega) (by omega) rfl rfl (fidx_split p s (by omega)).symm
    rw [show ((fidx p s).toNat : Int) = fidx p s by omega, show (((fidx p s).toNat + 1 : Nat) : Int) = fidx p s + 1 by omega] at key
    exact key
theorem F77_eq (s : List Action) (f : Action → Option Bool) (p : Action → Bool) (hf : ∀ x ∈ s, f x = some (p x)) : F77 s f = some (s.any p) := by
  unfold F77; rw [F86_eq s f p hf, Option.bind_some, fidx_any]

/-! ### action sets -/
def keyOf (a : Action) : aset_spot := bif decide (a.Kind = 25) then ⟨a.Kind, a.Oxm.Field⟩ else ⟨a.Kind, 0⟩
theorem F85_eq (a : Action) : F85 a = some (keyOf a) := by
  unfold F85 keyOf
  cases decide (a.Kind = 25) <;> rfl
theorem keyOf_kind (a : Action) : (keyOf a).kind = a.Kind := by
  unfold keyOf
  cases decide (a.Kind = 25) <;> rfl
theorem F87_eq (b c : Action) : F87 b c = some (decide (keyOf c = keyOf b)) := by
  unfold F87
  rw [F85_eq, Option.bind_some, F85_eq]; rfl
def wr1 (l : List Action) (x : Action) : List Action := bif decide (fidx (fun b => decide (keyOf x = keyOf b)) l < 0) then l ++ [x] else l.set (fidx (fun b => decide (keyOf x = keyOf b)) l).toNat x
theorem wr1_len (l : List Action) (x : Action) : (wr1 l x).length ≤ l.length + 1 := by
  unfold wr1
  cases decide (fidx (fun b => decide (keyOf x = keyOf b)) l < 0) <;> simp
theorem F68_l1_eq : ∀ (l : List Action) (i : Nat) (acc : List Action), acc.length + l.length ≤ lim → F68_l1 l i acc = some (l.foldl wr1 acc)
  | [], i, acc, _ => by rw [F68_l1]; rfl
  | x :: l, i, acc, h => by
    simp only [List.length_cons] at h
    have hw := wr1_len acc x
    rw [F68_l1, F86_eq acc (fun y => F87 y x) (fun b => decide (keyOf x = keyOf b)) (fun y _ => F87_eq y x), Option.bind_some, List.foldl_cons]
    have hi := fidx_lt (fun b => decide (keyOf x = keyOf b)) acc
    by_cases hc : fidx (fun b => decide (keyOf x = keyOf b)) acc < 0
    · rw [decide_eq_true hc, cond_true, appd_ok (by simp; omega), Option.bind_some, F68_l1_eq l (i + 1) _ (by simp; omega)]
      unfold wr1
      rw [decide_eq_true hc, cond_true]
    · obtain ⟨n, hn⟩ : ∃ n : Nat, fidx (fun b => decide (keyOf x = keyOf b)) acc = (n : Int) := ⟨(fidx (fun b => decide (keyOf x = keyOf b)) acc).toNat, by omega⟩
      rw [decide_eq_false hc, cond_false, hn, lget_lt (by omega), Option.bind_some, F68_l1_eq l (i + 1) _ (by simp; omega)]
      unfold wr1
      rw [decide_eq_false hc, cond_false, hn]
theorem F68_eq (s l : List Action) (h : s.length + l.length ≤ lim) : F68 s l = some (l.foldl wr1 s) := by
  unfold F68 F80
  rw [appd_ok (by simp; omega), Option.bind_some, List.nil_append, F68_l1_eq l 0 s h]
theorem wr_len : ∀ (l s : List Action), (l.foldl wr1 s).length ≤ s.length + l.length
  | [], s => by simp
  | x :: l, s => by
    have h1 := wr_len l (wr1 s x)
    have h2 := wr1_len s x
    rw [List.foldl_cons, List.length_cons]; omega
theorem wr1_nodup (l : List Action) (x : Action) (h : (l.map keyOf).Nodup) : ((wr1 l x).map keyOf).Nodup := by
  unfold wr1
  rcases fidx_find (fun b => decide (keyOf x = keyOf b)) l with ⟨h1, h2⟩ | ⟨n, h1, h2, h3, h4⟩
  · rw [decide_eq_true h1, cond_true, List.map_append, List.nodup_append]
    refine ⟨h, by simp, ?_⟩
    intro a ha b hb e
    simp only [List.map_cons, List.map_nil, List.mem_singleton] at hb
    subst e; subst hb
    obtain ⟨y, hy, hk⟩ := List.mem_map.1 ha
    have := List.find?_eq_none.1 h2 y hy
    simp [hk] at this
  · rw [decide_eq_false (by omega), cond_false, h1, Int.toNat_natCast]
    have hk : keyOf x = keyOf l[n] := by simpa using h4
    have : (l.set n x).map keyOf = l.map keyOf := by
      rw [List.map_set, hk]
      apply List.ext_getElem
      · simp
      · intro i h5 h6
        rw [List.getElem_set]
        split
        · rename_i e; subst e; simp
        · rfl
    rw [this]; exact h
theorem wr_nodup : ∀ (l s : List Action), (s.map keyOf).Nodup → ((l.foldl wr1 s).map keyOf).Nodup
  | [], s, h => h
  | x :: l, s, h => wr_nodup l _ (wr1_nodup s x h)
def turnOf (k : Int) : Int := fidx (fun x => decide (k = x)) [18, 17, 25, 22, 0]
theorem F82_eq (k : Int) : F82 k = some (turnOf k) := by
  unfold F82 turnOf
  rw [F95_eq]; rfl
def keepA (goes : Bool) (a : Action) : Bool := !(decide (turnOf a.Kind < 0) || (goes && decide (a.Kind = 0)))
def cmpA (a b : Action) : Int :=
  bif decide (IntKind.i64.wrap (turnOf (keyOf a).kind - turnOf (keyOf b).kind) ≠ 0) then IntKind.i64.wrap (turnOf (keyOf a).kind - turnOf (keyOf b).kind)
  else bif decide ((keyOf a).field < (keyOf b).field) then -1 else bif decide ((keyOf a).field > (keyOf b).field) then 1 else 0
theorem F84_eq (a b : Action) : F84 a b = some (cmpA a b) := by
  unfold F84 cmpA
  rw [F85_eq, Option.bind_some, F85_eq, Option.bind_some, F82_eq, Option.bind_some, F82_eq, Option.bind_some]
  cases decide (IntKind.i64.wrap (turnOf (keyOf a).kind - turnOf (keyOf b).kind) ≠ 0)
  · rw [cond_false, cond_false]
    cases decide ((keyOf a).field < (keyOf b).field)
    · rw [cond_false, cond_false]
      cases decide ((keyOf a).field > (keyOf b).field) <;> rfl
    · rfl
  · rfl
/-- put into what is sorted, the greatest first -/
def rins {α : Type} (lt : α → α → Bool) (x : α) : List α → List α
  | [] => [x]
  | y :: R => bif lt x y then y :: rins lt x R else x :: y :: R
def srt {α : Type} (lt : α → α → Bool) (l : List α) : List α := (l.foldl (fun R x => rins lt x R) []).reverse
theorem rins_perm {α : Type} (lt : α → α → Bool) (x : α) : ∀ R : List α, (rins lt x R).Perm (x :: R)
  | [] => List.Perm.refl _
  | y :: R => by
    rw [rins]
    cases lt x y
    · exact List.Perm.refl _
    · exact ((rins_perm lt x R).cons y).trans (List.Perm.swap x y R)
theorem foldr_perm {α : Type} (lt : α → α → Bool) : ∀ (l R : List α), (l.foldl (fun R x => rins lt x R) R).Perm (l ++ R)
  | [], R => List.Perm.refl _
  | x :: l, R => by
    rw [List.foldl_cons]
    refine (foldr_perm lt l _).trans ?_
    refine ((rins_perm lt x R).append_left l).trans ?_
    exact List.perm_middle
theorem srt_perm {α : Type} (lt : α → α → Bool) (l : List α) : (srt lt l).Perm l := by
  unfold srt
  refine (List.reverse_perm _).trans ?_
  have := foldr_perm lt l []
  rwa [List.append_nil] at this
theorem rins_len {α : Type} (lt : α → α → Bool) (x : α) (R : List α) : (rins lt x R).length = R.length + 1 := by
  have := (rins_perm lt x R).length_eq
  simpa using this
def ltA (a b : Action) : Bool := decide (cmpA a b < 0)
theorem F100_l2_eq (go : List Action → Int → Option (List Action)) (i : Int) (x : Action) : ∀ (R S : List Action) (m : Nat), R.length < m → R.length ≤ lim →
    F100_l2 0 F84 go i m (R.reverse ++ x :: S) (R.length : Int) = go ((rins ltA x R).reverse ++ S) (IntKind.i64.wrap (i + 1))
  | [], S, m, h, _ => by
    obtain ⟨m, rfl⟩ : ∃ k, m = k + 1 := ⟨m - 1, by simp at h; omega⟩
    rw [F100_l2]
    simp [opt, rins]
  | y :: R, S, m, h, hl => by
    have hlim : lim = 4294967296 := rfl
    simp only [List.length_cons] at h hl
    obtain ⟨m, rfl⟩ : ∃ k, m = k + 1 := ⟨m - 1, by omega⟩
    have e0 : (y :: R).reverse ++ x :: S = R.reverse ++ y :: x :: S := by simp
    have ej : IntKind.i64.wrap (((y :: R).length : Int) - 1) = (R.length : Int) := by rw [wrap_i64 (by simp only [List.length_cons]; omega) (by simp only [List.length_cons]; omega)]; simp only [List.length_cons]; omega
    have hlen : ∀ a b : Action, (R.reverse ++ a :: b :: S).length = R.length + (S.length + 2) := fun a b => by simp
    have g1 : ∀ a b : Action, lget (R.reverse ++ a :: b :: S) (((y :: R).length : Int)) = some b := fun a b => by
      rw [lget_nat, List.getElem?_append_right (by simp)]; first | done | simp
    have g0 : ∀ a b : Action, lget (R.reverse ++ a :: b :: S) ((R.length : Int)) = some a := fun a b => by
      rw [lget_nat, List.getElem?_append_right (by simp)]; first | done | simp
    have s1 : ∀ a b c : Action, List.set (R.reverse ++ a :: b :: S) (((y :: R).length : Int)).toNat c = R.reverse ++ a :: c :: S := fun a b c => by
      rw [Int.toNat_natCast, List.set_append_right _ _ (by simp)]; first | done | simp
    have s0 : ∀ a b c : Action, List.set (R.reverse ++ a :: b :: S) ((R.length : Int)).toNat c = R.reverse ++ c :: b :: S := fun a b c => by
      rw [Int.toNat_natCast, List.set_append_right _ _ (by simp)]; first | done | simp
    rw [e0, F100_l2, decide_eq_true (by simp only [List.length_cons]; omega), opt_true, g1, Option.bind_some, opt_true, ej, g0, Option.bind_some, opt_true, F84_eq, Option.bind_some, Bool.true_and, rins]
    show (bif ltA x y then _ else _) = _
    cases ltA x y
    · rw [cond_false, cond_false]
      simp
    · rw [cond_true, cond_true, Option.bind_some, Option.bind_some, Option.bind_some, s1, g0, Option.bind_some, s0, F100_l2_eq go i x R (y :: S) m (by omega) (by omega)]
      simp
theorem F100_l1_eq : ∀ (T R : List Action) (m : Nat), T.length < m → 1 ≤ R.length → R.length + T.length ≤ 1000 →
    F100_l1 ((R.length + T.length : Nat) : Int) 0 F84 m (R.reverse ++ T) (R.length : Int) = some ((T.foldl (fun R x => rins ltA x R) R).reverse)
  | [], R, m, h, _, _ => by
    obtain ⟨m, rfl⟩ : ∃ k, m = k + 1 := ⟨m - 1, by simp at h; omega⟩
    rw [F100_l1, decide_eq_false (by simp), cond_false]
    simp
  | x :: T, R, m, h, h1, h2 => by
    have hlim : lim = 4294967296 := rfl
    simp only [List.length_cons] at h h2
    obtain ⟨m, rfl⟩ : ∃ k, m = k + 1 := ⟨m - 1, by omega⟩
    have e : IntKind.i64.wrap ((R.length : Int) + 1) = (((rins ltA x R).length : Nat) : Int) := by rw [rins_len, wrap_i64 (by omega) (by omega)]; omega
    have hn : R.length + (x :: T).length = (rins ltA x R).length + T.length := by rw [rins_len, List.length_cons]; omega
    rw [F100_l1, decide_eq_true (by simp; omega), cond_true, F100_l2_eq _ _ x R T fuel0 (by unfold fuel0; omega) (by omega), e, hn, F100_l1_eq T (rins ltA x R) m (by omega) (by rw [rins_len]; omega) (by rw [rins_len]; omega), List.foldl_cons]
theorem F100_eq (l : List Action) (h : l.length ≤ 1000) : F100 l 0 (l.length : Int) F84 = some (srt ltA l) := by
  unfold F100 srt
  have e : IntKind.i64.wrap ((0 : Int) + 1) = 1 := by decide
  rw [e]
  cases l with
  | nil => rfl
  | cons x l =>
    simp only [List.length_cons] at h
    have := F100_l1_eq l [x] ((((x :: l).length : Int) - 1).toNat + 1) (by simp) (by simp) (by simp; omega)
    have e2 : (([x].length + l.length : Nat) : Int) = ((x :: l).length : Int) := by simp; omega
    rw [e2] at this
    simp only [List.reverse_singleton, List.singleton_append] at this
    rw [List.foldl_cons]
    exact this
theorem F83_eq (l : List Action) (h : l.length < 20) : F83 l F84 = some (srt ltA l) := by
  unfold F83 F96
  obtain ⟨m, hm⟩ : ∃ m, (((l.length : Int) : Int) - 20).toNat + 2 = m + 1 := ⟨_, rfl⟩
  rw [hm, F96_l1, decide_eq_false (by omega), cond_false, F100_eq l (by omega), Option.bind_some]
  obtain ⟨k, hk⟩ : ∃ m, (((l.length : Int) : Int) - 20).toNat + 1 = m + 1 := ⟨_, rfl⟩
  rw [hk, F96_l2, decide_eq_false (by omega), cond_false]
  rfl
def lstA (s : List Action) : List Action := srt ltA (s.filter (keepA (s.any fun a => decide (a.Kind = 22))))
theorem F67_eq (s : List Action) (h : s.length < 20) : F67 s = some (lstA s) := by
  have hlim : lim = 4294967296 := rfl
  unfold F67 F80 lstA
  rw [F77_eq s F78 (fun a => decide (a.Kind = 22)) (fun _ _ => rfl), Option.bind_some, appd_ok (by simp; omega), Option.bind_some, List.nil_append]
  have hf : ∀ a : Action, F81 a (s.any fun a => decide (a.Kind = 22)) = some (!keepA (s.any fun a => decide (a.Kind = 22)) a) := fun a => by
    unfold F81 keepA
    rw [F82_eq, Option.bind_some, Bool.not_not]
  rw [F79_eq s _ (fun a => !keepA (s.any fun a => decide (a.Kind = 22)) a) (fun a _ => hf a) (by omega), Option.bind_some]
  simp only [Bool.not_not]
  rw [F83_eq _ (Nat.lt_of_le_of_lt (List.length_filter_le ..) h)]
  rfl

/-! ### groups -/
def lightB (bs : List Bucket) : Prop := bs.length ≤ 3 ∧ ∀ x ∈ bs, x.Acts.length ≤ 12
def lightG (l : List Group) : Prop := l.length ≤ 9 ∧ ∀ g ∈ l, lightB g.Buckets
theorem F92_l1_eq (bs : List Bucket) (h : ∀ x ∈ bs, x.Acts.length ≤ 12) : ∀ (m i : Nat), i + m = bs.length → F92_l1 m i bs = some bs
  | 0, i, _ => by rw [F92_l1]
  | m + 1, i, hi => by
    have hlim : lim = 4294967296 := rfl
    have hlt : i < bs.length := by omega
    have ha := h bs[i] (List.getElem_mem hlt)
    have e : List.set bs ((i : Int)).toNat { bs[i] with Acts := bs[i].Acts } = bs := by
      rw [Int.toNat_natCast]; exact List.set_getElem_self hlt
    rw [F92_l1, lget_lt hlt, Option.bind_some]
    unfold F80
    rw [appd_ok (by simp; omega), Option.bind_some, Option.bind_some, List.nil_append, e]
    exact F92_l1_eq bs h m (i + 1) (by omega)
theorem F92_eq (bs : List Bucket) (h : lightB bs) : F92 bs = some bs := by
  have hlim : lim = 4294967296 := rfl
  have := h.1
  unfold F92 F98
  rw [appd_ok (by simp; omega), Option.bind_some, List.nil_append, show ((bs.length : Int)).toNat = bs.length by omega]
  exact F92_l1_eq bs h.2 bs.length 0 (by omega)
theorem F74_eq (g : Group) (h : lightB g.Buckets) : F74 [g] = some [g] := by
  unfold F74 F91
  rw [appd_ok (by simp [lim]), Option.bind_some]
  show F74_l1 1 0 [g] = _
  rw [F74_l1]
  show ((some g).bind fun e8 => _) = _
  rw [Option.bind_some, F92_eq _ h, Option.bind_some]
  rfl
def findG (l : List Group) (id : Int) : Option Group := l.find? fun g => decide (g.ID = id)
theorem F65_eq (l : List Group) (id : Int) (hl : lightG l) : F65 l id = some (match findG l id with | none => ((⟨0, 0, []⟩ : Group), false) | some g => (g, true)) := by
  have h9 := hl.1
  unfold F65 F73 findG
  rw [F50_eq l (fun x => F90 x id) (fun g => decide (g.ID = id)) (fun _ _ => rfl), Option.bind_some, Option.bind_some]
  rcases fidx_find (fun g : Group => decide (g.ID = id)) l with ⟨h1, h2⟩ | ⟨n, h1, h2, h3, h4⟩
  · rw [decide_eq_true h1, cond_true, h2]
  · have hs : oslice l (n : Int) (IntKind.i64.wrap ((n : Int) + 1)) = some [l[n]] := by
      rw [wrap_i64 (by omega) (by omega)]
      unfold oslice
      rw [decide_eq_true (by omega), decide_eq_true (by omega), Nat.ble_eq_true_of_le (by omega)]
      show some _ = some _
      have e2 : ((n : Int) + 1).toNat = n + 1 := by omega
      have e3 : (l.take n).length = n := by simp; omega
      rw [e2, Int.toNat_natCast, List.take_succ_eq_append_getElem h2, List.drop_append, e3, List.drop_of_length_le (by omega), Nat.sub_self]
      rfl
    rw [decide_eq_false (by omega), cond_false, h1, hs, Option.bind_some, F74_eq _ (hl.2 _ (List.getElem_mem h2)), Option.bind_some, h3]
    rfl
theorem findG_mem {l : List Group} {id : Int} {g : Group} (h : findG l id = some g) : g ∈ l := List.mem_of_find?_eq_some h
def whichOf (e : Env) (n : Nat) : Int := (F75 e (n : Int)).getD 0
theorem F75_eq (e : Env) (n : Nat) (hn : 0 < n) (hn2 : n ≤ 1000) : F75 e (n : Int) = some (whichOf e n) ∧ 0 ≤ whichOf e n ∧ whichOf e n < n := by
  have key : ∃ t, F75 e (n : Int) = some t ∧ 0 ≤ t ∧ t < n := by
    unfold F75 omod
    rw [decide_eq_false (by omega), cond_false, decide_eq_false (by omega), cond_false, Option.bind_some]
    have h1 := Int.tmod_lt_of_pos e.Turn (show (0 : Int) < n by omega)
    have h2 : -(n : Int) < e.Turn.tmod (n : Int) := by
      have := Int.lt_tmod_of_pos e.Turn (show (0 : Int) < n by omega)
      exact this
    by_cases hc : e.Turn.tmod (n : Int) < 0
    · rw [decide_eq_true hc, cond_true, wrap_i64 (by omega) (by omega)]
      exact ⟨_, rfl, by omega, by omega⟩
    · rw [decide_eq_false hc, cond_false]
      exact ⟨_, rfl, by omega, by omega⟩
  obtain ⟨t, ht, h1, h2⟩ := key
  have e : whichOf e n = t := by unfold whichOf; rw [ht]; rfl
  rw [e]
  exact ⟨ht, h1, h2⟩
def upOf (e : Env) (bs : List Bucket) : Int := fidx (fun x => !e.Down.contains x.Watch) bs
def takesOf (e : Env) (g : Group) : List Int :=
  bif decide (g.Buckets.length = 0) then []
  else bif decide (g.Kind = 0) then (List.range' 0 g.Buckets.length).map fun (i : Nat) => (i : Int)
  else bif decide (g.Kind = 1) then [whichOf e g.Buckets.length]
  else bif decide (g.Kind = 2) then [0]
  else bif decide (g.Kind = 3) then (bif decide (upOf e g.Buckets ≥ 0) then [upOf e g.Buckets] else [])
  else []
theorem F66_l1_eq : ∀ (m i : Nat) (acc : List Int), acc.length + m ≤ lim → F66_l1 m i acc = some (acc ++ (List.range' i m).map fun (i : Nat) => (i : Int))
  | 0, i, acc, _ => by rw [F66_l1]; simp
  | m + 1, i, acc, h => by
    rw [F66_l1, appd_ok (by simp; omega), Option.bind_some, F66_l1_eq m (i + 1) _ (by simp; omega), List.range'_succ]
    simp
theorem F66_eq (e : Env) (g : Group) (h : lightB g.Buckets) : F66 e g = some (takesOf e g) := by
  have hlim : lim = 4294967296 := rfl
  have h3 := h.1
  unfold F66 takesOf
  simp only
  have hz : decide ((g.Buckets.length : Int) = 0) = decide (g.Buckets.length = 0) := by
    rw [decide_eq_decide]; omega
  rw [hz]
  by_cases h0 : g.Buckets.length = 0
  · rw [decide_eq_true h0]; rfl
  · rw [decide_eq_false h0, cond_false, cond_false]
    cases decide (g.Kind = 0)
    · rw [cond_false, cond_false]
      cases decide (g.Kind = 1)
      · rw [cond_false, cond_false]
        cases decide (g.Kind = 2)
        · rw [cond_false, cond_false]
          cases decide (g.Kind = 3)
          · rfl
          · rw [cond_true, cond_true]
            unfold F76 upOf
            simp only
            rw [F64_eq g.Buckets (fun x => F93 x (⟨e, g⟩ : env_world)) (fun x => !e.Down.contains x.Watch) (fun x _ => by unfold F93; rw [F94_eq]; rfl), Option.bind_some, Option.bind_some]
            cases decide (fidx (fun x => !e.Down.contains x.Watch) g.Buckets ≥ 0) <;> rfl
        · rfl
      · rw [cond_true, cond_true, (F75_eq e g.Buckets.length (by omega) (by omega)).1]; rfl
    · rw [cond_true, cond_true, show ((g.Buckets.length : Int)).toNat = g.Buckets.length by omega, F66_l1_eq _ 0 [] (by simp; omega)]
      rfl
theorem takesOf_ok (e : Env) (g : Group) (h : lightB g.Buckets) : (takesOf e g).length ≤ 3 ∧ ∀ i ∈ takesOf e g, ∃ n : Nat, i = (n : Int) ∧ n < g.Buckets.length := by
  have h3 := h.1
  unfold takesOf
  by_cases h0 : g.Buckets.length = 0
  · rw [decide_eq_true h0]; simp
  · rw [decide_eq_false h0, cond_false]
    cases decide (g.Kind = 0)
    · rw [cond_false]
      cases decide (g.Kind = 1)
      · rw [cond_false]
        cases decide (g.Kind = 2)
        · rw [cond_false]
          cases decide (g.Kind = 3)
          · simp
          · rw [cond_true]
            have hlt := fidx_lt (fun x : Bucket => !e.Down.contains x.Watch) g.Buckets
            by_cases hc : upOf e g.Buckets ≥ 0
            · rw [decide_eq_true hc, cond_true]
              refine ⟨by simp, fun i hi => ?_⟩
              rw [List.mem_singleton] at hi
              subst hi
              exact ⟨(upOf e g.Buckets).toNat, by omega, by unfold upOf at hc ⊢; omega⟩
            · rw [decide_eq_false hc, cond_false]; simp
        · refine ⟨by simp, fun i hi => ?_⟩
          simp only [cond_true, List.mem_singleton] at hi
          subst hi
          exact ⟨0, rfl, by omega⟩
      · obtain ⟨_, h1, h2⟩ := F75_eq e g.Buckets.length (by omega) (by omega)
        refine ⟨by simp, fun i hi => ?_⟩
        simp only [cond_true, List.mem_singleton] at hi
        subst hi
        exact ⟨(whichOf e g.Buckets.length).toNat, by omega, by omega⟩
    · refine ⟨by simp; omega, fun i hi => ?_⟩
      simp only [cond_true, List.mem_map] at hi
      obtain ⟨n, hn, rfl⟩ := hi
      exact ⟨n, rfl, by have := (List.mem_range'_1.1 hn).2; omega⟩

/-! ### what a bucket's actions are as they are done -/
def setActs (acts : List Action) : List Action := lstA (acts.foldl wr1 [])
def outs (l : List Action) : Nat := l.countP fun a => decide (a.Kind = 0) || decide (a.Kind = 22)
theorem key_of_kind {a b : Action} (ha : a.Kind ≠ 25) (h : a.Kind = b.Kind) : keyOf a = keyOf b := by
  unfold keyOf
  rw [decide_eq_false ha, decide_eq_false (h ▸ ha), h]; rfl
theorem count_one (k : Int) (hk : k ≠ 25) : ∀ l : List Action, (l.map keyOf).Nodup → (l.countP fun a => decide (a.Kind = k)) ≤ 1
  | [], _ => by simp
  | a :: l, h => by
    rw [List.map_cons, List.nodup_cons] at h
    rw [List.countP_cons]
    have ih := count_one k hk l h.2
    by_cases ha : a.Kind = k
    · have : (l.countP fun a => decide (a.Kind = k)) = 0 := by
        rw [List.countP_eq_zero]
        intro b hb hbk
        have hbk' : b.Kind = k := by simpa using hbk
        exact h.1 (List.mem_map.2 ⟨b, hb, (key_of_kind (by rw [ha]; exact hk) (by rw [ha, hbk'])).symm⟩)
      rw [this, decide_eq_true ha]; simp
    · rw [decide_eq_false ha]; simpa using ih
theorem outs_perm {l m : List Action} (h : l.Perm m) : outs l = outs m := h.countP_eq _
theorem outs_set (acts : List Action) : outs (setActs acts) ≤ 1 := by
  unfold setActs lstA
  rw [outs_perm (srt_perm _ _)]
  have hn := wr_nodup acts [] (by simp)
  generalize acts.foldl wr1 [] = s at *
  unfold outs
  rw [List.countP_filter]
  cases hg : s.any (fun a => decide (a.Kind = 22))
  · refine Nat.le_trans (List.countP_mono_left fun a ha h => ?_) (count_one 0 (by decide) s hn)
    rw [List.any_eq_false] at hg
    have := hg a ha
    simp only [Bool.and_eq_true, Bool.or_eq_true, decide_eq_true_eq] at h
    rcases h.1 with h | h
    · simpa using h
    · exact absurd (by simpa using h) this
  · refine Nat.le_trans (List.countP_mono_left fun a ha h => ?_) (count_one 22 (by decide) s hn)
    simp only [Bool.and_eq_true, Bool.or_eq_true, decide_eq_true_eq] at h
    rcases h.1 with h1 | h1
    · have h2 := h.2
      unfold keepA at h2
      simp [h1] at h2
    · simpa using h1

/-! ### what goes out -/
def doA (G : Int → Header → List Out) : List Action → List Out → Header → List Out × Header
  | [], o, h => (o, h)
  | a :: l, o, h => bif decide (a.Kind = 0) then doA G l (o ++ [⟨a.Port, mostOf a, h⟩]) h
    else bif decide (a.Kind = 22) then doA G l (o ++ G a.Group h) h
    else doA G l o (capply (rwOf a) h)
def bucketActs (bs : List Bucket) (i : Int) : List Action := match bs[i.toNat]? with
  | some b => b.Acts
  | none => []
def goG (l : List Group) (e : Env) : Nat → Int → Header → List Out
  | 0, _, _ => []
  | d + 1, id, h => match findG l id with
    | none => []
    | some g => (takesOf e g).flatMap fun i => (doA (goG l e d) (setActs (bucketActs g.Buckets i)) [] h).1
theorem doA_frame (G : Int → Header → List Out) : ∀ (l : List Action) (o : List Out) (h : Header), doA G l o h = (o ++ (doA G l [] h).1, (doA G l [] h).2)
  | [], o, h => by simp [doA]
  | a :: l, o, h => by
    rw [doA, doA]
    cases decide (a.Kind = 0)
    · rw [cond_false, cond_false]
      cases decide (a.Kind = 22)
      · rw [cond_false, cond_false]; exact doA_frame G l o _
      · rw [cond_true, cond_true, doA_frame G l (o ++ _), doA_frame G l ([] ++ _)]; simp
    · rw [cond_true, cond_true, doA_frame G l (o ++ _), doA_frame G l ([] ++ _)]; simp
theorem doA_len (G : Int → Header → List Out) (B : Nat) (hB : 1 ≤ B) (hG : ∀ id h, (G id h).length ≤ B) : ∀ (l : List Action) (h : Header), (doA G l [] h).1.length ≤ outs l * B
  | [], h => by simp [doA]
  | a :: l, h => by
    have ih := doA_len G B hB hG l
    unfold outs at ih ⊢
    rw [doA, List.countP_cons]
    by_cases h0 : a.Kind = 0
    · rw [decide_eq_true h0, cond_true, doA_frame]
      simp only [List.nil_append, List.length_append, List.length_cons, List.length_nil, Bool.true_or, if_true]
      have := ih h
      rw [Nat.add_mul, Nat.one_mul]; omega
    · rw [decide_eq_false h0, cond_false]
      by_cases h1 : a.Kind = 22
      · rw [decide_eq_true h1, cond_true, doA_frame]
        have h2 := hG a.Group h
        simp only [List.nil_append, List.length_append, Bool.or_true, if_true]
        have := ih h
        rw [Nat.add_mul, Nat.one_mul]; omega
      · rw [decide_eq_false h1, cond_false]
        have := ih (capply (rwOf a) h)
        simpa using this
theorem flatMap_bd {α β : Type} (f : α → List β) (k : Nat) : ∀ l : List α, (∀ x ∈ l, (f x).length ≤ k) → (l.flatMap f).length ≤ l.length * k
  | [], _ => by simp
  | x :: l, h => by
    rw [List.flatMap_cons, List.length_append, List.length_cons, Nat.succ_mul]
    have h1 := h x (by simp)
    have h2 := flatMap_bd f k l fun y hy => h y (by simp [hy])
    omega
theorem goG_len (l : List Group) (e : Env) (hl : lightG l) : ∀ (d : Nat) (id : Int) (h : Header), (goG l e d id h).length ≤ 3 ^ d
  | 0, id, h => by simp [goG]
  | d + 1, id, h => by
    rw [goG]
    cases hf : findG l id with
    | none => simp
    | some g =>
      have hb := hl.2 g (findG_mem hf)
      have ht := (takesOf_ok e g hb).1
      have h1 : 1 ≤ 3 ^ d := Nat.pow_pos (by decide)
      have := flatMap_bd (fun i => (doA (goG l e d) (setActs (bucketActs g.Buckets i)) [] h).1) (3 ^ d) (takesOf e g) fun i _ => by
        have h2 := doA_len (goG l e d) (3 ^ d) h1 (goG_len l e hl d) (setActs (bucketActs g.Buckets i)) h
        have h3 := outs_set (bucketActs g.Buckets i)
        have h4 : outs (setActs (bucketActs g.Buckets i)) * 3 ^ d ≤ 1 * 3 ^ d := Nat.mul_le_mul_right _ h3
        omega
      have h5 : (takesOf e g).length * 3 ^ d ≤ 3 * 3 ^ d := Nat.mul_le_mul_right _ ht
      have e1 : 3 ^ (d + 1) = 3 * 3 ^ d := by rw [Nat.pow_succ, Nat.mul_comm]
      show ((takesOf e g).flatMap _).length ≤ _
      omega
/-- the walk's loop over actions, by what groups do -/
theorem F29s_l1_eq (R : exec_run → Int → Option exec_run) (G : Int → Header → List Out) (e : Env) (l : List Group) (dep : Int) (B : Nat) (hB : 1 ≤ B) (hG : ∀ id h, (G id h).length ≤ B)
    (hR : ∀ o id h, o.length + B ≤ lim → R ⟨e, l, o, h, dep⟩ id = some ⟨e, l, o ++ G id h, h, dep⟩) :
    ∀ (acts : List Action) (i : Nat) (o : List Out) (h : Header), o.length + outs acts * B ≤ lim → F29s_l1 R acts i o e l h dep = some ⟨e, l, (doA G acts o h).1, (doA G acts o h).2, dep⟩
  | [], i, o, h, _ => by rw [F29s_l1]; rfl
  | a :: acts, i, o, h, hb => by
    unfold outs at hb
    rw [List.countP_cons] at hb
    rw [F29s_l1, doA]
    by_cases h0 : a.Kind = 0
    · simp only [decide_eq_true h0, Bool.true_or, if_true, Nat.add_mul, Nat.one_mul] at hb
      rw [decide_eq_true h0, cond_true, cond_true, F53_eq, Option.bind_some, appd_ok (by simp; omega), Option.bind_some]
      exact F29s_l1_eq R G e l dep B hB hG hR acts (i + 1) _ h (by unfold outs; simp; omega)
    · rw [decide_eq_false h0, cond_false, cond_false]
      by_cases h1 : a.Kind = 22
      · simp only [decide_eq_true h1, Bool.or_true, if_true, Nat.add_mul, Nat.one_mul] at hb
        have h2 := hG a.Group h
        rw [decide_eq_true h1, cond_true, cond_true, hR o a.Group h (by omega), Option.bind_some]
        exact F29s_l1_eq R G e l dep B hB hG hR acts (i + 1) _ h (by unfold outs; simp; omega)
      · simp only [decide_eq_false h0, decide_eq_false h1, Bool.or_self] at hb
        rw [decide_eq_false h1, cond_false, cond_false, F41_eq, Option.bind_some, F14_eq, Option.bind_some]
        exact F29s_l1_eq R G e l dep B hB hG hR acts (i + 1) o _ (by unfold outs; simpa using hb)
/-- the walk's loop over buckets -/
theorem F54s_l1_eq (R : exec_run → List Action → Option exec_run) (G : Int → Header → List Out) (e : Env) (l : List Group) (g : Group) (hg : lightB g.Buckets) (r1 : exec_run) (dep : Int) (hd : 0 ≤ dep ∧ dep ≤ 9) (B : Nat) (hB : 1 ≤ B) (hG : ∀ id h, (G id h).length ≤ B)
    (hR : ∀ o acts, outs acts ≤ 1 → o.length + B ≤ lim → R ⟨e, l, o, r1.header, dep⟩ acts = some ⟨e, l, (doA G acts o r1.header).1, (doA G acts o r1.header).2, dep⟩) :
    ∀ (ts : List Int) (i : Nat) (o : List Out), (∀ t ∈ ts, ∃ n : Nat, t = (n : Int) ∧ n < g.Buckets.length) → o.length + ts.length * B ≤ lim →
      F54s_l1 (g, true) R r1 ts i o e l r1.header dep = some ⟨e, l, o ++ ts.flatMap fun i => (doA G (setActs (bucketActs g.Buckets i)) [] r1.header).1, r1.header, dep - 1⟩
  | [], i, o, _, _ => by rw [F54s_l1, wrap_i64 (by omega) (by omega)]; simp
  | t :: ts, i, o, ht, hb => by
    have hlim : lim = 4294967296 := rfl
    obtain ⟨n, rfl, hn⟩ := ht t (by simp)
    simp only [List.length_cons, Nat.add_mul, Nat.one_mul] at hb
    have hacts := hg.2 g.Buckets[n] (List.getElem_mem hn)
    have hba : bucketActs g.Buckets (n : Int) = g.Buckets[n].Acts := by
      unfold bucketActs
      rw [Int.toNat_natCast, List.getElem?_eq_getElem hn]
    have hwl := wr_len g.Buckets[n].Acts []
    simp only [List.length_nil, Nat.zero_add] at hwl
    have hlen := doA_len G B hB hG (setActs g.Buckets[n].Acts) r1.header
    have hout := outs_set g.Buckets[n].Acts
    have hmul : outs (setActs g.Buckets[n].Acts) * B ≤ 1 * B := Nat.mul_le_mul_right _ hout
    rw [F54s_l1]
    simp only
    rw [lget_lt hn, Option.bind_some, F68_eq _ _ (by simp; omega), Option.bind_some, F67_eq _ (by omega), Option.bind_some, show lstA (g.Buckets[n].Acts.foldl wr1 []) = setActs g.Buckets[n].Acts from rfl, hR o _ hout (by omega), Option.bind_some]
    simp only
    rw [doA_frame]
    simp only
    rw [F54s_l1_eq R G e l g hg r1 dep hd B hB hG hR ts (i + 1) _ (fun t h => ht t (by simp [h])) (by rw [List.length_append]; omega), List.flatMap_cons, hba]
    simp
/-- what the tied walk does, d deep from the last depth -/
theorem walk_eq (l : List Group) (e : Env) (hl : lightG l) : ∀ (d : Nat), d ≤ 8 →
    (∀ n o id h, 2 * d + 1 ≤ n → o.length + 3 ^ d ≤ lim → (FR29_54 n).2 ⟨e, l, o, h, ((8 - d : Nat) : Int)⟩ id = some ⟨e, l, o ++ goG l e d id h, h, ((8 - d : Nat) : Int)⟩) ∧
    (∀ n o acts h, 2 * d + 2 ≤ n → o.length + outs acts * 3 ^ d ≤ lim → (FR29_54 n).1 ⟨e, l, o, h, ((8 - d : Nat) : Int)⟩ acts = some ⟨e, l, (doA (goG l e d) acts o h).1, (doA (goG l e d) acts o h).2, ((8 - d : Nat) : Int)⟩) := by
  have hlim : lim = 4294967296 := rfl
  intro d
  induction d with
  | zero =>
    intro hd
    have h1 : ∀ n o id h, 2 * 0 + 1 ≤ n → o.length + 3 ^ 0 ≤ lim → (FR29_54 n).2 ⟨e, l, o, h, ((8 - 0 : Nat) : Int)⟩ id = some ⟨e, l, o ++ goG l e 0 id h, h, ((8 - 0 : Nat) : Int)⟩ := by
      intro n o id h hn _
      obtain ⟨n, rfl⟩ : ∃ k, n = k + 1 := ⟨n - 1, by omega⟩
      show F54s (FR29_54 n).1 (FR29_54 n).2 _ _ = _
      unfold F54s
      simp only
      rw [F65_eq l id hl, Option.bind_some]
      have : ∀ x : Group × Bool, ((!x.2) || decide (((8 - 0 : Nat) : Int) ≥ 8)) = true := fun x => by simp
      rw [this]
      simp [goG]
    refine ⟨h1, ?_⟩
    intro n o acts h hn hb
    obtain ⟨n, rfl⟩ : ∃ k, n = k + 1 := ⟨n - 1, by omega⟩
    show F29s (FR29_54 n).1 (FR29_54 n).2 _ _ = _
    unfold F29s
    exact F29s_l1_eq _ (goG l e 0) e l _ (3 ^ 0) (by decide) (goG_len l e hl 0) (fun o id h hb => h1 n o id h (by omega) hb) acts 0 o h hb
  | succ d ih =>
    intro hd
    obtain ⟨ih1, ih2⟩ := ih (by omega)
    have hp : 3 ^ (d + 1) = 3 * 3 ^ d := by rw [Nat.pow_succ, Nat.mul_comm]
    have h1 : ∀ n o id h, 2 * (d + 1) + 1 ≤ n → o.length + 3 ^ (d + 1) ≤ lim → (FR29_54 n).2 ⟨e, l, o, h, ((8 - (d + 1) : Nat) : Int)⟩ id = some ⟨e, l, o ++ goG l e (d + 1) id h, h, ((8 - (d + 1) : Nat) : Int)⟩ := by
      intro n o id h hn hb
      obtain ⟨n, rfl⟩ : ∃ k, n = k + 1 := ⟨n - 1, by omega⟩
      show F54s (FR29_54 n).1 (FR29_54 n).2 _ _ = _
      unfold F54s
      simp only
      rw [F65_eq l id hl, Option.bind_some, goG]
      cases hf : findG l id with
      | none => simp
      | some g =>
        have hg := hl.2 g (findG_mem hf)
        obtain ⟨t1, t2⟩ := takesOf_ok e g hg
        simp only [Bool.not_true, Bool.false_or]
        rw [decide_eq_false (by omega), cond_false, F66_eq e g hg, Option.bind_some]
        have ew : IntKind.i64.wrap (((8 - (d + 1) : Nat) : Int) + 1) = ((8 - d : Nat) : Int) := by rw [wrap_i64 (by omega) (by omega)]; omega
        rw [ew]
        have hmul : (takesOf e g).length * 3 ^ d ≤ 3 * 3 ^ d := Nat.mul_le_mul_right _ t1
        have := F54s_l1_eq (FR29_54 n).1 (goG l e d) e l g hg ⟨e, l, o, h, ((8 - (d + 1) : Nat) : Int)⟩ ((8 - d : Nat) : Int) (by omega) (3 ^ d) (Nat.pow_pos (by decide)) (goG_len l e hl d)
          (fun o acts ho hb => ih2 n o acts h (by omega) (by
            have : outs acts * 3 ^ d ≤ 1 * 3 ^ d := Nat.mul_le_mul_right _ ho
            omega)) (takesOf e g) 0 o t2 (by omega)
        simp only at this
        rw [this]
        congr 2
        omega
    refine ⟨h1, ?_⟩
    intro n o acts h hn hb
    obtain ⟨n, rfl⟩ : ∃ k, n = k + 1 := ⟨n - 1, by omega⟩
    show F29s (FR29_54 n).1 (FR29_54 n).2 _ _ = _
    unfold F29s
    exact F29s_l1_eq _ (goG l e (d + 1)) e l _ (3 ^ (d + 1)) (Nat.pow_pos (by decide)) (goG_len l e hl (d + 1)) (fun o id h hb => h1 n o id h (by omega) hb) acts 0 o h hb
theorem F13_eq (l : List Group) (e : Env) (acts : List Action) (h : Header) (hl : lightG l) (ha : acts.length ≤ 100) : F13 l e acts h = some (doA (goG l e 8) acts [] h) := by
  have hlim : lim = 4294967296 := rfl
  unfold F13 F29
  have ho : outs acts ≤ 100 := Nat.le_trans List.countP_le_length ha
  have hm : outs acts * 3 ^ 8 ≤ 100 * 3 ^ 8 := Nat.mul_le_mul_right _ ho
  have := (walk_eq l e hl 8 (by decide)).2 fuel0 [] acts h (by unfold fuel0; omega) (by simp only [List.length_nil]; omega)
  rw [show (((8 - 8 : Nat)) : Int) = 0 from rfl] at this
  rw [this]
  rfl
theorem F36_eq (l : List Group) (e : Env) (id : Int) (h : Header) (hl : lightG l) : F36 l e id h = some (goG l e 8 id h) := by
  have hlim : lim = 4294967296 := rfl
  unfold F36 F54
  have := (walk_eq l e hl 8 (by decide)).1 fuel0 [] id h (by unfold fuel0; omega) (by simp only [List.length_nil]; omega)
  rw [show (((8 - 8 : Nat)) : Int) = 0 from rfl] at this
  rw [this]
  rfl
end Go.Proofs.Ytokmmcflinnfiab.W
