/- A part of the proof. -/
import Derived.Test.YtknpgojdkobgjaaG3
set_option linter.unusedVariables false
set_option linter.unusedSimpArgs false
namespace Go.Proofs.Ytknpgojdkobgjaa.W
open Go Go.Wb
theorem lget_at {α : Type} (P Q : List α) (x : α) (i : Int) (h : i = (P.length : Int)) : lget (P ++ x :: Q) i = some x := by
  subst h
  rw [lget_nat, List.getElem?_append_right (Nat.le_refl _)]; simp
theorem set_at {α : Type} (P Q : List α) (x y : α) (i : Nat) (h : i = P.length) : List.set (P ++ x :: Q) i y = P ++ y :: Q := by
  subst h
  rw [List.set_append_right _ _ (Nat.le_refl _)]; simp
end Go.Proofs.Ytknpgojdkobgjaa.W
set_option linter.unusedVariables false
set_option linter.unusedSimpArgs false
namespace Go.Proofs.Ytknpgojdkobgjaa.W
open Go Go.Wb
section sym
variable (lt : Action → Action → Bool) (cmp : Action → Action → Option Int)
variable {lt cmp}
end sym
end Go.Proofs.Ytknpgojdkobgjaa.W
set_option linter.unusedVariables false
set_option linter.unusedSimpArgs false
namespace Go.Proofs.Ytknpgojdkobgjaa.W
open Go Go.Wb
section sym
variable {lt : Action → Action → Bool} {cmp : Action → Action → Option Int}
end sym
end Go.Proofs.Ytknpgojdkobgjaa.W
set_option linter.unusedVariables false
set_option linter.unusedSimpArgs false
namespace Go.Proofs.Ytknpgojdkobgjaa.W
open Go Go.Wb
section ins
variable {lt : Action → Action → Bool} {cmp : Action → Action → Option Int}
end ins
end Go.Proofs.Ytknpgojdkobgjaa.W
set_option linter.unusedVariables false
set_option linter.unusedSimpArgs false
namespace Go.Proofs.Ytknpgojdkobgjaa.W
open Go Go.Wb
section stable
variable {lt : Action → Action → Bool} {cmp : Action → Action → Option Int}
end stable
end Go.Proofs.Ytknpgojdkobgjaa.W
set_option linter.unusedVariables false
set_option linter.unusedSimpArgs false
namespace Go.Proofs.Ytknpgojdkobgjaa.W
open Go Go.Wb
def wand (a b : Wide) : Wide := ⟨a.Hi &&& b.Hi, a.Lo &&& b.Lo⟩
def wor (a b : Wide) : Wide := ⟨a.Hi ||| b.Hi, a.Lo ||| b.Lo⟩
def wxor (a b : Wide) : Wide := ⟨a.Hi ^^^ b.Hi, a.Lo ^^^ b.Lo⟩
def wless (a b : Wide) : Wide := ⟨a.Hi &&& ~~~b.Hi, a.Lo &&& ~~~b.Lo⟩
def wt (a : Wide) (i : Nat) : Bool := bif Nat.blt i 64 then a.Lo.getLsbD i else a.Hi.getLsbD (i - 64)
def wbit (i : Nat) : Wide := bif Nat.blt i 64 then ⟨0, 1#64 <<< i⟩ else ⟨1#64 <<< (i - 64), 0⟩
theorem blt_t {i n : Nat} (h : i < n) : Nat.blt i n = true := by simpa using h
theorem blt_f {i n : Nat} (h : ¬ i < n) : Nat.blt i n = false := by
  cases hb : Nat.blt i n
  · rfl
  · exact absurd (by simpa using hb) h
theorem wt_ext {a b : Wide} (h : ∀ i, i < 128 → wt a i = wt b i) : a = b := by
  obtain ⟨ah, al⟩ := a
  obtain ⟨bh, bl⟩ := b
  have h1 : ah = bh := BitVec.eq_of_getLsbD_eq fun i hi => by
    have := h (i + 64) (by omega)
    unfold wt at this
    rw [blt_f (by omega)] at this
    simpa using this
  have h2 : al = bl := BitVec.eq_of_getLsbD_eq fun i hi => by
    have := h i (by omega)
    unfold wt at this
    rw [blt_t (by omega)] at this
    simpa using this
  rw [h1, h2]
theorem wt_and (a b : Wide) (i : Nat) : wt (wand a b) i = (wt a i && wt b i) := by
  unfold wt wand
  cases Nat.blt i 64 <;> simp
theorem wt_or (a b : Wide) (i : Nat) : wt (wor a b) i = (wt a i || wt b i) := by
  unfold wt wor
  cases Nat.blt i 64 <;> simp
theorem wt_xor (a b : Wide) (i : Nat) : wt (wxor a b) i = (wt a i != wt b i) := by
  unfold wt wxor
  cases Nat.blt i 64 <;> simp
theorem wt_less (a b : Wide) (i : Nat) (h : i < 128) : wt (wless a b) i = (wt a i && !wt b i) := by
  unfold wt wless
  by_cases hi : i < 64
  · rw [blt_t hi]; simp [hi]
  · rw [blt_f hi]; simp [show i - 64 < 64 by omega]
theorem wt_zero (i : Nat) : wt zWide i = false := by
  unfold wt zWide
  cases Nat.blt i 64 <;> simp
theorem wt_bit (i j : Nat) (hi : i < 128) (hj : j < 128) : wt (wbit i) j = decide (i = j) := by
  unfold wt wbit
  by_cases h1 : i < 64
  · rw [blt_t h1, cond_true]
    by_cases h2 : j < 64
    · rw [blt_t h2, cond_true, BitVec.getLsbD_shiftLeft]
      by_cases e : i = j
      · subst e; simp [h2]
      · simp [h2, e, BitVec.getLsbD_one]; omega
    · rw [blt_f h2, cond_false]
      have : i ≠ j := by omega
      simp [this]
  · rw [blt_f h1, cond_false]
    by_cases h2 : j < 64
    · rw [blt_t h2, cond_true]
      have : i ≠ j := by omega
      simp [this]
    · rw [blt_f h2, cond_false, BitVec.getLsbD_shiftLeft]
      by_cases e : i = j
      · subst e; simp [show i - 64 < 64 by omega]
      · simp [show j - 64 < 64 by omega, e, BitVec.getLsbD_one]; omega
def wzero (a : Wide) : Bool := decide ((a.Hi ||| a.Lo) = (0 : BitVec 64))
theorem wzero_iff (a : Wide) : wzero a = true ↔ ∀ i, i < 128 → wt a i = false := by
  unfold wzero
  rw [decide_eq_true_eq]
  constructor
  · intro h i hi
    have hb : ∀ j, (a.Hi.getLsbD j || a.Lo.getLsbD j) = false := fun j => by rw [← BitVec.getLsbD_or, h]; simp
    unfold wt
    by_cases h1 : i < 64
    · rw [blt_t h1, cond_true]
      have := hb i
      simp only [Bool.or_eq_false_iff] at this
      exact this.2
    · rw [blt_f h1, cond_false]
      have := hb (i - 64)
      simp only [Bool.or_eq_false_iff] at this
      exact this.1
  · intro h
    apply BitVec.eq_of_getLsbD_eq
    intro j hj
    have h1 := h j (by omega)
    have h2 := h (j + 64) (by omega)
    unfold wt at h1 h2
    rw [blt_t hj] at h1
    rw [blt_f (by omega)] at h2
    simp at h1 h2
    simp [h1, h2]
theorem wzero_false {a : Wide} : wzero a = false ↔ ∃ i, i < 128 ∧ wt a i = true := by
  rw [← Bool.not_eq_true, wzero_iff]
  constructor
  · intro h
    apply Classical.byContradiction
    intro hn
    exact h fun i hi => by
      cases hw : wt a i
      · rfl
      · exact absurd ⟨i, hi, hw⟩ hn
  · rintro ⟨i, hi, hw⟩ h
    rw [h i hi] at hw; cases hw
theorem has_bit (a : Wide) (i : Nat) (h : i < 128) : (!wzero (wand a (wbit i))) = wt a i := by
  cases hw : wt a i
  · have : wzero (wand a (wbit i)) = true := by
      rw [wzero_iff]
      intro j hj
      rw [wt_and, wt_bit i j h hj]
      by_cases e : i = j
      · subst e; rw [hw]; rfl
      · simp [e]
    rw [this]; rfl
  · have : wzero (wand a (wbit i)) = false := by
      rw [wzero_false]
      exact ⟨i, h, by rw [wt_and, wt_bit i i h h, hw]; simp⟩
    rw [this]; rfl
theorem oushl_nat (x : BitVec 64) (n : Nat) : oushl x (n : Int) = some (x <<< n) := by
  unfold oushl
  rw [decide_eq_false (by omega)]
  simp
theorem oushr_nat (x : BitVec 64) (n : Nat) : oushr x (n : Int) = some (x >>> n) := by
  unfold oushr
  rw [decide_eq_false (by omega)]
  simp
theorem F_wide_And_eq (a b : Wide) : F_wide_And a b = some (wand a b) := rfl
theorem F_wide_Or_eq (a b : Wide) : F_wide_Or a b = some (wor a b) := rfl
theorem F_wide_Less_eq (a b : Wide) : F_wide_Less a b = some (wless a b) := rfl
theorem F_wide_Bit_eq (i : Nat) (h : i < 128) : F_wide_Bit (i : Int) = some (wbit i) := by
  unfold F_wide_Bit
  have h1 : (decide ((i : Int) < 0) || decide ((i : Int) > 127)) = false := by simp; omega
  have hq : oquo .i64 (i : Int) 64 = some ((i / 64 : Nat) : Int) := by
    unfold oquo
    rw [decide_eq_false (by decide)]
    show some (IntKind.i64.wrap ((i / 64 : Nat) : Int)) = _
    rw [wrap_i64 (by omega) (by omega)]
  have hm : omod (i : Int) 64 = some ((i % 64 : Nat) : Int) := omod_nat i 64 (by omega)
  rw [h1, cond_false, hq, Option.bind_some, hm, Option.bind_some, oushl_nat, Option.bind_some, chk_nat (by omega), Option.bind_some]
  unfold wbit
  by_cases h2 : i < 64
  · rw [blt_t h2, cond_true]
    have e1 : i / 64 = 0 := by omega
    have e2 : i % 64 = i := by omega
    simp only [e1, e2]
    rfl
  · rw [blt_f h2, cond_false]
    have e1 : i / 64 = 1 := by omega
    have e2 : i % 64 = i - 64 := by omega
    simp only [e1, e2]
    rfl
abbrev Cube := Vector Tern 24
abbrev Header := Vector Wide 24
def tclean (t : Tern) : Tern := ⟨wand t.Value t.Mask, t.Mask⟩
theorem F_tern_Clean_eq (t : Tern) : F_tern_Clean t = some (tclean t) := rfl
def cclean (c : Cube) : Cube := Vector.ofFn fun i => tclean (ve c i.1)
def tover (a b : Tern) : Tern := ⟨wor (wless (tclean a).Value b.Mask) (tclean b).Value, wor a.Mask b.Mask⟩
theorem F_rewrite_over_eq (a b : Tern) : F_rewrite_over a b = some (tover a b) := rfl
theorem F_rewrite_each_Rewrite_l1_eq (f : Int → Option Tern) (g : Nat → Tern) (hf : ∀ i : Nat, i < 24 → f (i : Int) = some (g i)) (b : Cube) : ∀ (m i : Nat), i + m = 24 → F_rewrite_each_Rewrite_l1 f m i (upto g b i) = some (Vector.ofFn (fun i => g i.1))
  | 0, i, h => by
    have : i = 24 := by omega
    subst this
    rw [F_rewrite_each_Rewrite_l1, upto_all]
  | m + 1, i, h => by
    rw [F_rewrite_each_Rewrite_l1, hf i (by omega), Option.bind_some, chk_nat (by omega), Option.bind_some]
    show F_rewrite_each_Rewrite_l1 f m (i + 1) (Vector.set (upto g b i) i (g i) _) = _
    rw [upto_set g b i (by omega), F_rewrite_each_Rewrite_l1_eq f g hf b m (i + 1) (by omega)]
theorem F_rewrite_each_Rewrite_eq (f : Int → Option Tern) (g : Nat → Tern) (hf : ∀ i : Nat, i < 24 → f (i : Int) = some (g i)) : F_rewrite_each_Rewrite f = some (Vector.ofFn (fun i => g i.1)) := by
  unfold F_rewrite_each_Rewrite
  have := F_rewrite_each_Rewrite_l1_eq f g hf (Vector.replicate 24 zTern) 24 0 rfl
  rw [upto_zero] at this
  exact this
theorem F_rewrite_Clean_eq (r : Cube) : F_rewrite_Clean r = some (cclean r) := by
  unfold F_rewrite_Clean
  rw [F_rewrite_each_Rewrite_eq (fun x => F_rewrite_Clean_1 x r) (fun i => tclean (ve r i)) (fun i hi => by unfold F_rewrite_Clean_1; rw [chk_nat hi, Option.bind_some, vget_eq, F_tern_Clean_eq]; rfl)]
  rfl
def capply (r : Cube) (h : Header) : Header := Vector.ofFn fun f => wor (wless (ve h f.1) (ve r f.1).Mask) (wand (ve r f.1).Value (ve r f.1).Mask)
theorem ve_capply (r : Cube) (h : Header) (f : Nat) (hf : f < 24) : ve (capply r h) f = wor (wless (ve h f) (ve r f).Mask) (wand (ve r f).Value (ve r f).Mask) := ve_ofFn (fun f => wor (wless (ve h f) (ve r f).Mask) (wand (ve r f).Value (ve r f).Mask)) f hf
theorem F_rewrite_Apply_l1_eq (r : Cube) (h : Header) : ∀ (l : List Tern) (i : Nat), i + l.length = 24 → l = (Vector.toList r).drop i → F_rewrite_Apply_l1 l i (upto (fun f => wor (wless (ve h f) (ve r f).Mask) (wand (ve r f).Value (ve r f).Mask)) h i) = some (capply r h)
  | [], i, h1, h2 => by
    have : i = 24 := by simpa using h1
    subst this
    rw [F_rewrite_Apply_l1, upto_all]; rfl
  | x :: l, i, h1, h2 => by
    simp only [List.length_cons] at h1
    have hi : i < (Vector.toList r).length := by simp; omega
    rw [List.drop_eq_getElem_cons hi] at h2
    obtain ⟨rfl, h3⟩ := List.cons.inj h2
    have hx : (Vector.toList r)[i] = ve r i := by rw [Vector.getElem_toList, ve_lt _ _ (by omega)]
    rw [F_rewrite_Apply_l1, hx, chk_nat (by omega), Option.bind_some, vget_eq, F_wide_Less_eq, Option.bind_some, F_wide_And_eq, Option.bind_some, F_wide_Or_eq, Option.bind_some, Option.bind_some, ve_upto _ _ _ _ (by omega), if_neg (by omega)]
    have := upto_set (fun f => wor (wless (ve h f) (ve r f).Mask) (wand (ve r f).Value (ve r f).Mask)) h i (by omega)
    rw [this]
    exact F_rewrite_Apply_l1_eq r h l (i + 1) (by omega) h3
theorem F_rewrite_Apply_eq (r : Cube) (h : Header) : F_rewrite_Apply r h = some (capply r h) := by
  unfold F_rewrite_Apply
  have := F_rewrite_Apply_l1_eq r h (Vector.toList r) 0 (by simp) rfl
  rw [upto_zero] at this
  exact this
def cset (r : Cube) (f : Int) (v m : Wide) : Cube := bif decide (f ≥ 0) && decide (f < 24) then Vector.ofFn fun i => if f.toNat = i.1 then tover (ve (cclean r) f.toNat) ⟨v, m⟩ else ve (cclean r) i.1 else cclean r
theorem F_rewrite_Set_eq (r : Cube) (f : Int) (v m : Wide) : F_rewrite_Set r f v m = some (cset r f v m) := by
  unfold F_rewrite_Set cset F_field_Right
  rw [F_rewrite_Clean_eq, Option.bind_some, Option.bind_some]
  cases hc : (decide (f ≥ 0) && decide (f < 24))
  · rfl
  · simp only [Bool.and_eq_true, decide_eq_true_eq] at hc
    obtain ⟨n, rfl⟩ : ∃ n : Nat, f = (n : Int) := ⟨f.toNat, by omega⟩
    have hn : n < 24 := by omega
    have e : Vector.set (cclean r) n (tover (ve (cclean r) n) ⟨v, m⟩) hn = Vector.ofFn fun i : _root_.Fin 24 => if n = i.1 then tover (ve (cclean r) n) ⟨v, m⟩ else ve (cclean r) i.1 := ve_ext fun j hj => by
      rw [ve_set _ _ _ _ _ hj]
      exact (ve_ofFn (fun i => if n = i then tover (ve (cclean r) n) ⟨v, m⟩ else ve (cclean r) i) j hj).symm
    rw [cond_true, cond_true, chk_nat hn, Option.bind_some, vget_eq, F_rewrite_over_eq, Option.bind_some, Option.bind_some, Int.toNat_natCast]
    exact congrArg some e
theorem F_wide_low_some (n : Int) : ∃ x, F_wide_low n = some x := by
  unfold F_wide_low
  cases decide (n ≥ 64)
  · have h0 : 0 ≤ imax n 0 := by
      unfold imax
      by_cases h : (0 : Int) > n
      · simp [h]
      · simp [h]; omega
    obtain ⟨k, hk⟩ : ∃ k : Nat, imax n 0 = (k : Int) := ⟨(imax n 0).toNat, by omega⟩
    rw [cond_false, hk, oushl_nat]
    exact ⟨_, rfl⟩
  · exact ⟨_, rfl⟩
def wlow (n : Int) : Wide := (F_wide_Low n).getD zWide
theorem F_wide_Low_eq (n : Int) : F_wide_Low n = some (wlow n) := by
  obtain ⟨x, hx⟩ := F_wide_low_some (IntKind.i64.wrap ((imin (imax n 0) 128) - 64))
  obtain ⟨y, hy⟩ := F_wide_low_some (imin (imax n 0) 128)
  have : F_wide_Low n = some ⟨x, y⟩ := by unfold F_wide_Low; rw [hx, Option.bind_some, hy]; rfl
  unfold wlow
  rw [this]; rfl
def fbits (n : Int) : Int := (F_field_Bits n).getD 0
theorem F_field_rows_some : ∃ v, F_field_rows = some v := by unfold F_field_rows; exact ⟨_, rfl⟩
theorem F_field_Bits_eq (n : Int) : F_field_Bits n = some (fbits n) := by
  have : ∃ x, F_field_Bits n = some x := by
    unfold F_field_Bits F_field_at F_field_Right
    rw [Option.bind_some]
    cases hc : (decide (n ≥ 0) && decide (n < 24))
    · exact ⟨_, rfl⟩
    · simp only [Bool.and_eq_true, decide_eq_true_eq] at hc
      obtain ⟨k, rfl⟩ : ∃ k : Nat, n = (k : Int) := ⟨n.toNat, by omega⟩
      obtain ⟨v, hv⟩ := F_field_rows_some
      rw [Bool.not_true, cond_false, hv, Option.bind_some, lget_lt (by simp; omega), Option.bind_some, Option.bind_some]
      exact ⟨_, rfl⟩
  obtain ⟨x, hx⟩ := this
  unfold fbits
  rw [hx]; rfl
def oxT (o : Oxm) : Tern := bif decide (o.Field ≥ 0) && decide (o.Field < 24) then (bif o.Masked then ⟨o.Value, o.Mask⟩ else ⟨o.Value, wlow (fbits o.Field)⟩) else ⟨zWide, zWide⟩
theorem F_oxm_Tern_eq (o : Oxm) : F_oxm_Tern o = some (oxT o) := by
  unfold F_oxm_Tern oxT F_field_Right
  rw [Option.bind_some]
  cases decide (o.Field ≥ 0) && decide (o.Field < 24)
  · rfl
  · rw [Bool.not_true, cond_false, cond_true]
    cases o.Masked
    · rw [cond_false, cond_false, F_field_Bits_eq, Option.bind_some, F_wide_Low_eq]; rfl
    · rfl
def none24 : Cube := Vector.replicate 24 zTern
def rwOf (a : Action) : Cube :=
  bif decide (a.Kind = 25) then cset none24 a.Oxm.Field (oxT a.Oxm).Value (oxT a.Oxm).Mask
  else bif decide (a.Kind = 17) then cset none24 5 (wbit 12) (wbit 12)
  else bif decide (a.Kind = 18) then cset (cset none24 5 ⟨0, 0⟩ (wlow 13)) 6 ⟨0, 0⟩ (wlow 3)
  else none24
theorem F_aset_Rewrite_eq (a : Action) : F_aset_Rewrite a = some (rwOf a) := by
  unfold F_aset_Rewrite rwOf
  rw [show F_rewrite_None = some none24 from rfl, Option.bind_some]
  cases decide (a.Kind = 25)
  · rw [cond_false, cond_false]
    cases decide (a.Kind = 17)
    · rw [cond_false, cond_false]
      cases decide (a.Kind = 18)
      · rfl
      · rw [cond_true, cond_true, F_wide_Low_eq, Option.bind_some, F_rewrite_Set_eq, Option.bind_some, F_wide_Low_eq, Option.bind_some, F_rewrite_Set_eq]; rfl
    · rw [cond_true, cond_true, show (12 : Int) = ((12 : Nat) : Int) from rfl, F_wide_Bit_eq 12 (by decide), Option.bind_some, Option.bind_some, F_rewrite_Set_eq]; rfl
  · rw [cond_true, cond_true, F_oxm_Tern_eq, Option.bind_some, F_rewrite_Set_eq]; rfl
def mostOf (a : Action) : Int := bif decide (a.Port = 4294967293) then a.Max else 0
theorem F_exec_most_eq (a : Action) : F_exec_most a = some (mostOf a) := by
  unfold F_exec_most mostOf
  cases decide (a.Port = 4294967293) <;> rfl
theorem fidx_split {α : Type} (p : α → Bool) : ∀ l : List α, 0 ≤ fidx p l → (l.take ((fidx p l).toNat + 1)).filter (fun x => !p x) = l.take (fidx p l).toNat
  | [], h => by simp [fidx] at h
  | x :: l, h => by
    unfold fidx at h ⊢
    cases hp : p x
    · rw [hp] at h
      by_cases h' : fidx p l < 0
      · simp [h'] at h
      · simp only [cond_false, decide_eq_false h']
        have e : (fidx p l + 1).toNat = (fidx p l).toNat + 1 := by omega
        rw [e, List.take_succ_cons, List.take_succ_cons, List.filter_cons_of_pos (by simp [hp]), fidx_split p l (by omega)]
    · simp [hp]
theorem fidx_all {α : Type} (p : α → Bool) (l : List α) (h : fidx p l < 0) : l.filter (fun x => !p x) = l := by
  rw [List.filter_eq_self]
  intro x hx
  rw [fidx_none p l h x hx]; rfl
theorem fidx_find {α : Type} (p : α → Bool) : ∀ l : List α, (fidx p l < 0 ∧ l.find? p = none) ∨ ∃ n : Nat, fidx p l = (n : Int) ∧ ∃ h : n < l.length, l.find? p = some l[n] ∧ p l[n] = true
  | [] => .inl ⟨by simp [fidx], rfl⟩
  | x :: l => by
    unfold fidx
    cases hp : p x
    · rw [cond_false, List.find?_cons_of_neg (by simp [hp])]
      rcases fidx_find p l with ⟨h1, h2⟩ | ⟨n, h1, h2, h3, h4⟩
      · left; rw [decide_eq_true h1]; exact ⟨by show (-1 : Int) < 0; decide, h2⟩
      · right
        rw [decide_eq_false (by omega)]
        exact ⟨n + 1, by show fidx p l + 1 = _; omega, by simp; omega, by simpa using h3, by simpa using h4⟩
    · right
      exact ⟨0, rfl, by simp, by rw [List.find?_cons_of_pos hp]; rfl, hp⟩
theorem F_slices_IndexFunc_Action_eq (s : List Action) (f : Action → Option Bool) (p : Action → Bool) (hf : ∀ x ∈ s, f x = some (p x)) : F_slices_IndexFunc_Action s f = some (fidx p s) := by
  unfold F_slices_IndexFunc_Action
  rw [show ((s.length : Int)).toNat = s.length by omega]
  exact idx_spec p (fun i => by rw [F_slices_IndexFunc_Action_l1]) (fun m i => by rw [F_slices_IndexFunc_Action_l1]) hf
theorem F_slices_IndexFunc_Group_eq (s : List Group) (f : Group → Option Bool) (p : Group → Bool) (hf : ∀ x ∈ s, f x = some (p x)) : F_slices_IndexFunc_Group s f = some (fidx p s) := by
  unfold F_slices_IndexFunc_Group
  rw [show ((s.length : Int)).toNat = s.length by omega]
  exact idx_spec p (fun i => by rw [F_slices_IndexFunc_Group_l1]) (fun m i => by rw [F_slices_IndexFunc_Group_l1]) hf
theorem F_slices_IndexFunc_Bucket_eq (s : List Bucket) (f : Bucket → Option Bool) (p : Bucket → Bool) (hf : ∀ x ∈ s, f x = some (p x)) : F_slices_IndexFunc_Bucket s f = some (fidx p s) := by
  unfold F_slices_IndexFunc_Bucket
  rw [show ((s.length : Int)).toNat = s.length by omega]
  exact idx_spec p (fun i => by rw [F_slices_IndexFunc_Bucket_l1]) (fun m i => by rw [F_slices_IndexFunc_Bucket_l1]) hf
theorem F_slices_Index_int_eq (s : List Int) (v : Int) : F_slices_Index_int s v = some (fidx (fun x => decide (v = x)) s) := by
  unfold F_slices_Index_int
  rw [show ((s.length : Int)).toNat = s.length by omega]
  exact idx_spec (f := fun x => some (decide (v = x))) (fun x => decide (v = x)) (fun i => by rw [F_slices_Index_int_l1]) (fun m i => by rw [F_slices_Index_int_l1]; rfl) (fun _ _ => rfl)
theorem F_slices_Contains_int_eq (s : List Int) (v : Int) : F_slices_Contains_int s v = some (s.contains v) := by
  unfold F_slices_Contains_int; rw [F_slices_Index_int_eq, Option.bind_some, fidx_any]
  congr 1
  rw [Bool.eq_iff_iff, List.any_eq_true, List.contains_iff_mem]
  simp
theorem F_env_Up_eq (e : Env) (n : Int) : F_env_Up e n = some (!e.Down.contains n) := by
  unfold F_env_Up; rw [F_slices_Contains_int_eq]; rfl
theorem F_slices_DeleteFunc_Action_eq (s : List Action) (f : Action → Option Bool) (p : Action → Bool) (hf : ∀ x ∈ s, f x = some (p x)) (hl : s.length ≤ lim) : F_slices_DeleteFunc_Action s f = some (s.filter (fun x => !p x)) := by
  have hlim : lim = 4294967296 := rfl
  unfold F_slices_DeleteFunc_Action
  rw [F_slices_IndexFunc_Action_eq s f p hf, Option.bind_some]
  by_cases h : fidx p s < 0
  · have := fidx_ge p s
    rw [decide_eq_true (by omega), cond_true, fidx_all p s h]
  · have hlt := fidx_lt p s
    rw [decide_eq_false (by omega), cond_false, wrap_i64 (by omega) (by omega)]
    have key := del_spec (z := zAction) (G := F_slices_DeleteFunc_Action_l1 f) (s := s) (f := f) p (fun m l i j => by rw [F_slices_DeleteFunc_Action_l1]) hf hl (((s.length : Int) - (fidx p s + 1)).toNat + 1) s (fidx p s).toNat ((fidx p s).toNat + 1) (by omega) (by omega) (by omega) rfl rfl (fidx_split p s (by omega)).symm
    rw [show ((fidx p s).toNat : Int) = fidx p s by omega, show (((fidx p s).toNat + 1 : Nat) : Int) = fidx p s + 1 by omega] at key
    exact key
theorem F_slices_ContainsFunc_Action_eq (s : List Action) (f : Action → Option Bool) (p : Action → Bool) (hf : ∀ x ∈ s, f x = some (p x)) : F_slices_ContainsFunc_Action s f = some (s.any p) := by
  unfold F_slices_ContainsFunc_Action; rw [F_slices_IndexFunc_Action_eq s f p hf, Option.bind_some, fidx_any]
def keyOf (a : Action) : aset_spot := bif decide (a.Kind = 25) then ⟨a.Kind, a.Oxm.Field⟩ else ⟨a.Kind, 0⟩
theorem F_aset_at_eq (a : Action) : F_aset_at a = some (keyOf a) := by
  unfold F_aset_at keyOf
  cases decide (a.Kind = 25) <;> rfl
theorem F_aset_Write_1_eq (b c : Action) : F_aset_Write_1 b c = some (decide (keyOf c = keyOf b)) := by
  unfold F_aset_Write_1
  rw [F_aset_at_eq, Option.bind_some, F_aset_at_eq]; rfl
def wr1 (l : List Action) (x : Action) : List Action := bif decide (fidx (fun b => decide (keyOf x = keyOf b)) l < 0) then l ++ [x] else l.set (fidx (fun b => decide (keyOf x = keyOf b)) l).toNat x
theorem wr1_len (l : List Action) (x : Action) : (wr1 l x).length ≤ l.length + 1 := by
  unfold wr1
  cases decide (fidx (fun b => decide (keyOf x = keyOf b)) l < 0) <;> simp
theorem F_aset_Write_l1_eq : ∀ (l : List Action) (i : Nat) (acc : List Action), acc.length + l.length ≤ lim → F_aset_Write_l1 l i acc = some (l.foldl wr1 acc)
  | [], i, acc, _ => by rw [F_aset_Write_l1]; rfl
  | x :: l, i, acc, h => by
    simp only [List.length_cons] at h
    have hw := wr1_len acc x
    rw [F_aset_Write_l1, F_slices_IndexFunc_Action_eq acc (fun y => F_aset_Write_1 y x) (fun b => decide (keyOf x = keyOf b)) (fun y _ => F_aset_Write_1_eq y x), Option.bind_some, List.foldl_cons]
    have hi := fidx_lt (fun b => decide (keyOf x = keyOf b)) acc
    by_cases hc : fidx (fun b => decide (keyOf x = keyOf b)) acc < 0
    · rw [decide_eq_true hc, cond_true, appd_ok (by simp; omega), Option.bind_some, F_aset_Write_l1_eq l (i + 1) _ (by simp; omega)]
      unfold wr1
      rw [decide_eq_true hc, cond_true]
    · obtain ⟨n, hn⟩ : ∃ n : Nat, fidx (fun b => decide (keyOf x = keyOf b)) acc = (n : Int) := ⟨(fidx (fun b => decide (keyOf x = keyOf b)) acc).toNat, by omega⟩
      rw [decide_eq_false hc, cond_false, hn, lget_lt (by omega), Option.bind_some, F_aset_Write_l1_eq l (i + 1) _ (by simp; omega)]
      unfold wr1
      rw [decide_eq_false hc, cond_false, hn]
theorem F_aset_Write_eq (s l : List Action) (h : s.length + l.length ≤ lim) : F_aset_Write s l = some (l.foldl wr1 s) := by
  unfold F_aset_Write F_slices_Clone_Action
  rw [appd_ok (by simp; omega), Option.bind_some, List.nil_append, F_aset_Write_l1_eq l 0 s h]
theorem wr_len : ∀ (l s : List Action), (l.foldl wr1 s).length ≤ s.length + l.length
  | [], s => by simp
  | x :: l, s => by
    have h1 := wr_len l (wr1 s x)
    have h2 := wr1_len s x
    rw [List.foldl_cons, List.length_cons]; omega
theorem wr1_nodup (l : List Action) (x : Action) (h : (l.map keyOf).Nodup) : ((wr1 l x).map keyOf).Nodup := by
  unfold wr1
  rcases fidx_find (fun b => decide (keyOf x = keyOf b)) l with ⟨h1, h2⟩ | ⟨n, h1, h2, h3, h4⟩
  · rw [decide_eq_true h1, cond_true, List.map_append, List.nodup_append]
    refine ⟨h, by simp, ?_⟩
    intro a ha b hb e
    simp only [List.map_cons, List.map_nil, List.mem_singleton] at hb
    subst e; subst hb
    obtain ⟨y, hy, hk⟩ := List.mem_map.1 ha
    have := List.find?_eq_none.1 h2 y hy
    simp [hk] at this
  · rw [decide_eq_false (by omega), cond_false, h1, Int.toNat_natCast]
    have hk : keyOf x = keyOf l[n] := by simpa using h4
    have : (l.set n x).map keyOf = l.map keyOf := by
      rw [List.map_set, hk]
      apply List.ext_getElem
      · simp
      · intro i h5 h6
        rw [List.getElem_set]
        split
        · rename_i e; subst e; simp
        · rfl
    rw [this]; exact h
theorem wr_nodup : ∀ (l s : List Action), (s.map keyOf).Nodup → ((l.foldl wr1 s).map keyOf).Nodup
  | [], s, h => h
  | x :: l, s, h => wr_nodup l _ (wr1_nodup s x h)
def turnOf (k : Int) : Int := fidx (fun x => decide (k = x)) [18, 17, 25, 22, 0]
theorem F_aset_turn_eq (k : Int) : F_aset_turn k = some (turnOf k) := by
  unfold F_aset_turn turnOf
  rw [F_slices_Index_int_eq]; rfl
def keepA (goes : Bool) (a : Action) : Bool := !(decide (turnOf a.Kind < 0) || (goes && decide (a.Kind = 0)))
def cmpA (a b : Action) : Int :=
  bif decide (IntKind.i64.wrap (turnOf (keyOf a).kind - turnOf (keyOf b).kind) ≠ 0) then IntKind.i64.wrap (turnOf (keyOf a).kind - turnOf (keyOf b).kind)
  else bif decide ((keyOf a).field < (keyOf b).field) then -1 else bif decide ((keyOf a).field > (keyOf b).field) then 1 else 0
theorem F_aset_List_3_eq (a b : Action) : F_aset_List_3 a b = some (cmpA a b) := by
  unfold F_aset_List_3 cmpA
  rw [F_aset_at_eq, Option.bind_some, F_aset_at_eq, Option.bind_some, F_aset_turn_eq, Option.bind_some, F_aset_turn_eq, Option.bind_some]
  cases decide (IntKind.i64.wrap (turnOf (keyOf a).kind - turnOf (keyOf b).kind) ≠ 0)
  · rw [cond_false, cond_false]
    cases decide ((keyOf a).field < (keyOf b).field)
    · rw [cond_false, cond_false]
      cases decide ((keyOf a).field > (keyOf b).field) <;> rfl
    · rfl
  · rfl
theorem rins_perm {α : Type} (lt : α → α → Bool) (x : α) : ∀ R : List α, (rins lt x R).Perm (x :: R)
  | [] => List.Perm.refl _
  | y :: R => by
    rw [rins]
    cases lt x y
    · exact List.Perm.refl _
    · exact ((rins_perm lt x R).cons y).trans (List.Perm.swap x y R)
theorem foldr_perm {α : Type} (lt : α → α → Bool) : ∀ (l R : List α), (l.foldl (fun R x => rins lt x R) R).Perm (l ++ R)
  | [], R => List.Perm.refl _
  | x :: l, R => by
    rw [List.foldl_cons]
    refine (foldr_perm lt l _).trans ?_
    refine ((rins_perm lt x R).append_left l).trans ?_
    exact List.perm_middle
theorem srt_perm {α : Type} (lt : α → α → Bool) (l : List α) : (srt lt l).Perm l := by
  unfold srt
  refine (List.reverse_perm _).trans ?_
  have := foldr_perm lt l []
  rwa [List.append_nil] at this
theorem rins_len {α : Type} (lt : α → α → Bool) (x : α) (R : List α) : (rins lt x R).length = R.length + 1 := by
  have := (rins_perm lt x R).length_eq
  simpa using this
def ltA (a b : Action) : Bool := decide (cmpA a b < 0)
theorem F_slices_insertionSortCmpFunc_Action_l2_eq (go : List Action → Int → Option (List Action)) (i : Int) (x : Action) : ∀ (R S : List Action) (m : Nat), R.length < m → R.length ≤ lim →
    F_slices_insertionSortCmpFunc_Action_l2 0 F_aset_List_3 go i m (R.reverse ++ x :: S) (R.length : Int) = go ((rins ltA x R).reverse ++ S) (IntKind.i64.wrap (i + 1))
  | [], S, m, h, _ => by
    obtain ⟨m, rfl⟩ : ∃ k, m = k + 1 := ⟨m - 1, by simp at h; omega⟩
    rw [F_slices_insertionSortCmpFunc_Action_l2]
    simp [opt, rins]
  | y :: R, S, m, h, hl => by
    have hlim : lim = 4294967296 := rfl
    simp only [List.length_cons] at h hl
    obtain ⟨m, rfl⟩ : ∃ k, m = k + 1 := ⟨m - 1, by omega⟩
    have e0 : (y :: R).reverse ++ x :: S = R.reverse ++ y :: x :: S := by simp
    have ej : IntKind.i64.wrap (((y :: R).length : Int) - 1) = (R.length : Int) := by rw [wrap_i64 (by simp only [List.length_cons]; omega) (by simp only [List.length_cons]; omega)]; simp only [List.length_cons]; omega
    have hlen : ∀ a b : Action, (R.reverse ++ a :: b :: S).length = R.length + (S.length + 2) := fun a b => by simp
    have g1 : ∀ a b : Action, lget (R.reverse ++ a :: b :: S) (((y :: R).length : Int)) = some b := fun a b => by
      rw [lget_nat, List.getElem?_append_right (by simp)]; first | done | simp
    have g0 : ∀ a b : Action, lget (R.reverse ++ a :: b :: S) ((R.length : Int)) = some a := fun a b => by
      rw [lget_nat, List.getElem?_append_right (by simp)]; first | done | simp
    have s1 : ∀ a b c : Action, List.set (R.reverse ++ a :: b :: S) (((y :: R).length : Int)).toNat c = R.reverse ++ a :: c :: S := fun a b c => by
      rw [Int.toNat_natCast, List.set_append_right _ _ (by simp)]; first | done | simp
    have s0 : ∀ a b c : Action, List.set (R.reverse ++ a :: b :: S) ((R.length : Int)).toNat c = R.reverse ++ c :: b :: S := fun a b c => by
      rw [Int.toNat_natCast, List.set_append_right _ _ (by simp)]; first | done | simp
    rw [e0, F_slices_insertionSortCmpFunc_Action_l2, decide_eq_true (by simp only [List.length_cons]; omega), opt_true, g1, Option.bind_some, opt_true, ej, g0, Option.bind_some, opt_true, F_aset_List_3_eq, Option.bind_some, Bool.true_and, rins]
    show (bif ltA x y then _ else _) = _
    cases ltA x y
    · rw [cond_false, cond_false]
      simp
    · rw [cond_true, cond_true, Option.bind_some, Option.bind_some, Option.bind_some, s1, g0, Option.bind_some, s0, F_slices_insertionSortCmpFunc_Action_l2_eq go i x R (y :: S) m (by omega) (by omega)]
      simp
theorem F_slices_insertionSortCmpFunc_Action_l1_eq : ∀ (T R : List Action) (m : Nat), T.length < m → 1 ≤ R.length → R.length + T.length ≤ 1000 →
    F_slices_insertionSortCmpFunc_Action_l1 ((R.length + T.length : Nat) : Int) 0 F_aset_List_3 m (R.reverse ++ T) (R.length : Int) = some ((T.foldl (fun R x => rins ltA x R) R).reverse)
  | [], R, m, h, _, _ => by
    obtain ⟨m, rfl⟩ : ∃ k, m = k + 1 := ⟨m - 1, by simp at h; omega⟩
    rw [F_slices_insertionSortCmpFunc_Action_l1, decide_eq_false (by simp), cond_false]
    simp
  | x :: T, R, m, h, h1, h2 => by
    have hlim : lim = 4294967296 := rfl
    simp only [List.length_cons] at h h2
    obtain ⟨m, rfl⟩ : ∃ k, m = k + 1 := ⟨m - 1, by omega⟩
    have e : IntKind.i64.wrap ((R.length : Int) + 1) = (((rins ltA x R).length : Nat) : Int) := by rw [rins_len, wrap_i64 (by omega) (by omega)]; omega
    have hn : R.length + (x :: T).length = (rins ltA x R).length + T.length := by rw [rins_len, List.length_cons]; omega
    rw [F_slices_insertionSortCmpFunc_Action_l1, decide_eq_true (by simp; omega), cond_true, F_slices_insertionSortCmpFunc_Action_l2_eq _ _ x R T fuel0 (by unfold fuel0; omega) (by omega), e, hn, F_slices_insertionSortCmpFunc_Action_l1_eq T (rins ltA x R) m (by omega) (by rw [rins_len]; omega) (by rw [rins_len]; omega), List.foldl_cons]
theorem F_slices_insertionSortCmpFunc_Action_eq (l : List Action) (h : l.length ≤ 1000) : F_slices_insertionSortCmpFunc_Action l 0 (l.length : Int) F_aset_List_3 = some (srt ltA l) := by
  unfold F_slices_insertionSortCmpFunc_Action srt
  have e : IntKind.i64.wrap ((0 : Int) + 1) = 1 := by decide
  rw [e]
  cases l with
  | nil => rfl
  | cons x l =>
    simp only [List.length_cons] at h
    have := F_slices_insertionSortCmpFunc_Action_l1_eq l [x] ((((x :: l).length : Int) - 1).toNat + 1) (by simp) (by simp) (by simp; omega)
    have e2 : (([x].length + l.length : Nat) : Int) = ((x :: l).length : Int) := by simp; omega
    rw [e2] at this
    simp only [List.reverse_singleton, List.singleton_append] at this
    rw [List.foldl_cons]
    exact this
theorem F_slices_SortStableFunc_Action_eq (l : List Action) (h : l.length < 20) : F_slices_SortStableFunc_Action l F_aset_List_3 = some (srt ltA l) := by
  unfold F_slices_SortStableFunc_Action F_slices_stableCmpFunc_Action
  obtain ⟨m, hm⟩ : ∃ m, (((l.length : Int) : Int) - 20).toNat + 2 = m + 1 := ⟨_, rfl⟩
  rw [hm, F_slices_stableCmpFunc_Action_l1, decide_eq_false (by omega), cond_false, F_slices_insertionSortCmpFunc_Action_eq l (by omega), Option.bind_some]
  obtain ⟨k, hk⟩ : ∃ m, (((l.length : Int) : Int) - 20).toNat + 1 = m + 1 := ⟨_, rfl⟩
  rw [hk, F_slices_stableCmpFunc_Action_l2, decide_eq_false (by omega), cond_false]
  rfl
def lstA (s : List Action) : List Action := srt ltA (s.filter (keepA (s.any fun a => decide (a.Kind = 22))))
theorem F_aset_List_eq (s : List Action) (h : s.length < 20) : F_aset_List s = some (lstA s) := by
  have hlim : lim = 4294967296 := rfl
  unfold F_aset_List F_slices_Clone_Action lstA
  rw [F_slices_ContainsFunc_Action_eq s F_aset_List_1 (fun a => decide (a.Kind = 22)) (fun _ _ => rfl), Option.bind_some, appd_ok (by simp; omega), Option.bind_some, List.nil_append]
  have hf : ∀ a : Action, F_aset_List_2 a (s.any fun a => decide (a.Kind = 22)) = some (!keepA (s.any fun a => decide (a.Kind = 22)) a) := fun a => by
    unfold F_aset_List_2 keepA
    rw [F_aset_turn_eq, Option.bind_some, Bool.not_not]
  rw [F_slices_DeleteFunc_Action_eq s _ (fun a => !keepA (s.any fun a => decide (a.Kind = 22)) a) (fun a _ => hf a) (by omega), Option.bind_some]
  simp only [Bool.not_not]
  rw [F_slices_SortStableFunc_Action_eq _ (Nat.lt_of_le_of_lt (List.length_filter_le ..) h)]
  rfl
def lightB (bs : List Bucket) : Prop := bs.length ≤ 3 ∧ ∀ x ∈ bs, x.Acts.length ≤ 12
def lightG (l : List Group) : Prop := l.length ≤ 9 ∧ ∀ g ∈ l, lightB g.Buckets
theorem F_group_copies_l1_eq (bs : List Bucket) (h : ∀ x ∈ bs, x.Acts.length ≤ 12) : ∀ (m i : Nat), i + m = bs.length → F_group_copies_l1 m i bs = some bs
  | 0, i, _ => by rw [F_group_copies_l1]
  | m + 1, i, hi => by
    have hlim : lim = 4294967296 := rfl
    have hlt : i < bs.length := by omega
    have ha := h bs[i] (List.getElem_mem hlt)
    have e : List.set bs ((i : Int)).toNat { bs[i] with Acts := bs[i].Acts } = bs := by
      rw [Int.toNat_natCast]; exact List.set_getElem_self hlt
    rw [F_group_copies_l1, lget_lt hlt, Option.bind_some]
    unfold F_slices_Clone_Action
    rw [appd_ok (by simp; omega), Option.bind_some, Option.bind_some, List.nil_append, e]
    exact F_group_copies_l1_eq bs h m (i + 1) (by omega)
theorem F_group_copies_eq (bs : List Bucket) (h : lightB bs) : F_group_copies bs = some bs := by
  have hlim : lim = 4294967296 := rfl
  have := h.1
  unfold F_group_copies F_slices_Clone_Bucket
  rw [appd_ok (by simp; omega), Option.bind_some, List.nil_append, show ((bs.length : Int)).toNat = bs.length by omega]
  exact F_group_copies_l1_eq bs h.2 bs.length 0 (by omega)
theorem F_group_fresh_eq (g : Group) (h : lightB g.Buckets) : F_group_fresh [g] = some [g] := by
  unfold F_group_fresh F_slices_Clone_Group
  rw [appd_ok (by simp [lim]), Option.bind_some]
  show F_group_fresh_l1 1 0 [g] = _
  rw [F_group_fresh_l1]
  show ((some g).bind fun e8 => _) = _
  rw [Option.bind_some, F_group_copies_eq _ h, Option.bind_some]
  rfl
def findG (l : List Group) (id : Int) : Option Group := l.find? fun g => decide (g.ID = id)
theorem F_group_Find_eq (l : List Group) (id : Int) (hl : lightG l) : F_group_Find l id = some (match findG l id with | none => ((⟨0, 0, []⟩ : Group), false) | some g => (g, true)) := by
  have h9 := hl.1
  unfold F_group_Find F_group_place findG
  rw [F_slices_IndexFunc_Group_eq l (fun x => F_group_place_1 x id) (fun g => decide (g.ID = id)) (fun _ _ => rfl), Option.bind_some, Option.bind_some]
  rcases fidx_find (fun g : Group => decide (g.ID = id)) l with ⟨h1, h2⟩ | ⟨n, h1, h2, h3, h4⟩
  · rw [decide_eq_true h1, cond_true, h2]
  · have hs : oslice l (n : Int) (IntKind.i64.wrap ((n : Int) + 1)) = some [l[n]] := by
      rw [wrap_i64 (by omega) (by omega)]
      unfold oslice
      rw [decide_eq_true (by omega), decide_eq_true (by omega), Nat.ble_eq_true_of_le (by omega)]
      show some _ = some _
      have e2 : ((n : Int) + 1).toNat = n + 1 := by omega
      have e3 : (l.take n).length = n := by simp; omega
      rw [e2, Int.toNat_natCast, List.take_succ_eq_append_getElem h2, List.drop_append, e3, List.drop_of_length_le (by omega), Nat.sub_self]
      rfl
    rw [decide_eq_false (by omega), cond_false, h1, hs, Option.bind_some, F_group_fresh_eq _ (hl.2 _ (List.getElem_mem h2)), Option.bind_some, h3]
    rfl
theorem findG_mem {l : List Group} {id : Int} {g : Group} (h : findG l id = some g) : g ∈ l := List.mem_of_find?_eq_some h
def whichOf (e : Env) (n : Nat) : Int := (F_env_Which e (n : Int)).getD 0
theorem F_env_Which_eq (e : Env) (n : Nat) (hn : 0 < n) (hn2 : n ≤ 1000) : F_env_Which e (n : Int) = some (whichOf e n) ∧ 0 ≤ whichOf e n ∧ whichOf e n < n := by
  have key : ∃ t, F_env_Which e (n : Int) = some t ∧ 0 ≤ t ∧ t < n := by
    unfold F_env_Which omod
    rw [decide_eq_false (by omega), cond_false, decide_eq_false (by omega), cond_false, Option.bind_some]
    have h1 := Int.tmod_lt_of_pos e.Turn (show (0 : Int) < n by omega)
    have h2 : -(n : Int) < e.Turn.tmod (n : Int) := by
      have := Int.lt_tmod_of_pos e.Turn (show (0 : Int) < n by omega)
      exact this
    by_cases hc : e.Turn.tmod (n : Int) < 0
    · rw [decide_eq_true hc, cond_true, wrap_i64 (by omega) (by omega)]
      exact ⟨_, rfl, by omega, by omega⟩
    · rw [decide_eq_false hc, cond_false]
      exact ⟨_, rfl, by omega, by omega⟩
  obtain ⟨t, ht, h1, h2⟩ := key
  have e : whichOf e n = t := by unfold whichOf; rw [ht]; rfl
  rw [e]
  exact ⟨ht, h1, h2⟩
def upOf (e : Env) (bs : List Bucket) : Int := fidx (fun x => !e.Down.contains x.Watch) bs
def takesOf (e : Env) (g : Group) : List Int :=
  bif decide (g.Buckets.length = 0) then []
  else bif decide (g.Kind = 0) then (List.range' 0 g.Buckets.length).map fun (i : Nat) => (i : Int)
  else bif decide (g.Kind = 1) then [whichOf e g.Buckets.length]
  else bif decide (g.Kind = 2) then [0]
  else bif decide (g.Kind = 3) then (bif decide (upOf e g.Buckets ≥ 0) then [upOf e g.Buckets] else [])
  else []
theorem F_env_Takes_l1_eq : ∀ (m i : Nat) (acc : List Int), acc.length + m ≤ lim → F_env_Takes_l1 m i acc = some (acc ++ (List.range' i m).map fun (i : Nat) => (i : Int))
  | 0, i, acc, _ => by rw [F_env_Takes_l1]; simp
  | m + 1, i, acc, h => by
    rw [F_env_Takes_l1, appd_ok (by simp; omega), Option.bind_some, F_env_Takes_l1_eq m (i + 1) _ (by simp; omega), List.range'_succ]
    simp
theorem F_env_Takes_eq (e : Env) (g : Group) (h : lightB g.Buckets) : F_env_Takes e g = some (takesOf e g) := by
  have hlim : lim = 4294967296 := rfl
  have h3 := h.1
  unfold F_env_Takes takesOf
  simp only
  have hz : decide ((g.Buckets.length : Int) = 0) = decide (g.Buckets.length = 0) := by
    rw [decide_eq_decide]; omega
  rw [hz]
  by_cases h0 : g.Buckets.length = 0
  · rw [decide_eq_true h0]; rfl
  · rw [decide_eq_false h0, cond_false, cond_false]
    cases decide (g.Kind = 0)
    · rw [cond_false, cond_false]
      cases decide (g.Kind = 1)
      · rw [cond_false, cond_false]
        cases decide (g.Kind = 2)
        · rw [cond_false, cond_false]
          cases decide (g.Kind = 3)
          · rfl
          · rw [cond_true, cond_true]
            unfold F_env_world_up upOf
            simp only
            rw [F_slices_IndexFunc_Bucket_eq g.Buckets (fun x => F_env_world_up_1 x (⟨e, g⟩ : env_world)) (fun x => !e.Down.contains x.Watch) (fun x _ => by unfold F_env_world_up_1; rw [F_env_Up_eq]; rfl), Option.bind_some, Option.bind_some]
            cases decide (fidx (fun x => !e.Down.contains x.Watch) g.Buckets ≥ 0) <;> rfl
        · rfl
      · rw [cond_true, cond_true, (F_env_Which_eq e g.Buckets.length (by omega) (by omega)).1]; rfl
    · rw [cond_true, cond_true, show ((g.Buckets.length : Int)).toNat = g.Buckets.length by omega, F_env_Takes_l1_eq _ 0 [] (by simp; omega)]
      rfl
theorem takesOf_ok (e : Env) (g : Group) (h : lightB g.Buckets) : (takesOf e g).length ≤ 3 ∧ ∀ i ∈ takesOf e g, ∃ n : Nat, i = (n : Int) ∧ n < g.Buckets.length := by
  have h3 := h.1
  unfold takesOf
  by_cases h0 : g.Buckets.length = 0
  · rw [decide_eq_true h0]; simp
  · rw [decide_eq_false h0, cond_false]
    cases decide (g.Kind = 0)
    · rw [cond_false]
      cases decide (g.Kind = 1)
      · rw [cond_false]
        cases decide (g.Kind = 2)
        · rw [cond_false]
          cases decide (g.Kind = 3)
          · simp
          · rw [cond_true]
            have hlt := fidx_lt (fun x : Bucket => !e.Down.contains x.Watch) g.Buckets
            by_cases hc : upOf e g.Buckets ≥ 0
            · rw [decide_eq_true hc, cond_true]
              refine ⟨by simp, fun i hi => ?_⟩
              rw [List.mem_singleton] at hi
              subst hi
              exact ⟨(upOf e g.Buckets).toNat, by omega, by unfold upOf at hc ⊢; omega⟩
            · rw [decide_eq_false hc, cond_false]; simp
        · refine ⟨by simp, fun i hi => ?_⟩
          simp only [cond_true, List.mem_singleton] at hi
          subst hi
          exact ⟨0, rfl, by omega⟩
      · obtain ⟨_, h1, h2⟩ := F_env_Which_eq e g.Buckets.length (by omega) (by omega)
        refine ⟨by simp, fun i hi => ?_⟩
        simp only [cond_true, List.mem_singleton] at hi
        subst hi
        exact ⟨(whichOf e g.Buckets.length).toNat, by omega, by omega⟩
    · refine ⟨by simp; omega, fun i hi => ?_⟩
      simp only [cond_true, List.mem_map] at hi
      obtain ⟨n, hn, rfl⟩ := hi
      exact ⟨n, rfl, by have := (List.mem_range'_1.1 hn).2; omega⟩
def setActs (acts : List Action) : List Action := lstA (acts.foldl wr1 [])
def outs (l : List Action) : Nat := l.countP fun a => decide (a.Kind = 0) || decide (a.Kind = 22)
theorem key_of_kind {a b : Action} (ha : a.Kind ≠ 25) (h : a.Kind = b.Kind) : keyOf a = keyOf b := by
  unfold keyOf
  rw [decide_eq_false ha, decide_eq_false (h ▸ ha), h]; rfl
theorem count_one (k : Int) (hk : k ≠ 25) : ∀ l : List Action, (l.map keyOf).Nodup → (l.countP fun a => decide (a.Kind = k)) ≤ 1
  | [], _ => by simp
  | a :: l, h => by
    rw [List.map_cons, List.nodup_cons] at h
    rw [List.countP_cons]
    have ih := count_one k hk l h.2
    by_cases ha : a.Kind = k
    · have : (l.countP fun a => decide (a.Kind = k)) = 0 := by
        rw [List.countP_eq_zero]
        intro b hb hbk
        have hbk' : b.Kind = k := by simpa using hbk
        exact h.1 (List.mem_map.2 ⟨b, hb, (key_of_kind (by rw [ha]; exact hk) (by rw [ha, hbk'])).symm⟩)
      rw [this, decide_eq_true ha]; simp
    · rw [decide_eq_false ha]; simpa using ih
theorem outs_perm {l m : List Action} (h : l.Perm m) : outs l = outs m := h.countP_eq _
theorem outs_set (acts : List Action) : outs (setActs acts) ≤ 1 := by
  unfold setActs lstA
  rw [outs_perm (srt_perm _ _)]
  have hn := wr_nodup acts [] (by simp)
  generalize acts.foldl wr1 [] = s at *
  unfold outs
  rw [List.countP_filter]
  cases hg : s.any (fun a => decide (a.Kind = 22))
  · refine Nat.le_trans (List.countP_mono_left fun a ha h => ?_) (count_one 0 (by decide) s hn)
    rw [List.any_eq_false] at hg
    have := hg a ha
    simp only [Bool.and_eq_true, Bool.or_eq_true, decide_eq_true_eq] at h
    rcases h.1 with h | h
    · simpa using h
    · exact absurd (by simpa using h) this
  · refine Nat.le_trans (List.countP_mono_left fun a ha h => ?_) (count_one 22 (by decide) s hn)
    simp only [Bool.and_eq_true, Bool.or_eq_true, decide_eq_true_eq] at h
    rcases h.1 with h1 | h1
    · have h2 := h.2
      unfold keepA at h2
      simp [h1] at h2
    · simpa using h1
def doA (G : Int → Header → List Out) : List Action → List Out → Header → List Out × Header
  | [], o, h => (o, h)
  | a :: l, o, h => bif decide (a.Kind = 0) then doA G l (o ++ [⟨a.Port, mostOf a, h⟩]) h
    else bif decide (a.Kind = 22) then doA G l (o ++ G a.Group h) h
    else doA G l o (capply (rwOf a) h)
def bucketActs (bs : List Bucket) (i : Int) : List Action := match bs[i.toNat]? with
  | some b => b.Acts
  | none => []
def goG (l : List Group) (e : Env) : Nat → Int → Header → List Out
  | 0, _, _ => []
  | d + 1, id, h => match findG l id with
    | none => []
    | some g => (takesOf e g).flatMap fun i => (doA (goG l e d) (setActs (bucketActs g.Buckets i)) [] h).1
theorem doA_frame (G : Int → Header → List Out) : ∀ (l : List Action) (o : List Out) (h : Header), doA G l o h = (o ++ (doA G l [] h).1, (doA G l [] h).2)
  | [], o, h => by simp [doA]
  | a :: l, o, h => by
    rw [doA, doA]
    cases decide (a.Kind = 0)
    · rw [cond_false, cond_false]
      cases decide (a.Kind = 22)
      · rw [cond_false, cond_false]; exact doA_frame G l o _
      · rw [cond_true, cond_true, doA_frame G l (o ++ _), doA_frame G l ([] ++ _)]; simp
    · rw [cond_true, cond_true, doA_frame G l (o ++ _), doA_frame G l ([] ++ _)]; simp
theorem doA_len (G : Int → Header → List Out) (B : Nat) (hB : 1 ≤ B) (hG : ∀ id h, (G id h).length ≤ B) : ∀ (l : List Action) (h : Header), (doA G l [] h).1.length ≤ outs l * B
  | [], h => by simp [doA]
  | a :: l, h => by
    have ih := doA_len G B hB hG l
    unfold outs at ih ⊢
    rw [doA, List.countP_cons]
    by_cases h0 : a.Kind = 0
    · rw [decide_eq_true h0, cond_true, doA_frame]
      simp only [List.nil_append, List.length_append, List.length_cons, List.length_nil, Bool.true_or, if_true]
      have := ih h
      rw [Nat.add_mul, Nat.one_mul]; omega
    · rw [decide_eq_false h0, cond_false]
      by_cases h1 : a.Kind = 22
      · rw [decide_eq_true h1, cond_true, doA_frame]
        have h2 := hG a.Group h
        simp only [List.nil_append, List.length_append, Bool.or_true, if_true]
        have := ih h
        rw [Nat.add_mul, Nat.one_mul]; omega
      · rw [decide_eq_false h1, cond_false]
        have := ih (capply (rwOf a) h)
        simpa using this
theorem flatMap_bd {α β : Type} (f : α → List β) (k : Nat) : ∀ l : List α, (∀ x ∈ l, (f x).length ≤ k) → (l.flatMap f).length ≤ l.length * k
  | [], _ => by simp
  | x :: l, h => by
    rw [List.flatMap_cons, List.length_append, List.length_cons, Nat.succ_mul]
    have h1 := h x (by simp)
    have h2 := flatMap_bd f k l fun y hy => h y (by simp [hy])
    omega
theorem goG_len (l : List Group) (e : Env) (hl : lightG l) : ∀ (d : Nat) (id : Int) (h : Header), (goG l e d id h).length ≤ 3 ^ d
  | 0, id, h => by simp [goG]
  | d + 1, id, h => by
    rw [goG]
    cases hf : findG l id with
    | none => simp
    | some g =>
      have hb := hl.2 g (findG_mem hf)
      have ht := (takesOf_ok e g hb).1
      have h1 : 1 ≤ 3 ^ d := Nat.pow_pos (by decide)
      have := flatMap_bd (fun i => (doA (goG l e d) (setActs (bucketActs g.Buckets i)) [] h).1) (3 ^ d) (takesOf e g) fun i _ => by
        have h2 := doA_len (goG l e d) (3 ^ d) h1 (goG_len l e hl d) (setActs (bucketActs g.Buckets i)) h
        have h3 := outs_set (bucketActs g.Buckets i)
        have h4 : outs (setActs (bucketActs g.Buckets i)) * 3 ^ d ≤ 1 * 3 ^ d := Nat.mul_le_mul_right _ h3
        omega
      have h5 : (takesOf e g).length * 3 ^ d ≤ 3 * 3 ^ d := Nat.mul_le_mul_right _ ht
      have e1 : 3 ^ (d + 1) = 3 * 3 ^ d := by rw [Nat.pow_succ, Nat.mul_comm]
      show ((takesOf e g).flatMap _).length ≤ _
      omega
theorem F_exec_run_do_s_l1_eq (R : exec_run → Int → Option exec_run) (G : Int → Header → List Out) (e : Env) (l : List Group) (dep : Int) (B : Nat) (hB : 1 ≤ B) (hG : ∀ id h, (G id h).length ≤ B)
    (hR : ∀ o id h, o.length + B ≤ lim → R ⟨e, l, o, h, dep⟩ id = some ⟨e, l, o ++ G id h, h, dep⟩) :
    ∀ (acts : List Action) (i : Nat) (o : List Out) (h : Header), o.length + outs acts * B ≤ lim → F_exec_run_do_s_l1 R acts i o e l h dep = some ⟨e, l, (doA G acts o h).1, (doA G acts o h).2, dep⟩
  | [], i, o, h, _ => by rw [F_exec_run_do_s_l1]; rfl
  | a :: acts, i, o, h, hb => by
    unfold outs at hb
    rw [List.countP_cons] at hb
    rw [F_exec_run_do_s_l1, doA]
    by_cases h0 : a.Kind = 0
    · simp only [decide_eq_true h0, Bool.true_or, if_true, Nat.add_mul, Nat.one_mul] at hb
      rw [decide_eq_true h0, cond_true, cond_true, F_exec_most_eq, Option.bind_some, appd_ok (by simp; omega), Option.bind_some]
      exact F_exec_run_do_s_l1_eq R G e l dep B hB hG hR acts (i + 1) _ h (by unfold outs; simp; omega)
    · rw [decide_eq_false h0, cond_false, cond_false]
      by_cases h1 : a.Kind = 22
      · simp only [decide_eq_true h1, Bool.or_true, if_true, Nat.add_mul, Nat.one_mul] at hb
        have h2 := hG a.Group h
        rw [decide_eq_true h1, cond_true, cond_true, hR o a.Group h (by omega), Option.bind_some]
        exact F_exec_run_do_s_l1_eq R G e l dep B hB hG hR acts (i + 1) _ h (by unfold outs; simp; omega)
      · simp only [decide_eq_false h0, decide_eq_false h1, Bool.or_self] at hb
        rw [decide_eq_false h1, cond_false, cond_false, F_aset_Rewrite_eq, Option.bind_some, F_rewrite_Apply_eq, Option.bind_some]
        exact F_exec_run_do_s_l1_eq R G e l dep B hB hG hR acts (i + 1) o _ (by unfold outs; simpa using hb)
theorem F_exec_run_group_s_l1_eq (R : exec_run → List Action → Option exec_run) (G : Int → Header → List Out) (e : Env) (l : List Group) (g : Group) (hg : lightB g.Buckets) (r1 : exec_run) (dep : Int) (hd : 0 ≤ dep ∧ dep ≤ 9) (B : Nat) (hB : 1 ≤ B) (hG : ∀ id h, (G id h).length ≤ B)
    (hR : ∀ o acts, outs acts ≤ 1 → o.length + B ≤ lim → R ⟨e, l, o, r1.header, dep⟩ acts = some ⟨e, l, (doA G acts o r1.header).1, (doA G acts o r1.header).2, dep⟩) :
    ∀ (ts : List Int) (i : Nat) (o : List Out), (∀ t ∈ ts, ∃ n : Nat, t = (n : Int) ∧ n < g.Buckets.length) → o.length + ts.length * B ≤ lim →
      F_exec_run_group_s_l1 (g, true) R r1 ts i o e l r1.header dep = some ⟨e, l, o ++ ts.flatMap fun i => (doA G (setActs (bucketActs g.Buckets i)) [] r1.header).1, r1.header, dep - 1⟩
  | [], i, o, _, _ => by rw [F_exec_run_group_s_l1, wrap_i64 (by omega) (by omega)]; simp
  | t :: ts, i, o, ht, hb => by
    have hlim : lim = 4294967296 := rfl
    obtain ⟨n, rfl, hn⟩ := ht t (by simp)
    simp only [List.length_cons, Nat.add_mul, Nat.one_mul] at hb
    have hacts := hg.2 g.Buckets[n] (List.getElem_mem hn)
    have hba : bucketActs g.Buckets (n : Int) = g.Buckets[n].Acts := by
      unfold bucketActs
      rw [Int.toNat_natCast, List.getElem?_eq_getElem hn]
    have hwl := wr_len g.Buckets[n].Acts []
    simp only [List.length_nil, Nat.zero_add] at hwl
    have hlen := doA_len G B hB hG (setActs g.Buckets[n].Acts) r1.header
    have hout := outs_set g.Buckets[n].Acts
    have hmul : outs (setActs g.Buckets[n].Acts) * B ≤ 1 * B := Nat.mul_le_mul_right _ hout
    rw [F_exec_run_group_s_l1]
    simp only
    rw [lget_lt hn, Option.bind_some, F_aset_Write_eq _ _ (by simp; omega), Option.bind_some, F_aset_List_eq _ (by omega), Option.bind_some, show lstA (g.Buckets[n].Acts.foldl wr1 []) = setActs g.Buckets[n].Acts from rfl, hR o _ hout (by omega), Option.bind_some]
    simp only
    rw [doA_frame]
    simp only
    rw [F_exec_run_group_s_l1_eq R G e l g hg r1 dep hd B hB hG hR ts (i + 1) _ (fun t h => ht t (by simp [h])) (by rw [List.length_append]; omega), List.flatMap_cons, hba]
    simp
theorem walk_eq (l : List Group) (e : Env) (hl : lightG l) : ∀ (d : Nat), d ≤ 8 →
    (∀ n o id h, 2 * d + 1 ≤ n → o.length + 3 ^ d ≤ lim → (FR_exec_run_do__exec_run_group n).2 ⟨e, l, o, h, ((8 - d : Nat) : Int)⟩ id = some ⟨e, l, o ++ goG l e d id h, h, ((8 - d : Nat) : Int)⟩) ∧
    (∀ n o acts h, 2 * d + 2 ≤ n → o.length + outs acts * 3 ^ d ≤ lim → (FR_exec_run_do__exec_run_group n).1 ⟨e, l, o, h, ((8 - d : Nat) : Int)⟩ acts = some ⟨e, l, (doA (goG l e d) acts o h).1, (doA (goG l e d) acts o h).2, ((8 - d : Nat) : Int)⟩) := by
  have hlim : lim = 4294967296 := rfl
  intro d
  induction d with
  | zero =>
    intro hd
    have h1 : ∀ n o id h, 2 * 0 + 1 ≤ n → o.length + 3 ^ 0 ≤ lim → (FR_exec_run_do__exec_run_group n).2 ⟨e, l, o, h, ((8 - 0 : Nat) : Int)⟩ id = some ⟨e, l, o ++ goG l e 0 id h, h, ((8 - 0 : Nat) : Int)⟩ := by
      intro n o id h hn _
      obtain ⟨n, rfl⟩ : ∃ k, n = k + 1 := ⟨n - 1, by omega⟩
      show F_exec_run_group_s (FR_exec_run_do__exec_run_group n).1 (FR_exec_run_do__exec_run_group n).2 _ _ = _
      unfold F_exec_run_group_s
      simp only
      rw [F_group_Find_eq l id hl, Option.bind_some]
      have : ∀ x : Group × Bool, ((!x.2) || decide (((8 - 0 : Nat) : Int) ≥ 8)) = true := fun x => by simp
      rw [this]
      simp [goG]
    refine ⟨h1, ?_⟩
    intro n o acts h hn hb
    obtain ⟨n, rfl⟩ : ∃ k, n = k + 1 := ⟨n - 1, by omega⟩
    show F_exec_run_do_s (FR_exec_run_do__exec_run_group n).1 (FR_exec_run_do__exec_run_group n).2 _ _ = _
    unfold F_exec_run_do_s
    exact F_exec_run_do_s_l1_eq _ (goG l e 0) e l _ (3 ^ 0) (by decide) (goG_len l e hl 0) (fun o id h hb => h1 n o id h (by omega) hb) acts 0 o h hb
  | succ d ih =>
    intro hd
    obtain ⟨ih1, ih2⟩ := ih (by omega)
    have hp : 3 ^ (d + 1) = 3 * 3 ^ d := by rw [Nat.pow_succ, Nat.mul_comm]
    have h1 : ∀ n o id h, 2 * (d + 1) + 1 ≤ n → o.length + 3 ^ (d + 1) ≤ lim → (FR_exec_run_do__exec_run_group n).2 ⟨e, l, o, h, ((8 - (d + 1) : Nat) : Int)⟩ id = some ⟨e, l, o ++ goG l e (d + 1) id h, h, ((8 - (d + 1) : Nat) : Int)⟩ := by
      intro n o id h hn hb
      obtain ⟨n, rfl⟩ : ∃ k, n = k + 1 := ⟨n - 1, by omega⟩
      show F_exec_run_group_s (FR_exec_run_do__exec_run_group n).1 (FR_exec_run_do__exec_run_group n).2 _ _ = _
      unfold F_exec_run_group_s
      simp only
      rw [F_group_Find_eq l id hl, Option.bind_some, goG]
      cases hf : findG l id with
      | none => simp
      | some g =>
        have hg := hl.2 g (findG_mem hf)
        obtain ⟨t1, t2⟩ := takesOf_ok e g hg
        simp only [Bool.not_true, Bool.false_or]
        rw [decide_eq_false (by omega), cond_false, F_env_Takes_eq e g hg, Option.bind_some]
        have ew : IntKind.i64.wrap (((8 - (d + 1) : Nat) : Int) + 1) = ((8 - d : Nat) : Int) := by rw [wrap_i64 (by omega) (by omega)]; omega
        rw [ew]
        have hmul : (takesOf e g).length * 3 ^ d ≤ 3 * 3 ^ d := Nat.mul_le_mul_right _ t1
        have := F_exec_run_group_s_l1_eq (FR_exec_run_do__exec_run_group n).1 (goG l e d) e l g hg ⟨e, l, o, h, ((8 - (d + 1) : Nat) : Int)⟩ ((8 - d : Nat) : Int) (by omega) (3 ^ d) (Nat.pow_pos (by decide)) (goG_len l e hl d)
          (fun o acts ho hb => ih2 n o acts h (by omega) (by
            have : outs acts * 3 ^ d ≤ 1 * 3 ^ d := Nat.mul_le_mul_right _ ho
            omega)) (takesOf e g) 0 o t2 (by omega)
        simp only at this
        rw [this]
        congr 2
        omega
    refine ⟨h1, ?_⟩
    intro n o acts h hn hb
    obtain ⟨n, rfl⟩ : ∃ k, n = k + 1 := ⟨n - 1, by omega⟩
    show F_exec_run_do_s (FR_exec_run_do__exec_run_group n).1 (FR_exec_run_do__exec_run_group n).2 _ _ = _
    unfold F_exec_run_do_s
    exact F_exec_run_do_s_l1_eq _ (goG l e (d + 1)) e l _ (3 ^ (d + 1)) (Nat.pow_pos (by decide)) (goG_len l e hl (d + 1)) (fun o id h hb => h1 n o id h (by omega) hb) acts 0 o h hb
theorem F_exec_Group_eq (l : List Group) (e : Env) (id : Int) (h : Header) (hl : lightG l) : F_exec_Group l e id h = some (goG l e 8 id h) := by
  have hlim : lim = 4294967296 := rfl
  unfold F_exec_Group F_exec_run_group
  have := (walk_eq l e hl 8 (by decide)).1 fuel0 [] id h (by unfold fuel0; omega) (by simp only [List.length_nil]; omega)
  rw [show (((8 - 8 : Nat)) : Int) = 0 from rfl] at this
  rw [this]
  rfl
end Go.Proofs.Ytknpgojdkobgjaa.W
set_option linter.unusedVariables false
set_option linter.unusedSimpArgs false
namespace Go.Proofs.Ytknpgojdkobgjaa.W
open Go Go.Wb
end Go.Proofs.Ytknpgojdkobgjaa.W
set_option linter.unusedVariables false
set_option linter.unusedSimpArgs false
namespace Go.Proofs.Ytknpgojdkobgjaa.W
open Go Go.Wb
end Go.Proofs.Ytknpgojdkobgjaa.W
set_option linter.unusedVariables false
set_option linter.unusedSimpArgs false
namespace Go.Proofs.Ytknpgojdkobgjaa.W
open Go Go.Wb
theorem F_slices_Equal_Out_l1_eq (s t : List Out) (hl : s.length = t.length) : ∀ (m i : Nat), i + m = s.length → F_slices_Equal_Out_l1 s t m i = some (decide (s.drop i = t.drop i))
  | 0, i, h => by rw [F_slices_Equal_Out_l1, List.drop_of_length_le (by omega), List.drop_of_length_le (by omega)]; simp
  | m + 1, i, h => by
    have h1 : i < s.length := by omega
    have h2 : i < t.length := by omega
    rw [F_slices_Equal_Out_l1, lget_lt h1, Option.bind_some, lget_lt h2, Option.bind_some, List.drop_eq_getElem_cons h1, List.drop_eq_getElem_cons h2]
    by_cases he : s[i] = t[i]
    · rw [decide_eq_false (by simpa using he), cond_false, F_slices_Equal_Out_l1_eq s t hl m (i + 1) (by omega)]
      simp only [List.cons.injEq, he, true_and]
    · rw [decide_eq_true (by simpa using he), cond_true]
      simp only [List.cons.injEq, he, false_and, decide_false]
theorem F_exec_Same_eq (s t : List Out) : F_exec_Same s t = some (decide (s = t)) := by
  unfold F_exec_Same F_slices_Equal_Out
  by_cases hl : s.length = t.length
  · rw [decide_eq_false (by omega), cond_false, show ((s.length : Int)).toNat = s.length by omega, F_slices_Equal_Out_l1_eq s t hl _ 0 (by omega)]
    simp
  · rw [decide_eq_true (by omega), cond_true]
    have : s ≠ t := fun e => hl (e ▸ rfl)
    simp [this]
end Go.Proofs.Ytknpgojdkobgjaa.W
set_option linter.unusedVariables false
set_option linter.unusedSimpArgs false
namespace Go.Proofs.Ytknpgojdkobgjaa.W
open Go Go.Wb
end Go.Proofs.Ytknpgojdkobgjaa.W
set_option linter.unusedVariables false
set_option linter.unusedSimpArgs false
namespace Go.Proofs.Ytknpgojdkobgjaa.W
open Go Go.Wb
def outN (G : Int → Header → List Out) (h : Header) (x : Atom) : List Out := bif x.Group then G x.Port (capply x.Rewrite h) else [⟨x.Port, x.Max, capply x.Rewrite h⟩]
theorem outN_len (G : Int → Header → List Out) (B : Nat) (hB : 1 ≤ B) (hG : ∀ id h, (G id h).length ≤ B) (h : Header) (x : Atom) : (outN G h x).length ≤ B := by
  unfold outN
  cases x.Group
  · exact hB
  · exact hG _ _
theorem F_atom_each_Atom_l1_eq (l : List Group) (e : Env) (hl : lightG l) (h : Header) : ∀ (a : List Atom) (i : Nat) (o : List Out), o.length + a.length * 6561 ≤ lim → F_atom_each_Atom_l1 (List Out) (fun s x => F_atom_Out_1 x h s l e) a i o = some (o ++ a.flatMap (outN (goG l e 8) h))
  | [], i, o, _ => by rw [F_atom_each_Atom_l1]; simp
  | x :: a, i, o, hb => by
    have e8 : (3 : Nat) ^ 8 = 6561 := by decide
    have hlen := goG_len l e hl 8
    rw [List.length_cons, Nat.add_mul, Nat.one_mul] at hb
    rw [F_atom_each_Atom_l1, F_atom_Out_1, F_rewrite_Apply_eq, Option.bind_some, List.flatMap_cons]
    have ho := outN_len (goG l e 8) (3 ^ 8) (by decide) hlen h x
    rw [e8] at ho
    unfold outN at ho ⊢
    cases hx : x.Group
    · simp only [hx, cond_false, List.length_cons, List.length_nil] at ho ⊢
      rw [appd_ok (by simp only [List.length_cons, List.length_nil]; omega), Option.bind_some, Option.bind_some, F_atom_each_Atom_l1_eq l e hl h a (i + 1) _ (by simp only [List.length_append, List.length_cons, List.length_nil]; omega), List.append_assoc]
      rfl
    · simp only [hx, cond_true] at ho ⊢
      rw [F_exec_Group_eq l e _ _ hl, Option.bind_some, appd_ok (by omega), Option.bind_some, Option.bind_some, F_atom_each_Atom_l1_eq l e hl h a (i + 1) _ (by rw [List.length_append]; omega), List.append_assoc]
      rfl
theorem F_atom_Out_eq (l : List Group) (e : Env) (hl : lightG l) (h : Header) (a : List Atom) (ha : a.length ≤ 600000) : F_atom_Out l e a h = some (a.flatMap (outN (goG l e 8) h)) := by
  have hlim : lim = 4294967296 := rfl
  unfold F_atom_Out F_atom_each_Atom
  rw [F_atom_each_Atom_l1_eq l e hl h a 0 [] (by simp only [List.length_nil]; omega)]; rfl
end Go.Proofs.Ytknpgojdkobgjaa.W
set_option linter.unusedVariables false
set_option linter.unusedSimpArgs false
namespace Go.Proofs.Ytknpgojdkobgjaa.W
open Go Go.Wb
end Go.Proofs.Ytknpgojdkobgjaa.W
set_option linter.unusedVariables false
set_option linter.unusedSimpArgs false
namespace Go.Proofs.Ytknpgojdkobgjaa.W
open Go Go.Wb
end Go.Proofs.Ytknpgojdkobgjaa.W
set_option linter.unusedVariables false
set_option linter.unusedSimpArgs false
namespace Go.Proofs.Ytknpgojdkobgjaa.W
open Go Go.Wb
end Go.Proofs.Ytknpgojdkobgjaa.W
set_option linter.unusedVariables false
set_option linter.unusedSimpArgs false
namespace Go.Proofs.Ytknpgojdkobgjaa.W
open Go Go.Wb
theorem F_wide_Xor_eq (a b : Wide) : F_wide_Xor a b = some (wxor a b) := rfl
theorem F_wide_Zero_eq (a : Wide) : F_wide_Zero a = some (wzero a) := rfl
theorem F_wide_Has_eq (a : Wide) (i : Nat) (h : i < 128) : F_wide_Has a (i : Int) = some (wt a i) := by
  unfold F_wide_Has
  rw [F_wide_Bit_eq i h, Option.bind_some, F_wide_And_eq, Option.bind_some, F_wide_Zero_eq, Option.bind_some, has_bit a i h]
theorem ibits_127 (n : Nat) (h : n < 18446744073709551616) : ibits .and .i64 (IntKind.i64.wrap (n : Int)) 127 = ((n % 128 : Nat) : Int) := by
  have e : (BitVec.ofInt 64 (IntKind.i64.wrap (n : Int)) &&& BitVec.ofInt 64 127).toNat = n % 128 := by
    have e1 : BitVec.ofInt 64 (IntKind.i64.wrap (n : Int)) = BitVec.ofNat 64 n := by
      apply BitVec.eq_of_toNat_eq
      rw [BitVec.toNat_ofInt, BitVec.toNat_ofNat]
      simp only [IntKind.wrap, IntKind.signed, IntKind.bits]
      simp
      omega
    have e2 : BitVec.ofInt 64 127 = BitVec.ofNat 64 127 := rfl
    rw [e1, e2, BitVec.toNat_and, BitVec.toNat_ofNat, BitVec.toNat_ofNat, Nat.mod_eq_of_lt h]
    exact Nat.and_two_pow_sub_one_eq_mod n 7
  show IntKind.i64.wrap ((BitVec.ofInt 64 (IntKind.i64.wrap (n : Int)) &&& BitVec.ofInt 64 127).toNat : Int) = _
  rw [e, wrap_i64 (by omega) (by omega)]
def cnt (x : BitVec 64) : Nat := ds 1 64 x.toNat
theorem F_math_bits_OnesCount64_eq (x : BitVec 64) : F_math_bits_OnesCount64 x = some (cnt x : Int) := by
  obtain ⟨h0, ha, hb, hbb, hd, he, hf⟩ := swar x.toNat x.isLt
  have sh : ∀ (x : BitVec 64) (n : BitVec 64), oushr x (n.toNat : Int) = some (x >>> n.toNat) := fun x n => oushr_nat x n.toNat
  unfold F_math_bits_OnesCount64
  simp only [sh, Option.bind_some]
  congr 1
  have t1 : ((1 : BitVec 64)).toNat = 1 := rfl
  have t2 : ((2 : BitVec 64)).toNat = 2 := rfl
  have t4 : ((4 : BitVec 64)).toNat = 4 := rfl
  have t8 : ((8 : BitVec 64)).toNat = 8 := rfl
  have t16 : ((16 : BitVec 64)).toNat = 16 := rfl
  have t32 : ((32 : BitVec 64)).toNat = 32 := rfl
  rw [t1, t2, t4, t8, t16, t32]
  generalize hA : (x >>> 1 &&& (6148914691236517205 : BitVec 64)) + (x &&& (6148914691236517205 : BitVec 64)) = A
  have eA : A.toNat = (x.toNat / 2 &&& 6148914691236517205) + (x.toNat &&& 6148914691236517205) := by
    rw [← hA, BitVec.toNat_add, BitVec.toNat_and, BitVec.toNat_and, BitVec.toNat_ushiftRight, Nat.shiftRight_eq_div_pow]
    exact Nat.mod_eq_of_lt ha
  generalize hB : (A >>> 2 &&& (3689348814741910323 : BitVec 64)) + (A &&& (3689348814741910323 : BitVec 64)) = B
  have eB : B.toNat = (A.toNat / 4 &&& 3689348814741910323) + (A.toNat &&& 3689348814741910323) := by
    rw [← hB, BitVec.toNat_add, BitVec.toNat_and, BitVec.toNat_and, BitVec.toNat_ushiftRight, Nat.shiftRight_eq_div_pow]
    rw [eA]
    exact Nat.mod_eq_of_lt hb
  generalize hC : (B >>> 4 + B) &&& (1085102592571150095 : BitVec 64) = D
  have eC : D.toNat = (B.toNat / 16 + B.toNat) &&& 1085102592571150095 := by
    rw [← hC, BitVec.toNat_and, BitVec.toNat_add, BitVec.toNat_ushiftRight, Nat.shiftRight_eq_div_pow]
    have : (B.toNat / 2 ^ 4 + B.toNat) % 2 ^ 64 = B.toNat / 16 + B.toNat := by
      rw [eB, eA]
      exact Nat.mod_eq_of_lt hbb
    rw [this]; rfl
  rw [← eA, ← eB, ← eC] at hd he hf h0
  generalize hE : D + D >>> 8 = E
  have eE : E.toNat = D.toNat + D.toNat / 256 := by
    rw [← hE, BitVec.toNat_add, BitVec.toNat_ushiftRight, Nat.shiftRight_eq_div_pow]
    exact Nat.mod_eq_of_lt hd
  rw [← eE] at he hf h0
  generalize hG : E + E >>> 16 = G
  have eG : G.toNat = E.toNat + E.toNat / 65536 := by
    rw [← hG, BitVec.toNat_add, BitVec.toNat_ushiftRight, Nat.shiftRight_eq_div_pow]
    exact Nat.mod_eq_of_lt he
  rw [← eG] at hf h0
  generalize hK : G + G >>> 32 = K
  have eK : K.toNat = G.toNat + G.toNat / 4294967296 := by
    rw [← hK, BitVec.toNat_add, BitVec.toNat_ushiftRight, Nat.shiftRight_eq_div_pow]
    exact Nat.mod_eq_of_lt hf
  rw [← eK] at h0
  rw [ibits_127 _ K.isLt, h0]
  rfl
theorem cnt_le (x : BitVec 64) : cnt x ≤ 64 := by
  unfold cnt
  rw [ds_bits]
  exact Nat.le_trans (List.length_filter_le ..) (by simp)
def bitsUp (a : Wide) : List Nat := (List.range 128).filter (wt a)
theorem bitsUp_len (a : Wide) : (bitsUp a).length = cnt a.Lo + cnt a.Hi := by
  have e : List.range (64 + 64) = List.range 64 ++ (List.range 64).map (64 + ·) := List.range_add
  unfold bitsUp cnt
  rw [show (128 : Nat) = 64 + 64 from rfl, e, List.filter_append, List.length_append, ds_bits, ds_bits, List.filter_map, List.length_map]
  congr 2
theorem F_wide_Many_eq (a : Wide) : F_wide_Many a = some ((bitsUp a).length : Int) := by
  have h1 := cnt_le a.Hi
  have h2 := cnt_le a.Lo
  rw [bitsUp_len]
  unfold F_wide_Many
  rw [F_math_bits_OnesCount64_eq, Option.bind_some, F_math_bits_OnesCount64_eq, Option.bind_some]
  generalize cnt a.Hi = p at *
  generalize cnt a.Lo = q at *
  rw [wrap_i64 (by omega) (by omega)]
  congr 1
  omega
def bitsDn (a : Wide) : Nat → List Int
  | 0 => []
  | n + 1 => bif wt a n then (n : Int) :: bitsDn a n else bitsDn a n
theorem bitsDn_len (a : Wide) : ∀ n, (bitsDn a n).length = ((List.range n).filter (wt a)).length
  | 0 => rfl
  | n + 1 => by
    rw [List.range_succ, List.filter_append, List.length_append, bitsDn, ← bitsDn_len a n]
    cases h : wt a n <;> simp [h]
theorem bitsDn_mem (a : Wide) : ∀ (n : Nat) (i : Int), i ∈ bitsDn a n ↔ ∃ k : Nat, i = (k : Int) ∧ k < n ∧ wt a k = true
  | 0, i => by simp [bitsDn]
  | n + 1, i => by
    rw [bitsDn]
    cases h : wt a n
    · rw [cond_false, bitsDn_mem a n i]
      constructor
      · rintro ⟨k, rfl, h1, h2⟩; exact ⟨k, rfl, by omega, h2⟩
      · rintro ⟨k, rfl, h1, h2⟩
        have : k ≠ n := fun e => by rw [e, h] at h2; cases h2
        exact ⟨k, rfl, by omega, h2⟩
    · rw [cond_true, List.mem_cons, bitsDn_mem a n i]
      constructor
      · rintro (rfl | ⟨k, rfl, h1, h2⟩)
        · exact ⟨n, rfl, by omega, h⟩
        · exact ⟨k, rfl, by omega, h2⟩
      · rintro ⟨k, rfl, h1, h2⟩
        by_cases e : k = n
        · left; rw [e]
        · right; exact ⟨k, rfl, by omega, h2⟩
theorem F_tern_Bits_l1_eq (a : Wide) : ∀ (n m : Nat) (acc : List Int), n ≤ 128 → n < m → acc.length + (bitsDn a n).length = (bitsUp a).length → F_tern_Bits_l1 a m acc ((n : Int) - 1) = some (acc ++ bitsDn a n) := by
  have hlim : lim = 4294967296 := rfl
  have hup : (bitsUp a).length ≤ 128 := by
    unfold bitsUp; exact Nat.le_trans (List.length_filter_le ..) (by simp)
  intro n
  induction n with
  | zero =>
    intro m acc h1 h2 h3
    obtain ⟨m, rfl⟩ : ∃ k, m = k + 1 := ⟨m - 1, by omega⟩
    rw [F_tern_Bits_l1, decide_eq_false (by omega), opt_false, Option.bind_some, Bool.false_and, cond_false]
    simp [bitsDn]
  | succ n ih =>
    intro m acc h1 h2 h3
    obtain ⟨m, rfl⟩ : ∃ k, m = k + 1 := ⟨m - 1, by omega⟩
    have e : ((n + 1 : Nat) : Int) - 1 = (n : Int) := by omega
    rw [e, F_tern_Bits_l1, decide_eq_true (by omega), opt_true, F_wide_Many_eq, Option.bind_some, Bool.true_and]
    by_cases hc : acc.length < (bitsUp a).length
    · have e2 : IntKind.i64.wrap ((n : Int) - 1) = (n : Int) - 1 := wrap_i64 (by omega) (by omega)
      rw [decide_eq_true (by omega), cond_true, F_wide_Has_eq a n (by omega), Option.bind_some, e2, bitsDn]
      rw [bitsDn] at h3
      cases hw : wt a n
      · rw [hw, cond_false] at h3
        rw [cond_false, cond_false, ih m acc (by omega) (by omega) h3]
      · rw [hw, cond_true, List.length_cons] at h3
        rw [cond_true, cond_true, appd_ok (by simp; omega), Option.bind_some, ih m _ (by omega) (by omega) (by simp; omega)]
        simp
    · rw [decide_eq_false (by omega), cond_false]
      have : bitsDn a (n + 1) = [] := List.eq_nil_of_length_eq_zero (by omega)
      rw [this]; simp
theorem wless_zero (a : Wide) : wless a zWide = a :=
  wt_ext fun i hi => by rw [wt_less _ _ _ hi, wt_zero]; simp
theorem F_tern_Bits_eq (a : Wide) : F_tern_Bits (⟨zWide, zWide⟩ : Tern) (⟨zWide, a⟩ : Tern) = some (bitsDn a 128) := by
  unfold F_tern_Bits
  rw [F_wide_Less_eq, Option.bind_some]
  show F_tern_Bits_l1 (wless a zWide) fuel0 [] 127 = _
  rw [wless_zero]
  have := F_tern_Bits_l1_eq a 128 fuel0 [] (by omega) (by unfold fuel0; omega) (by rw [bitsDn_len]; simp [bitsUp])
  simpa using this
end Go.Proofs.Ytknpgojdkobgjaa.W
set_option linter.unusedVariables false
set_option linter.unusedSimpArgs false
namespace Go.Proofs.Ytknpgojdkobgjaa.W
open Go Go.Wb
def bad2 (x y : Tern) : Bool := !wzero (wand (wand x.Mask y.Mask) (wxor x.Value y.Value))
def apart (a b : Atom) : Bool := !(a.Group == b.Group) || decide (a.Port ≠ b.Port) || decide (a.Max ≠ b.Max) || (List.range' 0 24).any fun f => bad2 (ve a.Rewrite f) (ve b.Rewrite f)
theorem F_differ_apart_l1_eq (a b : Atom) : ∀ (m i : Nat), i + m = 24 → F_differ_apart_l1 a b m i = some ((List.range' i m).any fun f => bad2 (ve a.Rewrite f) (ve b.Rewrite f))
  | 0, i, h => by rw [F_differ_apart_l1]; rfl
  | m + 1, i, h => by
    rw [F_differ_apart_l1, chk_nat (by omega), Option.bind_some, Option.bind_some, vget_eq, vget_eq]
    show ((F_differ_bits _ _).bind _) = _
    unfold F_differ_bits
    rw [F_wide_And_eq, Option.bind_some, F_wide_Xor_eq, Option.bind_some, F_wide_And_eq, Option.bind_some, Option.bind_some, F_wide_Zero_eq, Option.bind_some, List.range'_succ, List.any_cons]
    show (bif bad2 _ _ then _ else _) = _
    cases bad2 (ve a.Rewrite i) (ve b.Rewrite i)
    · rw [cond_false, F_differ_apart_l1_eq a b m (i + 1) (by omega), Bool.false_or]
    · rw [cond_true, Bool.true_or]
theorem F_differ_apart_eq (a b : Atom) : F_differ_apart a b = some (apart a b) := by
  unfold F_differ_apart apart
  rw [show ((24 : Int)).toNat = 24 from rfl, F_differ_apart_l1_eq a b 24 0 rfl]
  cases (!(a.Group == b.Group) || decide (a.Port ≠ b.Port) || decide (a.Max ≠ b.Max)) <;> rfl
def likeL (a b : List Atom) : Bool := (a.zip b).all fun p => !apart p.1 p.2
def unl (a b : List Atom) : Bool := !(decide (a.length = b.length) && likeL a b)
theorem F_slices_EqualFunc_Atom_Atom_like_l1_eq (t : List Atom) : ∀ (s : List Atom) (i : Nat), i + s.length = t.length → F_slices_EqualFunc_Atom_Atom_l1 t F_differ_Unlike_1 s i = some (likeL s (t.drop i))
  | [], i, h => by rw [F_slices_EqualFunc_Atom_Atom_l1]; rfl
  | x :: s, i, h => by
    simp only [List.length_cons] at h
    have hi : i < t.length := by omega
    rw [F_slices_EqualFunc_Atom_Atom_l1, lget_lt hi, Option.bind_some, List.drop_eq_getElem_cons hi]
    unfold F_differ_Unlike_1
    rw [F_differ_apart_eq, Option.bind_some, Option.bind_some, Bool.not_not]
    unfold likeL
    rw [List.zip_cons_cons, List.all_cons]
    have ih := F_slices_EqualFunc_Atom_Atom_like_l1_eq t s (i + 1) (by omega)
    unfold likeL F_differ_Unlike_1 at ih
    cases apart x t[i]
    · rw [cond_false, ih]; rfl
    · rw [cond_true]; rfl
theorem F_differ_Unlike_eq (a b : List Atom) : F_differ_Unlike a b = some (unl a b) := by
  unfold F_differ_Unlike F_slices_EqualFunc_Atom_Atom unl
  by_cases hl : a.length = b.length
  · rw [decide_eq_false (by omega), cond_false, F_slices_EqualFunc_Atom_Atom_like_l1_eq b a 0 (by omega), Option.bind_some, decide_eq_true hl, Bool.true_and]
    rfl
  · rw [decide_eq_true (by omega), cond_true, Option.bind_some, decide_eq_false hl]; rfl
def oneOf (x y : Tern) : Wide := wxor x.Mask y.Mask
def valOf (x y : Tern) : Wide := wor (wand x.Value x.Mask) (wand y.Value y.Mask)
def singlesAt (a b : Atom) (f : Nat) : List differ_single := (bitsDn (oneOf (ve a.Rewrite f) (ve b.Rewrite f)) 128).map fun bit => ⟨(f : Int), bit, wt (valOf (ve a.Rewrite f) (ve b.Rewrite f)) bit.toNat⟩
def singlesOf (p : Atom × Atom) : List differ_single := (List.range' 0 24).flatMap (singlesAt p.1 p.2)
def singles (a b : List Atom) : List differ_single := (a.zip b).flatMap singlesOf
theorem F_differ_singles_1_l3_eq {σ : Type} (go : Nat → Lp σ → Option (Lp σ)) (f : Nat) (v : Wide) (y : σ → differ_single → Option (Lp σ)) : ∀ (l : List Int) (i : Nat) (s : σ), (∀ x ∈ l, ∃ k : Nat, x = (k : Int) ∧ k < 128) →
    F_differ_singles_1_l3 σ go f v y l i (.go s) = (yf y (l.map fun bit => (⟨(f : Int), bit, wt v bit.toNat⟩ : differ_single)) s).bind fun r => yb r fun s' => go (f + 1) (.go s')
  | [], i, s, _ => by rw [F_differ_singles_1_l3]; rfl
  | x :: l, i, s, h => by
    obtain ⟨k, rfl, hk⟩ := h x (by simp)
    rw [F_differ_singles_1_l3, F_wide_Has_eq v k hk, Option.bind_some]
    show ((y s _).bind _) = _
    rw [List.map_cons, yf]
    show ((y s ⟨(f : Int), (k : Int), wt v k⟩).bind _) = (((y s ⟨(f : Int), (k : Int), wt v ((k : Int)).toNat⟩).bind _).bind _)
    rw [show ((k : Int)).toNat = k from Int.toNat_natCast k]
    cases y s ⟨(f : Int), (k : Int), wt v k⟩ with
    | none => rfl
    | some r =>
      cases r with
      | go s' => exact F_differ_singles_1_l3_eq go f v y l (i + 1) s' fun x hx => h x (by simp [hx])
      | out c s' => rfl
theorem F_differ_singles_1_l2_eq {σ : Type} (go : Nat → Lp σ → Option (Lp σ)) (a b : List Atom) (i : Nat) (ha : i < a.length) (hb : i < b.length) (y : σ → differ_single → Option (Lp σ)) : ∀ (m f : Nat) (s : σ), f + m = 24 →
    F_differ_singles_1_l2 σ go i a b y m f (.go s) = (yf y ((List.range' f m).flatMap (singlesAt a[i] b[i])) s).bind fun r => yb r fun s' => go (i + 1) (.go s')
  | 0, f, s, h => by rw [F_differ_singles_1_l2]; rfl
  | m + 1, f, s, h => by
    rw [F_differ_singles_1_l2, lget_lt ha, Option.bind_some, chk_nat (by omega), Option.bind_some, lget_lt hb, Option.bind_some, Option.bind_some, vget_eq, vget_eq, F_wide_Xor_eq, Option.bind_some, F_wide_Zero_eq, Option.bind_some, List.range'_succ, List.flatMap_cons, yf_append]
    have ih := fun s => F_differ_singles_1_l2_eq go a b i ha hb y m (f + 1) s (by omega)
    cases hz : wzero (wxor (ve a[i].Rewrite f).Mask (ve b[i].Rewrite f).Mask)
    · rw [cond_false, F_wide_And_eq, Option.bind_some, F_wide_And_eq, Option.bind_some, F_wide_Or_eq, Option.bind_some, F_tern_Bits_eq, Option.bind_some, F_differ_singles_1_l3_eq]
      · show ((yf y (singlesAt a[i] b[i] f) s).bind _) = _
        cases yf y (singlesAt a[i] b[i] f) s with
        | none => rfl
        | some r =>
          cases r with
          | go s' => exact ih s'
          | out c s' => rfl
      · intro x hx
        obtain ⟨k, h1, h2, _⟩ := (bitsDn_mem _ _ _).1 hx
        exact ⟨k, h1, h2⟩
    · have : singlesAt a[i] b[i] f = [] := by
        unfold singlesAt
        rw [List.map_eq_nil_iff]
        apply List.eq_nil_iff_forall_not_mem.2
        intro x hx
        obtain ⟨k, _, h2, h3⟩ := (bitsDn_mem _ _ _).1 hx
        have := (wzero_iff _).1 hz k h2
        rw [show oneOf (ve a[i].Rewrite f) (ve b[i].Rewrite f) = wxor (ve a[i].Rewrite f).Mask (ve b[i].Rewrite f).Mask from rfl, this] at h3
        cases h3
      rw [cond_true, this]
      exact ih s
theorem F_differ_singles_1_l1_eq {σ : Type} (a b : List Atom) (hl : a.length = b.length) (y : σ → differ_single → Option (Lp σ)) : ∀ (m i : Nat) (s : σ), i + m = a.length →
    F_differ_singles_1_l1 σ a b y m i (.go s) = yf y (singles (a.drop i) (b.drop i)) s
  | 0, i, s, h => by
    rw [F_differ_singles_1_l1, List.drop_of_length_le (by omega)]; rfl
  | m + 1, i, s, h => by
    have ha : i < a.length := by omega
    have hb : i < b.length := by omega
    rw [F_differ_singles_1_l1, show ((24 : Int)).toNat = 24 from rfl, F_differ_singles_1_l2_eq _ a b i ha hb y 24 0 s rfl, List.drop_eq_getElem_cons ha, List.drop_eq_getElem_cons hb]
    unfold singles
    rw [List.zip_cons_cons, List.flatMap_cons, yf_append]
    show ((yf y (singlesOf (a[i], b[i])) s).bind _) = _
    cases yf y (singlesOf (a[i], b[i])) s with
    | none => rfl
    | some r =>
      cases r with
      | go s' => exact F_differ_singles_1_l1_eq a b hl y m (i + 1) s' (by omega)
      | out c s' => rfl
theorem F_differ_singles_1_eq {σ : Type} (a b : List Atom) (hl : a.length = b.length) (y : σ → differ_single → Option (Lp σ)) (s : σ) : F_differ_singles_1 σ y (.go s) a b = yf y (singles a b) s := by
  unfold F_differ_singles_1
  rw [show ((a.length : Int)).toNat = a.length by omega, F_differ_singles_1_l1_eq a b hl y a.length 0 s (by omega)]
  rfl
def fixT (t : Tern) (i : Nat) (on : Bool) : Tern := bif on then ⟨wor (wless (tclean t).Value (wbit i)) (wbit i), wor (tclean t).Mask (wbit i)⟩ else ⟨wless (tclean t).Value (wbit i), wor (tclean t).Mask (wbit i)⟩
def partOf (c : Cube) (f bit : Nat) (on : Bool) : Option Cube :=
  bif wt (ve c f).Mask bit && (wt (ve c f).Value bit == on) then none else some (Vector.ofFn fun k => if f = k.1 then fixT (ve c f) bit (!on) else ve c k.1)
def okS (x : differ_single) : Prop := ∃ f k : Nat, x.field = (f : Int) ∧ f < 24 ∧ x.bit = (k : Int) ∧ k < 128
theorem singles_ok (a b : List Atom) : ∀ x ∈ singles a b, okS x := by
  intro x hx
  unfold singles singlesOf singlesAt at hx
  simp only [List.mem_flatMap, List.mem_map] at hx
  obtain ⟨p, _, f, hf, bit, hbit, rfl⟩ := hx
  obtain ⟨k, rfl, h2, _⟩ := (bitsDn_mem _ _ _).1 hbit
  have : f < 24 := by
    have := (List.mem_range'_1.1 hf).2
    omega
  exact ⟨f, k, rfl, this, rfl, h2⟩
def sgl (x y : Tern) (k : Nat) : Bool × Bool := bif wt x.Mask k == wt y.Mask k then (false, false) else (true, bif wt x.Mask k then wt x.Value k else wt y.Value k)
def rp (c : Cube) (x y : Tern) (f k : Nat) : Option Cube := bif (sgl x y k).1 then partOf c f k (sgl x y k).2 else none
def offS (h : Header) (x : differ_single) : Bool := !(wt (ve h x.field.toNat) x.bit.toNat == x.on)
def atL (a b : List Atom) (h : Header) : Bool := unl a b || (singles a b).any (offS h)
theorem F_differ_At_b1_eq (h : Header) (s : Bool) (x : differ_single) (hx : okS x) : F_differ_At_b1 h s x = bif offS h x then some (.out .ret true) else some (.go s) := by
  obtain ⟨f, k, h1, hf, h2, hk⟩ := hx
  obtain ⟨xf, xb, on⟩ := x
  simp only at h1 h2
  subst h1; subst h2
  unfold F_differ_At_b1 offS
  simp only [Int.toNat_natCast]
  rw [chk_nat hf, Option.bind_some, vget_eq, F_wide_Has_eq _ k hk, Option.bind_some]
theorem yf_any {α : Type} (y : Bool → α → Option (Lp Bool)) (p : α → Bool) : ∀ (l : List α) (s : Bool), (∀ s, ∀ x ∈ l, y s x = bif p x then some (.out .ret true) else some (.go s)) → yf y l s = bif l.any p then some (.out .ret true) else some (.go s)
  | [], s, _ => rfl
  | x :: l, s, h => by
    rw [yf, h s x (by simp), List.any_cons]
    cases p x
    · exact yf_any y p l s fun s y hy => h s y (by simp [hy])
    · rfl
theorem F_differ_At_eq (a b : List Atom) (h : Header) : F_differ_At a b h = some (atL a b h) := by
  unfold F_differ_At atL
  rw [F_differ_Unlike_eq, Option.bind_some]
  cases hu : unl a b
  · have hl : a.length = b.length := by
      unfold unl at hu
      simp at hu
      exact hu.1
    rw [cond_false, Bool.false_or]
    unfold F_differ_singles
    rw [Option.bind_some]
    show ((F_differ_singles_1 Bool (F_differ_At_b1 h) (.go false) a b).bind _) = _
    rw [F_differ_singles_1_eq a b hl, yf_any (F_differ_At_b1 h) (offS h) _ _ fun s x hx => F_differ_At_b1_eq h s x (singles_ok a b x hx)]
    cases (singles a b).any (offS h) <;> rfl
  · rfl
def difA (h : Header) (p : Atom × Atom) : Bool := decide (capply p.1.Rewrite h ≠ capply p.2.Rewrite h)
theorem bad2_false {x y : Tern} (h : bad2 x y = false) : ∀ k, k < 128 → wt x.Mask k = true → wt y.Mask k = true → wt x.Value k = wt y.Value k := by
  intro k hk h1 h2
  unfold bad2 at h
  have h3 : wzero (wand (wand x.Mask y.Mask) (wxor x.Value y.Value)) = true := by simpa using h
  have h4 := (wzero_iff _).1 h3 k hk
  rw [wt_and, wt_and, wt_xor, h1, h2] at h4
  revert h4
  cases wt x.Value k <;> cases wt y.Value k <;> decide
theorem pair_same (p : Atom × Atom) (h : Header) (hp : apart p.1 p.2 = false) : (singlesOf p).any (offS h) = difA h p := by
  have hb : ∀ f, f < 24 → bad2 (ve p.1.Rewrite f) (ve p.2.Rewrite f) = false := fun f hf => by
    unfold apart at hp
    have h1 : ((List.range' 0 24).any fun f => bad2 (ve p.1.Rewrite f) (ve p.2.Rewrite f)) = false := by
      revert hp
      generalize (List.range' 0 24).any (fun f => bad2 (ve p.1.Rewrite f) (ve p.2.Rewrite f)) = q
      cases q
      · intro _; rfl
      · simp
    rw [List.any_eq_false] at h1
    have := h1 f (by rw [List.mem_range'_1]; omega)
    simpa using this
  -- bit by bit
  have bits : ∀ f, f < 24 → ∀ k, k < 128 → (wt (ve (capply p.1.Rewrite h) f) k = wt (ve (capply p.2.Rewrite h) f) k ↔ ¬ (wt (oneOf (ve p.1.Rewrite f) (ve p.2.Rewrite f)) k = true ∧ (wt (ve h f) k == wt (valOf (ve p.1.Rewrite f) (ve p.2.Rewrite f)) k) = false)) := fun f hf k hk => by
    have h2 := bad2_false (hb f hf) k hk
    rw [ve_capply _ _ _ hf, ve_capply _ _ _ hf]
    unfold oneOf valOf
    simp only [wt_or, wt_and, wt_xor, wt_less _ _ _ hk]
    revert h2
    cases wt (ve p.1.Rewrite f).Mask k <;> cases wt (ve p.2.Rewrite f).Mask k <;> cases wt (ve p.1.Rewrite f).Value k <;> cases wt (ve p.2.Rewrite f).Value k <;> cases wt (ve h f) k <;> decide
  rw [Bool.eq_iff_iff, List.any_eq_true]
  unfold difA
  rw [decide_eq_true_eq]
  constructor
  · rintro ⟨x, hx, ho⟩ he
    unfold singlesOf singlesAt at hx
    simp only [List.mem_flatMap, List.mem_map] at hx
    obtain ⟨f, hf, bit, hbit, rfl⟩ := hx
    obtain ⟨k, rfl, hk, hw⟩ := (bitsDn_mem _ _ _).1 hbit
    have hf24 : f < 24 := by
      have := (List.mem_range'_1.1 hf).2
      omega
    have := (bits f hf24 k hk).1 (by rw [he])
    apply this
    refine ⟨hw, ?_⟩
    unfold offS at ho
    simpa using ho
  · intro hne
    apply Classical.byContradiction
    intro hno
    apply hne
    refine ve_ext fun f hf => wt_ext fun k hk => (bits f hf k hk).2 ?_
    rintro ⟨h1, h2⟩
    apply hno
    refine ⟨⟨(f : Int), (k : Int), wt (valOf (ve p.1.Rewrite f) (ve p.2.Rewrite f)) k⟩, ?_, ?_⟩
    · unfold singlesOf singlesAt
      simp only [List.mem_flatMap, List.mem_map]
      exact ⟨f, by rw [List.mem_range'_1]; omega, (k : Int), (bitsDn_mem _ _ _).2 ⟨k, rfl, hk, h1⟩, by simp⟩
    · unfold offS
      simpa using h2
theorem likeL_mem {a b : List Atom} (h : likeL a b = true) : ∀ p ∈ a.zip b, apart p.1 p.2 = false := fun p hp => by
  unfold likeL at h
  have := List.all_eq_true.1 h p hp
  simpa using this
theorem any_flat (h : Header) : ∀ l : List (Atom × Atom), (∀ p ∈ l, apart p.1 p.2 = false) → (l.flatMap singlesOf).any (offS h) = l.any (difA h)
  | [], _ => rfl
  | p :: l, hl => by
    rw [List.flatMap_cons, List.any_append, List.any_cons, pair_same p h (hl p (by simp)), any_flat h l fun q hq => hl q (by simp [hq])]
theorem F_l39_awake_eq : F_l39_awake = some true := by decide +kernel
end Go.Proofs.Ytknpgojdkobgjaa.W
set_option linter.unusedVariables false
set_option linter.unusedSimpArgs false
namespace Go.Proofs.Ytknpgojdkobgjaa.W
open Go Go.Wb
theorem lightG_nil : lightG [] := ⟨by simp, by simp⟩
def noneA (x : Atom) : Atom := { x with Group := false }
theorem F_l39_none_l1_eq : ∀ (m i : Nat) (P Q : List Atom), P.length = i → Q.length = m → F_l39_none_l1 m i (P ++ Q) = some (P ++ Q.map noneA)
  | 0, i, P, Q, h1, h2 => by
    have : Q = [] := List.eq_nil_of_length_eq_zero h2
    subst this
    rw [F_l39_none_l1]; simp
  | m + 1, i, P, [], h1, h2 => by simp at h2
  | m + 1, i, P, x :: Q, h1, h2 => by
    have e : P ++ noneA x :: Q = (P ++ [noneA x]) ++ Q := by simp
    rw [F_l39_none_l1, lget_at P Q x (i : Int) (by omega), Option.bind_some, Int.toNat_natCast, set_at P Q x _ i (by omega)]
    show F_l39_none_l1 m (i + 1) (P ++ noneA x :: Q) = _
    rw [e, F_l39_none_l1_eq m (i + 1) (P ++ [noneA x]) Q (by simp; omega) (by simpa using h2)]
    simp
theorem F_l39_none_eq (a : List Atom) (h : a.length ≤ 1000) : F_l39_none a = some (a.map noneA) := by
  have hlim : lim = 4294967296 := rfl
  unfold F_l39_none F_slices_Clone_Atom
  rw [appd_ok (by simp; omega), Option.bind_some, List.nil_append, show ((a.length : Int)).toNat = a.length by omega]
  have := F_l39_none_l1_eq a.length 0 [] a rfl rfl
  simpa using this
def outA (h : Header) (x : Atom) : Out := ⟨x.Port, x.Max, capply x.Rewrite h⟩
theorem flat_outA (K : Int → Header → List Out) (h : Header) : ∀ a : List Atom, (∀ x ∈ a, x.Group = false) → a.flatMap (outN K h) = a.map (outA h)
  | [], _ => rfl
  | x :: a, hx => by
    rw [List.flatMap_cons, flat_outA K h a fun y hy => hx y (by simp [hy]), List.map_cons]
    unfold outN outA
    rw [hx x (by simp)]; rfl
theorem bad_apply {x y : Tern} {v : Wide} (h : bad2 x y = true) : wor (wless v x.Mask) (wand x.Value x.Mask) ≠ wor (wless v y.Mask) (wand y.Value y.Mask) := by
  unfold bad2 at h
  rw [Bool.not_eq_true', wzero_false] at h
  obtain ⟨i, hi, hw⟩ := h
  intro e
  have := congrArg (fun w => wt w i) e
  simp only [wt_or, wt_and, wt_less _ _ _ hi] at this
  rw [wt_and, wt_and, wt_xor] at hw
  revert this hw
  cases wt x.Value i <;> cases wt x.Mask i <;> cases wt y.Value i <;> cases wt y.Mask i <;> cases wt v i <;> simp
theorem pair_out (p : Atom × Atom) (h : Header) (h1 : p.1.Group = false) (h2 : p.2.Group = false) : (apart p.1 p.2 || difA h p) = !decide (outA h p.1 = outA h p.2) := by
  obtain ⟨x, y⟩ := p
  obtain ⟨r, g, po, m⟩ := x
  obtain ⟨r', g', po', m'⟩ := y
  simp only at h1 h2
  subst h1 h2
  unfold apart difA outA
  simp only [BEq.rfl, Bool.not_true, Bool.false_or]
  by_cases hp : po = po'
  · by_cases hm : m = m'
    · subst hp hm
      simp only [ne_eq, not_true_eq_false, decide_false, Bool.false_or, Out.mk.injEq, true_and]
      by_cases hr : capply r h = capply r' h
      · simp only [hr, not_true_eq_false, decide_false, Bool.or_false, decide_true]
        rw [Bool.not_true, List.any_eq_false]
        intro f hf hb
        have hf24 : f < 24 := by simpa using hf
        have := congrArg (fun c => ve c f) hr
        simp only [ve_capply _ _ _ hf24] at this
        exact bad_apply (by simpa using hb) this
      · simp [hr]
    · simp [hm]
  · simp [hp]
theorem any_or_of {α : Type} (f g : α → Bool) : ∀ l : List α, (∀ x ∈ l, f x = false) → l.any g = l.any fun x => f x || g x
  | [], _ => rfl
  | x :: l, h => by rw [List.any_cons, List.any_cons, any_or_of f g l fun y hy => h y (by simp [hy]), h x (by simp), Bool.false_or]
theorem at_out (h : Header) (a b : List Atom) (ha : ∀ x ∈ a, x.Group = false) (hb : ∀ x ∈ b, x.Group = false) : atL a b h = !decide (a.map (outA h) = b.map (outA h)) := by
  unfold atL unl
  by_cases hl : a.length = b.length
  · rw [decide_eq_true hl, Bool.true_and]
    have key : ∀ (a b : List Atom), a.length = b.length → (∀ x ∈ a, x.Group = false) → (∀ x ∈ b, x.Group = false) → ((a.zip b).any fun p => apart p.1 p.2 || difA h p) = !decide (a.map (outA h) = b.map (outA h)) := by
      intro a
      induction a with
      | nil =>
        intro b hl _ _
        have : b = [] := List.eq_nil_of_length_eq_zero (by simpa using hl.symm)
        subst this; rfl
      | cons x a ih =>
        intro b hl ha hb
        cases b with
        | nil => simp at hl
        | cons y b =>
          rw [List.zip_cons_cons, List.any_cons, ih b (by simpa using hl) (fun z hz => ha z (by simp [hz])) (fun z hz => hb z (by simp [hz])), pair_out (x, y) h (ha x (by simp)) (hb y (by simp)), List.map_cons, List.map_cons]
          by_cases h1 : outA h x = outA h y
          · simp [h1]
          · simp [h1]
    rw [← key a b hl ha hb]
    cases hk : likeL a b
    · rw [Bool.not_false, Bool.true_or]
      unfold likeL at hk
      rw [List.all_eq_false] at hk
      obtain ⟨p, hp, h1⟩ := hk
      symm
      rw [List.any_eq_true]
      exact ⟨p, hp, by simp at h1; simp [h1]⟩
    · rw [Bool.not_true, Bool.false_or]
      have hm := likeL_mem hk
      unfold singles
      rw [any_flat h _ hm]
      exact any_or_of (fun p : Atom × Atom => apart p.1 p.2) (difA h) _ hm
  · rw [decide_eq_false hl, Bool.false_and, Bool.not_false, Bool.true_or]
    have : a.map (outA h) ≠ b.map (outA h) := fun e => hl (by have := congrArg List.length e; simpa using this)
    simp [this]
theorem differ_at (a b : List Atom) (h : Header) : F_l39_DifferAt a b h = some true := by
  unfold F_l39_DifferAt F_pl_Atoms
  rw [F_l39_awake_eq]
  cases h1 : decide ((a.length : Int) ≤ 12)
  · rfl
  · cases h2 : decide ((b.length : Int) ≤ 12)
    · rfl
    · rw [decide_eq_true_eq] at h1 h2
      have ga : ∀ x ∈ a.map noneA, x.Group = false := fun x hx => by obtain ⟨y, _, rfl⟩ := List.mem_map.1 hx; rfl
      have gb : ∀ x ∈ b.map noneA, x.Group = false := fun x hx => by obtain ⟨y, _, rfl⟩ := List.mem_map.1 hx; rfl
      simp only [Option.bind_some, Bool.not_true, Bool.not_false, opt, cond_true, Bool.or_false, cond_false]
      rw [F_l39_none_eq a (by omega), Option.bind_some, F_l39_none_eq b (by omega), Option.bind_some, F_atom_Out_eq [] _ lightG_nil h _ (by simp; omega), Option.bind_some, F_atom_Out_eq [] _ lightG_nil h _ (by simp; omega), Option.bind_some,
        F_exec_Same_eq, Option.bind_some, F_differ_At_eq, Option.bind_some, F_differ_At_eq, flat_outA _ h _ ga, flat_outA _ h _ gb, at_out h _ _ ga gb, at_out h _ _ gb ga]
      have : decide ((b.map noneA).map (outA h) = (a.map noneA).map (outA h)) = decide ((a.map noneA).map (outA h) = (b.map noneA).map (outA h)) := by
        rw [decide_eq_decide]; exact ⟨Eq.symm, Eq.symm⟩
      rw [this]
      simp
end Go.Proofs.Ytknpgojdkobgjaa.W
