/- A part of the proof. -/
import Derived.Test.YtknpgojdkobgjaaG3
set_option linter.unusedVariables false
set_option linter.unusedSimpArgs false
namespace Go.Proofs.Ytknpgojdkobgjaa.W
open Go Go.Wb
end Go.Proofs.Ytknpgojdkobgjaa.W
set_option linter.unusedVariables false
set_option linter.unusedSimpArgs false
namespace Go.Proofs.Ytknpgojdkobgjaa.W
open Go Go.Wb
section sym
variable (lt : Action → Action → Bool) (cmp : Action → Action → Option Int)
variable {lt cmp}
end sym
end Go.Proofs.Ytknpgojdkobgjaa.W
set_option linter.unusedVariables false
set_option linter.unusedSimpArgs false
namespace Go.Proofs.Ytknpgojdkobgjaa.W
open Go Go.Wb
section sym
variable {lt : Action → Action → Bool} {cmp : Action → Action → Option Int}
end sym
end Go.Proofs.Ytknpgojdkobgjaa.W
set_option linter.unusedVariables false
set_option linter.unusedSimpArgs false
namespace Go.Proofs.Ytknpgojdkobgjaa.W
open Go Go.Wb
section ins
variable {lt : Action → Action → Bool} {cmp : Action → Action → Option Int}
end ins
end Go.Proofs.Ytknpgojdkobgjaa.W
set_option linter.unusedVariables false
set_option linter.unusedSimpArgs false
namespace Go.Proofs.Ytknpgojdkobgjaa.W
open Go Go.Wb
section stable
variable {lt : Action → Action → Bool} {cmp : Action → Action → Option Int}
end stable
end Go.Proofs.Ytknpgojdkobgjaa.W
set_option linter.unusedVariables false
set_option linter.unusedSimpArgs false
namespace Go.Proofs.Ytknpgojdkobgjaa.W
open Go Go.Wb
def wand (a b : Wide) : Wide := ⟨a.Hi &&& b.Hi, a.Lo &&& b.Lo⟩
def wor (a b : Wide) : Wide := ⟨a.Hi ||| b.Hi, a.Lo ||| b.Lo⟩
def wxor (a b : Wide) : Wide := ⟨a.Hi ^^^ b.Hi, a.Lo ^^^ b.Lo⟩
def wless (a b : Wide) : Wide := ⟨a.Hi &&& ~~~b.Hi, a.Lo &&& ~~~b.Lo⟩
def wt (a : Wide) (i : Nat) : Bool := bif Nat.blt i 64 then a.Lo.getLsbD i else a.Hi.getLsbD (i - 64)
def wbit (i : Nat) : Wide := bif Nat.blt i 64 then ⟨0, 1#64 <<< i⟩ else ⟨1#64 <<< (i - 64), 0⟩
theorem blt_t {i n : Nat} (h : i < n) : Nat.blt i n = true := by simpa using h
theorem blt_f {i n : Nat} (h : ¬ i < n) : Nat.blt i n = false := by
  cases hb : Nat.blt i n
  · rfl
  · exact absurd (by simpa using hb) h
theorem wt_ext {a b : Wide} (h : ∀ i, i < 128 → wt a i = wt b i) : a = b := by
  obtain ⟨ah, al⟩ := a
  obtain ⟨bh, bl⟩ := b
  have h1 : ah = bh := BitVec.eq_of_getLsbD_eq fun i hi => by
    have := h (i + 64) (by omega)
    unfold wt at this
    rw [blt_f (by omega)] at this
    simpa using this
  have h2 : al = bl := BitVec.eq_of_getLsbD_eq fun i hi => by
    have := h i (by omega)
    unfold wt at this
    rw [blt_t (by omega)] at this
    simpa using this
  rw [h1, h2]
theorem wt_and (a b : Wide) (i : Nat) : wt (wand a b) i = (wt a i && wt b i) := by
  unfold wt wand
  cases Nat.blt i 64 <;> simp
theorem wt_or (a b : Wide) (i : Nat) : wt (wor a b) i = (wt a i || wt b i) := by
  unfold wt wor
  cases Nat.blt i 64 <;> simp
theorem wt_less (a b : Wide) (i : Nat) (h : i < 128) : wt (wless a b) i = (wt a i && !wt b i) := by
  unfold wt wless
  by_cases hi : i < 64
  · rw [blt_t hi]; simp [hi]
  · rw [blt_f hi]; simp [show i - 64 < 64 by omega]
def wzero (a : Wide) : Bool := decide ((a.Hi ||| a.Lo) = (0 : BitVec 64))
theorem oushl_nat (x : BitVec 64) (n : Nat) : oushl x (n : Int) = some (x <<< n) := by
  unfold oushl
  rw [decide_eq_false (by omega)]
  simp
theorem F_wide_And_eq (a b : Wide) : F_wide_And a b = some (wand a b) := rfl
theorem F_wide_Or_eq (a b : Wide) : F_wide_Or a b = some (wor a b) := rfl
theorem F_wide_Less_eq (a b : Wide) : F_wide_Less a b = some (wless a b) := rfl
theorem F_wide_Bit_eq (i : Nat) (h : i < 128) : F_wide_Bit (i : Int) = some (wbit i) := by
  unfold F_wide_Bit
  have h1 : (decide ((i : Int) < 0) || decide ((i : Int) > 127)) = false := by simp; omega
  have hq : oquo .i64 (i : Int) 64 = some ((i / 64 : Nat) : Int) := by
    unfold oquo
    rw [decide_eq_false (by decide)]
    show some (IntKind.i64.wrap ((i / 64 : Nat) : Int)) = _
    rw [wrap_i64 (by omega) (by omega)]
  have hm : omod (i : Int) 64 = some ((i % 64 : Nat) : Int) := omod_nat i 64 (by omega)
  rw [h1, cond_false, hq, Option.bind_some, hm, Option.bind_some, oushl_nat, Option.bind_some, chk_nat (by omega), Option.bind_some]
  unfold wbit
  by_cases h2 : i < 64
  · rw [blt_t h2, cond_true]
    have e1 : i / 64 = 0 := by omega
    have e2 : i % 64 = i := by omega
    simp only [e1, e2]
    rfl
  · rw [blt_f h2, cond_false]
    have e1 : i / 64 = 1 := by omega
    have e2 : i % 64 = i - 64 := by omega
    simp only [e1, e2]
    rfl
abbrev Cube := Vector Tern 24
abbrev Header := Vector Wide 24
def tclean (t : Tern) : Tern := ⟨wand t.Value t.Mask, t.Mask⟩
theorem F_tern_Clean_eq (t : Tern) : F_tern_Clean t = some (tclean t) := rfl
def cclean (c : Cube) : Cube := Vector.ofFn fun i => tclean (ve c i.1)
theorem ve_cclean (c : Cube) (i : Nat) (h : i < 24) : ve (cclean c) i = tclean (ve c i) := ve_ofFn (fun i => tclean (ve c i)) i h
theorem tclean_clean (t : Tern) : tclean (tclean t) = tclean t := by
  unfold tclean
  congr 1
  exact wt_ext fun i hi => by simp only [wt_and]; cases wt t.Value i <;> cases wt t.Mask i <;> rfl
theorem cclean_clean (c : Cube) : cclean (cclean c) = cclean c := ve_ext fun i hi => by
  rw [ve_cclean _ _ hi, ve_cclean _ _ hi, tclean_clean]
def tover (a b : Tern) : Tern := ⟨wor (wless (tclean a).Value b.Mask) (tclean b).Value, wor a.Mask b.Mask⟩
theorem F_rewrite_over_eq (a b : Tern) : F_rewrite_over a b = some (tover a b) := rfl
def cthen (a b : Cube) : Cube := Vector.ofFn fun i => tover (ve a i.1) (ve b i.1)
theorem ve_cthen (a b : Cube) (i : Nat) (h : i < 24) : ve (cthen a b) i = tover (ve a i) (ve b i) := ve_ofFn (fun i => tover (ve a i) (ve b i)) i h
theorem F_rewrite_each_Rewrite_l1_eq (f : Int → Option Tern) (g : Nat → Tern) (hf : ∀ i : Nat, i < 24 → f (i : Int) = some (g i)) (b : Cube) : ∀ (m i : Nat), i + m = 24 → F_rewrite_each_Rewrite_l1 f m i (upto g b i) = some (Vector.ofFn (fun i => g i.1))
  | 0, i, h => by
    have : i = 24 := by omega
    subst this
    rw [F_rewrite_each_Rewrite_l1, upto_all]
  | m + 1, i, h => by
    rw [F_rewrite_each_Rewrite_l1, hf i (by omega), Option.bind_some, chk_nat (by omega), Option.bind_some]
    show F_rewrite_each_Rewrite_l1 f m (i + 1) (Vector.set (upto g b i) i (g i) _) = _
    rw [upto_set g b i (by omega), F_rewrite_each_Rewrite_l1_eq f g hf b m (i + 1) (by omega)]
theorem F_rewrite_each_Rewrite_eq (f : Int → Option Tern) (g : Nat → Tern) (hf : ∀ i : Nat, i < 24 → f (i : Int) = some (g i)) : F_rewrite_each_Rewrite f = some (Vector.ofFn (fun i => g i.1)) := by
  unfold F_rewrite_each_Rewrite
  have := F_rewrite_each_Rewrite_l1_eq f g hf (Vector.replicate 24 zTern) 24 0 rfl
  rw [upto_zero] at this
  exact this
theorem F_rewrite_Clean_eq (r : Cube) : F_rewrite_Clean r = some (cclean r) := by
  unfold F_rewrite_Clean
  rw [F_rewrite_each_Rewrite_eq (fun x => F_rewrite_Clean_1 x r) (fun i => tclean (ve r i)) (fun i hi => by unfold F_rewrite_Clean_1; rw [chk_nat hi, Option.bind_some, vget_eq, F_tern_Clean_eq]; rfl)]
  rfl
def capply (r : Cube) (h : Header) : Header := Vector.ofFn fun f => wor (wless (ve h f.1) (ve r f.1).Mask) (wand (ve r f.1).Value (ve r f.1).Mask)
theorem ve_capply (r : Cube) (h : Header) (f : Nat) (hf : f < 24) : ve (capply r h) f = wor (wless (ve h f) (ve r f).Mask) (wand (ve r f).Value (ve r f).Mask) := ve_ofFn (fun f => wor (wless (ve h f) (ve r f).Mask) (wand (ve r f).Value (ve r f).Mask)) f hf
theorem F_rewrite_Apply_l1_eq (r : Cube) (h : Header) : ∀ (l : List Tern) (i : Nat), i + l.length = 24 → l = (Vector.toList r).drop i → F_rewrite_Apply_l1 l i (upto (fun f => wor (wless (ve h f) (ve r f).Mask) (wand (ve r f).Value (ve r f).Mask)) h i) = some (capply r h)
  | [], i, h1, h2 => by
    have : i = 24 := by simpa using h1
    subst this
    rw [F_rewrite_Apply_l1, upto_all]; rfl
  | x :: l, i, h1, h2 => by
    simp only [List.length_cons] at h1
    have hi : i < (Vector.toList r).length := by simp; omega
    rw [List.drop_eq_getElem_cons hi] at h2
    obtain ⟨rfl, h3⟩ := List.cons.inj h2
    have hx : (Vector.toList r)[i] = ve r i := by rw [Vector.getElem_toList, ve_lt _ _ (by omega)]
    rw [F_rewrite_Apply_l1, hx, chk_nat (by omega), Option.bind_some, vget_eq, F_wide_Less_eq, Option.bind_some, F_wide_And_eq, Option.bind_some, F_wide_Or_eq, Option.bind_some, Option.bind_some, ve_upto _ _ _ _ (by omega), if_neg (by omega)]
    have := upto_set (fun f => wor (wless (ve h f) (ve r f).Mask) (wand (ve r f).Value (ve r f).Mask)) h i (by omega)
    rw [this]
    exact F_rewrite_Apply_l1_eq r h l (i + 1) (by omega) h3
theorem F_rewrite_Apply_eq (r : Cube) (h : Header) : F_rewrite_Apply r h = some (capply r h) := by
  unfold F_rewrite_Apply
  have := F_rewrite_Apply_l1_eq r h (Vector.toList r) 0 (by simp) rfl
  rw [upto_zero] at this
  exact this
def cset (r : Cube) (f : Int) (v m : Wide) : Cube := bif decide (f ≥ 0) && decide (f < 24) then Vector.ofFn fun i => if f.toNat = i.1 then tover (ve (cclean r) f.toNat) ⟨v, m⟩ else ve (cclean r) i.1 else cclean r
theorem F_rewrite_Set_eq (r : Cube) (f : Int) (v m : Wide) : F_rewrite_Set r f v m = some (cset r f v m) := by
  unfold F_rewrite_Set cset F_field_Right
  rw [F_rewrite_Clean_eq, Option.bind_some, Option.bind_some]
  cases hc : (decide (f ≥ 0) && decide (f < 24))
  · rfl
  · simp only [Bool.and_eq_true, decide_eq_true_eq] at hc
    obtain ⟨n, rfl⟩ : ∃ n : Nat, f = (n : Int) := ⟨f.toNat, by omega⟩
    have hn : n < 24 := by omega
    have e : Vector.set (cclean r) n (tover (ve (cclean r) n) ⟨v, m⟩) hn = Vector.ofFn fun i : _root_.Fin 24 => if n = i.1 then tover (ve (cclean r) n) ⟨v, m⟩ else ve (cclean r) i.1 := ve_ext fun j hj => by
      rw [ve_set _ _ _ _ _ hj]
      exact (ve_ofFn (fun i => if n = i then tover (ve (cclean r) n) ⟨v, m⟩ else ve (cclean r) i) j hj).symm
    rw [cond_true, cond_true, chk_nat hn, Option.bind_some, vget_eq, F_rewrite_over_eq, Option.bind_some, Option.bind_some, Int.toNat_natCast]
    exact congrArg some e
theorem F_wide_low_some (n : Int) : ∃ x, F_wide_low n = some x := by
  unfold F_wide_low
  cases decide (n ≥ 64)
  · have h0 : 0 ≤ imax n 0 := by
      unfold imax
      by_cases h : (0 : Int) > n
      · simp [h]
      · simp [h]; omega
    obtain ⟨k, hk⟩ : ∃ k : Nat, imax n 0 = (k : Int) := ⟨(imax n 0).toNat, by omega⟩
    rw [cond_false, hk, oushl_nat]
    exact ⟨_, rfl⟩
  · exact ⟨_, rfl⟩
def wlow (n : Int) : Wide := (F_wide_Low n).getD zWide
theorem F_wide_Low_eq (n : Int) : F_wide_Low n = some (wlow n) := by
  obtain ⟨x, hx⟩ := F_wide_low_some (IntKind.i64.wrap ((imin (imax n 0) 128) - 64))
  obtain ⟨y, hy⟩ := F_wide_low_some (imin (imax n 0) 128)
  have : F_wide_Low n = some ⟨x, y⟩ := by unfold F_wide_Low; rw [hx, Option.bind_some, hy]; rfl
  unfold wlow
  rw [this]; rfl
def fbits (n : Int) : Int := (F_field_Bits n).getD 0
theorem F_field_rows_some : ∃ v, F_field_rows = some v := by unfold F_field_rows; exact ⟨_, rfl⟩
theorem F_field_Bits_eq (n : Int) : F_field_Bits n = some (fbits n) := by
  have : ∃ x, F_field_Bits n = some x := by
    unfold F_field_Bits F_field_at F_field_Right
    rw [Option.bind_some]
    cases hc : (decide (n ≥ 0) && decide (n < 24))
    · exact ⟨_, rfl⟩
    · simp only [Bool.and_eq_true, decide_eq_true_eq] at hc
      obtain ⟨k, rfl⟩ : ∃ k : Nat, n = (k : Int) := ⟨n.toNat, by omega⟩
      obtain ⟨v, hv⟩ := F_field_rows_some
      rw [Bool.not_true, cond_false, hv, Option.bind_some, lget_lt (by simp; omega), Option.bind_some, Option.bind_some]
      exact ⟨_, rfl⟩
  obtain ⟨x, hx⟩ := this
  unfold fbits
  rw [hx]; rfl
def oxT (o : Oxm) : Tern := bif decide (o.Field ≥ 0) && decide (o.Field < 24) then (bif o.Masked then ⟨o.Value, o.Mask⟩ else ⟨o.Value, wlow (fbits o.Field)⟩) else ⟨zWide, zWide⟩
theorem F_oxm_Tern_eq (o : Oxm) : F_oxm_Tern o = some (oxT o) := by
  unfold F_oxm_Tern oxT F_field_Right
  rw [Option.bind_some]
  cases decide (o.Field ≥ 0) && decide (o.Field < 24)
  · rfl
  · rw [Bool.not_true, cond_false, cond_true]
    cases o.Masked
    · rw [cond_false, cond_false, F_field_Bits_eq, Option.bind_some, F_wide_Low_eq]; rfl
    · rfl
def none24 : Cube := Vector.replicate 24 zTern
def rwOf (a : Action) : Cube :=
  bif decide (a.Kind = 25) then cset none24 a.Oxm.Field (oxT a.Oxm).Value (oxT a.Oxm).Mask
  else bif decide (a.Kind = 17) then cset none24 5 (wbit 12) (wbit 12)
  else bif decide (a.Kind = 18) then cset (cset none24 5 ⟨0, 0⟩ (wlow 13)) 6 ⟨0, 0⟩ (wlow 3)
  else none24
theorem F_aset_Rewrite_eq (a : Action) : F_aset_Rewrite a = some (rwOf a) := by
  unfold F_aset_Rewrite rwOf
  rw [show F_rewrite_None = some none24 from rfl, Option.bind_some]
  cases decide (a.Kind = 25)
  · rw [cond_false, cond_false]
    cases decide (a.Kind = 17)
    · rw [cond_false, cond_false]
      cases decide (a.Kind = 18)
      · rfl
      · rw [cond_true, cond_true, F_wide_Low_eq, Option.bind_some, F_rewrite_Set_eq, Option.bind_some, F_wide_Low_eq, Option.bind_some, F_rewrite_Set_eq]; rfl
    · rw [cond_true, cond_true, show (12 : Int) = ((12 : Nat) : Int) from rfl, F_wide_Bit_eq 12 (by decide), Option.bind_some, Option.bind_some, F_rewrite_Set_eq]; rfl
  · rw [cond_true, cond_true, F_oxm_Tern_eq, Option.bind_some, F_rewrite_Set_eq]; rfl
def mostOf (a : Action) : Int := bif decide (a.Port = 4294967293) then a.Max else 0
theorem F_exec_most_eq (a : Action) : F_exec_most a = some (mostOf a) := by
  unfold F_exec_most mostOf
  cases decide (a.Port = 4294967293) <;> rfl
theorem fidx_split {α : Type} (p : α → Bool) : ∀ l : List α, 0 ≤ fidx p l → (l.take ((fidx p l).toNat + 1)).filter (fun x => !p x) = l.take (fidx p l).toNat
  | [], h => by simp [fidx] at h
  | x :: l, h => by
    unfold fidx at h ⊢
    cases hp : p x
    · rw [hp] at h
      by_cases h' : fidx p l < 0
      · simp [h'] at h
      · simp only [cond_false, decide_eq_false h']
        have e : (fidx p l + 1).toNat = (fidx p l).toNat + 1 := by omega
        rw [e, List.take_succ_cons, List.take_succ_cons, List.filter_cons_of_pos (by simp [hp]), fidx_split p l (by omega)]
    · simp [hp]
theorem fidx_all {α : Type} (p : α → Bool) (l : List α) (h : fidx p l < 0) : l.filter (fun x => !p x) = l := by
  rw [List.filter_eq_self]
  intro x hx
  rw [fidx_none p l h x hx]; rfl
theorem fidx_find {α : Type} (p : α → Bool) : ∀ l : List α, (fidx p l < 0 ∧ l.find? p = none) ∨ ∃ n : Nat, fidx p l = (n : Int) ∧ ∃ h : n < l.length, l.find? p = some l[n] ∧ p l[n] = true
  | [] => .inl ⟨by simp [fidx], rfl⟩
  | x :: l => by
    unfold fidx
    cases hp : p x
    · rw [cond_false, List.find?_cons_of_neg (by simp [hp])]
      rcases fidx_find p l with ⟨h1, h2⟩ | ⟨n, h1, h2, h3, h4⟩
      · left; rw [decide_eq_true h1]; exact ⟨by show (-1 : Int) < 0; decide, h2⟩
      · right
        rw [decide_eq_false (by omega)]
        exact ⟨n + 1, by show fidx p l + 1 = _; omega, by simp; omega, by simpa using h3, by simpa using h4⟩
    · right
      exact ⟨0, rfl, by simp, by rw [List.find?_cons_of_pos hp]; rfl, hp⟩
theorem F_slices_IndexFunc_Action_eq (s : List Action) (f : Action → Option Bool) (p : Action → Bool) (hf : ∀ x ∈ s, f x = some (p x)) : F_slices_IndexFunc_Action s f = some (fidx p s) := by
  unfold F_slices_IndexFunc_Action
  rw [show ((s.length : Int)).toNat = s.length by omega]
  exact idx_spec p (fun i => by rw [F_slices_IndexFunc_Action_l1]) (fun m i => by rw [F_slices_IndexFunc_Action_l1]) hf
theorem F_slices_IndexFunc_Group_eq (s : List Group) (f : Group → Option Bool) (p : Group → Bool) (hf : ∀ x ∈ s, f x = some (p x)) : F_slices_IndexFunc_Group s f = some (fidx p s) := by
  unfold F_slices_IndexFunc_Group
  rw [show ((s.length : Int)).toNat = s.length by omega]
  exact idx_spec p (fun i => by rw [F_slices_IndexFunc_Group_l1]) (fun m i => by rw [F_slices_IndexFunc_Group_l1]) hf
theorem F_slices_IndexFunc_Bucket_eq (s : List Bucket) (f : Bucket → Option Bool) (p : Bucket → Bool) (hf : ∀ x ∈ s, f x = some (p x)) : F_slices_IndexFunc_Bucket s f = some (fidx p s) := by
  unfold F_slices_IndexFunc_Bucket
  rw [show ((s.length : Int)).toNat = s.length by omega]
  exact idx_spec p (fun i => by rw [F_slices_IndexFunc_Bucket_l1]) (fun m i => by rw [F_slices_IndexFunc_Bucket_l1]) hf
theorem F_slices_Index_int_eq (s : List Int) (v : Int) : F_slices_Index_int s v = some (fidx (fun x => decide (v = x)) s) := by
  unfold F_slices_Index_int
  rw [show ((s.length : Int)).toNat = s.length by omega]
  exact idx_spec (f := fun x => some (decide (v = x))) (fun x => decide (v = x)) (fun i => by rw [F_slices_Index_int_l1]) (fun m i => by rw [F_slices_Index_int_l1]; rfl) (fun _ _ => rfl)
theorem F_slices_Contains_int_eq (s : List Int) (v : Int) : F_slices_Contains_int s v = some (s.contains v) := by
  unfold F_slices_Contains_int; rw [F_slices_Index_int_eq, Option.bind_some, fidx_any]
  congr 1
  rw [Bool.eq_iff_iff, List.any_eq_true, List.contains_iff_mem]
  simp
theorem F_env_Up_eq (e : Env) (n : Int) : F_env_Up e n = some (!e.Down.contains n) := by
  unfold F_env_Up; rw [F_slices_Contains_int_eq]; rfl
theorem F_slices_DeleteFunc_Action_eq (s : List Action) (f : Action → Option Bool) (p : Action → Bool) (hf : ∀ x ∈ s, f x = some (p x)) (hl : s.length ≤ lim) : F_slices_DeleteFunc_Action s f = some (s.filter (fun x => !p x)) := by
  have hlim : lim = 4294967296 := rfl
  unfold F_slices_DeleteFunc_Action
  rw [F_slices_IndexFunc_Action_eq s f p hf, Option.bind_some]
  by_cases h : fidx p s < 0
  · have := fidx_ge p s
    rw [decide_eq_true (by omega), cond_true, fidx_all p s h]
  · have hlt := fidx_lt p s
    rw [decide_eq_false (by omega), cond_false, wrap_i64 (by omega) (by omega)]
    have key := del_spec (z := zAction) (G := F_slices_DeleteFunc_Action_l1 f) (s := s) (f := f) p (fun m l i j => by rw [F_slices_DeleteFunc_Action_l1]) hf hl (((s.length : Int) - (fidx p s + 1)).toNat + 1) s (fidx p s).toNat ((fidx p s).toNat + 1) (by omega) (by omega) (by omega) rfl rfl (fidx_split p s (by omega)).symm
    rw [show ((fidx p s).toNat : Int) = fidx p s by omega, show (((fidx p s).toNat + 1 : Nat) : Int) = fidx p s + 1 by omega] at key
    exact key
theorem F_slices_ContainsFunc_Action_eq (s : List Action) (f : Action → Option Bool) (p : Action → Bool) (hf : ∀ x ∈ s, f x = some (p x)) : F_slices_ContainsFunc_Action s f = some (s.any p) := by
  unfold F_slices_ContainsFunc_Action; rw [F_slices_IndexFunc_Action_eq s f p hf, Option.bind_some, fidx_any]
def keyOf (a : Action) : aset_spot := bif decide (a.Kind = 25) then ⟨a.Kind, a.Oxm.Field⟩ else ⟨a.Kind, 0⟩
theorem F_aset_at_eq (a : Action) : F_aset_at a = some (keyOf a) := by
  unfold F_aset_at keyOf
  cases decide (a.Kind = 25) <;> rfl
theorem F_aset_Write_1_eq (b c : Action) : F_aset_Write_1 b c = some (decide (keyOf c = keyOf b)) := by
  unfold F_aset_Write_1
  rw [F_aset_at_eq, Option.bind_some, F_aset_at_eq]; rfl
def wr1 (l : List Action) (x : Action) : List Action := bif decide (fidx (fun b => decide (keyOf x = keyOf b)) l < 0) then l ++ [x] else l.set (fidx (fun b => decide (keyOf x = keyOf b)) l).toNat x
theorem wr1_len (l : List Action) (x : Action) : (wr1 l x).length ≤ l.length + 1 := by
  unfold wr1
  cases decide (fidx (fun b => decide (keyOf x = keyOf b)) l < 0) <;> simp
theorem F_aset_Write_l1_eq : ∀ (l : List Action) (i : Nat) (acc : List Action), acc.length + l.length ≤ lim → F_aset_Write_l1 l i acc = some (l.foldl wr1 acc)
  | [], i, acc, _ => by rw [F_aset_Write_l1]; rfl
  | x :: l, i, acc, h => by
    simp only [List.length_cons] at h
    have hw := wr1_len acc x
    rw [F_aset_Write_l1, F_slices_IndexFunc_Action_eq acc (fun y => F_aset_Write_1 y x) (fun b => decide (keyOf x = keyOf b)) (fun y _ => F_aset_Write_1_eq y x), Option.bind_some, List.foldl_cons]
    have hi := fidx_lt (fun b => decide (keyOf x = keyOf b)) acc
    by_cases hc : fidx (fun b => decide (keyOf x = keyOf b)) acc < 0
    · rw [decide_eq_true hc, cond_true, appd_ok (by simp; omega), Option.bind_some, F_aset_Write_l1_eq l (i + 1) _ (by simp; omega)]
      unfold wr1
      rw [decide_eq_true hc, cond_true]
    · obtain ⟨n, hn⟩ : ∃ n : Nat, fidx (fun b => decide (keyOf x = keyOf b)) acc = (n : Int) := ⟨(fidx (fun b => decide (keyOf x = keyOf b)) acc).toNat, by omega⟩
      rw [decide_eq_false hc, cond_false, hn, lget_lt (by omega), Option.bind_some, F_aset_Write_l1_eq l (i + 1) _ (by simp; omega)]
      unfold wr1
      rw [decide_eq_false hc, cond_false, hn]
theorem F_aset_Write_eq (s l : List Action) (h : s.length + l.length ≤ lim) : F_aset_Write s l = some (l.foldl wr1 s) := by
  unfold F_aset_Write F_slices_Clone_Action
  rw [appd_ok (by simp; omega), Option.bind_some, List.nil_append, F_aset_Write_l1_eq l 0 s h]
theorem wr_len : ∀ (l s : List Action), (l.foldl wr1 s).length ≤ s.length + l.length
  | [], s => by simp
  | x :: l, s => by
    have h1 := wr_len l (wr1 s x)
    have h2 := wr1_len s x
    rw [List.foldl_cons, List.length_cons]; omega
theorem wr1_nodup (l : List Action) (x : Action) (h : (l.map keyOf).Nodup) : ((wr1 l x).map keyOf).Nodup := by
  unfold wr1
  rcases fidx_find (fun b => decide (keyOf x = keyOf b)) l with ⟨h1, h2⟩ | ⟨n, h1, h2, h3, h4⟩
  · rw [decide_eq_true h1, cond_true, List.map_append, List.nodup_append]
    refine ⟨h, by simp, ?_⟩
    intro a ha b hb e
    simp only [List.map_cons, List.map_nil, List.mem_singleton] at hb
    subst e; subst hb
    obtain ⟨y, hy, hk⟩ := List.mem_map.1 ha
    have := List.find?_eq_none.1 h2 y hy
    simp [hk] at this
  · rw [decide_eq_false (by omega), cond_false, h1, Int.toNat_natCast]
    have hk : keyOf x = keyOf l[n] := by simpa using h4
    have : (l.set n x).map keyOf = l.map keyOf := by
      rw [List.map_set, hk]
      apply List.ext_getElem
      · simp
      · intro i h5 h6
        rw [List.getElem_set]
        split
        · rename_i e; subst e; simp
        · rfl
    rw [this]; exact h
theorem wr_nodup : ∀ (l s : List Action), (s.map keyOf).Nodup → ((l.foldl wr1 s).map keyOf).Nodup
  | [], s, h => h
  | x :: l, s, h => wr_nodup l _ (wr1_nodup s x h)
def turnOf (k : Int) : Int := fidx (fun x => decide (k = x)) [18, 17, 25, 22, 0]
theorem F_aset_turn_eq (k : Int) : F_aset_turn k = some (turnOf k) := by
  unfold F_aset_turn turnOf
  rw [F_slices_Index_int_eq]; rfl
def keepA (goes : Bool) (a : Action) : Bool := !(decide (turnOf a.Kind < 0) || (goes && decide (a.Kind = 0)))
def cmpA (a b : Action) : Int :=
  bif decide (IntKind.i64.wrap (turnOf (keyOf a).kind - turnOf (keyOf b).kind) ≠ 0) then IntKind.i64.wrap (turnOf (keyOf a).kind - turnOf (keyOf b).kind)
  else bif decide ((keyOf a).field < (keyOf b).field) then -1 else bif decide ((keyOf a).field > (keyOf b).field) then 1 else 0
theorem F_aset_List_3_eq (a b : Action) : F_aset_List_3 a b = some (cmpA a b) := by
  unfold F_aset_List_3 cmpA
  rw [F_aset_at_eq, Option.bind_some, F_aset_at_eq, Option.bind_some, F_aset_turn_eq, Option.bind_some, F_aset_turn_eq, Option.bind_some]
  cases decide (IntKind.i64.wrap (turnOf (keyOf a).kind - turnOf (keyOf b).kind) ≠ 0)
  · rw [cond_false, cond_false]
    cases decide ((keyOf a).field < (keyOf b).field)
    · rw [cond_false, cond_false]
      cases decide ((keyOf a).field > (keyOf b).field) <;> rfl
    · rfl
  · rfl
theorem rins_perm {α : Type} (lt : α → α → Bool) (x : α) : ∀ R : List α, (rins lt x R).Perm (x :: R)
  | [] => List.Perm.refl _
  | y :: R => by
    rw [rins]
    cases lt x y
    · exact List.Perm.refl _
    · exact ((rins_perm lt x R).cons y).trans (List.Perm.swap x y R)
theorem foldr_perm {α : Type} (lt : α → α → Bool) : ∀ (l R : List α), (l.foldl (fun R x => rins lt x R) R).Perm (l ++ R)
  | [], R => List.Perm.refl _
  | x :: l, R => by
    rw [List.foldl_cons]
    refine (foldr_perm lt l _).trans ?_
    refine ((rins_perm lt x R).append_left l).trans ?_
    exact List.perm_middle
theorem srt_perm {α : Type} (lt : α → α → Bool) (l : List α) : (srt lt l).Perm l := by
  unfold srt
  refine (List.reverse_perm _).trans ?_
  have := foldr_perm lt l []
  rwa [List.append_nil] at this
theorem rins_len {α : Type} (lt : α → α → Bool) (x : α) (R : List α) : (rins lt x R).length = R.length + 1 := by
  have := (rins_perm lt x R).length_eq
  simpa using this
def ltA (a b : Action) : Bool := decide (cmpA a b < 0)
theorem F_slices_insertionSortCmpFunc_Action_l2_eq (go : List Action → Int → Option (List Action)) (i : Int) (x : Action) : ∀ (R S : List Action) (m : Nat), R.length < m → R.length ≤ lim →
    F_slices_insertionSortCmpFunc_Action_l2 0 F_aset_List_3 go i m (R.reverse ++ x :: S) (R.length : Int) = go ((rins ltA x R).reverse ++ S) (IntKind.i64.wrap (i + 1))
  | [], S, m, h, _ => by
    obtain ⟨m, rfl⟩ : ∃ k, m = k + 1 := ⟨m - 1, by simp at h; omega⟩
    rw [F_slices_insertionSortCmpFunc_Action_l2]
    simp [opt, rins]
  | y :: R, S, m, h, hl => by
    have hlim : lim = 4294967296 := rfl
    simp only [List.length_cons] at h hl
    obtain ⟨m, rfl⟩ : ∃ k, m = k + 1 := ⟨m - 1, by omega⟩
    have e0 : (y :: R).reverse ++ x :: S = R.reverse ++ y :: x :: S := by simp
    have ej : IntKind.i64.wrap (((y :: R).length : Int) - 1) = (R.length : Int) := by rw [wrap_i64 (by simp only [List.length_cons]; omega) (by simp only [List.length_cons]; omega)]; simp only [List.length_cons]; omega
    have hlen : ∀ a b : Action, (R.reverse ++ a :: b :: S).length = R.length + (S.length + 2) := fun a b => by simp
    have g1 : ∀ a b : Action, lget (R.reverse ++ a :: b :: S) (((y :: R).length : Int)) = some b := fun a b => by
      rw [lget_nat, List.getElem?_append_right (by simp)]; first | done | simp
    have g0 : ∀ a b : Action, lget (R.reverse ++ a :: b :: S) ((R.length : Int)) = some a := fun a b => by
      rw [lget_nat, List.getElem?_append_right (by simp)]; first | done | simp
    have s1 : ∀ a b c : Action, List.set (R.reverse ++ a :: b :: S) (((y :: R).length : Int)).toNat c = R.reverse ++ a :: c :: S := fun a b c => by
      rw [Int.toNat_natCast, List.set_append_right _ _ (by simp)]; first | done | simp
    have s0 : ∀ a b c : Action, List.set (R.reverse ++ a :: b :: S) ((R.length : Int)).toNat c = R.reverse ++ c :: b :: S := fun a b c => by
      rw [Int.toNat_natCast, List.set_append_right _ _ (by simp)]; first | done | simp
    rw [e0, F_slices_insertionSortCmpFunc_Action_l2, decide_eq_true (by simp only [List.length_cons]; omega), opt_true, g1, Option.bind_some, opt_true, ej, g0, Option.bind_some, opt_true, F_aset_List_3_eq, Option.bind_some, Bool.true_and, rins]
    show (bif ltA x y then _ else _) = _
    cases ltA x y
    · rw [cond_false, cond_false]
      simp
    · rw [cond_true, cond_true, Option.bind_some, Option.bind_some, Option.bind_some, s1, g0, Option.bind_some, s0, F_slices_insertionSortCmpFunc_Action_l2_eq go i x R (y :: S) m (by omega) (by omega)]
      simp
theorem F_slices_insertionSortCmpFunc_Action_l1_eq : ∀ (T R : List Action) (m : Nat), T.length < m → 1 ≤ R.length → R.length + T.length ≤ 1000 →
    F_slices_insertionSortCmpFunc_Action_l1 ((R.length + T.length : Nat) : Int) 0 F_aset_List_3 m (R.reverse ++ T) (R.length : Int) = some ((T.foldl (fun R x => rins ltA x R) R).reverse)
  | [], R, m, h, _, _ => by
    obtain ⟨m, rfl⟩ : ∃ k, m = k + 1 := ⟨m - 1, by simp at h; omega⟩
    rw [F_slices_insertionSortCmpFunc_Action_l1, decide_eq_false (by simp), cond_false]
    simp
  | x :: T, R, m, h, h1, h2 => by
    have hlim : lim = 4294967296 := rfl
    simp only [List.length_cons] at h h2
    obtain ⟨m, rfl⟩ : ∃ k, m = k + 1 := ⟨m - 1, by omega⟩
    have e : IntKind.i64.wrap ((R.length : Int) + 1) = (((rins ltA x R).length : Nat) : Int) := by rw [rins_len, wrap_i64 (by omega) (by omega)]; omega
    have hn : R.length + (x :: T).length = (rins ltA x R).length + T.length := by rw [rins_len, List.length_cons]; omega
    rw [F_slices_insertionSortCmpFunc_Action_l1, decide_eq_true (by simp; omega), cond_true, F_slices_insertionSortCmpFunc_Action_l2_eq _ _ x R T fuel0 (by unfold fuel0; omega) (by omega), e, hn, F_slices_insertionSortCmpFunc_Action_l1_eq T (rins ltA x R) m (by omega) (by rw [rins_len]; omega) (by rw [rins_len]; omega), List.foldl_cons]
theorem F_slices_insertionSortCmpFunc_Action_eq (l : List Action) (h : l.length ≤ 1000) : F_slices_insertionSortCmpFunc_Action l 0 (l.length : Int) F_aset_List_3 = some (srt ltA l) := by
  unfold F_slices_insertionSortCmpFunc_Action srt
  have e : IntKind.i64.wrap ((0 : Int) + 1) = 1 := by decide
  rw [e]
  cases l with
  | nil => rfl
  | cons x l =>
    simp only [List.length_cons] at h
    have := F_slices_insertionSortCmpFunc_Action_l1_eq l [x] ((((x :: l).length : Int) - 1).toNat + 1) (by simp) (by simp) (by simp; omega)
    have e2 : (([x].length + l.length : Nat) : Int) = ((x :: l).length : Int) := by simp; omega
    rw [e2] at this
    simp only [List.reverse_singleton, List.singleton_append] at this
    rw [List.foldl_cons]
    exact this
theorem F_slices_SortStableFunc_Action_eq (l : List Action) (h : l.length < 20) : F_slices_SortStableFunc_Action l F_aset_List_3 = some (srt ltA l) := by
  unfold F_slices_SortStableFunc_Action F_slices_stableCmpFunc_Action
  obtain ⟨m, hm⟩ : ∃ m, (((l.length : Int) : Int) - 20).toNat + 2 = m + 1 := ⟨_, rfl⟩
  rw [hm, F_slices_stableCmpFunc_Action_l1, decide_eq_false (by omega), cond_false, F_slices_insertionSortCmpFunc_Action_eq l (by omega), Option.bind_some]
  obtain ⟨k, hk⟩ : ∃ m, (((l.length : Int) : Int) - 20).toNat + 1 = m + 1 := ⟨_, rfl⟩
  rw [hk, F_slices_stableCmpFunc_Action_l2, decide_eq_false (by omega), cond_false]
  rfl
def lstA (s : List Action) : List Action := srt ltA (s.filter (keepA (s.any fun a => decide (a.Kind = 22))))
theorem F_aset_List_eq (s : List Action) (h : s.length < 20) : F_aset_List s = some (lstA s) := by
  have hlim : lim = 4294967296 := rfl
  unfold F_aset_List F_slices_Clone_Action lstA
  rw [F_slices_ContainsFunc_Action_eq s F_aset_List_1 (fun a => decide (a.Kind = 22)) (fun _ _ => rfl), Option.bind_some, appd_ok (by simp; omega), Option.bind_some, List.nil_append]
  have hf : ∀ a : Action, F_aset_List_2 a (s.any fun a => decide (a.Kind = 22)) = some (!keepA (s.any fun a => decide (a.Kind = 22)) a) := fun a => by
    unfold F_aset_List_2 keepA
    rw [F_aset_turn_eq, Option.bind_some, Bool.not_not]
  rw [F_slices_DeleteFunc_Action_eq s _ (fun a => !keepA (s.any fun a => decide (a.Kind = 22)) a) (fun a _ => hf a) (by omega), Option.bind_some]
  simp only [Bool.not_not]
  rw [F_slices_SortStableFunc_Action_eq _ (Nat.lt_of_le_of_lt (List.length_filter_le ..) h)]
  rfl
def lightB (bs : List Bucket) : Prop := bs.length ≤ 3 ∧ ∀ x ∈ bs, x.Acts.length ≤ 12
def lightG (l : List Group) : Prop := l.length ≤ 9 ∧ ∀ g ∈ l, lightB g.Buckets
theorem F_group_copies_l1_eq (bs : List Bucket) (h : ∀ x ∈ bs, x.Acts.length ≤ 12) : ∀ (m i : Nat), i + m = bs.length → F_group_copies_l1 m i bs = some bs
  | 0, i, _ => by rw [F_group_copies_l1]
  | m + 1, i, hi => by
    have hlim : lim = 4294967296 := rfl
    have hlt : i < bs.length := by omega
    have ha := h bs[i] (List.getElem_mem hlt)
    have e : List.set bs ((i : Int)).toNat { bs[i] with Acts := bs[i].Acts } = bs := by
      rw [Int.toNat_natCast]; exact List.set_getElem_self hlt
    rw [F_group_copies_l1, lget_lt hlt, Option.bind_some]
    unfold F_slices_Clone_Action
    rw [appd_ok (by simp; omega), Option.bind_some, Option.bind_some, List.nil_append, e]
    exact F_group_copies_l1_eq bs h m (i + 1) (by omega)
theorem F_group_copies_eq (bs : List Bucket) (h : lightB bs) : F_group_copies bs = some bs := by
  have hlim : lim = 4294967296 := rfl
  have := h.1
  unfold F_group_copies F_slices_Clone_Bucket
  rw [appd_ok (by simp; omega), Option.bind_some, List.nil_append, show ((bs.length : Int)).toNat = bs.length by omega]
  exact F_group_copies_l1_eq bs h.2 bs.length 0 (by omega)
theorem F_group_fresh_eq (g : Group) (h : lightB g.Buckets) : F_group_fresh [g] = some [g] := by
  unfold F_group_fresh F_slices_Clone_Group
  rw [appd_ok (by simp [lim]), Option.bind_some]
  show F_group_fresh_l1 1 0 [g] = _
  rw [F_group_fresh_l1]
  show ((some g).bind fun e8 => _) = _
  rw [Option.bind_some, F_group_copies_eq _ h, Option.bind_some]
  rfl
def findG (l : List Group) (id : Int) : Option Group := l.find? fun g => decide (g.ID = id)
theorem F_group_Find_eq (l : List Group) (id : Int) (hl : lightG l) : F_group_Find l id = some (match findG l id with | none => ((⟨0, 0, []⟩ : Group), false) | some g => (g, true)) := by
  have h9 := hl.1
  unfold F_group_Find F_group_place findG
  rw [F_slices_IndexFunc_Group_eq l (fun x => F_group_place_1 x id) (fun g => decide (g.ID = id)) (fun _ _ => rfl), Option.bind_some, Option.bind_some]
  rcases fidx_find (fun g : Group => decide (g.ID = id)) l with ⟨h1, h2⟩ | ⟨n, h1, h2, h3, h4⟩
  · rw [decide_eq_true h1, cond_true, h2]
  · have hs : oslice l (n : Int) (IntKind.i64.wrap ((n : Int) + 1)) = some [l[n]] := by
      rw [wrap_i64 (by omega) (by omega)]
      unfold oslice
      rw [decide_eq_true (by omega), decide_eq_true (by omega), Nat.ble_eq_true_of_le (by omega)]
      show some _ = some _
      have e2 : ((n : Int) + 1).toNat = n + 1 := by omega
      have e3 : (l.take n).length = n := by simp; omega
      rw [e2, Int.toNat_natCast, List.take_succ_eq_append_getElem h2, List.drop_append, e3, List.drop_of_length_le (by omega), Nat.sub_self]
      rfl
    rw [decide_eq_false (by omega), cond_false, h1, hs, Option.bind_some, F_group_fresh_eq _ (hl.2 _ (List.getElem_mem h2)), Option.bind_some, h3]
    rfl
theorem findG_mem {l : List Group} {id : Int} {g : Group} (h : findG l id = some g) : g ∈ l := List.mem_of_find?_eq_some h
def whichOf (e : Env) (n : Nat) : Int := (F_env_Which e (n : Int)).getD 0
theorem F_env_Which_eq (e : Env) (n : Nat) (hn : 0 < n) (hn2 : n ≤ 1000) : F_env_Which e (n : Int) = some (whichOf e n) ∧ 0 ≤ whichOf e n ∧ whichOf e n < n := by
  have key : ∃ t, F_env_Which e (n : Int) = some t ∧ 0 ≤ t ∧ t < n := by
    unfold F_env_Which omod
    rw [decide_eq_false (by omega), cond_false, decide_eq_false (by omega), cond_false, Option.bind_some]
    have h1 := Int.tmod_lt_of_pos e.Turn (show (0 : Int) < n by omega)
    have h2 : -(n : Int) < e.Turn.tmod (n : Int) := by
      have := Int.lt_tmod_of_pos e.Turn (show (0 : Int) < n by omega)
      exact this
    by_cases hc : e.Turn.tmod (n : Int) < 0
    · rw [decide_eq_true hc, cond_true, wrap_i64 (by omega) (by omega)]
      exact ⟨_, rfl, by omega, by omega⟩
    · rw [decide_eq_false hc, cond_false]
      exact ⟨_, rfl, by omega, by omega⟩
  obtain ⟨t, ht, h1, h2⟩ := key
  have e : whichOf e n = t := by unfold whichOf; rw [ht]; rfl
  rw [e]
  exact ⟨ht, h1, h2⟩
def upOf (e : Env) (bs : List Bucket) : Int := fidx (fun x => !e.Down.contains x.Watch) bs
def takesOf (e : Env) (g : Group) : List Int :=
  bif decide (g.Buckets.length = 0) then []
  else bif decide (g.Kind = 0) then (List.range' 0 g.Buckets.length).map fun (i : Nat) => (i : Int)
  else bif decide (g.Kind = 1) then [whichOf e g.Buckets.length]
  else bif decide (g.Kind = 2) then [0]
  else bif decide (g.Kind = 3) then (bif decide (upOf e g.Buckets ≥ 0) then [upOf e g.Buckets] else [])
  else []
theorem F_env_Takes_l1_eq : ∀ (m i : Nat) (acc : List Int), acc.length + m ≤ lim → F_env_Takes_l1 m i acc = some (acc ++ (List.range' i m).map fun (i : Nat) => (i : Int))
  | 0, i, acc, _ => by rw [F_env_Takes_l1]; simp
  | m + 1, i, acc, h => by
    rw [F_env_Takes_l1, appd_ok (by simp; omega), Option.bind_some, F_env_Takes_l1_eq m (i + 1) _ (by simp; omega), List.range'_succ]
    simp
theorem F_env_Takes_eq (e : Env) (g : Group) (h : lightB g.Buckets) : F_env_Takes e g = some (takesOf e g) := by
  have hlim : lim = 4294967296 := rfl
  have h3 := h.1
  unfold F_env_Takes takesOf
  simp only
  have hz : decide ((g.Buckets.length : Int) = 0) = decide (g.Buckets.length = 0) := by
    rw [decide_eq_decide]; omega
  rw [hz]
  by_cases h0 : g.Buckets.length = 0
  · rw [decide_eq_true h0]; rfl
  · rw [decide_eq_false h0, cond_false, cond_false]
    cases decide (g.Kind = 0)
    · rw [cond_false, cond_false]
      cases decide (g.Kind = 1)
      · rw [cond_false, cond_false]
        cases decide (g.Kind = 2)
        · rw [cond_false, cond_false]
          cases decide (g.Kind = 3)
          · rfl
          · rw [cond_true, cond_true]
            unfold F_env_world_up upOf
            simp only
            rw [F_slices_IndexFunc_Bucket_eq g.Buckets (fun x => F_env_world_up_1 x (⟨e, g⟩ : env_world)) (fun x => !e.Down.contains x.Watch) (fun x _ => by unfold F_env_world_up_1; rw [F_env_Up_eq]; rfl), Option.bind_some, Option.bind_some]
            cases decide (fidx (fun x => !e.Down.contains x.Watch) g.Buckets ≥ 0) <;> rfl
        · rfl
      · rw [cond_true, cond_true, (F_env_Which_eq e g.Buckets.length (by omega) (by omega)).1]; rfl
    · rw [cond_true, cond_true, show ((g.Buckets.length : Int)).toNat = g.Buckets.length by omega, F_env_Takes_l1_eq _ 0 [] (by simp; omega)]
      rfl
theorem takesOf_ok (e : Env) (g : Group) (h : lightB g.Buckets) : (takesOf e g).length ≤ 3 ∧ ∀ i ∈ takesOf e g, ∃ n : Nat, i = (n : Int) ∧ n < g.Buckets.length := by
  have h3 := h.1
  unfold takesOf
  by_cases h0 : g.Buckets.length = 0
  · rw [decide_eq_true h0]; simp
  · rw [decide_eq_false h0, cond_false]
    cases decide (g.Kind = 0)
    · rw [cond_false]
      cases decide (g.Kind = 1)
      · rw [cond_false]
        cases decide (g.Kind = 2)
        · rw [cond_false]
          cases decide (g.Kind = 3)
          · simp
          · rw [cond_true]
            have hlt := fidx_lt (fun x : Bucket => !e.Down.contains x.Watch) g.Buckets
            by_cases hc : upOf e g.Buckets ≥ 0
            · rw [decide_eq_true hc, cond_true]
              refine ⟨by simp, fun i hi => ?_⟩
              rw [List.mem_singleton] at hi
              subst hi
              exact ⟨(upOf e g.Buckets).toNat, by omega, by unfold upOf at hc ⊢; omega⟩
            · rw [decide_eq_false hc, cond_false]; simp
        · refine ⟨by simp, fun i hi => ?_⟩
          simp only [cond_true, List.mem_singleton] at hi
          subst hi
          exact ⟨0, rfl, by omega⟩
      · obtain ⟨_, h1, h2⟩ := F_env_Which_eq e g.Buckets.length (by omega) (by omega)
        refine ⟨by simp, fun i hi => ?_⟩
        simp only [cond_true, List.mem_singleton] at hi
        subst hi
        exact ⟨(whichOf e g.Buckets.length).toNat, by omega, by omega⟩
    · refine ⟨by simp; omega, fun i hi => ?_⟩
      simp only [cond_true, List.mem_map] at hi
      obtain ⟨n, hn, rfl⟩ := hi
      exact ⟨n, rfl, by have := (List.mem_range'_1.1 hn).2; omega⟩
def setActs (acts : List Action) : List Action := lstA (acts.foldl wr1 [])
def outs (l : List Action) : Nat := l.countP fun a => decide (a.Kind = 0) || decide (a.Kind = 22)
theorem key_of_kind {a b : Action} (ha : a.Kind ≠ 25) (h : a.Kind = b.Kind) : keyOf a = keyOf b := by
  unfold keyOf
  rw [decide_eq_false ha, decide_eq_false (h ▸ ha), h]; rfl
theorem count_one (k : Int) (hk : k ≠ 25) : ∀ l : List Action, (l.map keyOf).Nodup → (l.countP fun a => decide (a.Kind = k)) ≤ 1
  | [], _ => by simp
  | a :: l, h => by
    rw [List.map_cons, List.nodup_cons] at h
    rw [List.countP_cons]
    have ih := count_one k hk l h.2
    by_cases ha : a.Kind = k
    · have : (l.countP fun a => decide (a.Kind = k)) = 0 := by
        rw [List.countP_eq_zero]
        intro b hb hbk
        have hbk' : b.Kind = k := by simpa using hbk
        exact h.1 (List.mem_map.2 ⟨b, hb, (key_of_kind (by rw [ha]; exact hk) (by rw [ha, hbk'])).symm⟩)
      rw [this, decide_eq_true ha]; simp
    · rw [decide_eq_false ha]; simpa using ih
theorem outs_perm {l m : List Action} (h : l.Perm m) : outs l = outs m := h.countP_eq _
theorem outs_set (acts : List Action) : outs (setActs acts) ≤ 1 := by
  unfold setActs lstA
  rw [outs_perm (srt_perm _ _)]
  have hn := wr_nodup acts [] (by simp)
  generalize acts.foldl wr1 [] = s at *
  unfold outs
  rw [List.countP_filter]
  cases hg : s.any (fun a => decide (a.Kind = 22))
  · refine Nat.le_trans (List.countP_mono_left fun a ha h => ?_) (count_one 0 (by decide) s hn)
    rw [List.any_eq_false] at hg
    have := hg a ha
    simp only [Bool.and_eq_true, Bool.or_eq_true, decide_eq_true_eq] at h
    rcases h.1 with h | h
    · simpa using h
    · exact absurd (by simpa using h) this
  · refine Nat.le_trans (List.countP_mono_left fun a ha h => ?_) (count_one 22 (by decide) s hn)
    simp only [Bool.and_eq_true, Bool.or_eq_true, decide_eq_true_eq] at h
    rcases h.1 with h1 | h1
    · have h2 := h.2
      unfold keepA at h2
      simp [h1] at h2
    · simpa using h1
def doA (G : Int → Header → List Out) : List Action → List Out → Header → List Out × Header
  | [], o, h => (o, h)
  | a :: l, o, h => bif decide (a.Kind = 0) then doA G l (o ++ [⟨a.Port, mostOf a, h⟩]) h
    else bif decide (a.Kind = 22) then doA G l (o ++ G a.Group h) h
    else doA G l o (capply (rwOf a) h)
def bucketActs (bs : List Bucket) (i : Int) : List Action := match bs[i.toNat]? with
  | some b => b.Acts
  | none => []
def goG (l : List Group) (e : Env) : Nat → Int → Header → List Out
  | 0, _, _ => []
  | d + 1, id, h => match findG l id with
    | none => []
    | some g => (takesOf e g).flatMap fun i => (doA (goG l e d) (setActs (bucketActs g.Buckets i)) [] h).1
theorem doA_frame (G : Int → Header → List Out) : ∀ (l : List Action) (o : List Out) (h : Header), doA G l o h = (o ++ (doA G l [] h).1, (doA G l [] h).2)
  | [], o, h => by simp [doA]
  | a :: l, o, h => by
    rw [doA, doA]
    cases decide (a.Kind = 0)
    · rw [cond_false, cond_false]
      cases decide (a.Kind = 22)
      · rw [cond_false, cond_false]; exact doA_frame G l o _
      · rw [cond_true, cond_true, doA_frame G l (o ++ _), doA_frame G l ([] ++ _)]; simp
    · rw [cond_true, cond_true, doA_frame G l (o ++ _), doA_frame G l ([] ++ _)]; simp
theorem doA_len (G : Int → Header → List Out) (B : Nat) (hB : 1 ≤ B) (hG : ∀ id h, (G id h).length ≤ B) : ∀ (l : List Action) (h : Header), (doA G l [] h).1.length ≤ outs l * B
  | [], h => by simp [doA]
  | a :: l, h => by
    have ih := doA_len G B hB hG l
    unfold outs at ih ⊢
    rw [doA, List.countP_cons]
    by_cases h0 : a.Kind = 0
    · rw [decide_eq_true h0, cond_true, doA_frame]
      simp only [List.nil_append, List.length_append, List.length_cons, List.length_nil, Bool.true_or, if_true]
      have := ih h
      rw [Nat.add_mul, Nat.one_mul]; omega
    · rw [decide_eq_false h0, cond_false]
      by_cases h1 : a.Kind = 22
      · rw [decide_eq_true h1, cond_true, doA_frame]
        have h2 := hG a.Group h
        simp only [List.nil_append, List.length_append, Bool.or_true, if_true]
        have := ih h
        rw [Nat.add_mul, Nat.one_mul]; omega
      · rw [decide_eq_false h1, cond_false]
        have := ih (capply (rwOf a) h)
        simpa using this
theorem flatMap_bd {α β : Type} (f : α → List β) (k : Nat) : ∀ l : List α, (∀ x ∈ l, (f x).length ≤ k) → (l.flatMap f).length ≤ l.length * k
  | [], _ => by simp
  | x :: l, h => by
    rw [List.flatMap_cons, List.length_append, List.length_cons, Nat.succ_mul]
    have h1 := h x (by simp)
    have h2 := flatMap_bd f k l fun y hy => h y (by simp [hy])
    omega
theorem goG_len (l : List Group) (e : Env) (hl : lightG l) : ∀ (d : Nat) (id : Int) (h : Header), (goG l e d id h).length ≤ 3 ^ d
  | 0, id, h => by simp [goG]
  | d + 1, id, h => by
    rw [goG]
    cases hf : findG l id with
    | none => simp
    | some g =>
      have hb := hl.2 g (findG_mem hf)
      have ht := (takesOf_ok e g hb).1
      have h1 : 1 ≤ 3 ^ d := Nat.pow_pos (by decide)
      have := flatMap_bd (fun i => (doA (goG l e d) (setActs (bucketActs g.Buckets i)) [] h).1) (3 ^ d) (takesOf e g) fun i _ => by
        have h2 := doA_len (goG l e d) (3 ^ d) h1 (goG_len l e hl d) (setActs (bucketActs g.Buckets i)) h
        have h3 := outs_set (bucketActs g.Buckets i)
        have h4 : outs (setActs (bucketActs g.Buckets i)) * 3 ^ d ≤ 1 * 3 ^ d := Nat.mul_le_mul_right _ h3
        omega
      have h5 : (takesOf e g).length * 3 ^ d ≤ 3 * 3 ^ d := Nat.mul_le_mul_right _ ht
      have e1 : 3 ^ (d + 1) = 3 * 3 ^ d := by rw [Nat.pow_succ, Nat.mul_comm]
      show ((takesOf e g).flatMap _).length ≤ _
      omega
theorem F_exec_run_do_s_l1_eq (R : exec_run → Int → Option exec_run) (G : Int → Header → List Out) (e : Env) (l : List Group) (dep : Int) (B : Nat) (hB : 1 ≤ B) (hG : ∀ id h, (G id h).length ≤ B)
    (hR : ∀ o id h, o.length + B ≤ lim → R ⟨e, l, o, h, dep⟩ id = some ⟨e, l, o ++ G id h, h, dep⟩) :
    ∀ (acts : List Action) (i : Nat) (o : List Out) (h : Header), o.length + outs acts * B ≤ lim → F_exec_run_do_s_l1 R acts i o e l h dep = some ⟨e, l, (doA G acts o h).1, (doA G acts o h).2, dep⟩
  | [], i, o, h, _ => by rw [F_exec_run_do_s_l1]; rfl
  | a :: acts, i, o, h, hb => by
    unfold outs at hb
    rw [List.countP_cons] at hb
    rw [F_exec_run_do_s_l1, doA]
    by_cases h0 : a.Kind = 0
    · simp only [decide_eq_true h0, Bool.true_or, if_true, Nat.add_mul, Nat.one_mul] at hb
      rw [decide_eq_true h0, cond_true, cond_true, F_exec_most_eq, Option.bind_some, appd_ok (by simp; omega), Option.bind_some]
      exact F_exec_run_do_s_l1_eq R G e l dep B hB hG hR acts (i + 1) _ h (by unfold outs; simp; omega)
    · rw [decide_eq_false h0, cond_false, cond_false]
      by_cases h1 : a.Kind = 22
      · simp only [decide_eq_true h1, Bool.or_true, if_true, Nat.add_mul, Nat.one_mul] at hb
        have h2 := hG a.Group h
        rw [decide_eq_true h1, cond_true, cond_true, hR o a.Group h (by omega), Option.bind_some]
        exact F_exec_run_do_s_l1_eq R G e l dep B hB hG hR acts (i + 1) _ h (by unfold outs; simp; omega)
      · simp only [decide_eq_false h0, decide_eq_false h1, Bool.or_self] at hb
        rw [decide_eq_false h1, cond_false, cond_false, F_aset_Rewrite_eq, Option.bind_some, F_rewrite_Apply_eq, Option.bind_some]
        exact F_exec_run_do_s_l1_eq R G e l dep B hB hG hR acts (i + 1) o _ (by unfold outs; simpa using hb)
theorem F_exec_run_group_s_l1_eq (R : exec_run → List Action → Option exec_run) (G : Int → Header → List Out) (e : Env) (l : List Group) (g : Group) (hg : lightB g.Buckets) (r1 : exec_run) (dep : Int) (hd : 0 ≤ dep ∧ dep ≤ 9) (B : Nat) (hB : 1 ≤ B) (hG : ∀ id h, (G id h).length ≤ B)
    (hR : ∀ o acts, outs acts ≤ 1 → o.length + B ≤ lim → R ⟨e, l, o, r1.header, dep⟩ acts = some ⟨e, l, (doA G acts o r1.header).1, (doA G acts o r1.header).2, dep⟩) :
    ∀ (ts : List Int) (i : Nat) (o : List Out), (∀ t ∈ ts, ∃ n : Nat, t = (n : Int) ∧ n < g.Buckets.length) → o.length + ts.length * B ≤ lim →
      F_exec_run_group_s_l1 (g, true) R r1 ts i o e l r1.header dep = some ⟨e, l, o ++ ts.flatMap fun i => (doA G (setActs (bucketActs g.Buckets i)) [] r1.header).1, r1.header, dep - 1⟩
  | [], i, o, _, _ => by rw [F_exec_run_group_s_l1, wrap_i64 (by omega) (by omega)]; simp
  | t :: ts, i, o, ht, hb => by
    have hlim : lim = 4294967296 := rfl
    obtain ⟨n, rfl, hn⟩ := ht t (by simp)
    simp only [List.length_cons, Nat.add_mul, Nat.one_mul] at hb
    have hacts := hg.2 g.Buckets[n] (List.getElem_mem hn)
    have hba : bucketActs g.Buckets (n : Int) = g.Buckets[n].Acts := by
      unfold bucketActs
      rw [Int.toNat_natCast, List.getElem?_eq_getElem hn]
    have hwl := wr_len g.Buckets[n].Acts []
    simp only [List.length_nil, Nat.zero_add] at hwl
    have hlen := doA_len G B hB hG (setActs g.Buckets[n].Acts) r1.header
    have hout := outs_set g.Buckets[n].Acts
    have hmul : outs (setActs g.Buckets[n].Acts) * B ≤ 1 * B := Nat.mul_le_mul_right _ hout
    rw [F_exec_run_group_s_l1]
    simp only
    rw [lget_lt hn, Option.bind_some, F_aset_Write_eq _ _ (by simp; omega), Option.bind_some, F_aset_List_eq _ (by omega), Option.bind_some, show lstA (g.Buckets[n].Acts.foldl wr1 []) = setActs g.Buckets[n].Acts from rfl, hR o _ hout (by omega), Option.bind_some]
    simp only
    rw [doA_frame]
    simp only
    rw [F_exec_run_group_s_l1_eq R G e l g hg r1 dep hd B hB hG hR ts (i + 1) _ (fun t h => ht t (by simp [h])) (by rw [List.length_append]; omega), List.flatMap_cons, hba]
    simp
theorem walk_eq (l : List Group) (e : Env) (hl : lightG l) : ∀ (d : Nat), d ≤ 8 →
    (∀ n o id h, 2 * d + 1 ≤ n → o.length + 3 ^ d ≤ lim → (FR_exec_run_do__exec_run_group n).2 ⟨e, l, o, h, ((8 - d : Nat) : Int)⟩ id = some ⟨e, l, o ++ goG l e d id h, h, ((8 - d : Nat) : Int)⟩) ∧
    (∀ n o acts h, 2 * d + 2 ≤ n → o.length + outs acts * 3 ^ d ≤ lim → (FR_exec_run_do__exec_run_group n).1 ⟨e, l, o, h, ((8 - d : Nat) : Int)⟩ acts = some ⟨e, l, (doA (goG l e d) acts o h).1, (doA (goG l e d) acts o h).2, ((8 - d : Nat) : Int)⟩) := by
  have hlim : lim = 4294967296 := rfl
  intro d
  induction d with
  | zero =>
    intro hd
    have h1 : ∀ n o id h, 2 * 0 + 1 ≤ n → o.length + 3 ^ 0 ≤ lim → (FR_exec_run_do__exec_run_group n).2 ⟨e, l, o, h, ((8 - 0 : Nat) : Int)⟩ id = some ⟨e, l, o ++ goG l e 0 id h, h, ((8 - 0 : Nat) : Int)⟩ := by
      intro n o id h hn _
      obtain ⟨n, rfl⟩ : ∃ k, n = k + 1 := ⟨n - 1, by omega⟩
      show F_exec_run_group_s (FR_exec_run_do__exec_run_group n).1 (FR_exec_run_do__exec_run_group n).2 _ _ = _
      unfold F_exec_run_group_s
      simp only
      rw [F_group_Find_eq l id hl, Option.bind_some]
      have : ∀ x : Group × Bool, ((!x.2) || decide (((8 - 0 : Nat) : Int) ≥ 8)) = true := fun x => by simp
      rw [this]
      simp [goG]
    refine ⟨h1, ?_⟩
    intro n o acts h hn hb
    obtain ⟨n, rfl⟩ : ∃ k, n = k + 1 := ⟨n - 1, by omega⟩
    show F_exec_run_do_s (FR_exec_run_do__exec_run_group n).1 (FR_exec_run_do__exec_run_group n).2 _ _ = _
    unfold F_exec_run_do_s
    exact F_exec_run_do_s_l1_eq _ (goG l e 0) e l _ (3 ^ 0) (by decide) (goG_len l e hl 0) (fun o id h hb => h1 n o id h (by omega) hb) acts 0 o h hb
  | succ d ih =>
    intro hd
    obtain ⟨ih1, ih2⟩ := ih (by omega)
    have hp : 3 ^ (d + 1) = 3 * 3 ^ d := by rw [Nat.pow_succ, Nat.mul_comm]
    have h1 : ∀ n o id h, 2 * (d + 1) + 1 ≤ n → o.length + 3 ^ (d + 1) ≤ lim → (FR_exec_run_do__exec_run_group n).2 ⟨e, l, o, h, ((8 - (d + 1) : Nat) : Int)⟩ id = some ⟨e, l, o ++ goG l e (d + 1) id h, h, ((8 - (d + 1) : Nat) : Int)⟩ := by
      intro n o id h hn hb
      obtain ⟨n, rfl⟩ : ∃ k, n = k + 1 := ⟨n - 1, by omega⟩
      show F_exec_run_group_s (FR_exec_run_do__exec_run_group n).1 (FR_exec_run_do__exec_run_group n).2 _ _ = _
      unfold F_exec_run_group_s
      simp only
      rw [F_group_Find_eq l id hl, Option.bind_some, goG]
      cases hf : findG l id with
      | none => simp
      | some g =>
        have hg := hl.2 g (findG_mem hf)
        obtain ⟨t1, t2⟩ := takesOf_ok e g hg
        simp only [Bool.not_true, Bool.false_or]
        rw [decide_eq_false (by omega), cond_false, F_env_Takes_eq e g hg, Option.bind_some]
        have ew : IntKind.i64.wrap (((8 - (d + 1) : Nat) : Int) + 1) = ((8 - d : Nat) : Int) := by rw [wrap_i64 (by omega) (by omega)]; omega
        rw [ew]
        have hmul : (takesOf e g).length * 3 ^ d ≤ 3 * 3 ^ d := Nat.mul_le_mul_right _ t1
        have := F_exec_run_group_s_l1_eq (FR_exec_run_do__exec_run_group n).1 (goG l e d) e l g hg ⟨e, l, o, h, ((8 - (d + 1) : Nat) : Int)⟩ ((8 - d : Nat) : Int) (by omega) (3 ^ d) (Nat.pow_pos (by decide)) (goG_len l e hl d)
          (fun o acts ho hb => ih2 n o acts h (by omega) (by
            have : outs acts * 3 ^ d ≤ 1 * 3 ^ d := Nat.mul_le_mul_right _ ho
            omega)) (takesOf e g) 0 o t2 (by omega)
        simp only at this
        rw [this]
        congr 2
        omega
    refine ⟨h1, ?_⟩
    intro n o acts h hn hb
    obtain ⟨n, rfl⟩ : ∃ k, n = k + 1 := ⟨n - 1, by omega⟩
    show F_exec_run_do_s (FR_exec_run_do__exec_run_group n).1 (FR_exec_run_do__exec_run_group n).2 _ _ = _
    unfold F_exec_run_do_s
    exact F_exec_run_do_s_l1_eq _ (goG l e (d + 1)) e l _ (3 ^ (d + 1)) (Nat.pow_pos (by decide)) (goG_len l e hl (d + 1)) (fun o id h hb => h1 n o id h (by omega) hb) acts 0 o h hb
theorem F_exec_Group_eq (l : List Group) (e : Env) (id : Int) (h : Header) (hl : lightG l) : F_exec_Group l e id h = some (goG l e 8 id h) := by
  have hlim : lim = 4294967296 := rfl
  unfold F_exec_Group F_exec_run_group
  have := (walk_eq l e hl 8 (by decide)).1 fuel0 [] id h (by unfold fuel0; omega) (by simp only [List.length_nil]; omega)
  rw [show (((8 - 8 : Nat)) : Int) = 0 from rfl] at this
  rw [this]
  rfl
end Go.Proofs.Ytknpgojdkobgjaa.W
set_option linter.unusedVariables false
set_option linter.unusedSimpArgs false
namespace Go.Proofs.Ytknpgojdkobgjaa.W
open Go Go.Wb
theorem F_rewrite_Then_eq (a b : Cube) : F_rewrite_Then a b = some (cthen a b) := by
  unfold F_rewrite_Then
  rw [F_rewrite_each_Rewrite_eq (fun x => F_rewrite_Then_1 x a b) (fun i => tover (ve a i) (ve b i)) (fun i hi => by unfold F_rewrite_Then_1; rw [chk_nat hi, Option.bind_some, Option.bind_some, vget_eq, vget_eq, F_rewrite_over_eq]; rfl)]
  rfl
def atomOf (r : Cube) (a : Action) : Atom := bif decide (a.Kind = 0) then ⟨r, false, a.Port, mostOf a⟩ else ⟨r, true, a.Group, 0⟩
def loud (a : Action) : Bool := decide (a.Kind = 0) || decide (a.Kind = 22)
def doT : List Action → Cube → List Atom × Cube
  | [], r => ([], r)
  | a :: l, r => bif loud a then (atomOf r a :: (doT l r).1, (doT l r).2) else doT l (cthen r (rwOf a))
theorem F_atom_trace_do_eq (r : Cube) (o : List Atom) (a : Action) (h : o.length + 1 ≤ lim) : F_atom_trace_do ⟨r, o⟩ a = some (bif loud a then ⟨r, o ++ [atomOf r a]⟩ else ⟨cthen r (rwOf a), o⟩) := by
  have hj : ∀ x : Atom, F_atom_trace_do_j1 ⟨r, o⟩ x = some ⟨r, o ++ [x]⟩ := fun x => by
    unfold F_atom_trace_do_j1
    rw [appd_ok (by simpa using h), Option.bind_some]
  unfold F_atom_trace_do loud atomOf mostOf
  cases decide (a.Kind = 0)
  · rw [cond_false]
    cases decide (a.Kind = 22)
    · rw [cond_false, F_aset_Rewrite_eq, Option.bind_some, F_rewrite_Then_eq]; rfl
    · rw [cond_true, hj]; rfl
  · rw [cond_true]
    cases decide (a.Port = 4294967293)
    · rw [cond_false, hj]; rfl
    · rw [cond_true, hj]; rfl
theorem F_atom_each_Action_l1_eq : ∀ (l : List Action) (i : Nat) (r : Cube) (o : List Atom), o.length + l.length ≤ lim → F_atom_each_Action_l1 atom_trace (fun s x => F_atom_trace_do s x) l i ⟨r, o⟩ = some ⟨(doT l r).2, o ++ (doT l r).1⟩
  | [], i, r, o, _ => by rw [F_atom_each_Action_l1]; simp [doT]
  | a :: l, i, r, o, h => by
    simp only [List.length_cons] at h
    rw [F_atom_each_Action_l1, F_atom_trace_do_eq r o a (by omega), Option.bind_some, doT]
    cases loud a
    · rw [cond_false, cond_false, F_atom_each_Action_l1_eq l (i + 1) _ o (by omega)]
    · rw [cond_true, cond_true, F_atom_each_Action_l1_eq l (i + 1) _ _ (by simp; omega)]
      simp
theorem F_atom_Do_eq (acts : List Action) (r : Cube) (h : acts.length ≤ lim) : F_atom_Do acts r = some (doT acts (cclean r)) := by
  unfold F_atom_Do F_atom_each_Action
  rw [F_rewrite_Clean_eq, Option.bind_some, F_atom_each_Action_l1_eq acts 0 _ [] (by simpa using h), Option.bind_some]
  rfl
theorem doT_len : ∀ (l : List Action) (r : Cube), (doT l r).1.length = outs l
  | [], r => rfl
  | a :: l, r => by
    have ih := doT_len l
    unfold outs at ih ⊢
    rw [doT, List.countP_cons]
    show _ = _ + if loud a = true then 1 else 0
    cases loud a
    · simp [ih]
    · simp [ih]
end Go.Proofs.Ytknpgojdkobgjaa.W
set_option linter.unusedVariables false
set_option linter.unusedSimpArgs false
namespace Go.Proofs.Ytknpgojdkobgjaa.W
open Go Go.Wb
def listN (G : Int → Cube → List Atom) : List Atom → List Atom
  | [] => []
  | x :: l => (bif x.Group then G x.Port x.Rewrite else [{ x with Rewrite := cclean x.Rewrite }]) ++ listN G l
def goN (l : List Group) (e : Env) : Nat → Int → Cube → List Atom
  | 0, _, _ => []
  | d + 1, id, r => match findG l id with
    | none => []
    | some g => (takesOf e g).flatMap fun i => listN (goN l e d) (doT (setActs (bucketActs g.Buckets i)) (cclean r)).1
theorem listN_len (G : Int → Cube → List Atom) (B : Nat) (hB : 1 ≤ B) (hG : ∀ id r, (G id r).length ≤ B) : ∀ a : List Atom, (listN G a).length ≤ a.length * B
  | [] => by simp [listN]
  | x :: a => by
    have ih := listN_len G B hB hG a
    rw [listN, List.length_append, List.length_cons, Nat.add_mul, Nat.one_mul]
    have : (bif x.Group then G x.Port x.Rewrite else [{ x with Rewrite := cclean x.Rewrite }]).length ≤ B := by
      cases x.Group
      · simpa using hB
      · exact hG _ _
    omega
theorem goN_len (l : List Group) (e : Env) (hl : lightG l) : ∀ (d : Nat) (id : Int) (r : Cube), (goN l e d id r).length ≤ 3 ^ d
  | 0, id, r => by simp [goN]
  | d + 1, id, r => by
    rw [goN]
    cases hf : findG l id with
    | none => simp
    | some g =>
      have hb := hl.2 g (findG_mem hf)
      have ht := (takesOf_ok e g hb).1
      have h1 : 1 ≤ 3 ^ d := Nat.pow_pos (by decide)
      have := flatMap_bd (fun i => listN (goN l e d) (doT (setActs (bucketActs g.Buckets i)) (cclean r)).1) (3 ^ d) (takesOf e g) fun i _ => by
        have h2 := listN_len (goN l e d) (3 ^ d) h1 (goN_len l e hl d) (doT (setActs (bucketActs g.Buckets i)) (cclean r)).1
        rw [doT_len] at h2
        have h3 := outs_set (bucketActs g.Buckets i)
        have h4 : outs (setActs (bucketActs g.Buckets i)) * 3 ^ d ≤ 1 * 3 ^ d := Nat.mul_le_mul_right _ h3
        omega
      have h5 : (takesOf e g).length * 3 ^ d ≤ 3 * 3 ^ d := Nat.mul_le_mul_right _ ht
      have e1 : 3 ^ (d + 1) = 3 * 3 ^ d := by rw [Nat.pow_succ, Nat.mul_comm]
      show ((takesOf e g).flatMap _).length ≤ _
      omega
theorem F_norm_world_list_s_l1_eq (R : norm_world → Int → Cube → Option (List Atom)) (w : norm_world) (G : Int → Cube → List Atom) (B : Nat) (hB : 1 ≤ B) (hG : ∀ id r, (G id r).length ≤ B) (hR : ∀ id r, R w id r = some (G id r)) :
    ∀ (a : List Atom) (i : Nat) (acc : List Atom), acc.length + a.length * B ≤ lim → F_norm_world_list_s_l1 R w a i acc = some (acc ++ listN G a)
  | [], i, acc, _ => by rw [F_norm_world_list_s_l1]; simp [listN]
  | x :: a, i, acc, h => by
    simp only [List.length_cons, Nat.add_mul, Nat.one_mul] at h
    rw [F_norm_world_list_s_l1, listN]
    cases x.Group
    · rw [cond_false, cond_false, F_rewrite_Clean_eq, Option.bind_some, appd_ok (by simp; omega), Option.bind_some, F_norm_world_list_s_l1_eq R w G B hB hG hR a (i + 1) _ (by simp; omega)]
      simp
    · have h2 := hG x.Port x.Rewrite
      rw [cond_true, cond_true, hR, Option.bind_some, appd_ok (by omega), Option.bind_some, F_norm_world_list_s_l1_eq R w G B hB hG hR a (i + 1) _ (by rw [List.length_append]; omega)]
      simp
theorem F_norm_world_group_s_l1_eq (R : norm_world → List Atom → Option (List Atom)) (w w2 : norm_world) (hw : { w with depth := (IntKind.i64.wrap (w.depth + 1)) } = w2) (G : Int → Cube → List Atom) (r : Cube) (g : Group) (hg : lightB g.Buckets) (B : Nat) (hB : 1 ≤ B) (hG : ∀ id r, (G id r).length ≤ B)
    (hR : ∀ a : List Atom, a.length ≤ 1 → R w2 a = some (listN G a)) :
    ∀ (ts : List Int) (i : Nat) (acc : List Atom), (∀ t ∈ ts, ∃ n : Nat, t = (n : Int) ∧ n < g.Buckets.length) → acc.length + ts.length * B ≤ lim →
      F_norm_world_group_s_l1 (g, true) r R w ts i acc = some (acc ++ ts.flatMap fun i => listN G (doT (setActs (bucketActs g.Buckets i)) (cclean r)).1)
  | [], i, acc, _, _ => by rw [F_norm_world_group_s_l1]; simp
  | t :: ts, i, acc, ht, hb => by
    have hlim : lim = 4294967296 := rfl
    obtain ⟨n, rfl, hn⟩ := ht t (by simp)
    simp only [List.length_cons, Nat.add_mul, Nat.one_mul] at hb
    have hacts := hg.2 g.Buckets[n] (List.getElem_mem hn)
    have hba : bucketActs g.Buckets (n : Int) = g.Buckets[n].Acts := by
      unfold bucketActs
      rw [Int.toNat_natCast, List.getElem?_eq_getElem hn]
    have hwl := wr_len g.Buckets[n].Acts []
    simp only [List.length_nil, Nat.zero_add] at hwl
    have hsl : (setActs g.Buckets[n].Acts).length ≤ 12 := by
      unfold setActs lstA
      rw [(srt_perm _ _).length_eq]
      exact Nat.le_trans (List.length_filter_le ..) (by omega)
    have hout := outs_set g.Buckets[n].Acts
    have h1 : (doT (setActs g.Buckets[n].Acts) (cclean r)).1.length ≤ 1 := by rw [doT_len]; exact hout
    have h2 := listN_len G B hB hG (doT (setActs g.Buckets[n].Acts) (cclean r)).1
    have h3 : (doT (setActs g.Buckets[n].Acts) (cclean r)).1.length * B ≤ 1 * B := Nat.mul_le_mul_right _ h1
    rw [F_norm_world_group_s_l1]
    simp only
    rw [lget_lt hn, Option.bind_some, F_aset_Write_eq _ _ (by simp; omega), Option.bind_some, F_aset_List_eq _ (by omega), Option.bind_some, show lstA (g.Buckets[n].Acts.foldl wr1 []) = setActs g.Buckets[n].Acts from rfl, F_atom_Do_eq _ r (by omega), Option.bind_some, hw, hR _ h1, Option.bind_some, appd_ok (by omega), Option.bind_some,
      F_norm_world_group_s_l1_eq R w w2 hw G r g hg B hB hG hR ts (i + 1) _ (fun t h => ht t (by simp [h])) (by rw [List.length_append]; omega), List.flatMap_cons, hba]
    simp
theorem walkN_eq (l : List Group) (e : Env) (hl : lightG l) : ∀ (d : Nat), d ≤ 8 →
    (∀ n id r, 2 * d + 1 ≤ n → (FR_norm_world_list__norm_world_group n).2 ⟨e, l, ((8 - d : Nat) : Int)⟩ id r = some (goN l e d id r)) ∧
    (∀ n a, 2 * d + 2 ≤ n → a.length * 3 ^ d ≤ lim → (FR_norm_world_list__norm_world_group n).1 ⟨e, l, ((8 - d : Nat) : Int)⟩ a = some (listN (goN l e d) a)) := by
  have hlim : lim = 4294967296 := rfl
  intro d
  induction d with
  | zero =>
    intro hd
    have h1 : ∀ n id r, 2 * 0 + 1 ≤ n → (FR_norm_world_list__norm_world_group n).2 ⟨e, l, ((8 - 0 : Nat) : Int)⟩ id r = some (goN l e 0 id r) := by
      intro n id r hn
      obtain ⟨n, rfl⟩ : ∃ k, n = k + 1 := ⟨n - 1, by omega⟩
      show F_norm_world_group_s (FR_norm_world_list__norm_world_group n).1 (FR_norm_world_list__norm_world_group n).2 _ _ _ = _
      unfold F_norm_world_group_s
      simp only
      rw [F_group_Find_eq l id hl, Option.bind_some]
      have : ∀ x : Group × Bool, ((!x.2) || decide (((8 - 0 : Nat) : Int) ≥ 8)) = true := fun x => by simp
      rw [this]
      rfl
    refine ⟨h1, ?_⟩
    intro n a hn hb
    obtain ⟨n, rfl⟩ : ∃ k, n = k + 1 := ⟨n - 1, by omega⟩
    show F_norm_world_list_s (FR_norm_world_list__norm_world_group n).1 (FR_norm_world_list__norm_world_group n).2 _ _ = _
    unfold F_norm_world_list_s
    exact F_norm_world_list_s_l1_eq _ _ (goN l e 0) (3 ^ 0) (by decide) (goN_len l e hl 0) (fun id r => h1 n id r (by omega)) a 0 [] (by simp only [List.length_nil]; omega)
  | succ d ih =>
    intro hd
    obtain ⟨ih1, ih2⟩ := ih (by omega)
    have hp : 3 ^ (d + 1) = 3 * 3 ^ d := by rw [Nat.pow_succ, Nat.mul_comm]
    have hp8 : 3 ^ d ≤ 3 ^ 8 := Nat.pow_le_pow_right (by decide) (by omega)
    have hp9 : (3 : Nat) ^ 8 = 6561 := by decide
    have h1 : ∀ n id r, 2 * (d + 1) + 1 ≤ n → (FR_norm_world_list__norm_world_group n).2 ⟨e, l, ((8 - (d + 1) : Nat) : Int)⟩ id r = some (goN l e (d + 1) id r) := by
      intro n id r hn
      obtain ⟨n, rfl⟩ : ∃ k, n = k + 1 := ⟨n - 1, by omega⟩
      show F_norm_world_group_s (FR_norm_world_list__norm_world_group n).1 (FR_norm_world_list__norm_world_group n).2 _ _ _ = _
      unfold F_norm_world_group_s
      simp only
      rw [F_group_Find_eq l id hl, Option.bind_some, goN]
      cases hf : findG l id with
      | none => simp
      | some g =>
        have hg := hl.2 g (findG_mem hf)
        obtain ⟨t1, t2⟩ := takesOf_ok e g hg
        simp only [Bool.not_true, Bool.false_or]
        rw [decide_eq_false (by omega), cond_false, F_env_Takes_eq e g hg, Option.bind_some]
        have ew : IntKind.i64.wrap (((8 - (d + 1) : Nat) : Int) + 1) = ((8 - d : Nat) : Int) := by rw [wrap_i64 (by omega) (by omega)]; omega
        have hmul : (takesOf e g).length * 3 ^ d ≤ 3 * 3 ^ d := Nat.mul_le_mul_right _ t1
        have := F_norm_world_group_s_l1_eq (FR_norm_world_list__norm_world_group n).1 ⟨e, l, ((8 - (d + 1) : Nat) : Int)⟩ ⟨e, l, ((8 - d : Nat) : Int)⟩ (by simp only [ew]) (goN l e d) r g hg (3 ^ d) (Nat.pow_pos (by decide)) (goN_len l e hl d)
          (fun a ha => ih2 n a (by omega) (by
            have : a.length * 3 ^ d ≤ 1 * 3 ^ d := Nat.mul_le_mul_right _ ha
            omega)) (takesOf e g) 0 [] t2 (by simp only [List.length_nil]; omega)
        rw [this]
        rfl
    refine ⟨h1, ?_⟩
    intro n a hn hb
    obtain ⟨n, rfl⟩ : ∃ k, n = k + 1 := ⟨n - 1, by omega⟩
    show F_norm_world_list_s (FR_norm_world_list__norm_world_group n).1 (FR_norm_world_list__norm_world_group n).2 _ _ = _
    unfold F_norm_world_list_s
    exact F_norm_world_list_s_l1_eq _ _ (goN l e (d + 1)) (3 ^ (d + 1)) (Nat.pow_pos (by decide)) (goN_len l e hl (d + 1)) (fun id r => h1 n id r (by omega)) a 0 [] (by simp only [List.length_nil]; omega)
theorem F_norm_List_eq (l : List Group) (e : Env) (a : List Atom) (hl : lightG l) (ha : a.length ≤ 200000) : F_norm_List l e a = some (listN (goN l e 8) a) := by
  have hlim : lim = 4294967296 := rfl
  have hp9 : (3 : Nat) ^ 8 = 6561 := by decide
  have hm : a.length * 3 ^ 8 ≤ 200000 * 3 ^ 8 := Nat.mul_le_mul_right _ ha
  unfold F_norm_List F_norm_world_list
  have := (walkN_eq l e hl 8 (by decide)).2 fuel0 a (by unfold fuel0; omega) (by rw [hp9] at hm ⊢; omega)
  rw [show (((8 - 8 : Nat)) : Int) = 0 from rfl] at this
  rw [this]
  rfl
def plainA (a : Atom) : Prop := a.Group = false ∧ cclean a.Rewrite = a.Rewrite
theorem listN_plain (G : Int → Cube → List Atom) (hG : ∀ id r, ∀ x ∈ G id r, plainA x) : ∀ a : List Atom, ∀ x ∈ listN G a, plainA x
  | [], x, h => by simp [listN] at h
  | y :: a, x, h => by
    rw [listN, List.mem_append] at h
    rcases h with h | h
    · cases hy : y.Group
      · rw [hy] at h
        simp only [cond_false, List.mem_singleton] at h
        subst h
        exact ⟨rfl, cclean_clean _⟩
      · rw [hy] at h
        exact hG _ _ x h
    · exact listN_plain G hG a x h
theorem goN_plain (l : List Group) (e : Env) : ∀ (d : Nat) (id : Int) (r : Cube), ∀ x ∈ goN l e d id r, plainA x
  | 0, id, r, x, h => by simp [goN] at h
  | d + 1, id, r, x, h => by
    rw [goN] at h
    cases hf : findG l id with
    | none => rw [hf] at h; simp at h
    | some g =>
      rw [hf] at h
      have h' : x ∈ (takesOf e g).flatMap fun i => listN (goN l e d) (doT (setActs (bucketActs g.Buckets i)) (cclean r)).1 := h
      obtain ⟨i, _, hx⟩ := List.mem_flatMap.1 h'
      exact listN_plain _ (goN_plain l e d) _ x hx
theorem F_l38_awake_eq : F_l38_awake = some true := by decide +kernel
end Go.Proofs.Ytknpgojdkobgjaa.W
set_option linter.unusedVariables false
set_option linter.unusedSimpArgs false
namespace Go.Proofs.Ytknpgojdkobgjaa.W
open Go Go.Wb
theorem F_slices_ContainsFunc_Bucket_eq (s : List Bucket) (f : Bucket → Option Bool) (p : Bucket → Bool) (hf : ∀ x ∈ s, f x = some (p x)) : F_slices_ContainsFunc_Bucket s f = some (s.any p) := by
  unfold F_slices_ContainsFunc_Bucket; rw [F_slices_IndexFunc_Bucket_eq s f p hf, Option.bind_some, fidx_any]
theorem F_slices_ContainsFunc_Group_eq (s : List Group) (f : Group → Option Bool) (p : Group → Bool) (hf : ∀ x ∈ s, f x = some (p x)) : F_slices_ContainsFunc_Group s f = some (s.any p) := by
  unfold F_slices_ContainsFunc_Group; rw [F_slices_IndexFunc_Group_eq s f p hf, Option.bind_some, fidx_any]
def fewB (bs : List Bucket) (many : Int) : Bool := decide ((bs.length : Int) ≤ many) && !(bs.any fun x => !decide ((x.Acts.length : Int) ≤ 12))
theorem F_pl_Buckets_eq (bs : List Bucket) (many : Int) : F_pl_Buckets bs many = some (fewB bs many) := by
  unfold F_pl_Buckets fewB
  rw [F_slices_ContainsFunc_Bucket_eq bs F_pl_Buckets_1 (fun x => !decide ((x.Acts.length : Int) ≤ 12)) (fun x _ => rfl)]
  cases decide ((bs.length : Int) ≤ many) <;> rfl
def fewG (l : List Group) (many bm : Int) : Bool := decide ((l.length : Int) ≤ many) && !(l.any fun g => !fewB g.Buckets bm)
theorem F_pl_Groups_eq (l : List Group) (many bm : Int) : F_pl_Groups l many bm = some (fewG l many bm) := by
  unfold F_pl_Groups fewG
  rw [F_slices_ContainsFunc_Group_eq l (fun x => F_pl_Groups_1 x bm) (fun g => !fewB g.Buckets bm) (fun g _ => by unfold F_pl_Groups_1; rw [F_pl_Buckets_eq]; rfl)]
  cases decide ((l.length : Int) ≤ many) <;> rfl
theorem fewG_light {l : List Group} (h : fewG l 9 3 = true) : lightG l := by
  unfold fewG at h
  simp only [Bool.and_eq_true, decide_eq_true_eq, Bool.not_eq_true', List.any_eq_false] at h
  refine ⟨by omega, fun g hg => ?_⟩
  have h1 : fewB g.Buckets 3 = true := by simpa using h.2 g hg
  unfold fewB at h1
  simp only [Bool.and_eq_true, decide_eq_true_eq, Bool.not_eq_true', List.any_eq_false] at h1
  refine ⟨by omega, fun x hx => ?_⟩
  have h2 : decide ((x.Acts.length : Int) ≤ 12) = true := by simpa using h1.2 x hx
  rw [decide_eq_true_eq] at h2
  omega
theorem F_slices_Equal_Out_l1_eq (s t : List Out) (hl : s.length = t.length) : ∀ (m i : Nat), i + m = s.length → F_slices_Equal_Out_l1 s t m i = some (decide (s.drop i = t.drop i))
  | 0, i, h => by rw [F_slices_Equal_Out_l1, List.drop_of_length_le (by omega), List.drop_of_length_le (by omega)]; simp
  | m + 1, i, h => by
    have h1 : i < s.length := by omega
    have h2 : i < t.length := by omega
    rw [F_slices_Equal_Out_l1, lget_lt h1, Option.bind_some, lget_lt h2, Option.bind_some, List.drop_eq_getElem_cons h1, List.drop_eq_getElem_cons h2]
    by_cases he : s[i] = t[i]
    · rw [decide_eq_false (by simpa using he), cond_false, F_slices_Equal_Out_l1_eq s t hl m (i + 1) (by omega)]
      simp only [List.cons.injEq, he, true_and]
    · rw [decide_eq_true (by simpa using he), cond_true]
      simp only [List.cons.injEq, he, false_and, decide_false]
theorem F_exec_Same_eq (s t : List Out) : F_exec_Same s t = some (decide (s = t)) := by
  unfold F_exec_Same F_slices_Equal_Out
  by_cases hl : s.length = t.length
  · rw [decide_eq_false (by omega), cond_false, show ((s.length : Int)).toNat = s.length by omega, F_slices_Equal_Out_l1_eq s t hl _ 0 (by omega)]
    simp
  · rw [decide_eq_true (by omega), cond_true]
    have : s ≠ t := fun e => hl (e ▸ rfl)
    simp [this]
end Go.Proofs.Ytknpgojdkobgjaa.W
set_option linter.unusedVariables false
set_option linter.unusedSimpArgs false
namespace Go.Proofs.Ytknpgojdkobgjaa.W
open Go Go.Wb
end Go.Proofs.Ytknpgojdkobgjaa.W
set_option linter.unusedVariables false
set_option linter.unusedSimpArgs false
namespace Go.Proofs.Ytknpgojdkobgjaa.W
open Go Go.Wb
def outN (G : Int → Header → List Out) (h : Header) (x : Atom) : List Out := bif x.Group then G x.Port (capply x.Rewrite h) else [⟨x.Port, x.Max, capply x.Rewrite h⟩]
theorem outN_len (G : Int → Header → List Out) (B : Nat) (hB : 1 ≤ B) (hG : ∀ id h, (G id h).length ≤ B) (h : Header) (x : Atom) : (outN G h x).length ≤ B := by
  unfold outN
  cases x.Group
  · exact hB
  · exact hG _ _
theorem F_atom_each_Atom_l1_eq (l : List Group) (e : Env) (hl : lightG l) (h : Header) : ∀ (a : List Atom) (i : Nat) (o : List Out), o.length + a.length * 6561 ≤ lim → F_atom_each_Atom_l1 (List Out) (fun s x => F_atom_Out_1 x h s l e) a i o = some (o ++ a.flatMap (outN (goG l e 8) h))
  | [], i, o, _ => by rw [F_atom_each_Atom_l1]; simp
  | x :: a, i, o, hb => by
    have e8 : (3 : Nat) ^ 8 = 6561 := by decide
    have hlen := goG_len l e hl 8
    rw [List.length_cons, Nat.add_mul, Nat.one_mul] at hb
    rw [F_atom_each_Atom_l1, F_atom_Out_1, F_rewrite_Apply_eq, Option.bind_some, List.flatMap_cons]
    have ho := outN_len (goG l e 8) (3 ^ 8) (by decide) hlen h x
    rw [e8] at ho
    unfold outN at ho ⊢
    cases hx : x.Group
    · simp only [hx, cond_false, List.length_cons, List.length_nil] at ho ⊢
      rw [appd_ok (by simp only [List.length_cons, List.length_nil]; omega), Option.bind_some, Option.bind_some, F_atom_each_Atom_l1_eq l e hl h a (i + 1) _ (by simp only [List.length_append, List.length_cons, List.length_nil]; omega), List.append_assoc]
      rfl
    · simp only [hx, cond_true] at ho ⊢
      rw [F_exec_Group_eq l e _ _ hl, Option.bind_some, appd_ok (by omega), Option.bind_some, Option.bind_some, F_atom_each_Atom_l1_eq l e hl h a (i + 1) _ (by rw [List.length_append]; omega), List.append_assoc]
      rfl
theorem F_atom_Out_eq (l : List Group) (e : Env) (hl : lightG l) (h : Header) (a : List Atom) (ha : a.length ≤ 600000) : F_atom_Out l e a h = some (a.flatMap (outN (goG l e 8) h)) := by
  have hlim : lim = 4294967296 := rfl
  unfold F_atom_Out F_atom_each_Atom
  rw [F_atom_each_Atom_l1_eq l e hl h a 0 [] (by simp only [List.length_nil]; omega)]; rfl
end Go.Proofs.Ytknpgojdkobgjaa.W
set_option linter.unusedVariables false
set_option linter.unusedSimpArgs false
namespace Go.Proofs.Ytknpgojdkobgjaa.W
open Go Go.Wb
end Go.Proofs.Ytknpgojdkobgjaa.W
set_option linter.unusedVariables false
set_option linter.unusedSimpArgs false
namespace Go.Proofs.Ytknpgojdkobgjaa.W
open Go Go.Wb
theorem capply_cthen (r s : Cube) (h : Header) : capply (cthen r s) h = capply s (capply r h) := ve_ext fun f hf => by
  rw [ve_capply _ _ _ hf, ve_capply _ _ _ hf, ve_capply _ _ _ hf, ve_cthen _ _ _ hf]
  unfold tover tclean
  exact wt_ext fun i hi => by
    simp only [wt_and, wt_or, wt_less _ _ _ hi]
    cases wt (ve h f) i <;> cases wt (ve r f).Value i <;> cases wt (ve r f).Mask i <;> cases wt (ve s f).Value i <;> cases wt (ve s f).Mask i <;> rfl
theorem capply_cclean (r : Cube) (h : Header) : capply (cclean r) h = capply r h := ve_ext fun f hf => by
  rw [ve_capply _ _ _ hf, ve_capply _ _ _ hf, ve_cclean _ _ hf]
  unfold tclean
  exact wt_ext fun i hi => by
    simp only [wt_and, wt_or, wt_less _ _ _ hi]
    cases wt (ve h f) i <;> cases wt (ve r f).Value i <;> cases wt (ve r f).Mask i <;> rfl
theorem doT_doA (G : Int → Header → List Out) (h : Header) : ∀ (l : List Action) (r : Cube), doA G l [] (capply r h) = ((doT l r).1.flatMap (outN G h), capply (doT l r).2 h)
  | [], r => rfl
  | a :: l, r => by
    rw [doA, doT]
    unfold loud atomOf
    by_cases h0 : a.Kind = 0
    · rw [decide_eq_true h0]
      simp only [cond_true, Bool.true_or, List.flatMap_cons]
      rw [doA_frame, doT_doA G h l r]
      rfl
    · rw [decide_eq_false h0]
      by_cases h1 : a.Kind = 22
      · rw [decide_eq_true h1]
        simp only [cond_true, cond_false, Bool.false_or, List.flatMap_cons]
        rw [doA_frame, doT_doA G h l r]
        rfl
      · rw [decide_eq_false h1]
        simp only [cond_false, Bool.false_or]
        rw [← capply_cthen, doT_doA G h l _]
end Go.Proofs.Ytknpgojdkobgjaa.W
set_option linter.unusedVariables false
set_option linter.unusedSimpArgs false
namespace Go.Proofs.Ytknpgojdkobgjaa.W
open Go Go.Wb
end Go.Proofs.Ytknpgojdkobgjaa.W
set_option linter.unusedVariables false
set_option linter.unusedSimpArgs false
namespace Go.Proofs.Ytknpgojdkobgjaa.W
open Go Go.Wb
end Go.Proofs.Ytknpgojdkobgjaa.W
set_option linter.unusedVariables false
set_option linter.unusedSimpArgs false
namespace Go.Proofs.Ytknpgojdkobgjaa.W
open Go Go.Wb
def bad2 (x y : Tern) : Bool := !wzero (wand (wand x.Mask y.Mask) (wxor x.Value y.Value))
def apart (a b : Atom) : Bool := !(a.Group == b.Group) || decide (a.Port ≠ b.Port) || decide (a.Max ≠ b.Max) || (List.range' 0 24).any fun f => bad2 (ve a.Rewrite f) (ve b.Rewrite f)
def fixT (t : Tern) (i : Nat) (on : Bool) : Tern := bif on then ⟨wor (wless (tclean t).Value (wbit i)) (wbit i), wor (tclean t).Mask (wbit i)⟩ else ⟨wless (tclean t).Value (wbit i), wor (tclean t).Mask (wbit i)⟩
def partOf (c : Cube) (f bit : Nat) (on : Bool) : Option Cube :=
  bif wt (ve c f).Mask bit && (wt (ve c f).Value bit == on) then none else some (Vector.ofFn fun k => if f = k.1 then fixT (ve c f) bit (!on) else ve c k.1)
def sgl (x y : Tern) (k : Nat) : Bool × Bool := bif wt x.Mask k == wt y.Mask k then (false, false) else (true, bif wt x.Mask k then wt x.Value k else wt y.Value k)
def rp (c : Cube) (x y : Tern) (f k : Nat) : Option Cube := bif (sgl x y k).1 then partOf c f k (sgl x y k).2 else none
end Go.Proofs.Ytknpgojdkobgjaa.W
set_option linter.unusedVariables false
set_option linter.unusedSimpArgs false
namespace Go.Proofs.Ytknpgojdkobgjaa.W
open Go Go.Wb
theorem listN_out (G : Int → Cube → List Atom) (K K' : Int → Header → List Out) (h : Header) (hG : ∀ id r, (G id r).flatMap (outN K' h) = K id (capply r h)) : ∀ a : List Atom, (listN G a).flatMap (outN K' h) = a.flatMap (outN K h)
  | [] => rfl
  | x :: a => by
    rw [listN, List.flatMap_append, List.flatMap_cons, listN_out G K K' h hG a]
    congr 1
    unfold outN
    cases hx : x.Group
    · simp [hx, capply_cclean]
    · rw [cond_true, cond_true]
      exact hG _ _
theorem goN_out (l : List Group) (e : Env) (K' : Int → Header → List Out) (h : Header) : ∀ (d : Nat) (id : Int) (r : Cube), (goN l e d id r).flatMap (outN K' h) = goG l e d id (capply r h)
  | 0, id, r => rfl
  | d + 1, id, r => by
    rw [goN, goG]
    cases findG l id with
    | none => rfl
    | some g =>
      show ((takesOf e g).flatMap _).flatMap _ = (takesOf e g).flatMap _
      rw [List.flatMap_assoc]
      congr 1
      funext i
      rw [listN_out (goN l e d) (goG l e d) K' h (goN_out l e K' h d), ← capply_cclean r h, doT_doA]
theorem any_group_false {a : List Atom} (h : ∀ x ∈ a, plainA x) : (a.any fun y => y.Group) = false := by
  rw [List.any_eq_false]
  intro x hx
  rw [(h x hx).1]; simp
theorem F_slices_IndexFunc_Atom_eq (s : List Atom) (f : Atom → Option Bool) (p : Atom → Bool) (hf : ∀ x ∈ s, f x = some (p x)) : F_slices_IndexFunc_Atom s f = some (fidx p s) := by
  unfold F_slices_IndexFunc_Atom
  rw [show ((s.length : Int)).toNat = s.length by omega]
  exact idx_spec p (fun i => by rw [F_slices_IndexFunc_Atom_l1]) (fun m i => by rw [F_slices_IndexFunc_Atom_l1]) hf
theorem F_slices_ContainsFunc_Atom_eq (s : List Atom) (f : Atom → Option Bool) (p : Atom → Bool) (hf : ∀ x ∈ s, f x = some (p x)) : F_slices_ContainsFunc_Atom s f = some (s.any p) := by
  unfold F_slices_ContainsFunc_Atom; rw [F_slices_IndexFunc_Atom_eq s f p hf, Option.bind_some, fidx_any]
theorem lightG_nil : lightG [] := ⟨by simp, by simp⟩
theorem norm_out (l : List Group) (e : Env) (a : List Atom) (h : Header) : F_l38_NormOut l e a h = some true := by
  have h54 : F_l38_light l e a = some ((fewG l 9 3 && decide ((a.length : Int) ≤ 12)) && decide ((e.Down.length : Int) ≤ 20)) := by
    unfold F_l38_light
    rw [F_pl_Groups_eq]
    cases fewG l 9 3 <;> rfl
  unfold F_l38_NormOut
  rw [h54, Option.bind_some, F_l38_awake_eq]
  cases hc : (fewG l 9 3 && decide ((a.length : Int) ≤ 12)) && decide ((e.Down.length : Int) ≤ 20)
  · rfl
  · simp only [Bool.and_eq_true, decide_eq_true_eq] at hc
    have hl := fewG_light hc.1.1
    have hlen := listN_len (goN l e 8) (3 ^ 8) (Nat.pow_pos (by decide)) (goN_len l e hl 8) a
    have e8 : (3 : Nat) ^ 8 = 6561 := by decide
    rw [e8] at hlen
    have hl2 : a.length * 6561 ≤ 12 * 6561 := Nat.mul_le_mul_right _ (by omega)
    have hp := listN_plain (goN l e 8) (goN_plain l e 8) a
    rw [Bool.not_true, cond_false, F_norm_List_eq l e a hl (by omega), Option.bind_some, F_slices_ContainsFunc_Atom_eq _ F_l38_NormOut_1 (fun y => y.Group) (fun _ _ => rfl), Option.bind_some, any_group_false hp, cond_false,
      F_atom_Out_eq [] _ lightG_nil h _ (by omega), Option.bind_some, F_atom_Out_eq l e hl h _ (by omega), Option.bind_some, F_exec_Same_eq, Option.bind_some, listN_out (goN l e 8) (goG l e 8) _ h (goN_out l e _ h 8)]
    simp [opt]
end Go.Proofs.Ytknpgojdkobgjaa.W
