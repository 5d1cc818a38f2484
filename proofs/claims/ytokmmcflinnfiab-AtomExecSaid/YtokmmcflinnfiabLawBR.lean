/- LawBR: a part of the proof. -/
import Derived.Test.YtokmmcflinnfiabLawBN
set_option linter.unusedVariables false
set_option linter.unusedSimpArgs false
namespace Go.Proofs.Ytokmmcflinnfiab.W
open Go Go.Wb

/-! ### the reference's words -/
theorem F61_eq (a b : Wide) : F61 a b = some (wand a b) := rfl
theorem F43_eq (a b : Wide) : F43 a b = some (wor a b) := rfl
theorem F44_eq (a b : Wide) : F44 a b = some (wless a b) := rfl
theorem F42_eqR (t : Tern) : F42 t = some (tclean t) := rfl
theorem inc (n : Nat) (h : n < 9223372036854775807) : IntKind.i64.wrap ((n : Int) + 1) = ((n + 1 : Nat) : Int) := by rw [wrap_i64 (by omega) (by omega)]; omega
theorem F21_l1_eq (c : Cube) : ∀ (m i : Nat), i ≤ 24 → 24 < i + m → F21_l1 m (upto (fun i => tclean (ve c i)) c i) (i : Int) = some (cclean c)
  | 0, i, h1, h2 => by omega
  | m + 1, i, h1, h2 => by
    rw [F21_l1]
    by_cases h : i < 24
    · rw [decide_eq_true (by omega), cond_true, chk_nat h, Option.bind_some, F42_eqR, Option.bind_some, Option.bind_some, vget_eq, ve_upto _ _ _ _ h, if_neg (by omega), inc i (by omega)]
      show F21_l1 m (Vector.set (upto (fun i => tclean (ve c i)) c i) i (tclean (ve c i)) _) _ = _
      rw [upto_set (fun i => tclean (ve c i)) c i h, F21_l1_eq c m (i + 1) (by omega) (by omega)]
    · have : i = 24 := by omega
      subst this
      rw [decide_eq_false (by omega), cond_false, upto_all]; rfl
theorem F21_eq (c : Cube) : F21 c = some (cclean c) := by
  unfold F21
  have := F21_l1_eq c (((24 : Int) - 0).toNat + 1) 0 (by omega) (by decide)
  rw [upto_zero] at this
  exact this
theorem F22_l1_eq (a b : Cube) : ∀ (m i : Nat), i ≤ 24 → 24 < i + m → F22_l1 (cclean b) m (upto (fun i => tover (ve a i) (ve b i)) (cclean a) i) (i : Int) = some (cthen a b)
  | 0, i, h1, h2 => by omega
  | m + 1, i, h1, h2 => by
    rw [F22_l1]
    by_cases h : i < 24
    · simp only [decide_eq_true (show ((i : Int) < 24) by omega), cond_true, chk_nat h, Option.bind_some, vget_eq, F44_eq, F43_eq, inc i (by omega)]
      rw [ve_upto _ _ _ _ h, if_neg (by omega), ve_cclean _ _ h, ve_cclean _ _ h]
      have := upto_set (fun i => tover (ve a i) (ve b i)) (cclean a) i h
      show F22_l1 (cclean b) m (Vector.set (upto (fun i => tover (ve a i) (ve b i)) (cclean a) i) i (tover (ve a i) (ve b i)) _) _ = _
      rw [this]
      exact F22_l1_eq a b m (i + 1) (by omega) (by omega)
    · have : i = 24 := by omega
      subst this
      rw [decide_eq_false (by omega), cond_false, upto_all]; rfl
theorem F22_eq (a b : Cube) : F22 a b = some (cthen a b) := by
  unfold F22
  rw [F21_eq, Option.bind_some, F21_eq, Option.bind_some]
  have := F22_l1_eq a b (((24 : Int) - 0).toNat + 1) 0 (by omega) (by decide)
  rw [upto_zero] at this
  exact this
theorem tover_zero (a : Tern) : tover a zTern = tclean a := by
  unfold tover tclean
  have h1 : wor (wless (wand a.Value a.Mask) zTern.Mask) (wand zTern.Value zTern.Mask) = wand a.Value a.Mask := wt_ext fun i hi => by
    have z : wt zTern.Mask i = false := wt_zero i
    have z2 : wt zTern.Value i = false := wt_zero i
    simp only [wt_or, wt_less _ _ _ hi, wt_and, z, z2]
    cases wt a.Value i <;> cases wt a.Mask i <;> rfl
  have h2 : wor a.Mask zTern.Mask = a.Mask := wt_ext fun i hi => by
    have z : wt zTern.Mask i = false := wt_zero i
    rw [wt_or, z, Bool.or_false]
  show (⟨wor (wless (wand a.Value a.Mask) zTern.Mask) (wand zTern.Value zTern.Mask), wor a.Mask zTern.Mask⟩ : Tern) = _
  rw [h1, h2]
theorem tover_clean1 (a b : Tern) : tover (tclean a) b = tover a b := by
  unfold tover
  rw [tclean_clean]; rfl
theorem F46_eqR (r : Cube) (f : Int) (v m : Wide) : F46 r f v m = some (cset r f v m) := by
  unfold F46 cset F62
  rw [Option.bind_some]
  have hz : ∀ i, i < 24 → ve none24 i = zTern := fun i hi => ve_replicate _ _ hi
  cases hc : (decide (f ≥ 0) && decide (f < 24))
  · rw [cond_false, cond_false]
    unfold F46_j1
    rw [F22_eq, Option.bind_some]
    have e : cthen r (Vector.replicate 24 zTern) = cclean r := ve_ext fun i hi => by
      rw [ve_cthen _ _ _ hi, ve_cclean _ _ hi, show ve (Vector.replicate 24 zTern) i = zTern from hz i hi, tover_zero]
    rw [e]
  · simp only [Bool.and_eq_true, decide_eq_true_eq] at hc
    obtain ⟨n, rfl⟩ : ∃ n : Nat, f = (n : Int) := ⟨f.toNat, by omega⟩
    have hn : n < 24 := by omega
    rw [cond_true, cond_true, chk_nat hn, Option.bind_some, Int.toNat_natCast]
    unfold F46_j1
    rw [F22_eq, Option.bind_some]
    have e : cthen r (Vector.set (Vector.replicate 24 zTern) n (⟨v, m⟩ : Tern) hn) = Vector.ofFn fun i : _root_.Fin 24 => if n = i.1 then tover (ve (cclean r) n) ⟨v, m⟩ else ve (cclean r) i.1 := ve_ext fun i hi => by
      rw [ve_cthen _ _ _ hi, ve_set _ _ _ _ _ hi]
      refine Eq.trans ?_ (ve_ofFn (fun i => if n = i then tover (ve (cclean r) n) ⟨v, m⟩ else ve (cclean r) i) i hi).symm
      by_cases h : n = i
      · subst h
        simp only [if_true]
        rw [ve_cclean _ _ hi, tover_clean1]
      · simp only [if_neg h]
        rw [ve_cclean _ _ hi, show ve (Vector.replicate 24 zTern) i = zTern from hz i hi, tover_zero]
    exact congrArg some e
theorem bits_all : ∀ f : _root_.Fin 24, F63 (f.1 : Int) = some (fbits (f.1 : Int)) ∧ F49 (fbits (f.1 : Int)) = some (wlow (fbits (f.1 : Int))) := by decide +kernel
theorem F49_13 : F49 13 = some (wlow 13) := by decide +kernel
theorem F49_3 : F49 3 = some (wlow 3) := by decide +kernel
theorem F48_12 : F48 12 = some (wbit 12) := by decide +kernel
theorem F45_eq (o : Oxm) : F45 o = some (oxT o) := by
  unfold F45 oxT F62
  rw [Option.bind_some]
  cases hc : decide (o.Field ≥ 0) && decide (o.Field < 24)
  · rfl
  · simp only [Bool.and_eq_true, decide_eq_true_eq] at hc
    obtain ⟨h1, h2⟩ := bits_all ⟨o.Field.toNat, by omega⟩
    have e : ((o.Field.toNat : Nat) : Int) = o.Field := by omega
    simp only [e] at h1 h2
    rw [Bool.not_true, cond_false, cond_true]
    cases o.Masked
    · rw [cond_false, cond_false, h1, Option.bind_some, h2]; rfl
    · rfl
theorem F23_eqR (a : Action) : F23 a = some (rwOf a) := by
  have h84 : F47 = some none24 := rfl
  unfold F23 rwOf
  cases decide (a.Kind = 25)
  · rw [cond_false, cond_false]
    cases decide (a.Kind = 17)
    · rw [cond_false, cond_false]
      cases decide (a.Kind = 18)
      · rfl
      · rw [cond_true, cond_true, h84, Option.bind_some, F49_13, Option.bind_some, F46_eqR, Option.bind_some, F49_3, Option.bind_some, F46_eqR]; rfl
    · rw [cond_true, cond_true, h84, Option.bind_some, F48_12, Option.bind_some, Option.bind_some, F46_eqR]; rfl
  · rw [cond_true, cond_true, F45_eq, Option.bind_some, h84, Option.bind_some, F46_eqR]; rfl

/-! the reference's groups -/
theorem fidx_spec {α : Type} (p : α → Bool) : ∀ (l : List α) (w : Nat), fidx p l = (w : Int) → ∃ h : w < l.length, p l[w] = true ∧ ∀ (i : Nat) (hi : i < l.length), i < w → p l[i] = false
  | [], w, h => by unfold fidx at h; omega
  | x :: l, w, h => by
    unfold fidx at h
    cases hp : p x
    · rw [hp, cond_false] at h
      by_cases hn : fidx p l < 0
      · rw [decide_eq_true hn, cond_true] at h; omega
      · rw [decide_eq_false hn, cond_false] at h
        obtain ⟨v, rfl⟩ : ∃ v, w = v + 1 := ⟨w - 1, by have := fidx_ge p l; omega⟩
        obtain ⟨h1, h2, h3⟩ := fidx_spec p l v (by omega)
        refine ⟨by simpa using h1, by simpa using h2, fun i hi hlt => ?_⟩
        cases i with
        | zero => exact hp
        | succ i => exact h3 i (by simpa using hi) (by omega)
    · rw [hp, cond_true] at h
      obtain rfl : w = 0 := by omega
      exact ⟨by simp, hp, fun i hi hlt => by omega⟩
/-! the reference's action sets -/
theorem fidx_take_succ {α : Type} (p : α → Bool) : ∀ (l : List α) (j : Nat) (h : j < l.length), fidx p (l.take (j + 1)) = bif decide (fidx p (l.take j) < 0) then (bif p l[j] then (j : Int) else -1) else fidx p (l.take j)
  | [], j, h => by simp at h
  | x :: l, 0, h => by
    simp only [List.take_zero, List.take_succ_cons, fidx, List.getElem_cons_zero]
    cases p x <;> rfl
  | x :: l, j + 1, h => by
    have hj : j < l.length := by simpa using h
    have ih := fidx_take_succ p l j hj
    have hq := fidx_ge p (l.take j)
    rw [List.take_succ_cons, List.take_succ_cons, fidx, fidx, ih, List.getElem_cons_succ]
    generalize fidx p (l.take j) = q at *
    generalize p l[j] = r at *
    cases p x
    · simp only [cond_false]
      by_cases hn : q < 0
      · simp only [decide_eq_true hn, cond_true]
        cases r
        · rfl
        · simp only [cond_true]
          rw [decide_eq_false (show ¬ ((j : Int) < 0) by omega), cond_false]
          have : decide ((-1 : Int) < 0) = true := rfl
          rw [this, cond_true]
          omega
      · simp only [decide_eq_false hn, cond_false]
        rw [decide_eq_false (show ¬ (q + 1 < 0) by omega), cond_false]
    · rfl
def cls (k : Int) (l : List Action) : List Action := l.filter fun a => decide (a.Kind = k)
def ltF (a b : Action) : Bool := decide (b.Oxm.Field > a.Oxm.Field)
/-! one order -/
theorem rins_pass {α : Type} (lt : α → α → Bool) (x : α) : ∀ P Q : List α, (∀ y ∈ P, lt x y = true) → rins lt x (P ++ Q) = P ++ rins lt x Q
  | [], Q, _ => rfl
  | y :: P, Q, h => by
    rw [List.cons_append, rins, h y (by simp), cond_true, rins_pass lt x P Q fun z hz => h z (by simp [hz])]; rfl
theorem rins_stop {α : Type} (lt : α → α → Bool) (x : α) : ∀ Q : List α, (∀ y ∈ Q, lt x y = false) → rins lt x Q = x :: Q
  | [], _ => rfl
  | y :: Q, h => by rw [rins, h y (by simp), cond_false]
theorem rins_part {α : Type} (lt lt' : α → α → Bool) (x : α) : ∀ P Q : List α, (∀ y ∈ P, lt x y = lt' x y) → (∀ y ∈ Q, lt x y = false) → rins lt x (P ++ Q) = rins lt' x P ++ Q
  | [], Q, _, hq => by rw [List.nil_append, rins_stop lt x Q hq]; rfl
  | y :: P, Q, hp, hq => by
    rw [List.cons_append, rins, rins, hp y (by simp)]
    cases lt' x y
    · rfl
    · rw [cond_true, cond_true, rins_part lt lt' x P Q (fun z hz => hp z (by simp [hz])) hq]; rfl
def tn (k : Int) : Int := if k = 18 then 0 else if k = 17 then 1 else if k = 25 then 2 else if k = 22 then 3 else if k = 0 then 4 else -1
theorem turnOf_eq (k : Int) : turnOf k = tn k := by
  unfold turnOf tn
  simp only [fidx]
  by_cases h1 : k = 18
  · subst h1; rfl
  · by_cases h2 : k = 17
    · subst h2; rfl
    · by_cases h3 : k = 25
      · subst h3; rfl
      · by_cases h4 : k = 22
        · subst h4; rfl
        · by_cases h5 : k = 0
          · subst h5; rfl
          · simp [h1, h2, h3, h4, h5]
theorem ltA_far (x y : Action) (k j : Int) (hx : x.Kind = k) (hy : y.Kind = j) (hk : -1 ≤ tn k ∧ tn k ≤ 4) (hj : -1 ≤ tn j ∧ tn j ≤ 4) (hne : tn k ≠ tn j) : ltA x y = decide (tn k < tn j) := by
  unfold ltA cmpA
  have e : decide (tn k - tn j ≠ 0) = true := decide_eq_true (by omega)
  rw [keyOf_kind, keyOf_kind, hx, hy, turnOf_eq, turnOf_eq, wrap_i64 (by omega) (by omega), e, cond_true, decide_eq_decide]
  omega
theorem ltA_same (x y : Action) (k : Int) (hx : x.Kind = k) (hy : y.Kind = k) (hk : k ≠ 25) : ltA x y = false := by
  unfold ltA cmpA
  rw [keyOf_kind, keyOf_kind, hx, hy, Int.sub_self, show IntKind.i64.wrap 0 = 0 by decide, show decide ((0 : Int) ≠ 0) = false from rfl, cond_false]
  have e1 : (keyOf x).field = 0 := by unfold keyOf; rw [decide_eq_false (by rw [hx]; exact hk)]; rfl
  have e2 : (keyOf y).field = 0 := by unfold keyOf; rw [decide_eq_false (by rw [hy]; exact hk)]; rfl
  rw [e1, e2]; rfl
theorem ltA_set (x y : Action) (hx : x.Kind = 25) (hy : y.Kind = 25) : ltA x y = ltF x y := by
  unfold ltA cmpA ltF
  rw [keyOf_kind, keyOf_kind, hx, hy, Int.sub_self, show IntKind.i64.wrap 0 = 0 by decide, show decide ((0 : Int) ≠ 0) = false from rfl, cond_false]
  have e1 : (keyOf x).field = x.Oxm.Field := by unfold keyOf; rw [decide_eq_true hx]; rfl
  have e2 : (keyOf y).field = y.Oxm.Field := by unfold keyOf; rw [decide_eq_true hy]; rfl
  rw [e1, e2]
  by_cases h : x.Oxm.Field < y.Oxm.Field
  · rw [decide_eq_true h, cond_true]; rfl
  · rw [decide_eq_false h, cond_false]
    cases decide (x.Oxm.Field > y.Oxm.Field) <;> rfl
theorem fold_cls : ∀ (l E D C B A : List Action), (∀ y ∈ E, y.Kind = 0) → (∀ y ∈ D, y.Kind = 22) → (∀ y ∈ C, y.Kind = 25) → (∀ y ∈ B, y.Kind = 17) → (∀ y ∈ A, y.Kind = 18) → (∀ y ∈ l, 0 ≤ tn y.Kind) →
    l.foldl (fun R x => rins ltA x R) (E ++ (D ++ (C ++ (B ++ A)))) = (cls 0 l).reverse ++ E ++ ((cls 22 l).reverse ++ D ++ ((cls 25 l).foldl (fun R x => rins ltF x R) C ++ ((cls 17 l).reverse ++ B ++ ((cls 18 l).reverse ++ A))))
  | [], E, D, C, B, A, _, _, _, _, _, _ => by simp [cls]
  | x :: l, E, D, C, B, A, hE, hD, hC, hB, hA, hl => by
    have hx := hl x (by simp)
    have hl' : ∀ y ∈ l, 0 ≤ tn y.Kind := fun y hy => hl y (by simp [hy])
    have rk : ∀ k : Int, -1 ≤ tn k ∧ tn k ≤ 4 := fun k => by unfold tn; split <;> (try split) <;> (try split) <;> (try split) <;> (try split) <;> omega
    have far : ∀ (y : Action) (k j : Int), x.Kind = k → y.Kind = j → tn k ≠ tn j → ltA x y = decide (tn k < tn j) := fun y k j h1 h2 h3 => ltA_far x y k j h1 h2 (rk k) (rk j) h3
    rw [List.foldl_cons]
    have hxk : x.Kind = 18 ∨ x.Kind = 17 ∨ x.Kind = 25 ∨ x.Kind = 22 ∨ x.Kind = 0 := by
      unfold tn at hx
      by_cases h1 : x.Kind = 18
      · exact .inl h1
      · by_cases h2 : x.Kind = 17
        · exact .inr (.inl h2)
        · by_cases h3 : x.Kind = 25
          · exact .inr (.inr (.inl h3))
          · by_cases h4 : x.Kind = 22
            · exact .inr (.inr (.inr (.inl h4)))
            · by_cases h5 : x.Kind = 0
              · exact .inr (.inr (.inr (.inr h5)))
              · simp [h1, h2, h3, h4, h5] at hx
    have c1 : ∀ k, x.Kind = k → cls k (x :: l) = x :: cls k l := fun k h => by unfold cls; rw [List.filter_cons_of_pos (by simp [h])]
    have c0 : ∀ k, x.Kind ≠ k → cls k (x :: l) = cls k l := fun k h => by unfold cls; rw [List.filter_cons_of_neg (by simp [h])]
    rcases hxk with h | h | h | h | h
    · rw [rins_pass ltA x E _ fun y hy => (far y 18 0 h (hE y hy) (by decide)).trans rfl, rins_pass ltA x D _ fun y hy => (far y 18 22 h (hD y hy) (by decide)).trans rfl, rins_pass ltA x C _ fun y hy => (far y 18 25 h (hC y hy) (by decide)).trans rfl, rins_pass ltA x B _ fun y hy => (far y 18 17 h (hB y hy) (by decide)).trans rfl, rins_stop ltA x A fun y hy => ltA_same x y 18 h (hA y hy) (by decide),
        fold_cls l E D C B (x :: A) hE hD hC hB (fun y hy => by rcases List.mem_cons.1 hy with rfl | hy; exact h; exact hA y hy) hl', c1 18 h, c0 17 (by rw [h]; decide), c0 25 (by rw [h]; decide), c0 22 (by rw [h]; decide), c0 0 (by rw [h]; decide)]
      simp
    · rw [rins_pass ltA x E _ fun y hy => (far y 17 0 h (hE y hy) (by decide)).trans rfl, rins_pass ltA x D _ fun y hy => (far y 17 22 h (hD y hy) (by decide)).trans rfl, rins_pass ltA x C _ fun y hy => (far y 17 25 h (hC y hy) (by decide)).trans rfl, rins_stop ltA x (B ++ A) fun y hy => (by
        rcases List.mem_append.1 hy with hy | hy
        · exact ltA_same x y 17 h (hB y hy) (by decide)
        · exact (far y 17 18 h (hA y hy) (by decide)).trans rfl)]
      have := fold_cls l E D C (x :: B) A hE hD hC (fun y hy => by rcases List.mem_cons.1 hy with rfl | hy; exact h; exact hB y hy) hA hl'
      rw [List.cons_append] at this
      rw [this, c1 17 h, c0 18 (by rw [h]; decide), c0 25 (by rw [h]; decide), c0 22 (by rw [h]; decide), c0 0 (by rw [h]; decide)]
      simp
    · rw [rins_pass ltA x E _ fun y hy => (far y 25 0 h (hE y hy) (by decide)).trans rfl, rins_pass ltA x D _ fun y hy => (far y 25 22 h (hD y hy) (by decide)).trans rfl, rins_part ltA ltF x C (B ++ A) (fun y hy => ltA_set x y h (hC y hy)) (fun y hy => (by
        rcases List.mem_append.1 hy with hy | hy
        · exact (far y 25 17 h (hB y hy) (by decide)).trans rfl
        · exact (far y 25 18 h (hA y hy) (by decide)).trans rfl)),
        fold_cls l E D (rins ltF x C) B A hE hD (fun y hy => by rcases List.mem_cons.1 ((rins_perm ltF x C).mem_iff.1 hy) with rfl | hy; exact h; exact hC y hy) hB hA hl', c1 25 h, c0 18 (by rw [h]; decide), c0 17 (by rw [h]; decide), c0 22 (by rw [h]; decide), c0 0 (by rw [h]; decide)]
      rw [List.foldl_cons]
    · rw [rins_pass ltA x E _ fun y hy => (far y 22 0 h (hE y hy) (by decide)).trans rfl, rins_stop ltA x (D ++ (C ++ (B ++ A))) fun y hy => (by
        rcases List.mem_append.1 hy with hy | hy
        · exact ltA_same x y 22 h (hD y hy) (by decide)
        · rcases List.mem_append.1 hy with hy | hy
          · exact (far y 22 25 h (hC y hy) (by decide)).trans rfl
          · rcases List.mem_append.1 hy with hy | hy
            · exact (far y 22 17 h (hB y hy) (by decide)).trans rfl
            · exact (far y 22 18 h (hA y hy) (by decide)).trans rfl)]
      have := fold_cls l E (x :: D) C B A hE (fun y hy => by rcases List.mem_cons.1 hy with rfl | hy; exact h; exact hD y hy) hC hB hA hl'
      rw [List.cons_append] at this
      rw [this, c1 22 h, c0 18 (by rw [h]; decide), c0 17 (by rw [h]; decide), c0 25 (by rw [h]; decide), c0 0 (by rw [h]; decide)]
      simp
    · rw [rins_stop ltA x (E ++ (D ++ (C ++ (B ++ A)))) fun y hy => (by
        rcases List.mem_append.1 hy with hy | hy
        · exact ltA_same x y 0 h (hE y hy) (by decide)
        · rcases List.mem_append.1 hy with hy | hy
          · exact (far y 0 22 h (hD y hy) (by decide)).trans rfl
          · rcases List.mem_append.1 hy with hy | hy
            · exact (far y 0 25 h (hC y hy) (by decide)).trans rfl
            · rcases List.mem_append.1 hy with hy | hy
              · exact (far y 0 17 h (hB y hy) (by decide)).trans rfl
              · exact (far y 0 18 h (hA y hy) (by decide)).trans rfl)]
      have := fold_cls l (x :: E) D C B A (fun y hy => by rcases List.mem_cons.1 hy with rfl | hy; exact h; exact hE y hy) hD hC hB hA hl'
      rw [List.cons_append] at this
      rw [this, c1 0 h, c0 18 (by rw [h]; decide), c0 17 (by rw [h]; decide), c0 25 (by rw [h]; decide), c0 22 (by rw [h]; decide)]
      simp
theorem srt_cls (l : List Action) (h : ∀ y ∈ l, 0 ≤ tn y.Kind) : srt ltA l = cls 18 l ++ (cls 17 l ++ (srt ltF (cls 25 l) ++ (cls 22 l ++ cls 0 l))) := by
  unfold srt
  have := fold_cls l [] [] [] [] [] (by simp) (by simp) (by simp) (by simp) (by simp) h
  simp only [List.nil_append, List.append_nil] at this
  rw [this]
  simp
theorem cls_filter (k : Int) (p : Action → Bool) (l : List Action) (h : ∀ a, a.Kind = k → p a = true) : cls k (l.filter p) = cls k l := by
  unfold cls
  rw [List.filter_filter]
  apply List.filter_congr
  intro a _
  by_cases hk : a.Kind = k
  · simp [hk, h a hk]
  · simp [hk]
theorem cls_none (k : Int) (p : Action → Bool) (l : List Action) (h : ∀ a, a.Kind = k → p a = false) : cls k (l.filter p) = [] := by
  unfold cls
  rw [List.filter_filter, List.filter_eq_nil_iff]
  intro a _
  by_cases hk : a.Kind = k
  · simp [hk, h a hk]
  · simp [hk]
/-! ### what goes out, by the reference -/
theorem sameStep (x y : Out) (K : Option Bool) : ((opt (!(decide (x.Port ≠ y.Port))) (some x)).bind fun e8 => (opt (!(decide (x.Port ≠ y.Port))) (some y)).bind fun e9 => (opt (!((decide (x.Port ≠ y.Port)) || (decide (e8.Max ≠ e9.Max)))) (some x)).bind fun e10 => (opt (!((decide (x.Port ≠ y.Port)) || (decide (e8.Max ≠ e9.Max)))) (some y)).bind fun e11 => (bif (((decide (x.Port ≠ y.Port)) || (decide (e8.Max ≠ e9.Max))) || (decide (e10.Header ≠ e11.Header))) then some false else K)) = bif decide (x = y) then K else some false := by
  cases x; cases y; rename_i p m h p' m' h'
  by_cases hp : p = p'
  · by_cases hm : m = m'
    · by_cases hh : h = h'
      · simp [opt, hp, hm, hh]
      · simp [opt, hp, hm, hh]
    · simp [opt, hp, hm]
  · simp [opt, hp]
end Go.Proofs.Ytokmmcflinnfiab.W
