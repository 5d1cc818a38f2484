/- LawZR: a part of the proof. -/
import Derived.Test.YtokmmcflinnfiaaGreatLawZN
set_option linter.unusedVariables false
set_option linter.unusedSimpArgs false
namespace Go.Proofs.YtokmmcflinnfiaaGreat.W
open Go Go.Wb

/-! ### the reference's words -/
theorem F77_eq (a b : Wide) : F77 a b = some (wand a b) := rfl
theorem F75_eq (a b : Wide) : F75 a b = some (wor a b) := rfl
theorem F76_eq (a b : Wide) : F76 a b = some (wless a b) := rfl
theorem F62_eqR (t : Tern) : F62 t = some (tclean t) := rfl
theorem inc (n : Nat) (h : n < 9223372036854775807) : IntKind.i64.wrap ((n : Int) + 1) = ((n + 1 : Nat) : Int) := by rw [wrap_i64 (by omega) (by omega)]; omega
theorem F37_l1_eq (c : Cube) : ∀ (m i : Nat), i ≤ 24 → 24 < i + m → F37_l1 m (upto (fun i => tclean (ve c i)) c i) (i : Int) = some (cclean c)
  | 0, i, h1, h2 => by omega
  | m + 1, i, h1, h2 => by
    rw [F37_l1]
    by_cases h : i < 24
    · rw [decide_eq_true (by omega), cond_true, chk_nat h, Option.bind_some, F62_eqR, Option.bind_some, Option.bind_some, vget_eq, ve_upto _ _ _ _ h, if_neg (by omega), inc i (by omega)]
      show F37_l1 m (Vector.set (upto (fun i => tclean (ve c i)) c i) i (tclean (ve c i)) _) _ = _
      rw [upto_set (fun i => tclean (ve c i)) c i h, F37_l1_eq c m (i + 1) (by omega) (by omega)]
    · have : i = 24 := by omega
      subst this
      rw [decide_eq_false (by omega), cond_false, upto_all]; rfl
theorem F37_eq (c : Cube) : F37 c = some (cclean c) := by
  unfold F37
  have := F37_l1_eq c (((24 : Int) - 0).toNat + 1) 0 (by omega) (by decide)
  rw [upto_zero] at this
  exact this
theorem F48_l1_eqR (r : Cube) (h : Header) : ∀ (m i : Nat), i ≤ 24 → 24 < i + m → F48_l1 r m (upto (fun f => wor (wless (ve h f) (ve r f).Mask) (wand (ve r f).Value (ve r f).Mask)) h i) (i : Int) = some (capply r h)
  | 0, i, h1, h2 => by omega
  | m + 1, i, h1, h2 => by
    rw [F48_l1]
    by_cases hi : i < 24
    · simp only [decide_eq_true (show ((i : Int) < 24) by omega), cond_true, chk_nat hi, Option.bind_some, vget_eq, F76_eq, F77_eq, F75_eq, inc i (by omega)]
      rw [ve_upto _ _ _ _ hi, if_neg (by omega)]
      have := upto_set (fun f => wor (wless (ve h f) (ve r f).Mask) (wand (ve r f).Value (ve r f).Mask)) h i hi
      rw [this]
      exact F48_l1_eqR r h m (i + 1) (by omega) (by omega)
    · have : i = 24 := by omega
      subst this
      rw [decide_eq_false (by omega), cond_false, upto_all]; rfl
theorem F48_eqR (r : Cube) (h : Header) : F48 r h = some (capply r h) := by
  unfold F48
  have := F48_l1_eqR r h (((24 : Int) - 0).toNat + 1) 0 (by omega) (by decide)
  rw [upto_zero] at this
  exact this
theorem F111_l1_eq (a b : Cube) : ∀ (m i : Nat), i ≤ 24 → 24 < i + m → F111_l1 (cclean b) m (upto (fun i => tover (ve a i) (ve b i)) (cclean a) i) (i : Int) = some (cthen a b)
  | 0, i, h1, h2 => by omega
  | m + 1, i, h1, h2 => by
    rw [F111_l1]
    by_cases h : i < 24
    · simp only [decide_eq_true (show ((i : Int) < 24) by omega), cond_true, chk_nat h, Option.bind_some, vget_eq, F76_eq, F75_eq, inc i (by omega)]
      rw [ve_upto _ _ _ _ h, if_neg (by omega), ve_cclean _ _ h, ve_cclean _ _ h]
      have := upto_set (fun i => tover (ve a i) (ve b i)) (cclean a) i h
      show F111_l1 (cclean b) m (Vector.set (upto (fun i => tover (ve a i) (ve b i)) (cclean a) i) i (tover (ve a i) (ve b i)) _) _ = _
      rw [this]
      exact F111_l1_eq a b m (i + 1) (by omega) (by omega)
    · have : i = 24 := by omega
      subst this
      rw [decide_eq_false (by omega), cond_false, upto_all]; rfl
theorem F111_eq (a b : Cube) : F111 a b = some (cthen a b) := by
  unfold F111
  rw [F37_eq, Option.bind_some, F37_eq, Option.bind_some]
  have := F111_l1_eq a b (((24 : Int) - 0).toNat + 1) 0 (by omega) (by decide)
  rw [upto_zero] at this
  exact this
theorem tover_zero (a : Tern) : tover a zTern = tclean a := by
  unfold tover tclean
  have h1 : wor (wless (wand a.Value a.Mask) zTern.Mask) (wand zTern.Value zTern.Mask) = wand a.Value a.Mask := wt_ext fun i hi => by
    have z : wt zTern.Mask i = false := wt_zero i
    have z2 : wt zTern.Value i = false := wt_zero i
    simp only [wt_or, wt_less _ _ _ hi, wt_and, z, z2]
    cases wt a.Value i <;> cases wt a.Mask i <;> rfl
  have h2 : wor a.Mask zTern.Mask = a.Mask := wt_ext fun i hi => by
    have z : wt zTern.Mask i = false := wt_zero i
    rw [wt_or, z, Bool.or_false]
  show (⟨wor (wless (wand a.Value a.Mask) zTern.Mask) (wand zTern.Value zTern.Mask), wor a.Mask zTern.Mask⟩ : Tern) = _
  rw [h1, h2]
theorem tover_clean1 (a b : Tern) : tover (tclean a) b = tover a b := by
  unfold tover
  rw [tclean_clean]; rfl
theorem F83_eqR (r : Cube) (f : Int) (v m : Wide) : F83 r f v m = some (cset r f v m) := by
  unfold F83 cset F118
  rw [Option.bind_some]
  have hz : ∀ i, i < 24 → ve none24 i = zTern := fun i hi => ve_replicate _ _ hi
  cases hc : (decide (f ≥ 0) && decide (f < 24))
  · rw [cond_false, cond_false]
    unfold F83_j1
    rw [F111_eq, Option.bind_some]
    have e : cthen r (Vector.replicate 24 zTern) = cclean r := ve_ext fun i hi => by
      rw [ve_cthen _ _ _ hi, ve_cclean _ _ hi, show ve (Vector.replicate 24 zTern) i = zTern from hz i hi, tover_zero]
    rw [e]
  · simp only [Bool.and_eq_true, decide_eq_true_eq] at hc
    obtain ⟨n, rfl⟩ : ∃ n : Nat, f = (n : Int) := ⟨f.toNat, by omega⟩
    have hn : n < 24 := by omega
    rw [cond_true, cond_true, chk_nat hn, Option.bind_some, Int.toNat_natCast]
    unfold F83_j1
    rw [F111_eq, Option.bind_some]
    have e : cthen r (Vector.set (Vector.replicate 24 zTern) n (⟨v, m⟩ : Tern) hn) = Vector.ofFn fun i : _root_.Fin 24 => if n = i.1 then tover (ve (cclean r) n) ⟨v, m⟩ else ve (cclean r) i.1 := ve_ext fun i hi => by
      rw [ve_cthen _ _ _ hi, ve_set _ _ _ _ _ hi]
      refine Eq.trans ?_ (ve_ofFn (fun i => if n = i then tover (ve (cclean r) n) ⟨v, m⟩ else ve (cclean r) i) i hi).symm
      by_cases h : n = i
      · subst h
        simp only [if_true]
        rw [ve_cclean _ _ hi, tover_clean1]
      · simp only [if_neg h]
        rw [ve_cclean _ _ hi, show ve (Vector.replicate 24 zTern) i = zTern from hz i hi, tover_zero]
    exact congrArg some e
theorem bits_all : ∀ f : _root_.Fin 24, F119 (f.1 : Int) = some (fbits (f.1 : Int)) ∧ F86 (fbits (f.1 : Int)) = some (wlow (fbits (f.1 : Int))) := by decide +kernel
theorem F86_13 : F86 13 = some (wlow 13) := by decide +kernel
theorem F86_3 : F86 3 = some (wlow 3) := by decide +kernel
theorem F85_12 : F85 12 = some (wbit 12) := by decide +kernel
theorem F82_eq (o : Oxm) : F82 o = some (oxT o) := by
  unfold F82 oxT F118
  rw [Option.bind_some]
  cases hc : decide (o.Field ≥ 0) && decide (o.Field < 24)
  · rfl
  · simp only [Bool.and_eq_true, decide_eq_true_eq] at hc
    obtain ⟨h1, h2⟩ := bits_all ⟨o.Field.toNat, by omega⟩
    have e : ((o.Field.toNat : Nat) : Int) = o.Field := by omega
    simp only [e] at h1 h2
    rw [Bool.not_true, cond_false, cond_true]
    cases o.Masked
    · rw [cond_false, cond_false, h1, Option.bind_some, h2]; rfl
    · rfl
theorem F52_eqR (a : Action) : F52 a = some (rwOf a) := by
  have h84 : F84 = some none24 := rfl
  unfold F52 rwOf
  cases decide (a.Kind = 25)
  · rw [cond_false, cond_false]
    cases decide (a.Kind = 17)
    · rw [cond_false, cond_false]
      cases decide (a.Kind = 18)
      · rfl
      · rw [cond_true, cond_true, h84, Option.bind_some, F86_13, Option.bind_some, F83_eqR, Option.bind_some, F86_3, Option.bind_some, F83_eqR]; rfl
    · rw [cond_true, cond_true, h84, Option.bind_some, F85_12, Option.bind_some, Option.bind_some, F83_eqR]; rfl
  · rw [cond_true, cond_true, F82_eq, Option.bind_some, h84, Option.bind_some, F83_eqR]; rfl

/-! the reference's groups -/
theorem F102_l1_eq (l : List Group) (id : Int) (hl : l.length ≤ 9) : ∀ (m i : Nat), i ≤ l.length → l.length < i + m → F102_l1 l id m (i : Int) = some (bif decide (fidx (fun g : Group => decide (g.ID = id)) (l.drop i) < 0) then -1 else fidx (fun g : Group => decide (g.ID = id)) (l.drop i) + i)
  | 0, i, h1, h2 => by omega
  | m + 1, i, h1, h2 => by
    rw [F102_l1]
    by_cases h : i < l.length
    · rw [decide_eq_true (by omega), cond_true, lget_lt h, Option.bind_some, List.drop_eq_getElem_cons h, fidx]
      by_cases hp : l[i].ID = id
      · rw [decide_eq_true hp, cond_true, cond_true, decide_eq_false (by omega), cond_false]; simp
      · have hge := fidx_ge (fun g : Group => decide (g.ID = id)) (l.drop (i + 1))
        rw [decide_eq_false hp, cond_false, cond_false, inc i (by omega), F102_l1_eq l id hl m (i + 1) (by omega) (by omega)]
        by_cases hn : fidx (fun g : Group => decide (g.ID = id)) (l.drop (i + 1)) < 0
        · rw [decide_eq_true hn, cond_true, cond_true]; rfl
        · rw [decide_eq_false hn, cond_false, cond_false, decide_eq_false (by omega), cond_false]
          congr 1; omega
    · rw [decide_eq_false (by omega), cond_false, List.drop_of_length_le (by omega)]
      rfl
theorem F57_eqR (l : List Group) (id : Int) (hl : l.length ≤ 9) : F57 l id = some (match findG l id with | none => ((⟨0, 0, []⟩ : Group), false) | some g => (g, true)) := by
  unfold F57 F102 findG
  have h0 := F102_l1_eq l id hl ((((l.length : Int) : Int) - 0).toNat + 1) 0 (by omega) (by omega)
  rw [show ((0 : Nat) : Int) = 0 from rfl, List.drop_zero] at h0
  rw [h0, Option.bind_some]
  rcases fidx_find (fun g : Group => decide (g.ID = id)) l with ⟨h1, h2⟩ | ⟨n, h1, h2, h3, h4⟩
  · rw [decide_eq_true h1, cond_true, h2]; rfl
  · have e0 : decide ((n : Int) < 0) = false := decide_eq_false (by omega)
    rw [h1, e0, cond_false, Int.add_zero, decide_eq_true (by omega), cond_true, lget_lt h2, Option.bind_some, h3]
theorem F104_l1_eq (e : Env) (he : e.Down.length ≤ 20) (p : Int) : ∀ (m i : Nat), i ≤ e.Down.length → e.Down.length < i + m → F104_l1 e p m (i : Int) = some (!(e.Down.drop i).contains p)
  | 0, i, h1, h2 => by omega
  | m + 1, i, h1, h2 => by
    rw [F104_l1]
    by_cases hi : i < e.Down.length
    · rw [decide_eq_true (by omega), cond_true, lget_lt hi, Option.bind_some, List.drop_eq_getElem_cons hi, List.contains_cons]
      by_cases hp : e.Down[i] = p
      · rw [decide_eq_true hp, cond_true, hp]; simp
      · rw [decide_eq_false hp, cond_false, inc i (by omega), F104_l1_eq e he p m (i + 1) (by omega) (by omega)]
        have : (p == e.Down[i]) = false := by simpa using fun h => hp h.symm
        rw [this, Bool.false_or]
    · rw [decide_eq_false (by omega), cond_false, List.drop_of_length_le (by omega)]
      rfl
theorem F104_eq (e : Env) (he : e.Down.length ≤ 20) (p : Int) : F104 e p = some (!e.Down.contains p) := by
  unfold F104
  have := F104_l1_eq e he p ((((e.Down.length : Int) : Int) - 0).toNat + 1) 0 (by omega) (by omega)
  simpa using this
theorem F58_all (e : Env) (g : Group) (h3 : g.Buckets.length ≤ 3) (hk : g.Kind = 0) : ∀ (m i : Nat) (acc : List Int), i ≤ g.Buckets.length → g.Buckets.length < i + m → acc.length ≤ i →
    F58_l1 g e m acc (i : Int) = some (acc ++ (List.range' i (g.Buckets.length - i)).map fun (i : Nat) => (i : Int))
  | 0, i, acc, h1, h2, _ => by omega
  | m + 1, i, acc, h1, h2, h4 => by
    have hlim : lim = 4294967296 := rfl
    rw [F58_l1]
    by_cases hi : i < g.Buckets.length
    · have : g.Buckets.length - i = (g.Buckets.length - (i + 1)) + 1 := by omega
      rw [decide_eq_true (by omega), cond_true, decide_eq_true hk, cond_true, appd_ok (by simp; omega), Option.bind_some, inc i (by omega), F58_all e g h3 hk m (i + 1) _ (by omega) (by omega) (by simp; omega), this, List.range'_succ]
      simp
    · have : g.Buckets.length - i = 0 := by omega
      rw [decide_eq_false (by omega), cond_false, this]; simp
/-- one place is taken, once it comes up -/
theorem F58_one (e : Env) (g : Group) (h3 : g.Buckets.length ≤ 3) (w : Nat) (hw : w < g.Buckets.length) (hstep : ∀ m acc (i : Nat), i < g.Buckets.length → (acc = [] ∧ i ≤ w ∨ acc = [(w : Int)] ∧ w < i) → F58_l1 g e (m + 1) acc (i : Int) = bif decide (i = w) then (appd acc [(i : Int)]).bind fun l => F58_l1 g e m l ((i + 1 : Nat) : Int) else F58_l1 g e m acc ((i + 1 : Nat) : Int)) :
    ∀ (m i : Nat), i ≤ g.Buckets.length → g.Buckets.length < i + m → F58_l1 g e m (bif decide (w < i) then [(w : Int)] else []) (i : Int) = some [(w : Int)]
  | 0, i, h1, h2 => by omega
  | m + 1, i, h1, h2 => by
    by_cases hi : i < g.Buckets.length
    · rw [hstep m _ i hi (by by_cases h : w < i <;> simp [h]; omega)]
      have ih := F58_one e g h3 w hw hstep m (i + 1) (by omega) (by omega)
      by_cases h : i = w
      · subst h
        rw [decide_eq_true rfl, cond_true, decide_eq_false (by omega), cond_false, appd_ok (by simp [lim]), Option.bind_some, List.nil_append]
        rw [decide_eq_true (by omega), cond_true] at ih
        exact ih
      · rw [decide_eq_false h, cond_false]
        have : decide (w < i) = decide (w < i + 1) := by rw [decide_eq_decide]; omega
        rw [this]; exact ih
    · rw [F58_l1, decide_eq_false (by omega), cond_false, decide_eq_true (by omega), cond_true]
theorem F58_none (e : Env) (g : Group) (h3 : g.Buckets.length ≤ 3) (hstep : ∀ m (i : Nat), i < g.Buckets.length → F58_l1 g e (m + 1) [] (i : Int) = F58_l1 g e m [] ((i + 1 : Nat) : Int)) :
    ∀ (m i : Nat), i ≤ g.Buckets.length → g.Buckets.length < i + m → F58_l1 g e m [] (i : Int) = some []
  | 0, i, h1, h2 => by omega
  | m + 1, i, h1, h2 => by
    by_cases hi : i < g.Buckets.length
    · rw [hstep m i hi]; exact F58_none e g h3 hstep m (i + 1) (by omega) (by omega)
    · rw [F58_l1, decide_eq_false (by omega), cond_false]

theorem fidx_spec {α : Type} (p : α → Bool) : ∀ (l : List α) (w : Nat), fidx p l = (w : Int) → ∃ h : w < l.length, p l[w] = true ∧ ∀ (i : Nat) (hi : i < l.length), i < w → p l[i] = false
  | [], w, h => by unfold fidx at h; omega
  | x :: l, w, h => by
    unfold fidx at h
    cases hp : p x
    · rw [hp, cond_false] at h
      by_cases hn : fidx p l < 0
      · rw [decide_eq_true hn, cond_true] at h; omega
      · rw [decide_eq_false hn, cond_false] at h
        obtain ⟨v, rfl⟩ : ∃ v, w = v + 1 := ⟨w - 1, by have := fidx_ge p l; omega⟩
        obtain ⟨h1, h2, h3⟩ := fidx_spec p l v (by omega)
        refine ⟨by simpa using h1, by simpa using h2, fun i hi hlt => ?_⟩
        cases i with
        | zero => exact hp
        | succ i => exact h3 i (by simpa using hi) (by omega)
    · rw [hp, cond_true] at h
      obtain rfl : w = 0 := by omega
      exact ⟨by simp, hp, fun i hi hlt => by omega⟩
theorem F103_eqR (e : Env) (n : Nat) (hn : 0 < n) (hn2 : n ≤ 1000) : F103 e (n : Int) = some (whichOf e n) := (F89_eq e n hn hn2).1
theorem F58_eqR (e : Env) (he : e.Down.length ≤ 20) (g : Group) (h : lightB g.Buckets) : F58 e g = some (takesOf e g) := by
  have h3 := h.1
  have hfu : (((g.Buckets.length : Int) : Int) - 0).toNat + 1 = g.Buckets.length + 1 := by omega
  unfold F58 takesOf
  rw [hfu]
  by_cases h0 : g.Buckets.length = 0
  · rw [decide_eq_true h0, cond_true, F58_l1, decide_eq_false (by omega), cond_false]
  · rw [decide_eq_false h0, cond_false]
    by_cases k0 : g.Kind = 0
    · rw [decide_eq_true k0, cond_true]
      have := F58_all e g h3 k0 (g.Buckets.length + 1) 0 [] (by omega) (by omega) (by simp)
      rw [show ((0 : Nat) : Int) = 0 from rfl] at this
      rw [this]; simp
    · rw [decide_eq_false k0, cond_false]
      by_cases k1 : g.Kind = 1
      · obtain ⟨_, w1, w2⟩ := F89_eq e g.Buckets.length (by omega) (by omega)
        obtain ⟨w, hw⟩ : ∃ w : Nat, whichOf e g.Buckets.length = (w : Int) := ⟨(whichOf e g.Buckets.length).toNat, by omega⟩
        rw [decide_eq_true k1, cond_true, hw]
        have := F58_one e g h3 w (by omega) (fun m acc i hi _ => by
          rw [F58_l1, decide_eq_true (by omega), cond_true, decide_eq_false k0, cond_false, decide_eq_true k1, cond_true, F103_eqR e _ (by omega) (by omega), Option.bind_some, hw, inc i (by omega)]
          have : decide ((i : Int) = (w : Int)) = decide (i = w) := by rw [decide_eq_decide]; omega
          rw [this]) (g.Buckets.length + 1) 0 (by omega) (by omega)
        rw [decide_eq_false (by omega), cond_false] at this
        exact this
      · rw [decide_eq_false k1, cond_false]
        by_cases k2 : g.Kind = 2
        · rw [decide_eq_true k2, cond_true]
          have := F58_one e g h3 0 (by omega) (fun m acc i hi _ => by
            rw [F58_l1, decide_eq_true (by omega), cond_true, decide_eq_false k0, cond_false, decide_eq_false k1, cond_false, decide_eq_true k2, cond_true, inc i (by omega)]
            have : decide ((i : Int) = 0) = decide (i = 0) := by rw [decide_eq_decide]; omega
            rw [this]) (g.Buckets.length + 1) 0 (by omega) (by omega)
          rw [decide_eq_false (by omega), cond_false] at this
          exact this
        · rw [decide_eq_false k2, cond_false]
          by_cases k3 : g.Kind = 3
          · rw [decide_eq_true k3, cond_true]
            by_cases hu : upOf e g.Buckets ≥ 0
            · obtain ⟨w, hw⟩ : ∃ w : Nat, upOf e g.Buckets = (w : Int) := ⟨(upOf e g.Buckets).toNat, by omega⟩
              obtain ⟨s1, s2, s3⟩ := fidx_spec _ _ w hw
              rw [decide_eq_true hu, cond_true, hw]
              have := F58_one e g h3 w s1 (fun m acc i hi hacc => by
                rw [F58_l1, decide_eq_true (by omega), cond_true, decide_eq_false k0, cond_false, decide_eq_false k1, cond_false, decide_eq_false k2, cond_false, decide_eq_true k3, cond_true, inc i (by omega)]
                rcases hacc with ⟨rfl, hiw⟩ | ⟨rfl, hiw⟩
                · rw [show decide ((([] : List Int).length : Int) = 0) = true from rfl, opt_true, lget_lt hi, Option.bind_some, opt_true, F104_eq e he, Option.bind_some, Bool.true_and]
                  by_cases hi2 : i = w
                  · subst hi2
                    rw [s2, decide_eq_true rfl]
                  · rw [s3 i hi (by omega), decide_eq_false hi2]
                · rw [show decide ((([(w : Int)] : List Int).length : Int) = 0) = false from rfl]
                  simp only [opt_false, Option.bind_some, Bool.false_and, cond_false]
                  rw [decide_eq_false (by omega), cond_false]) (g.Buckets.length + 1) 0 (by omega) (by omega)
              rw [decide_eq_false (by omega), cond_false] at this
              exact this
            · have hn : fidx (fun x : Bucket => !e.Down.contains x.Watch) g.Buckets < 0 := by unfold upOf at hu; omega
              rw [decide_eq_false hu, cond_false]
              exact F58_none e g h3 (fun m i hi => by
                have hp := fidx_none _ _ hn g.Buckets[i] (List.getElem_mem hi)
                rw [F58_l1, decide_eq_true (by omega), cond_true, decide_eq_false k0, cond_false, decide_eq_false k1, cond_false, decide_eq_false k2, cond_false, decide_eq_true k3, cond_true, inc i (by omega)]
                rw [show decide ((([] : List Int).length : Int) = 0) = true from rfl, opt_true, lget_lt hi, Option.bind_some, opt_true, F104_eq e he, Option.bind_some, Bool.true_and]
                rw [hp, cond_false]) (g.Buckets.length + 1) 0 (by omega) (by omega)
          · rw [decide_eq_false k3, cond_false]
            exact F58_none e g h3 (fun m i hi => by
              rw [F58_l1, decide_eq_true (by omega), cond_true, decide_eq_false k0, cond_false, decide_eq_false k1, cond_false, decide_eq_false k2, cond_false, decide_eq_false k3, cond_false, inc i (by omega)]) (g.Buckets.length + 1) 0 (by omega) (by omega)

/-! the reference's action sets -/
theorem F107_eqR (a b : Action) : F107 a b = some (decide (keyOf b = keyOf a)) := by
  unfold F107
  congr 1
  rw [Bool.eq_iff_iff]
  unfold keyOf
  by_cases ha : a.Kind = 25
  · by_cases hb : b.Kind = 25
    · simp [ha, hb, eq_comm]
    · have : a.Kind ≠ b.Kind := fun e => hb (e ▸ ha)
      simp [ha, hb, this, eq_comm]
  · by_cases hb : b.Kind = 25
    · have : a.Kind ≠ b.Kind := fun e => ha (e.trans hb)
      simp [ha, hb, this, eq_comm]
    · simp [ha, hb, eq_comm]
theorem fidx_take_succ {α : Type} (p : α → Bool) : ∀ (l : List α) (j : Nat) (h : j < l.length), fidx p (l.take (j + 1)) = bif decide (fidx p (l.take j) < 0) then (bif p l[j] then (j : Int) else -1) else fidx p (l.take j)
  | [], j, h => by simp at h
  | x :: l, 0, h => by
    simp only [List.take_zero, List.take_succ_cons, fidx, List.getElem_cons_zero]
    cases p x <;> rfl
  | x :: l, j + 1, h => by
    have hj : j < l.length := by simpa using h
    have ih := fidx_take_succ p l j hj
    have hq := fidx_ge p (l.take j)
    rw [List.take_succ_cons, List.take_succ_cons, fidx, fidx, ih, List.getElem_cons_succ]
    generalize fidx p (l.take j) = q at *
    generalize p l[j] = r at *
    cases p x
    · simp only [cond_false]
      by_cases hn : q < 0
      · simp only [decide_eq_true hn, cond_true]
        cases r
        · rfl
        · simp only [cond_true]
          rw [decide_eq_false (show ¬ ((j : Int) < 0) by omega), cond_false]
          have : decide ((-1 : Int) < 0) = true := rfl
          rw [this, cond_true]
          omega
      · simp only [decide_eq_false hn, cond_false]
        rw [decide_eq_false (show ¬ (q + 1 < 0) by omega), cond_false]
    · rfl
theorem F60_l2_eq (l l2 : List Action) (i : Nat) (hi : i < l2.length) (hl : l.length ≤ 100) (hl2 : l2.length ≤ 100) (go : List Action → Int → Option (List Action)) : ∀ (m j : Nat), j ≤ l.length → l.length < j + m →
    F60_l2 l l2 (i : Int) go m (fidx (fun b => decide (keyOf l2[i] = keyOf b)) (l.take j)) (j : Int) = go (wr1 l l2[i]) ((i + 1 : Nat) : Int)
  | 0, j, h1, h2 => by omega
  | m + 1, j, h1, h2 => by
    have hlim : lim = 4294967296 := rfl
    rw [F60_l2]
    by_cases hj : j < l.length
    · have hs := fidx_take_succ (fun b => decide (keyOf l2[i] = keyOf b)) l j hj
      have ih := F60_l2_eq l l2 i hi hl hl2 go m (j + 1) (by omega) (by omega)
      rw [decide_eq_true (show (j : Int) < (l.length : Int) by omega), cond_true, inc j (by omega)]
      by_cases hn : fidx (fun b => decide (keyOf l2[i] = keyOf b)) (l.take j) < 0
      · rw [decide_eq_true hn, cond_true] at hs
        rw [decide_eq_true hn, opt_true, lget_lt hj, Option.bind_some, opt_true, lget_lt hi, Option.bind_some, opt_true, F107_eqR, Option.bind_some, Bool.true_and]
        rw [hs] at ih
        cases hp : decide (keyOf l2[i] = keyOf l[j])
        · rw [hp, cond_false] at ih
          rw [cond_false]
          have e : fidx (fun b => decide (keyOf l2[i] = keyOf b)) (l.take j) = -1 := by
            have := fidx_ge (fun b => decide (keyOf l2[i] = keyOf b)) (l.take j); omega
          rw [e]; exact ih
        · rw [hp, cond_true] at ih
          rw [cond_true]; exact ih
      · rw [decide_eq_false hn, cond_false] at hs
        rw [decide_eq_false hn]
        simp only [opt_false, Option.bind_some, Bool.false_and, cond_false]
        rw [hs] at ih
        exact ih
    · have e : l.take j = l := List.take_of_length_le (by omega)
      rw [decide_eq_false (by omega), cond_false, e]
      unfold wr1
      have hlt := fidx_lt (fun b => decide (keyOf l2[i] = keyOf b)) l
      by_cases hn : fidx (fun b => decide (keyOf l2[i] = keyOf b)) l < 0
      · rw [decide_eq_true hn, cond_true, cond_true, lget_lt hi, Option.bind_some, appd_ok (by simp; omega), Option.bind_some, inc i (by omega)]
      · obtain ⟨n, hn2⟩ : ∃ n : Nat, fidx (fun b => decide (keyOf l2[i] = keyOf b)) l = (n : Int) := ⟨(fidx (fun b => decide (keyOf l2[i] = keyOf b)) l).toNat, by omega⟩
        rw [decide_eq_false hn, cond_false, cond_false, lget_lt hi, Option.bind_some, hn2, lget_lt (by omega), Option.bind_some, inc i (by omega)]
theorem F60_l1_eq (l2 : List Action) (hl2 : l2.length ≤ 50) : ∀ (m i : Nat) (acc : List Action), i ≤ l2.length → l2.length < i + m → acc.length ≤ i → F60_l1 l2 m acc (i : Int) = some ((l2.drop i).foldl wr1 acc)
  | 0, i, acc, h1, h2, _ => by omega
  | m + 1, i, acc, h1, h2, h3 => by
    rw [F60_l1]
    by_cases hi : i < l2.length
    · have h4 := F60_l2_eq acc l2 i hi (by omega) (by omega) (F60_l1 l2 m) ((((acc.length : Int) : Int) - 0).toNat + 1) 0 (by omega) (by omega)
      rw [List.take_zero, show ((0 : Nat) : Int) = 0 from rfl] at h4
      have h5 := wr1_len acc l2[i]
      rw [decide_eq_true (by omega), cond_true]
      refine Eq.trans h4 ?_
      rw [F60_l1_eq l2 hl2 m (i + 1) _ (by omega) (by omega) (by omega), List.drop_eq_getElem_cons hi, List.foldl_cons]
    · rw [decide_eq_false (by omega), cond_false, List.drop_of_length_le (by omega)]; rfl
theorem F60_eqR (l : List Action) (h : l.length ≤ 50) : F60 [] l = some (l.foldl wr1 []) := by
  unfold F60
  have := F60_l1_eq l h ((((l.length : Int) : Int) - 0).toNat + 1) 0 [] (by omega) (by omega) (by simp)
  rw [appd_ok (by simp [lim]), Option.bind_some, List.nil_append]
  rw [show ((0 : Nat) : Int) = 0 from rfl, List.drop_zero] at this
  exact this

def cls (k : Int) (l : List Action) : List Action := l.filter fun a => decide (a.Kind = k)
theorem F105_l1_eq (l : List Action) (k : Int) (hl : l.length ≤ 50) : ∀ (m i : Nat) (acc : List Action), i ≤ l.length → l.length < i + m → acc.length ≤ i → F105_l1 l k m acc (i : Int) = some (acc ++ cls k (l.drop i))
  | 0, i, acc, h1, h2, _ => by omega
  | m + 1, i, acc, h1, h2, h3 => by
    have hlim : lim = 4294967296 := rfl
    rw [F105_l1]
    by_cases hi : i < l.length
    · rw [decide_eq_true (by omega), cond_true, lget_lt hi, Option.bind_some, inc i (by omega), List.drop_eq_getElem_cons hi]
      unfold cls
      by_cases hk : l[i].Kind = k
      · rw [decide_eq_true hk, cond_true, Option.bind_some, appd_ok (by simp; omega), Option.bind_some, F105_l1_eq l k hl m (i + 1) _ (by omega) (by omega) (by simp; omega), List.filter_cons_of_pos (by simp [hk])]
        simp [cls]
      · rw [decide_eq_false hk, cond_false, F105_l1_eq l k hl m (i + 1) _ (by omega) (by omega) (by omega), List.filter_cons_of_neg (by simp [hk])]
        simp [cls]
    · rw [decide_eq_false (by omega), cond_false, List.drop_of_length_le (by omega)]
      simp [cls]
theorem F105_eq (l : List Action) (k : Int) (hl : l.length ≤ 50) : F105 l k = some (cls k l) := by
  unfold F105
  have := F105_l1_eq l k hl ((((l.length : Int) : Int) - 0).toNat + 1) 0 [] (by omega) (by omega) (by simp)
  rw [show ((0 : Nat) : Int) = 0 from rfl] at this
  rw [this]; simp
def ltF (a b : Action) : Bool := decide (b.Oxm.Field > a.Oxm.Field)
theorem F106_l3_eq (l1 : List Action) (i : Nat) (hi : i < l1.length) (hi2 : l1.length ≤ 50) (go : List Action → Int → Option (List Action)) (A : List Action) (hA : A.length ≤ 50) : ∀ (Br S : List Action) (c : Action) (m : Nat), Br.length < m → Br.length ≤ 50 →
    F106_l3 (A.length : Int) l1 (i : Int) go m (A ++ (Br.reverse ++ c :: S)) ((A.length + Br.length : Nat) : Int) = go (A ++ l1[i] :: (Br.reverse ++ S)) ((i + 1 : Nat) : Int)
  | [], S, c, m, hm, _ => by
    obtain ⟨m, rfl⟩ : ∃ k, m = k + 1 := ⟨m - 1, by simp at hm; omega⟩
    have g0 : lget (A ++ c :: S) (A.length : Int) = some c := by
      rw [lget_nat, List.getElem?_append_right (Nat.le_refl _)]; simp
    have s0 : List.set (A ++ c :: S) ((A.length : Int)).toNat l1[i] = A ++ l1[i] :: S := by
      rw [Int.toNat_natCast, List.set_append_right _ _ (Nat.le_refl _)]; simp
    rw [F106_l3, decide_eq_false (by simp), cond_false, lget_lt hi, Option.bind_some]
    simp only [List.reverse_nil, List.nil_append]
    rw [g0, Option.bind_some, s0, inc i (by omega)]
  | b :: Br, S, c, m, hm, hb => by
    simp only [List.length_cons] at hm hb
    obtain ⟨m, rfl⟩ : ∃ k, m = k + 1 := ⟨m - 1, by omega⟩
    have e0 : A ++ ((b :: Br).reverse ++ c :: S) = (A ++ Br.reverse) ++ b :: c :: S := by simp
    have ej : IntKind.i64.wrap (((A.length + (b :: Br).length : Nat) : Int) - 1) = ((A.length + Br.length : Nat) : Int) := by rw [wrap_i64 (by simp only [List.length_cons]; omega) (by simp only [List.length_cons]; omega)]; simp only [List.length_cons]; omega
    have hlen : (A ++ Br.reverse).length = A.length + Br.length := by simp
    have g0 : lget ((A ++ Br.reverse) ++ b :: c :: S) ((A.length + Br.length : Nat) : Int) = some b := by
      rw [lget_nat, List.getElem?_append_right (by omega), hlen, Nat.sub_self]; rfl
    have g1 : lget ((A ++ Br.reverse) ++ b :: c :: S) ((A.length + (b :: Br).length : Nat) : Int) = some c := by
      rw [lget_nat, List.getElem?_append_right (by simp only [List.length_cons]; omega), hlen]
      have : A.length + (b :: Br).length - (A.length + Br.length) = 1 := by simp only [List.length_cons]; omega
      rw [this]; rfl
    have s1 : List.set ((A ++ Br.reverse) ++ b :: c :: S) (((A.length + (b :: Br).length : Nat) : Int)).toNat b = A ++ (Br.reverse ++ b :: b :: S) := by
      rw [Int.toNat_natCast, List.set_append_right _ _ (by simp only [List.length_cons]; omega), hlen]
      have : A.length + (b :: Br).length - (A.length + Br.length) = 1 := by simp only [List.length_cons]; omega
      rw [this]; simp
    rw [e0, F106_l3, decide_eq_true (by simp only [List.length_cons]; omega), cond_true, ej, g0, Option.bind_some, g1, Option.bind_some, s1, F106_l3_eq l1 i hi hi2 go A hA Br (b :: S) b m (by omega) (by omega)]
    simp
theorem F106_l2_eq (l1 : List Action) (i : Nat) (hi : i < l1.length) (hi2 : l1.length ≤ 50) (go : List Action → Int → Option (List Action)) : ∀ (Ar B : List Action) (m : Nat), Ar.length < m → Ar.length + B.length ≤ 50 →
    F106_l2 (Ar.reverse ++ B) l1 (i : Int) go m (Ar.length : Int) = go ((rins ltF l1[i] Ar).reverse ++ B) ((i + 1 : Nat) : Int)
  | [], B, m, hm, hb => by
    have hlim : lim = 4294967296 := rfl
    obtain ⟨m, rfl⟩ : ∃ k, m = k + 1 := ⟨m - 1, by simp at hm; omega⟩
    simp only [List.length_nil, Nat.zero_add] at hb
    rw [F106_l2, show decide ((([] : List Action).length : Int) > 0) = false from rfl]
    simp only [opt_false, Option.bind_some, Bool.false_and, cond_false, List.reverse_nil, List.nil_append]
    rw [appd_ok (by simp; omega), Option.bind_some]
    have e1 : IntKind.i64.wrap (((B ++ [(⟨0, 0, 0, 0, 0, zOxm⟩ : Action)]).length : Int) - 1) = ((([] : List Action).length + B.reverse.length : Nat) : Int) := by rw [wrap_i64 (by simp <;> omega) (by simp <;> omega)]; simp
    have := F106_l3_eq l1 i hi hi2 go [] (by simp) B.reverse [] (⟨0, 0, 0, 0, 0, zOxm⟩ : Action) ((((([] : List Action).length + B.reverse.length : Nat) : Int) - (([] : List Action).length : Int)).toNat + 1) (by simp <;> omega) (by simp <;> omega)
    simp only [List.nil_append, List.reverse_reverse, List.append_nil] at this
    rw [e1]
    refine Eq.trans this ?_
    simp [rins]
  | y :: Ar, B, m, hm, hb => by
    have hlim : lim = 4294967296 := rfl
    simp only [List.length_cons] at hm hb
    obtain ⟨m, rfl⟩ : ∃ k, m = k + 1 := ⟨m - 1, by omega⟩
    have ej : IntKind.i64.wrap (((y :: Ar).length : Int) - 1) = (Ar.length : Int) := by rw [wrap_i64 (by simp only [List.length_cons]; omega) (by simp only [List.length_cons]; omega)]; simp only [List.length_cons]; omega
    have e0 : (y :: Ar).reverse ++ B = Ar.reverse ++ y :: B := by simp
    have g0 : lget (Ar.reverse ++ y :: B) (Ar.length : Int) = some y := by
      rw [lget_nat, List.getElem?_append_right (by simp)]; simp
    rw [F106_l2, decide_eq_true (by simp only [List.length_cons]; omega), opt_true, ej, e0, g0, Option.bind_some, opt_true, lget_lt hi, Option.bind_some, Bool.true_and, rins]
    show (bif ltF l1[i] y then _ else _) = _
    cases ltF l1[i] y
    · rw [cond_false, cond_false, appd_ok (by simp; omega), Option.bind_some]
      have e1 : IntKind.i64.wrap (((Ar.reverse ++ y :: B ++ [(⟨0, 0, 0, 0, 0, zOxm⟩ : Action)]).length : Int) - 1) = (((y :: Ar).reverse.length + B.reverse.length : Nat) : Int) := by rw [wrap_i64 (by simp; omega) (by simp; omega)]; simp; omega
      have := F106_l3_eq l1 i hi hi2 go (y :: Ar).reverse (by simp; omega) B.reverse [] (⟨0, 0, 0, 0, 0, zOxm⟩ : Action) (((((y :: Ar).reverse.length + B.reverse.length : Nat) : Int) - ((y :: Ar).length : Int)).toNat + 1) (by simp; omega) (by simp; omega)
      simp only [List.reverse_reverse, List.append_nil] at this
      rw [e1]
      have e2 : Ar.reverse ++ y :: B ++ [(⟨0, 0, 0, 0, 0, zOxm⟩ : Action)] = (y :: Ar).reverse ++ (B ++ [(⟨0, 0, 0, 0, 0, zOxm⟩ : Action)]) := by simp
      have e3 : (((y :: Ar).length : Int)) = (((y :: Ar).reverse.length : Nat) : Int) := by simp
      rw [e2]
      rw [e3] at this ⊢
      refine Eq.trans this ?_
      simp
    · rw [cond_true, cond_true, F106_l2_eq l1 i hi hi2 go Ar (y :: B) m (by omega) (by simp only [List.length_cons]; omega)]
      simp
theorem F106_l1_eq (l : List Action) (hl : l.length ≤ 50) : ∀ (m i : Nat) (R : List Action), i ≤ l.length → l.length < i + m → R.length ≤ i → F106_l1 l m R.reverse (i : Int) = some (((l.drop i).foldl (fun R x => rins ltF x R) R).reverse)
  | 0, i, R, h1, h2, _ => by omega
  | m + 1, i, R, h1, h2, h3 => by
    rw [F106_l1]
    by_cases hi : i < l.length
    · have h4 := F106_l2_eq l i hi hl (F106_l1 l m) R [] fuel0 (by unfold fuel0; omega) (by simp; omega)
      rw [List.append_nil, List.append_nil] at h4
      have e : ((R.reverse).length : Int) = (R.length : Int) := by simp
      rw [decide_eq_true (by omega), cond_true, e, h4, F106_l1_eq l hl m (i + 1) _ (by omega) (by omega) (by rw [rins_len]; omega), List.drop_eq_getElem_cons hi, List.foldl_cons]
    · rw [decide_eq_false (by omega), cond_false, List.drop_of_length_le (by omega)]; rfl
theorem F106_eqR (l : List Action) (hl : l.length ≤ 50) : F106 l = some (srt ltF l) := by
  unfold F106 srt
  have := F106_l1_eq l hl ((((l.length : Int) : Int) - 0).toNat + 1) 0 [] (by omega) (by omega) (by simp)
  rw [show ((0 : Nat) : Int) = 0 from rfl, List.drop_zero] at this
  exact this

/-! one order -/
theorem rins_pass {α : Type} (lt : α → α → Bool) (x : α) : ∀ P Q : List α, (∀ y ∈ P, lt x y = true) → rins lt x (P ++ Q) = P ++ rins lt x Q
  | [], Q, _ => rfl
  | y :: P, Q, h => by
    rw [List.cons_append, rins, h y (by simp), cond_true, rins_pass lt x P Q fun z hz => h z (by simp [hz])]; rfl
theorem rins_stop {α : Type} (lt : α → α → Bool) (x : α) : ∀ Q : List α, (∀ y ∈ Q, lt x y = false) → rins lt x Q = x :: Q
  | [], _ => rfl
  | y :: Q, h => by rw [rins, h y (by simp), cond_false]
theorem rins_part {α : Type} (lt lt' : α → α → Bool) (x : α) : ∀ P Q : List α, (∀ y ∈ P, lt x y = lt' x y) → (∀ y ∈ Q, lt x y = false) → rins lt x (P ++ Q) = rins lt' x P ++ Q
  | [], Q, _, hq => by rw [List.nil_append, rins_stop lt x Q hq]; rfl
  | y :: P, Q, hp, hq => by
    rw [List.cons_append, rins, rins, hp y (by simp)]
    cases lt' x y
    · rfl
    · rw [cond_true, cond_true, rins_part lt lt' x P Q (fun z hz => hp z (by simp [hz])) hq]; rfl
def tn (k : Int) : Int := if k = 18 then 0 else if k = 17 then 1 else if k = 25 then 2 else if k = 22 then 3 else if k = 0 then 4 else -1
theorem turnOf_eq (k : Int) : turnOf k = tn k := by
  unfold turnOf tn
  simp only [fidx]
  by_cases h1 : k = 18
  · subst h1; rfl
  · by_cases h2 : k = 17
    · subst h2; rfl
    · by_cases h3 : k = 25
      · subst h3; rfl
      · by_cases h4 : k = 22
        · subst h4; rfl
        · by_cases h5 : k = 0
          · subst h5; rfl
          · simp [h1, h2, h3, h4, h5]
theorem ltA_far (x y : Action) (k j : Int) (hx : x.Kind = k) (hy : y.Kind = j) (hk : -1 ≤ tn k ∧ tn k ≤ 4) (hj : -1 ≤ tn j ∧ tn j ≤ 4) (hne : tn k ≠ tn j) : ltA x y = decide (tn k < tn j) := by
  unfold ltA cmpA
  have e : decide (tn k - tn j ≠ 0) = true := decide_eq_true (by omega)
  rw [keyOf_kind, keyOf_kind, hx, hy, turnOf_eq, turnOf_eq, wrap_i64 (by omega) (by omega), e, cond_true, decide_eq_decide]
  omega
theorem ltA_same (x y : Action) (k : Int) (hx : x.Kind = k) (hy : y.Kind = k) (hk : k ≠ 25) : ltA x y = false := by
  unfold ltA cmpA
  rw [keyOf_kind, keyOf_kind, hx, hy, Int.sub_self, show IntKind.i64.wrap 0 = 0 by decide, show decide ((0 : Int) ≠ 0) = false from rfl, cond_false]
  have e1 : (keyOf x).field = 0 := by unfold keyOf; rw [decide_eq_false (by rw [hx]; exact hk)]; rfl
  have e2 : (keyOf y).field = 0 := by unfold keyOf; rw [decide_eq_false (by rw [hy]; exact hk)]; rfl
  rw [e1, e2]; rfl
theorem ltA_set (x y : Action) (hx : x.Kind = 25) (hy : y.Kind = 25) : ltA x y = ltF x y := by
  unfold ltA cmpA ltF
  rw [keyOf_kind, keyOf_kind, hx, hy, Int.sub_self, show IntKind.i64.wrap 0 = 0 by decide, show decide ((0 : Int) ≠ 0) = false from rfl, cond_false]
  have e1 : (keyOf x).field = x.Oxm.Field := by unfold keyOf; rw [decide_eq_true hx]; rfl
  have e2 : (keyOf y).field = y.Oxm.Field := by unfold keyOf; rw [decide_eq_true hy]; rfl
  rw [e1, e2]
  by_cases h : x.Oxm.Field < y.Oxm.Field
  · rw [decide_eq_true h, cond_true]; rfl
  · rw [decide_eq_false h, cond_false]
    cases decide (x.Oxm.Field > y.Oxm.Field) <;> rfl
theorem fold_cls : ∀ (l E D C B A : List Action), (∀ y ∈ E, y.Kind = 0) → (∀ y ∈ D, y.Kind = 22) → (∀ y ∈ C, y.Kind = 25) → (∀ y ∈ B, y.Kind = 17) → (∀ y ∈ A, y.Kind = 18) → (∀ y ∈ l, 0 ≤ tn y.Kind) →
    l.foldl (fun R x => rins ltA x R) (E ++ (D ++ (C ++ (B ++ A)))) = (cls 0 l).reverse ++ E ++ ((cls 22 l).reverse ++ D ++ ((cls 25 l).foldl (fun R x => rins ltF x R) C ++ ((cls 17 l).reverse ++ B ++ ((cls 18 l).reverse ++ A))))
  | [], E, D, C, B, A, _, _, _, _, _, _ => by simp [cls]
  | x :: l, E, D, C, B, A, hE, hD, hC, hB, hA, hl => by
    have hx := hl x (by simp)
    have hl' : ∀ y ∈ l, 0 ≤ tn y.Kind := fun y hy => hl y (by simp [hy])
    have rk : ∀ k : Int, -1 ≤ tn k ∧ tn k ≤ 4 := fun k => by unfold tn; split <;> (try split) <;> (try split) <;> (try split) <;> (try split) <;> omega
    have far : ∀ (y : Action) (k j : Int), x.Kind = k → y.Kind = j → tn k ≠ tn j → ltA x y = decide (tn k < tn j) := fun y k j h1 h2 h3 => ltA_far x y k j h1 h2 (rk k) (rk j) h3
    rw [List.foldl_cons]
    have hxk : x.Kind = 18 ∨ x.Kind = 17 ∨ x.Kind = 25 ∨ x.Kind = 22 ∨ x.Kind = 0 := by
      unfold tn at hx
      by_cases h1 : x.Kind = 18
      · exact .inl h1
      · by_cases h2 : x.Kind = 17
        · exact .inr (.inl h2)
        · by_cases h3 : x.Kind = 25
          · exact .inr (.inr (.inl h3))
          · by_cases h4 : x.Kind = 22
            · exact .inr (.inr (.inr (.inl h4)))
            · by_cases h5 : x.Kind = 0
              · exact .inr (.inr (.inr (.inr h5)))
              · simp [h1, h2, h3, h4, h5] at hx
    have c1 : ∀ k, x.Kind = k → cls k (x :: l) = x :: cls k l := fun k h => by unfold cls; rw [List.filter_cons_of_pos (by simp [h])]
    have c0 : ∀ k, x.Kind ≠ k → cls k (x :: l) = cls k l := fun k h => by unfold cls; rw [List.filter_cons_of_neg (by simp [h])]
    rcases hxk with h | h | h | h | h
    · rw [rins_pass ltA x E _ fun y hy => (far y 18 0 h (hE y hy) (by decide)).trans rfl, rins_pass ltA x D _ fun y hy => (far y 18 22 h (hD y hy) (by decide)).trans rfl, rins_pass ltA x C _ fun y hy => (far y 18 25 h (hC y hy) (by decide)).trans rfl, rins_pass ltA x B _ fun y hy => (far y 18 17 h (hB y hy) (by decide)).trans rfl, rins_stop ltA x A fun y hy => ltA_same x y 18 h (hA y hy) (by decide),
        fold_cls l E D C B (x :: A) hE hD hC hB (fun y hy => by rcases List.mem_cons.1 hy with rfl | hy; exact h; exact hA y hy) hl', c1 18 h, c0 17 (by rw [h]; decide), c0 25 (by rw [h]; decide), c0 22 (by rw [h]; decide), c0 0 (by rw [h]; decide)]
      simp
    · rw [rins_pass ltA x E _ fun y hy => (far y 17 0 h (hE y hy) (by decide)).trans rfl, rins_pass ltA x D _ fun y hy => (far y 17 22 h (hD y hy) (by decide)).trans rfl, rins_pass ltA x C _ fun y hy => (far y 17 25 h (hC y hy) (by decide)).trans rfl, rins_stop ltA x (B ++ A) fun y hy => (by
        rcases List.mem_append.1 hy with hy | hy
        · exact ltA_same x y 17 h (hB y hy) (by decide)
        · exact (far y 17 18 h (hA y hy) (by decide)).trans rfl)]
      have := fold_cls l E D C (x :: B) A hE hD hC (fun y hy => by rcases List.mem_cons.1 hy with rfl | hy; exact h; exact hB y hy) hA hl'
      rw [List.cons_append] at this
      rw [this, c1 17 h, c0 18 (by rw [h]; decide), c0 25 (by rw [h]; decide), c0 22 (by rw [h]; decide), c0 0 (by rw [h]; decide)]
      simp
    · rw [rins_pass ltA x E _ fun y hy => (far y 25 0 h (hE y hy) (by decide)).trans rfl, rins_pass ltA x D _ fun y hy => (far y 25 22 h (hD y hy) (by decide)).trans rfl, rins_part ltA ltF x C (B ++ A) (fun y hy => ltA_set x y h (hC y hy)) (fun y hy => (by
        rcases List.mem_append.1 hy with hy | hy
        · exact (far y 25 17 h (hB y hy) (by decide)).trans rfl
        · exact (far y 25 18 h (hA y hy) (by decide)).trans rfl)),
        fold_cls l E D (rins ltF x C) B A hE hD (fun y hy => by rcases List.mem_cons.1 ((rins_perm ltF x C).mem_iff.1 hy) with rfl | hy; exact h; exact hC y hy) hB hA hl', c1 25 h, c0 18 (by rw [h]; decide), c0 17 (by rw [h]; decide), c0 22 (by rw [h]; decide), c0 0 (by rw [h]; decide)]
      rw [List.foldl_cons]
    · rw [rins_pass ltA x E _ fun y hy => (far y 22 0 h (hE y hy) (by decide)).trans rfl, rins_stop ltA x (D ++ (C ++ (B ++ A))) fun y hy => (by
        rcases List.mem_append.1 hy with hy | hy
        · exact ltA_same x y 22 h (hD y hy) (by decide)
        · rcases List.mem_append.1 hy with hy | hy
          · exact (far y 22 25 h (hC y hy) (by decide)).trans rfl
          · rcases List.mem_append.1 hy with hy | hy
            · exact (far y 22 17 h (hB y hy) (by decide)).trans rfl
            · exact (far y 22 18 h (hA y hy) (by decide)).trans rfl)]
      have := fold_cls l E (x :: D) C B A hE (fun y hy => by rcases List.mem_cons.1 hy with rfl | hy; exact h; exact hD y hy) hC hB hA hl'
      rw [List.cons_append] at this
      rw [this, c1 22 h, c0 18 (by rw [h]; decide), c0 17 (by rw [h]; decide), c0 25 (by rw [h]; decide), c0 0 (by rw [h]; decide)]
      simp
    · rw [rins_stop ltA x (E ++ (D ++ (C ++ (B ++ A)))) fun y hy => (by
        rcases List.mem_append.1 hy with hy | hy
        · exact ltA_same x y 0 h (hE y hy) (by decide)
        · rcases List.mem_append.1 hy with hy | hy
          · exact (far y 0 22 h (hD y hy) (by decide)).trans rfl
          · rcases List.mem_append.1 hy with hy | hy
            · exact (far y 0 25 h (hC y hy) (by decide)).trans rfl
            · rcases List.mem_append.1 hy with hy | hy
              · exact (far y 0 17 h (hB y hy) (by decide)).trans rfl
              · exact (far y 0 18 h (hA y hy) (by decide)).trans rfl)]
      have := fold_cls l (x :: E) D C B A (fun y hy => by rcases List.mem_cons.1 hy with rfl | hy; exact h; exact hE y hy) hD hC hB hA hl'
      rw [List.cons_append] at this
      rw [this, c1 0 h, c0 18 (by rw [h]; decide), c0 17 (by rw [h]; decide), c0 25 (by rw [h]; decide), c0 22 (by rw [h]; decide)]
      simp
theorem srt_cls (l : List Action) (h : ∀ y ∈ l, 0 ≤ tn y.Kind) : srt ltA l = cls 18 l ++ (cls 17 l ++ (srt ltF (cls 25 l) ++ (cls 22 l ++ cls 0 l))) := by
  unfold srt
  have := fold_cls l [] [] [] [] [] (by simp) (by simp) (by simp) (by simp) (by simp) h
  simp only [List.nil_append, List.append_nil] at this
  rw [this]
  simp
theorem cls_filter (k : Int) (p : Action → Bool) (l : List Action) (h : ∀ a, a.Kind = k → p a = true) : cls k (l.filter p) = cls k l := by
  unfold cls
  rw [List.filter_filter]
  apply List.filter_congr
  intro a _
  by_cases hk : a.Kind = k
  · simp [hk, h a hk]
  · simp [hk]
theorem cls_none (k : Int) (p : Action → Bool) (l : List Action) (h : ∀ a, a.Kind = k → p a = false) : cls k (l.filter p) = [] := by
  unfold cls
  rw [List.filter_filter, List.filter_eq_nil_iff]
  intro a _
  by_cases hk : a.Kind = k
  · simp [hk, h a hk]
  · simp [hk]
theorem F59_eqR (s : List Action) (h : s.length < 20) : F59 s = some (lstA s) := by
  have hlim : lim = 4294967296 := rfl
  have lc : ∀ k, (cls k s).length ≤ 20 := fun k => Nat.le_trans (List.length_filter_le ..) (by omega)
  have l18 := lc 18
  have l17 := lc 17
  have l25 := lc 25
  have l22 := lc 22
  have l0 := lc 0
  have ls : (srt ltF (cls 25 s)).length ≤ 20 := by rw [(srt_perm _ _).length_eq]; exact l25
  unfold F59 lstA
  rw [F105_eq s 18 (by omega), Option.bind_some, F105_eq s 17 (by omega), Option.bind_some, appd_ok (by omega), Option.bind_some, F105_eq s 25 (by omega), Option.bind_some, F106_eqR _ (by omega), Option.bind_some, appd_ok (by rw [List.length_append]; omega), Option.bind_some, F105_eq s 22 (by omega), Option.bind_some]
  have hk : ∀ (b : Bool) (a : Action), keepA b a = true → 0 ≤ tn a.Kind := fun b a ha => by
    unfold keepA at ha
    rw [turnOf_eq] at ha
    simp only [Bool.not_eq_true', Bool.or_eq_false_iff, decide_eq_false_iff_not] at ha
    omega
  have kp : ∀ (b : Bool) (k : Int), 0 ≤ tn k → k ≠ 0 → ∀ a : Action, a.Kind = k → keepA b a = true := fun b k hk h0 a ha => by
    unfold keepA
    rw [turnOf_eq, ha, decide_eq_false (by omega), decide_eq_false h0]; simp
  have hany : (s.any fun a => decide (a.Kind = 22)) = decide (((cls 22 s).length : Int) > 0) := by
    rw [Bool.eq_iff_iff, List.any_eq_true, decide_eq_true_eq]
    constructor
    · rintro ⟨a, ha, hk⟩
      have : a ∈ cls 22 s := List.mem_filter.2 ⟨ha, hk⟩
      have := List.length_pos_of_mem this
      omega
    · intro hp
      obtain ⟨a, ha⟩ := List.exists_mem_of_length_pos (show 0 < (cls 22 s).length by omega)
      have := List.mem_filter.1 ha
      exact ⟨a, this.1, this.2⟩
  rw [srt_cls _ (fun y hy => hk _ y (List.mem_filter.1 hy).2), cls_filter 18 _ _ (kp _ 18 (by decide) (by decide)), cls_filter 17 _ _ (kp _ 17 (by decide) (by decide)), cls_filter 25 _ _ (kp _ 25 (by decide) (by decide)), cls_filter 22 _ _ (kp _ 22 (by decide) (by decide)), hany]
  cases hg : decide (((cls 22 s).length : Int) > 0)
  · have e22 : cls 22 s = [] := List.eq_nil_of_length_eq_zero (by rw [decide_eq_false_iff_not] at hg; omega)
    have e0 : cls 0 (s.filter (keepA false)) = cls 0 s := cls_filter 0 _ _ fun a ha => by
      unfold keepA
      rw [turnOf_eq, ha]; rfl
    rw [cond_false, F105_eq s 0 (by omega), Option.bind_some, appd_ok (by simp only [List.length_append]; omega), Option.bind_some, e22, e0]
    simp
  · have e0 : cls 0 (s.filter (keepA true)) = [] := cls_none 0 _ _ fun a ha => by
      unfold keepA
      rw [ha]; simp
    rw [cond_true, appd_ok (by simp only [List.length_append]; omega), Option.bind_some, e0]
    simp

/-! ### what goes out, by the reference -/
theorem F30s_l1_eq (acts : List Action) (ha : acts.length ≤ 50) (R : List Group → Env → Int → Header → Int → Option (List Out)) (G : Int → Header → List Out) (e : Env) (l : List Group) (dep : Int) (hd : 0 ≤ dep ∧ dep ≤ 20) (B : Nat) (hB : 1 ≤ B) (hG : ∀ id h, (G id h).length ≤ B)
    (hR : ∀ id h, R l e id h (dep + 1) = some (G id h)) :
    ∀ (m i : Nat) (h : Header) (o : List Out), i ≤ acts.length → acts.length < i + m → o.length + outs (acts.drop i) * B ≤ lim →
      F30s_l1 acts R l e dep m h o (i : Int) = some (doA G (acts.drop i) o h)
  | 0, i, h, o, h1, h2, _ => by omega
  | m + 1, i, h, o, h1, h2, hb => by
    rw [F30s_l1]
    by_cases hi : i < acts.length
    · rw [List.drop_eq_getElem_cons hi] at hb ⊢
      unfold outs at hb
      rw [List.countP_cons] at hb
      rw [decide_eq_true (by omega), cond_true, lget_lt hi, Option.bind_some, doA]
      by_cases h0 : acts[i].Kind = 0
      · simp only [decide_eq_true h0, Bool.true_or, if_true, Nat.add_mul, Nat.one_mul] at hb
        have hj : ∀ x : Out, F30s_j2 o (F30s_l1 acts R l e dep m) h (i : Int) x = some (doA G (acts.drop (i + 1)) (o ++ [x]) h) := fun x => by
          unfold F30s_j2
          rw [appd_ok (by simp; omega), Option.bind_some, inc i (by omega)]
          exact F30s_l1_eq acts ha R G e l dep hd B hB hG hR m (i + 1) h _ (by omega) (by omega) (by unfold outs; simp; omega)
        rw [decide_eq_true h0, cond_true, cond_true, Option.bind_some]
        unfold mostOf
        cases hp : decide (acts[i].Port = 4294967293)
        · simp only [hp, cond_false]
          rw [hj]
        · simp only [hp, cond_true]
          rw [Option.bind_some, hj]
      · rw [decide_eq_false h0, cond_false, cond_false]
        by_cases h4 : acts[i].Kind = 22
        · simp only [decide_eq_true h4, Bool.or_true, if_true, Nat.add_mul, Nat.one_mul] at hb
          have h5 := hG acts[i].Group h
          rw [decide_eq_true h4, cond_true, cond_true, Option.bind_some, wrap_i64 (by omega) (by omega), hR, Option.bind_some, appd_ok (by omega), Option.bind_some, inc i (by omega)]
          exact F30s_l1_eq acts ha R G e l dep hd B hB hG hR m (i + 1) h _ (by omega) (by omega) (by unfold outs; simp; omega)
        · simp only [decide_eq_false h0, decide_eq_false h4, Bool.or_self] at hb
          rw [decide_eq_false h4, cond_false, cond_false, Option.bind_some, F52_eqR, Option.bind_some, F48_eqR, Option.bind_some, inc i (by omega)]
          exact F30s_l1_eq acts ha R G e l dep hd B hB hG hR m (i + 1) _ o (by omega) (by omega) (by unfold outs; simpa using hb)
    · rw [decide_eq_false (by omega), cond_false, List.drop_of_length_le (by omega)]; rfl
theorem F32s_l1_eq (ts : List Int) (hts : ts.length ≤ 3) (R : List Group → Env → List Action → Header → Int → Option (List Out × Header)) (G : Int → Header → List Out) (e : Env) (l : List Group) (g : Group) (hg : lightB g.Buckets) (h : Header) (dep : Int) (B : Nat) (hB : 1 ≤ B) (hG : ∀ id h, (G id h).length ≤ B)
    (hR : ∀ acts, outs acts ≤ 1 → acts.length ≤ 50 → R l e acts h dep = some (doA G acts [] h)) (ht : ∀ t ∈ ts, ∃ n : Nat, t = (n : Int) ∧ n < g.Buckets.length) :
    ∀ (m i : Nat) (o : List Out), i ≤ ts.length → ts.length < i + m → o.length + (ts.length - i) * B ≤ lim →
      F32s_l1 ts (g, true) R l e h dep m o (i : Int) = some (o ++ (ts.drop i).flatMap fun i => (doA G (setActs (bucketActs g.Buckets i)) [] h).1)
  | 0, i, o, h1, h2, _ => by omega
  | m + 1, i, o, h1, h2, hb => by
    have hlim : lim = 4294967296 := rfl
    rw [F32s_l1]
    by_cases hi : i < ts.length
    · obtain ⟨n, hn1, hn⟩ := ht ts[i] (List.getElem_mem hi)
      have hacts := hg.2 g.Buckets[n] (List.getElem_mem hn)
      have hba : bucketActs g.Buckets (n : Int) = g.Buckets[n].Acts := by
        unfold bucketActs
        rw [Int.toNat_natCast, List.getElem?_eq_getElem hn]
      have hwl := wr_len g.Buckets[n].Acts []
      simp only [List.length_nil, Nat.zero_add] at hwl
      have hlen := doA_len G B hB hG (setActs g.Buckets[n].Acts) h
      have hout := outs_set g.Buckets[n].Acts
      have hmul : outs (setActs g.Buckets[n].Acts) * B ≤ 1 * B := Nat.mul_le_mul_right _ hout
      have hsl : (setActs g.Buckets[n].Acts).length ≤ 12 := by
        unfold setActs lstA
        rw [(srt_perm _ _).length_eq]
        exact Nat.le_trans (List.length_filter_le ..) (by omega)
      have hsub : (ts.length - i) * B = (ts.length - (i + 1)) * B + B := by
        have : ts.length - i = (ts.length - (i + 1)) + 1 := by omega
        rw [this, Nat.add_mul, Nat.one_mul]
      simp only
      rw [decide_eq_true (by omega), cond_true, lget_lt hi, Option.bind_some, hn1, lget_lt hn, Option.bind_some, F60_eqR _ (by omega), Option.bind_some, F59_eqR _ (by omega), Option.bind_some, show lstA (g.Buckets[n].Acts.foldl wr1 []) = setActs g.Buckets[n].Acts from rfl, hR _ hout (by omega), Option.bind_some, appd_ok (by omega), Option.bind_some, inc i (by omega),
        F32s_l1_eq ts hts R G e l g hg h dep B hB hG hR ht m (i + 1) _ (by omega) (by omega) (by rw [List.length_append]; omega), List.drop_eq_getElem_cons hi, List.flatMap_cons, hn1, hba]
      simp
    · rw [decide_eq_false (by omega), cond_false, List.drop_of_length_le (by omega)]; simp
theorem walkR_eq (l : List Group) (e : Env) (he : e.Down.length ≤ 20) (hl : lightG l) : ∀ (d : Nat), d ≤ 8 →
    (∀ n id h, 2 * d + 1 ≤ n → (FR30_32 n).2 l e id h ((9 - d : Nat) : Int) = some (goG l e d id h)) ∧
    (∀ n acts h, 2 * d + 2 ≤ n → acts.length ≤ 50 → (FR30_32 n).1 l e acts h ((8 - d : Nat) : Int) = some (doA (goG l e d) acts [] h)) := by
  have hlim : lim = 4294967296 := rfl
  have hp9 : (3 : Nat) ^ 8 = 6561 := by decide
  intro d
  induction d with
  | zero =>
    intro hd
    have h1 : ∀ n id h, 2 * 0 + 1 ≤ n → (FR30_32 n).2 l e id h ((9 - 0 : Nat) : Int) = some (goG l e 0 id h) := by
      intro n id h hn
      obtain ⟨n, rfl⟩ : ∃ k, n = k + 1 := ⟨n - 1, by omega⟩
      show F32s (FR30_32 n).1 (FR30_32 n).2 _ _ _ _ _ = _
      unfold F32s
      rw [F57_eqR l id hl.1, Option.bind_some]
      have : ∀ x : Group × Bool, ((!x.2) || decide (((9 - 0 : Nat) : Int) > 8)) = true := fun x => by simp
      rw [this]
      rfl
    refine ⟨h1, ?_⟩
    intro n acts h hn ha
    obtain ⟨n, rfl⟩ : ∃ k, n = k + 1 := ⟨n - 1, by omega⟩
    show F30s (FR30_32 n).1 (FR30_32 n).2 _ _ _ _ _ = _
    unfold F30s
    have ho : outs acts ≤ 50 := Nat.le_trans List.countP_le_length ha
    have := F30s_l1_eq acts ha (FR30_32 n).2 (goG l e 0) e l ((8 - 0 : Nat) : Int) (by omega) (3 ^ 0) (by decide) (goG_len l e hl 0) (fun id h => h1 n id h (by omega)) ((((acts.length : Int) : Int) - 0).toNat + 1) 0 h [] (by omega) (by omega) (by rw [List.drop_zero]; simp only [List.length_nil]; omega)
    exact this
  | succ d ih =>
    intro hd
    obtain ⟨ih1, ih2⟩ := ih (by omega)
    have hp : 3 ^ (d + 1) = 3 * 3 ^ d := by rw [Nat.pow_succ, Nat.mul_comm]
    have hp8 : 3 ^ (d + 1) ≤ 3 ^ 8 := Nat.pow_le_pow_right (by decide) hd
    have h1 : ∀ n id h, 2 * (d + 1) + 1 ≤ n → (FR30_32 n).2 l e id h ((9 - (d + 1) : Nat) : Int) = some (goG l e (d + 1) id h) := by
      intro n id h hn
      obtain ⟨n, rfl⟩ : ∃ k, n = k + 1 := ⟨n - 1, by omega⟩
      show F32s (FR30_32 n).1 (FR30_32 n).2 _ _ _ _ _ = _
      unfold F32s
      rw [F57_eqR l id hl.1, Option.bind_some, goG]
      cases hf : findG l id with
      | none => simp
      | some g =>
        have hg := hl.2 g (findG_mem hf)
        obtain ⟨t1, t2⟩ := takesOf_ok e g hg
        simp only [Bool.not_true, Bool.false_or]
        have hmul : (takesOf e g).length * 3 ^ d ≤ 3 * 3 ^ d := Nat.mul_le_mul_right _ t1
        rw [decide_eq_false (by omega), cond_false, F58_eqR e he g hg, Option.bind_some]
        have := F32s_l1_eq (takesOf e g) t1 (FR30_32 n).1 (goG l e d) e l g hg h ((9 - (d + 1) : Nat) : Int) (3 ^ d) (Nat.pow_pos (by decide)) (goG_len l e hl d)
          (fun acts _ hac => by
            have := ih2 n acts h (by omega) hac
            rw [show 9 - (d + 1) = 8 - d by omega]
            exact this) t2 (((((takesOf e g).length : Int) : Int) - 0).toNat + 1) 0 [] (by omega) (by omega) (by simp only [List.length_nil, Nat.sub_zero]; omega)
        exact this
    refine ⟨h1, ?_⟩
    intro n acts h hn ha
    obtain ⟨n, rfl⟩ : ∃ k, n = k + 1 := ⟨n - 1, by omega⟩
    show F30s (FR30_32 n).1 (FR30_32 n).2 _ _ _ _ _ = _
    unfold F30s
    have ho : outs acts ≤ 50 := Nat.le_trans List.countP_le_length ha
    have hm : outs acts * 3 ^ (d + 1) ≤ 50 * 3 ^ (d + 1) := Nat.mul_le_mul_right _ ho
    have e9 : (((8 - (d + 1) : Nat) : Int) + 1) = ((9 - (d + 1) : Nat) : Int) := by omega
    have := F30s_l1_eq acts ha (FR30_32 n).2 (goG l e (d + 1)) e l ((8 - (d + 1) : Nat) : Int) (by omega) (3 ^ (d + 1)) (Nat.pow_pos (by decide)) (goG_len l e hl (d + 1)) (fun id h => by rw [e9]; exact h1 n id h (by omega)) ((((acts.length : Int) : Int) - 0).toNat + 1) 0 h [] (by omega) (by omega) (by rw [List.drop_zero]; simp only [List.length_nil]; omega)
    exact this
theorem F9_eqR (l : List Group) (e : Env) (he : e.Down.length ≤ 20) (hl : lightG l) (acts : List Action) (ha : acts.length ≤ 50) (h : Header) : F9 l e acts h = some (doA (goG l e 8) acts [] h) := by
  unfold F9 F30
  have := (walkR_eq l e he hl 8 (by decide)).2 fuel0 acts h (by unfold fuel0; omega) ha
  rw [show (((8 - 8 : Nat)) : Int) = 0 from rfl] at this
  rw [this]; rfl
theorem F11_eqR (l : List Group) (e : Env) (he : e.Down.length ≤ 20) (hl : lightG l) (id : Int) (h : Header) : F11 l e id h = some (goG l e 8 id h) := by
  unfold F11 F32
  have := (walkR_eq l e he hl 8 (by decide)).1 fuel0 id h (by unfold fuel0; omega)
  rw [show (((9 - 8 : Nat)) : Int) = 1 from rfl] at this
  rw [this]; rfl
theorem sameStep (x y : Out) (K : Option Bool) : ((opt (!(decide (x.Port ≠ y.Port))) (some x)).bind fun e8 => (opt (!(decide (x.Port ≠ y.Port))) (some y)).bind fun e9 => (opt (!((decide (x.Port ≠ y.Port)) || (decide (e8.Max ≠ e9.Max)))) (some x)).bind fun e10 => (opt (!((decide (x.Port ≠ y.Port)) || (decide (e8.Max ≠ e9.Max)))) (some y)).bind fun e11 => (bif (((decide (x.Port ≠ y.Port)) || (decide (e8.Max ≠ e9.Max))) || (decide (e10.Header ≠ e11.Header))) then some false else K)) = bif decide (x = y) then K else some false := by
  cases x; cases y; rename_i p m h p' m' h'
  by_cases hp : p = p'
  · by_cases hm : m = m'
    · by_cases hh : h = h'
      · simp [opt, hp, hm, hh]
      · simp [opt, hp, hm, hh]
    · simp [opt, hp, hm]
  · simp [opt, hp]
theorem F12_l1_eqR (a b : List Out) (hl : a.length = b.length) (hs : a.length ≤ 1000000) : ∀ (m i : Nat), i ≤ a.length → a.length < i + m → F12_l1 a b m (i : Int) = some (decide (a.drop i = b.drop i))
  | 0, i, h1, h2 => by omega
  | m + 1, i, h1, h2 => by
    rw [F12_l1]
    by_cases hi : i < a.length
    · have hb : i < b.length := by omega
      rw [decide_eq_true (by omega), cond_true, lget_lt hi, Option.bind_some, lget_lt hb, Option.bind_some, sameStep, inc i (by omega), F12_l1_eqR a b hl hs m (i + 1) (by omega) (by omega), List.drop_eq_getElem_cons hi, List.drop_eq_getElem_cons hb]
      generalize a[i] = x
      generalize b[i] = y
      generalize a.drop (i + 1) = l
      generalize b.drop (i + 1) = l'
      by_cases he : x = y
      · simp [he]
      · simp [he]
    · rw [decide_eq_false (by omega), cond_false, List.drop_of_length_le (by omega), List.drop_of_length_le (by omega)]
      simp
theorem F12_eqR (a b : List Out) (hs : a.length ≤ 1000000) : F12 a b = some (decide (a = b)) := by
  unfold F12
  by_cases hl : a.length = b.length
  · have := F12_l1_eqR a b hl hs ((((a.length : Int) : Int) - 0).toNat + 1) 0 (by omega) (by omega)
    rw [decide_eq_false (by omega), cond_false]
    simpa using this
  · rw [decide_eq_true (by omega), cond_true]
    have : a ≠ b := fun e => hl (e ▸ rfl)
    simp [this]
end Go.Proofs.YtokmmcflinnfiaaGreat.W
