/- LawZX: a part of the proof. -/
import Derived.Test.YtokmmcflinnfiaaGreatLawZR
set_option linter.unusedVariables false
set_option linter.unusedSimpArgs false
namespace Go.Proofs.YtokmmcflinnfiaaGreat.W
open Go Go.Wb

theorem F28_eq (a : List Action) : F28 a = some (decide ((a.length : Int) > 12)) := rfl
theorem exec_does (l : List Group) (e : Env) (acts : List Action) (id : Int) (h : Header) : F3 l e acts id h = some true := by
  have hlim : lim = 4294967296 := rfl
  unfold F3
  rw [F6_eq, Option.bind_some]
  cases hc : fewG l 9 3 && !([acts].any fun a => decide ((a.length : Int) > 12))
  · rw [Bool.not_false, Bool.true_or, cond_true, F7_eq]; rfl
  · rw [Bool.not_true, Bool.false_or]
    cases hd : decide ((e.Down.length : Int) > 20)
    · simp only [Bool.and_eq_true, Bool.not_eq_true', List.any_cons, List.any_nil, Bool.or_false, decide_eq_false_iff_not] at hc hd
      have hl := fewG_light hc.1
      have ha : acts.length ≤ 12 := by omega
      have he : e.Down.length ≤ 20 := by omega
      have l1 := doA_le l e hl acts ha h
      have l2 := goG_len l e hl 8 id h
      have e8 : (3 : Nat) ^ 8 = 6561 := by decide
      rw [cond_false, F8_eq l e acts h hl (by omega), Option.bind_some, F9_eqR l e he hl acts (by omega) h, Option.bind_some, F10_eq l e id h hl, Option.bind_some, F11_eqR l e he hl id h, Option.bind_some, F12_eqR _ _ (by omega), F12_eqR _ _ (by omega), F12_eqR _ _ (by omega), F13_eq, F7_eq]
      simp [opt]
    · rw [cond_true, F7_eq]; rfl

/-! ### what goes out by atoms -/
def outN (G : Int → Header → List Out) (h : Header) (x : Atom) : List Out := bif x.Group then G x.Port (capply x.Rewrite h) else [⟨x.Port, x.Max, capply x.Rewrite h⟩]
theorem outN_len (G : Int → Header → List Out) (B : Nat) (hB : 1 ≤ B) (hG : ∀ id h, (G id h).length ≤ B) (h : Header) (x : Atom) : (outN G h x).length ≤ B := by
  unfold outN
  cases x.Group
  · exact hB
  · exact hG _ _
theorem F45_l1_eq (l : List Group) (e : Env) (hl : lightG l) (h : Header) : ∀ (a : List Atom) (i : Nat) (o : List Out), o.length + a.length * 6561 ≤ lim → F45_l1 (List Out) (fun s x => F46 x h s l e) a i o = some (o ++ a.flatMap (outN (goG l e 8) h))
  | [], i, o, _ => by rw [F45_l1]; simp
  | x :: a, i, o, hb => by
    have e8 : (3 : Nat) ^ 8 = 6561 := by decide
    have hlen := goG_len l e hl 8
    rw [List.length_cons, Nat.add_mul, Nat.one_mul] at hb
    rw [F45_l1, F46, F47_eq, Option.bind_some, List.flatMap_cons]
    have ho := outN_len (goG l e 8) (3 ^ 8) (by decide) hlen h x
    rw [e8] at ho
    unfold outN at ho ⊢
    cases hx : x.Group
    · simp only [hx, cond_false, List.length_cons, List.length_nil] at ho ⊢
      rw [appd_ok (by simp only [List.length_cons, List.length_nil]; omega), Option.bind_some, Option.bind_some, F45_l1_eq l e hl h a (i + 1) _ (by simp only [List.length_append, List.length_cons, List.length_nil]; omega), List.append_assoc]
      rfl
    · simp only [hx, cond_true] at ho ⊢
      rw [F10_eq l e _ _ hl, Option.bind_some, appd_ok (by omega), Option.bind_some, Option.bind_some, F45_l1_eq l e hl h a (i + 1) _ (by rw [List.length_append]; omega), List.append_assoc]
      rfl
theorem F25_eq (l : List Group) (e : Env) (hl : lightG l) (h : Header) (a : List Atom) (ha : a.length ≤ 1000) : F25 l e a h = some (a.flatMap (outN (goG l e 8) h)) := by
  have hlim : lim = 4294967296 := rfl
  unfold F25 F45
  rw [F45_l1_eq l e hl h a 0 [] (by simp only [List.length_nil]; omega)]; rfl
theorem F26_l1_eq (l : List Group) (e : Env) (he : e.Down.length ≤ 20) (hl : lightG l) (h : Header) (a : List Atom) (ha : a.length ≤ 1000) : ∀ (m i : Nat) (o : List Out), i ≤ a.length → a.length < i + m → o.length ≤ i * 6561 → F26_l1 a h l e m o (i : Int) = some (o ++ (a.drop i).flatMap (outN (goG l e 8) h))
  | 0, i, o, h1, h2, _ => by omega
  | m + 1, i, o, h1, h2, hb => by
    have hlim : lim = 4294967296 := rfl
    have e8 : (3 : Nat) ^ 8 = 6561 := by decide
    have hlen := goG_len l e hl 8
    rw [F26_l1]
    by_cases hi : i < a.length
    · have ho := outN_len (goG l e 8) (3 ^ 8) (by decide) hlen h a[i]
      rw [e8] at ho
      rw [decide_eq_true (by omega), cond_true, lget_lt hi, Option.bind_some, F48_eqR, Option.bind_some, Option.bind_some, List.drop_eq_getElem_cons hi, List.flatMap_cons]
      generalize a[i] = x at ho ⊢
      unfold outN at ho ⊢
      cases hx : x.Group
      · simp only [hx, cond_false, List.length_cons, List.length_nil, Option.bind_some] at ho ⊢
        rw [appd_ok (by simp only [List.length_cons, List.length_nil]; omega), Option.bind_some, inc i (by omega), F26_l1_eq l e he hl h a ha m (i + 1) _ (by omega) (by omega) (by simp only [List.length_append, List.length_cons, List.length_nil]; omega), List.append_assoc]
        rfl
      · simp only [hx, cond_true, Option.bind_some] at ho ⊢
        rw [F11_eqR l e he hl, Option.bind_some, appd_ok (by omega), Option.bind_some, inc i (by omega), F26_l1_eq l e he hl h a ha m (i + 1) _ (by omega) (by omega) (by rw [List.length_append]; omega), List.append_assoc]
        rfl
    · rw [decide_eq_false (by omega), cond_false, List.drop_of_length_le (by omega)]; simp
theorem F26_eqR (l : List Group) (e : Env) (he : e.Down.length ≤ 20) (hl : lightG l) (h : Header) (a : List Atom) (ha : a.length ≤ 1000) : F26 l e a h = some (a.flatMap (outN (goG l e 8) h)) := by
  unfold F26
  have := F26_l1_eq l e he hl h a ha ((((a.length : Int) : Int) - 0).toNat + 1) 0 [] (by omega) (by omega) (by simp)
  exact this
theorem atom_outs (l : List Group) (e : Env) (a : List Atom) (h : Header) : F5 l e a h = some true := by
  unfold F5 F23
  rw [F22_eq, Option.bind_some, F24_eq]
  cases hc : fewG l 9 3
  · rfl
  · cases h2 : decide ((a.length : Int) ≤ 12)
    · rfl
    · cases h3 : decide ((e.Down.length : Int) > 20)
      · have hl := fewG_light hc
        have ha : a.length ≤ 12 := by
          have := of_decide_eq_true h2
          omega
        have he : e.Down.length ≤ 20 := by simp at h3; omega
        have hn := flatMap_bd (outN (goG l e 8) h) 6561 a fun x _ => outN_len (goG l e 8) 6561 (by decide) (goG_len l e hl 8) h x
        simp only [opt, Bool.not_true, Bool.not_false, cond_true, Option.bind_some, Bool.or_false, cond_false]
        rw [F25_eq l e hl h a (by omega), Option.bind_some, F26_eqR l e he hl h a (by omega), Option.bind_some, F12_eqR _ _ (by omega)]
        simp
      · rfl
end Go.Proofs.YtokmmcflinnfiaaGreat.W
