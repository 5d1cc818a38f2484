/- LawBH: a part of the proof. -/
import Derived.Test.YtokmmcflinnfiabLawBY
set_option linter.unusedVariables false
set_option linter.unusedSimpArgs false
namespace Go.Proofs.Ytokmmcflinnfiab.W
open Go Go.Wb

/-! ### the same atoms, cleaned -/
def acl (x : Atom) : Atom := { x with Rewrite := cclean x.Rewrite }
theorem F25_eq (a b : Atom) : F25 a b = some (decide (acl a = acl b)) := by
  unfold F25
  rw [F18_eq, Option.bind_some, F18_eq, Option.bind_some]; rfl
theorem F24_l1_eq (t : List Atom) : ∀ (s : List Atom) (i : Nat), i + s.length = t.length → F24_l1 t F25 s i = some (decide (s.map acl = (t.drop i).map acl))
  | [], i, h => by
    rw [F24_l1, List.drop_of_length_le (by simp at h; omega)]; rfl
  | x :: s, i, h => by
    simp only [List.length_cons] at h
    have hi : i < t.length := by omega
    rw [F24_l1, lget_lt hi, Option.bind_some, F25_eq, Option.bind_some, F24_l1_eq t s (i + 1) (by omega), List.drop_eq_getElem_cons hi, List.map_cons, List.map_cons]
    generalize acl t[i] = y
    generalize acl x = z
    generalize List.map acl s = l
    generalize List.map acl (t.drop (i + 1)) = l'
    by_cases he : z = y
    · simp [he]
    · simp [he]
theorem F9_eq (a b : List Atom) : F9 a b = some (decide (a.map acl = b.map acl)) := by
  unfold F9 F24
  by_cases hl : a.length = b.length
  · rw [decide_eq_false (by omega), cond_false, F24_l1_eq b a 0 (by omega)]; rfl
  · rw [decide_eq_true (by omega), cond_true]
    have : a.map acl ≠ b.map acl := fun e => hl (by have := congrArg List.length e; simpa using this)
    simp [this]
theorem sameStepN (x y : Atom) (K : Option Bool) : ((opt (!(!(x.Group == y.Group))) (some x)).bind fun e8 => (opt (!(!(x.Group == y.Group))) (some y)).bind fun e9 => (opt (!((!(x.Group == y.Group)) || (decide (e8.Port ≠ e9.Port)))) (some x)).bind fun e10 => (opt (!((!(x.Group == y.Group)) || (decide (e8.Port ≠ e9.Port)))) (some y)).bind fun e11 => (opt (!(((!(x.Group == y.Group)) || (decide (e8.Port ≠ e9.Port))) || (decide (e10.Max ≠ e11.Max)))) (some x)).bind fun e12 => (opt (!(((!(x.Group == y.Group)) || (decide (e8.Port ≠ e9.Port))) || (decide (e10.Max ≠ e11.Max)))) (F21 e12.Rewrite)).bind fun x13 => (opt (!(((!(x.Group == y.Group)) || (decide (e8.Port ≠ e9.Port))) || (decide (e10.Max ≠ e11.Max)))) (some y)).bind fun e14 => (opt (!(((!(x.Group == y.Group)) || (decide (e8.Port ≠ e9.Port))) || (decide (e10.Max ≠ e11.Max)))) (F21 e14.Rewrite)).bind fun x15 => (bif ((((!(x.Group == y.Group)) || (decide (e8.Port ≠ e9.Port))) || (decide (e10.Max ≠ e11.Max))) || (decide (x13 ≠ x15))) then some false else K)) = bif decide (acl x = acl y) then K else some false := by
  cases x; cases y; rename_i r g p m r' g' p' m'
  unfold acl
  simp only [F21_eq]
  by_cases hg : g = g'
  · by_cases hp : p = p'
    · by_cases hm : m = m'
      · by_cases hq : cclean r = cclean r'
        · simp [opt, hg, hp, hm, hq]
        · simp [opt, hg, hp, hm, hq]
      · simp [opt, hg, hp, hm]
    · simp [opt, hg, hp]
  · have hg' : (g == g') = false := by simp [hg]
    simp [opt, hg, hg']
theorem F10_l1_eq (a b : List Atom) (hl : a.length = b.length) (hs : a.length ≤ 1000000) : ∀ (m i : Nat), i ≤ a.length → a.length < i + m → F10_l1 a b m (i : Int) = some (decide ((a.drop i).map acl = (b.drop i).map acl))
  | 0, i, h1, h2 => by omega
  | m + 1, i, h1, h2 => by
    rw [F10_l1]
    by_cases hi : i < a.length
    · have hb : i < b.length := by omega
      rw [decide_eq_true (by omega), cond_true, lget_lt hi, Option.bind_some, lget_lt hb, Option.bind_some, sameStepN, inc i (by omega), F10_l1_eq a b hl hs m (i + 1) (by omega) (by omega), List.drop_eq_getElem_cons hi, List.drop_eq_getElem_cons hb, List.map_cons, List.map_cons]
      generalize acl a[i] = x
      generalize acl b[i] = y
      generalize List.map acl (a.drop (i + 1)) = l
      generalize List.map acl (b.drop (i + 1)) = l'
      by_cases he : x = y
      · simp [he]
      · simp [he]
    · rw [decide_eq_false (by omega), cond_false, List.drop_of_length_le (by omega), List.drop_of_length_le (by omega)]
      rfl
theorem F10_eq (a b : List Atom) (hs : a.length ≤ 1000000) : F10 a b = some (decide (a.map acl = b.map acl)) := by
  unfold F10
  by_cases hl : a.length = b.length
  · have := F10_l1_eq a b hl hs ((((a.length : Int) : Int) - 0).toNat + 1) 0 (by omega) (by omega)
    rw [decide_eq_false (by omega), cond_false]
    exact this
  · rw [decide_eq_true (by omega), cond_true]
    have : a.map acl ≠ b.map acl := fun e => hl (by have := congrArg List.length e; simpa using this)
    simp [this]
theorem atom_does (acts : List Action) (r : Cube) (k : List Atom) : F3 acts r k = some true := by
  have hlim : lim = 4294967296 := rfl
  unfold F3
  rw [F5_eq]
  cases hc : decide ((acts.length : Int) > 60) || decide ((k.length : Int) > 60)
  · simp only [Bool.or_eq_false_iff, decide_eq_false_iff_not] at hc
    have hlen : (doT acts (cclean r)).1.length ≤ 60 := by
      rw [doT_len]
      exact Nat.le_trans List.countP_le_length (by omega)
    rw [cond_false, F6_eq acts r (by omega), Option.bind_some, F7_eqR acts r (by omega), Option.bind_some, F8_self, Option.bind_some, F9_eq, F10_eq _ _ (by omega)]
    simp [opt]
  · rfl

/-! ### atoms and actions -/
theorem capply_cthen (r s : Cube) (h : Header) : capply (cthen r s) h = capply s (capply r h) := ve_ext fun f hf => by
  rw [ve_capply _ _ _ hf, ve_capply _ _ _ hf, ve_capply _ _ _ hf, ve_cthen _ _ _ hf]
  unfold tover tclean
  exact wt_ext fun i hi => by
    simp only [wt_and, wt_or, wt_less _ _ _ hi]
    cases wt (ve h f) i <;> cases wt (ve r f).Value i <;> cases wt (ve r f).Mask i <;> cases wt (ve s f).Value i <;> cases wt (ve s f).Mask i <;> rfl
theorem capply_cclean (r : Cube) (h : Header) : capply (cclean r) h = capply r h := ve_ext fun f hf => by
  rw [ve_capply _ _ _ hf, ve_capply _ _ _ hf, ve_cclean _ _ hf]
  unfold tclean
  exact wt_ext fun i hi => by
    simp only [wt_and, wt_or, wt_less _ _ _ hi]
    cases wt (ve h f) i <;> cases wt (ve r f).Value i <;> cases wt (ve r f).Mask i <;> rfl
theorem doT_doA (G : Int → Header → List Out) (h : Header) : ∀ (l : List Action) (r : Cube), doA G l [] (capply r h) = ((doT l r).1.flatMap (outN G h), capply (doT l r).2 h)
  | [], r => rfl
  | a :: l, r => by
    rw [doA, doT]
    unfold loud atomOf
    by_cases h0 : a.Kind = 0
    · rw [decide_eq_true h0]
      simp only [cond_true, Bool.true_or, List.flatMap_cons]
      rw [doA_frame, doT_doA G h l r]
      rfl
    · rw [decide_eq_false h0]
      by_cases h1 : a.Kind = 22
      · rw [decide_eq_true h1]
        simp only [cond_true, cond_false, Bool.false_or, List.flatMap_cons]
        rw [doA_frame, doT_doA G h l r]
        rfl
      · rw [decide_eq_false h1]
        simp only [cond_false, Bool.false_or]
        rw [← capply_cthen, doT_doA G h l _]
theorem atom_exec (l : List Group) (e : Env) (acts : List Action) (r : Cube) (h : Header) : F4 l e acts r h = some true := by
  have hlim : lim = 4294967296 := rfl
  unfold F4 F12
  rw [F11_eq, Option.bind_some, F5_eq]
  cases hc : fewG l 9 3
  · rfl
  · cases h2 : decide ((acts.length : Int) ≤ 12)
    · rfl
    · cases h3 : decide ((e.Down.length : Int) > 20)
      · have hl := fewG_light hc
        have ha : acts.length ≤ 12 := by have := of_decide_eq_true h2; omega
        have hlen : (doT acts (cclean r)).1.length ≤ 12 := by
          rw [doT_len]
          exact Nat.le_trans List.countP_le_length (by omega)
        simp only [opt, Bool.not_true, Bool.not_false, cond_true, Option.bind_some, Bool.or_false, cond_false]
        rw [F6_eq acts r (by omega), Option.bind_some, F14_eq, Option.bind_some, F13_eq l e acts _ hl (by omega), Option.bind_some, F16_eq l e hl h _ (by omega), Option.bind_some, F15_eq, Option.bind_some, F14_eq, ← capply_cclean r h, doT_doA]
        simp
      · rfl
end Go.Proofs.Ytokmmcflinnfiab.W
