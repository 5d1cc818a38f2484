/- LawBF: a part of the proof. -/
import Derived.Test.YtokmmcflinnfiabLawBE
set_option linter.unusedVariables false
set_option linter.unusedSimpArgs false
namespace Go.Proofs.Ytokmmcflinnfiab.W
open Go Go.Wb

/-! ### what is few -/
theorem F51_eq (s : List Bucket) (f : Bucket → Option Bool) (p : Bucket → Bool) (hf : ∀ x ∈ s, f x = some (p x)) : F51 s f = some (s.any p) := by
  unfold F51; rw [F64_eq s f p hf, Option.bind_some, fidx_any]
theorem F26_eq (s : List Group) (f : Group → Option Bool) (p : Group → Bool) (hf : ∀ x ∈ s, f x = some (p x)) : F26 s f = some (s.any p) := by
  unfold F26; rw [F50_eq s f p hf, Option.bind_some, fidx_any]
def fewB (bs : List Bucket) (many : Int) : Bool := decide ((bs.length : Int) ≤ many) && !(bs.any fun x => !decide ((x.Acts.length : Int) ≤ 12))
theorem F28_eq (bs : List Bucket) (many : Int) : F28 bs many = some (fewB bs many) := by
  unfold F28 fewB
  rw [F51_eq bs F52 (fun x => !decide ((x.Acts.length : Int) ≤ 12)) (fun x _ => rfl)]
  cases decide ((bs.length : Int) ≤ many) <;> rfl
def fewG (l : List Group) (many bm : Int) : Bool := decide ((l.length : Int) ≤ many) && !(l.any fun g => !fewB g.Buckets bm)
theorem F11_eq (l : List Group) (many bm : Int) : F11 l many bm = some (fewG l many bm) := by
  unfold F11 fewG
  rw [F26_eq l (fun x => F27 x bm) (fun g => !fewB g.Buckets bm) (fun g _ => by unfold F27; rw [F28_eq]; rfl)]
  cases decide ((l.length : Int) ≤ many) <;> rfl
theorem fewG_light {l : List Group} (h : fewG l 9 3 = true) : lightG l := by
  unfold fewG at h
  simp only [Bool.and_eq_true, decide_eq_true_eq, Bool.not_eq_true', List.any_eq_false] at h
  refine ⟨by omega, fun g hg => ?_⟩
  have h1 : fewB g.Buckets 3 = true := by simpa using h.2 g hg
  unfold fewB at h1
  simp only [Bool.and_eq_true, decide_eq_true_eq, Bool.not_eq_true', List.any_eq_false] at h1
  refine ⟨by omega, fun x hx => ?_⟩
  have h2 : decide ((x.Acts.length : Int) ≤ 12) = true := by simpa using h1.2 x hx
  rw [decide_eq_true_eq] at h2
  omega
theorem F33_l1_eq (s t : List Out) (hl : s.length = t.length) : ∀ (m i : Nat), i + m = s.length → F33_l1 s t m i = some (decide (s.drop i = t.drop i))
  | 0, i, h => by rw [F33_l1, List.drop_of_length_le (by omega), List.drop_of_length_le (by omega)]; simp
  | m + 1, i, h => by
    have h1 : i < s.length := by omega
    have h2 : i < t.length := by omega
    rw [F33_l1, lget_lt h1, Option.bind_some, lget_lt h2, Option.bind_some, List.drop_eq_getElem_cons h1, List.drop_eq_getElem_cons h2]
    by_cases he : s[i] = t[i]
    · rw [decide_eq_false (by simpa using he), cond_false, F33_l1_eq s t hl m (i + 1) (by omega)]
      simp only [List.cons.injEq, he, true_and]
    · rw [decide_eq_true (by simpa using he), cond_true]
      simp only [List.cons.injEq, he, false_and, decide_false]
theorem F15_eq (s t : List Out) : F15 s t = some (decide (s = t)) := by
  unfold F15 F33
  by_cases hl : s.length = t.length
  · rw [decide_eq_false (by omega), cond_false, show ((s.length : Int)).toNat = s.length by omega, F33_l1_eq s t hl _ 0 (by omega)]
    simp
  · rw [decide_eq_true (by omega), cond_true]
    have : s ≠ t := fun e => hl (e ▸ rfl)
    simp [this]
/-! ### one behind the other -/
theorem doA_append (G : Int → Header → List Out) : ∀ (a b : List Action) (o : List Out) (h : Header), doA G (a ++ b) o h = doA G b (doA G a o h).1 (doA G a o h).2
  | [], b, o, h => rfl
  | x :: a, b, o, h => by
    rw [List.cons_append, doA, doA]
    cases decide (x.Kind = 0)
    · rw [cond_false, cond_false]
      cases decide (x.Kind = 22)
      · rw [cond_false, cond_false]; exact doA_append G a b o _
      · rw [cond_true, cond_true]; exact doA_append G a b _ h
    · rw [cond_true, cond_true]; exact doA_append G a b _ h
theorem doA_le (l : List Group) (e : Env) (hl : lightG l) (acts : List Action) (ha : acts.length ≤ 12) (h : Header) : (doA (goG l e 8) acts [] h).1.length ≤ 12 * 6561 := by
  have h1 := doA_len (goG l e 8) (3 ^ 8) (Nat.pow_pos (by decide)) (goG_len l e hl 8) acts h
  have h2 : outs acts ≤ 12 := Nat.le_trans List.countP_le_length ha
  have e8 : (3 : Nat) ^ 8 = 6561 := by decide
  rw [e8] at h1
  have h3 : outs acts * 6561 ≤ 12 * 6561 := Nat.mul_le_mul_right _ h2
  exact Nat.le_trans h1 h3
/-! ### headers are copied -/
def quiet (a : Action) : Bool := !(decide (a.Kind = 0) || decide (a.Kind = 22))
theorem doA_quiet (G G' : Int → Header → List Out) : ∀ (acts : List Action) (h : Header), doA G' (acts.filter quiet) [] h = ([], (doA G acts [] h).2)
  | [], h => rfl
  | a :: acts, h => by
    rw [doA]
    by_cases h0 : a.Kind = 0
    · rw [decide_eq_true h0, cond_true, List.filter_cons_of_neg (by simp [quiet, h0]), doA_quiet G G' acts h, doA_frame G acts ([] ++ _)]
    · by_cases h1 : a.Kind = 22
      · rw [decide_eq_false h0, cond_false, decide_eq_true h1, cond_true, List.filter_cons_of_neg (by simp [quiet, h1]), doA_quiet G G' acts h, doA_frame G acts ([] ++ _)]
      · rw [decide_eq_false h0, cond_false, decide_eq_false h1, cond_false, List.filter_cons_of_pos (by simp [quiet, h0, h1]), doA, decide_eq_false h0, cond_false, decide_eq_false h1, cond_false]
        exact doA_quiet G G' acts _
/-! ### headers alike -/
def alikeH (h g h' g' : Header) : Prop := ∀ f, f < 24 → ve h f = ve g f → ve h' f = ve g' f
def alikeO (h g : Header) (a b : Out) : Prop := a.Port = b.Port ∧ a.Max = b.Max ∧ alikeH h g a.Header b.Header
def alikeL (h g : Header) : List Out → List Out → Prop
  | [], [] => True
  | a :: l, b :: m => alikeO h g a b ∧ alikeL h g l m
  | _, _ => False
theorem alikeL_append (h g : Header) : ∀ (l m l' m' : List Out), alikeL h g l m → alikeL h g l' m' → alikeL h g (l ++ l') (m ++ m')
  | [], [], _, _, _, k => k
  | a :: l, b :: m, l', m', ⟨h1, h2⟩, k => ⟨h1, alikeL_append h g l m l' m' h2 k⟩
  | [], _ :: _, _, _, k, _ => k.elim
  | _ :: _, [], _, _, k, _ => k.elim
theorem alikeH_apply (h g h' g' : Header) (r : Cube) (k : alikeH h g h' g') : alikeH h g (capply r h') (capply r g') := fun f hf e => by
  rw [ve_capply _ _ _ hf, ve_capply _ _ _ hf, k f hf e]
theorem doA_alike (h g : Header) (G : Int → Header → List Out) (hG : ∀ id h' g', alikeH h g h' g' → alikeL h g (G id h') (G id g')) : ∀ (acts : List Action) (o p : List Out) (h' g' : Header), alikeL h g o p → alikeH h g h' g' →
    alikeL h g (doA G acts o h').1 (doA G acts p g').1 ∧ alikeH h g (doA G acts o h').2 (doA G acts p g').2
  | [], o, p, h', g', k1, k2 => ⟨k1, k2⟩
  | a :: acts, o, p, h', g', k1, k2 => by
    rw [doA, doA]
    cases decide (a.Kind = 0)
    · rw [cond_false, cond_false]
      cases decide (a.Kind = 22)
      · rw [cond_false, cond_false]
        exact doA_alike h g G hG acts o p _ _ k1 (alikeH_apply h g h' g' _ k2)
      · rw [cond_true, cond_true]
        exact doA_alike h g G hG acts _ _ _ _ (alikeL_append h g _ _ _ _ k1 (hG a.Group h' g' k2)) k2
    · rw [cond_true, cond_true]
      exact doA_alike h g G hG acts _ _ _ _ (alikeL_append h g _ _ _ _ k1 ⟨⟨rfl, rfl, k2⟩, trivial⟩) k2
theorem flat_alike {α : Type} (h g : Header) (f k : α → List Out) : ∀ l : List α, (∀ x ∈ l, alikeL h g (f x) (k x)) → alikeL h g (l.flatMap f) (l.flatMap k)
  | [], _ => trivial
  | x :: l, hx => by
    rw [List.flatMap_cons, List.flatMap_cons]
    exact alikeL_append h g _ _ _ _ (hx x (by simp)) (flat_alike h g f k l fun y hy => hx y (by simp [hy]))
theorem goG_alike (h g : Header) (l : List Group) (e : Env) : ∀ (d : Nat) (id : Int) (h' g' : Header), alikeH h g h' g' → alikeL h g (goG l e d id h') (goG l e d id g')
  | 0, id, h', g', _ => trivial
  | d + 1, id, h', g', k => by
    rw [goG, goG]
    cases findG l id with
    | none => exact trivial
    | some q => exact flat_alike h g _ _ _ fun i _ => (doA_alike h g (goG l e d) (goG_alike h g l e d) _ [] [] h' g' trivial k).1
theorem alikeL_len (h g : Header) : ∀ (l m : List Out), alikeL h g l m → l.length = m.length
  | [], [], _ => rfl
  | a :: l, b :: m, ⟨_, h2⟩ => by simp [alikeL_len h g l m h2]
  | [], _ :: _, k => k.elim
  | _ :: _, [], k => k.elim
theorem alikeL_get (h g : Header) : ∀ (l m : List Out) (i : Nat) (h1 : i < l.length) (h2 : i < m.length), alikeL h g l m → alikeO h g l[i] m[i]
  | a :: l, b :: m, 0, _, _, ⟨k, _⟩ => k
  | a :: l, b :: m, i + 1, h1, h2, ⟨_, k⟩ => alikeL_get h g l m i (by simpa using h1) (by simpa using h2) k
  | [], _ :: _, _, _, _, k => k.elim
  | _ :: _, [], _, _, _, k => k.elim
end Go.Proofs.Ytokmmcflinnfiab.W
