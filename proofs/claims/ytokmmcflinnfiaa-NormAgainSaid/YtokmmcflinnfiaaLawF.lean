/- LawF: a part of the proof. -/
import Derived.Test.YtokmmcflinnfiaaLawE
set_option linter.unusedVariables false
set_option linter.unusedSimpArgs false
namespace Go.Proofs.Ytokmmcflinnfiaa.W
open Go Go.Wb

/-! ### what is few -/
theorem F109_eq (s : List Bucket) (f : Bucket → Option Bool) (p : Bucket → Bool) (hf : ∀ x ∈ s, f x = some (p x)) : F109 s f = some (s.any p) := by
  unfold F109; rw [F149_eq s f p hf, Option.bind_some, fidx_any]
theorem F20_eq (s : List Group) (f : Group → Option Bool) (p : Group → Bool) (hf : ∀ x ∈ s, f x = some (p x)) : F20 s f = some (s.any p) := by
  unfold F20; rw [F69_eq s f p hf, Option.bind_some, fidx_any]
def fewB (bs : List Bucket) (many : Int) : Bool := decide ((bs.length : Int) ≤ many) && !(bs.any fun x => !decide ((x.Acts.length : Int) ≤ 12))
theorem F62_eq (bs : List Bucket) (many : Int) : F62 bs many = some (fewB bs many) := by
  unfold F62 fewB
  rw [F109_eq bs F110 (fun x => !decide ((x.Acts.length : Int) ≤ 12)) (fun x _ => rfl)]
  cases decide ((bs.length : Int) ≤ many) <;> rfl
def fewG (l : List Group) (many bm : Int) : Bool := decide ((l.length : Int) ≤ many) && !(l.any fun g => !fewB g.Buckets bm)
theorem F12_eq (l : List Group) (many bm : Int) : F12 l many bm = some (fewG l many bm) := by
  unfold F12 fewG
  rw [F20_eq l (fun x => F61 x bm) (fun g => !fewB g.Buckets bm) (fun g _ => by unfold F61; rw [F62_eq]; rfl)]
  cases decide ((l.length : Int) ≤ many) <;> rfl
theorem fewG_light {l : List Group} (h : fewG l 9 3 = true) : lightG l := by
  unfold fewG at h
  simp only [Bool.and_eq_true, decide_eq_true_eq, Bool.not_eq_true', List.any_eq_false] at h
  refine ⟨by omega, fun g hg => ?_⟩
  have h1 : fewB g.Buckets 3 = true := by simpa using h.2 g hg
  unfold fewB at h1
  simp only [Bool.and_eq_true, decide_eq_true_eq, Bool.not_eq_true', List.any_eq_false] at h1
  refine ⟨by omega, fun x hx => ?_⟩
  have h2 : decide ((x.Acts.length : Int) ≤ 12) = true := by simpa using h1.2 x hx
  rw [decide_eq_true_eq] at h2
  omega
theorem F138_eq (s : List (List Action)) (f : List Action → Option Bool) (p : List Action → Bool) (hf : ∀ x ∈ s, f x = some (p x)) : F138 s f = some (fidx p s) := by
  unfold F138
  rw [show ((s.length : Int)).toNat = s.length by omega]
  exact idx_spec p (fun i => by rw [F138_l1]) (fun m i => by rw [F138_l1]) hf
theorem F46_eq (l : List Group) (acts : List (List Action)) : F46 l acts = some (fewG l 9 3 && !(acts.any fun a => decide ((a.length : Int) > 12))) := by
  unfold F46 F95
  rw [F12_eq, Option.bind_some, F138_eq acts F96 (fun a => decide ((a.length : Int) > 12)) (fun _ _ => rfl), Option.bind_some, fidx_any]
  cases fewG l 9 3 <;> rfl
theorem F99_l1_eq (s t : List Out) (hl : s.length = t.length) : ∀ (m i : Nat), i + m = s.length → F99_l1 s t m i = some (decide (s.drop i = t.drop i))
  | 0, i, h => by rw [F99_l1, List.drop_of_length_le (by omega), List.drop_of_length_le (by omega)]; simp
  | m + 1, i, h => by
    have h1 : i < s.length := by omega
    have h2 : i < t.length := by omega
    rw [F99_l1, lget_lt h1, Option.bind_some, lget_lt h2, Option.bind_some, List.drop_eq_getElem_cons h1, List.drop_eq_getElem_cons h2]
    by_cases he : s[i] = t[i]
    · rw [decide_eq_false (by simpa using he), cond_false, F99_l1_eq s t hl m (i + 1) (by omega)]
      simp only [List.cons.injEq, he, true_and]
    · rw [decide_eq_true (by simpa using he), cond_true]
      simp only [List.cons.injEq, he, false_and, decide_false]
theorem F50_eq (s t : List Out) : F50 s t = some (decide (s = t)) := by
  unfold F50 F99
  by_cases hl : s.length = t.length
  · rw [decide_eq_false (by omega), cond_false, show ((s.length : Int)).toNat = s.length by omega, F99_l1_eq s t hl _ 0 (by omega)]
    simp
  · rw [decide_eq_true (by omega), cond_true]
    have : s ≠ t := fun e => hl (e ▸ rfl)
    simp [this]
theorem F47_eq : F47 = some true := by decide +kernel

/-! ### one behind the other -/
theorem doA_append (G : Int → Header → List Out) : ∀ (a b : List Action) (o : List Out) (h : Header), doA G (a ++ b) o h = doA G b (doA G a o h).1 (doA G a o h).2
  | [], b, o, h => rfl
  | x :: a, b, o, h => by
    rw [List.cons_append, doA, doA]
    cases decide (x.Kind = 0)
    · rw [cond_false, cond_false]
      cases decide (x.Kind = 22)
      · rw [cond_false, cond_false]; exact doA_append G a b o _
      · rw [cond_true, cond_true]; exact doA_append G a b _ h
    · rw [cond_true, cond_true]; exact doA_append G a b _ h
theorem doA_le (l : List Group) (e : Env) (hl : lightG l) (acts : List Action) (ha : acts.length ≤ 12) (h : Header) : (doA (goG l e 8) acts [] h).1.length ≤ 12 * 6561 := by
  have h1 := doA_len (goG l e 8) (3 ^ 8) (Nat.pow_pos (by decide)) (goG_len l e hl 8) acts h
  have h2 : outs acts ≤ 12 := Nat.le_trans List.countP_le_length ha
  have e8 : (3 : Nat) ^ 8 = 6561 := by decide
  rw [e8] at h1
  have h3 : outs acts * 6561 ≤ 12 * 6561 := Nat.mul_le_mul_right _ h2
  exact Nat.le_trans h1 h3
theorem exec_joins (l : List Group) (e : Env) (a b : List Action) (h : Header) : F7 l e a b h = some true := by
  have hlim : lim = 4294967296 := rfl
  unfold F7
  rw [F46_eq, Option.bind_some]
  cases hc : fewG l 9 3 && !([a, b].any fun a => decide ((a.length : Int) > 12))
  · rw [Bool.not_false, Bool.true_or, cond_true, F47_eq]; rfl
  · rw [Bool.not_true, Bool.false_or]
    cases decide ((e.Down.length : Int) > 20)
    · simp only [Bool.and_eq_true, Bool.not_eq_true', List.any_cons, List.any_nil, Bool.or_false, Bool.or_eq_false_iff, decide_eq_false_iff_not] at hc
      have hl := fewG_light hc.1
      have ha : a.length ≤ 12 := by omega
      have hb : b.length ≤ 12 := by omega
      have l1 := doA_le l e hl a ha h
      have l2 := doA_le l e hl b hb (doA (goG l e 8) a [] h).2
      rw [cond_false, F48_eq l e a h hl (by omega), Option.bind_some, F48_eq l e b _ hl (by omega), Option.bind_some]
      unfold F49 F51
      rw [appd_ok (by simp; omega), Option.bind_some, List.nil_append, appd_ok (by omega), Option.bind_some, F48_eq l e (a ++ b) h hl (by simp; omega), Option.bind_some, appd_ok (by simp only [List.length_nil]; omega), Option.bind_some, List.nil_append, appd_ok (by omega), Option.bind_some, F50_eq, Option.bind_some, F47_eq, doA_append, doA_frame (goG l e 8) b (doA (goG l e 8) a [] h).1]
      simp [opt]
    · rw [cond_true, F47_eq]; rfl

/-! ### headers are copied -/
def quiet (a : Action) : Bool := !(decide (a.Kind = 0) || decide (a.Kind = 22))
theorem doA_quiet (G G' : Int → Header → List Out) : ∀ (acts : List Action) (h : Header), doA G' (acts.filter quiet) [] h = ([], (doA G acts [] h).2)
  | [], h => rfl
  | a :: acts, h => by
    rw [doA]
    by_cases h0 : a.Kind = 0
    · rw [decide_eq_true h0, cond_true, List.filter_cons_of_neg (by simp [quiet, h0]), doA_quiet G G' acts h, doA_frame G acts ([] ++ _)]
    · by_cases h1 : a.Kind = 22
      · rw [decide_eq_false h0, cond_false, decide_eq_true h1, cond_true, List.filter_cons_of_neg (by simp [quiet, h1]), doA_quiet G G' acts h, doA_frame G acts ([] ++ _)]
      · rw [decide_eq_false h0, cond_false, decide_eq_false h1, cond_false, List.filter_cons_of_pos (by simp [quiet, h0, h1]), doA, decide_eq_false h0, cond_false, decide_eq_false h1, cond_false]
        exact doA_quiet G G' acts _
theorem exec_copies (l : List Group) (e : Env) (acts : List Action) (h : Header) : F8 l e acts h = some true := by
  have hlim : lim = 4294967296 := rfl
  unfold F8
  rw [F46_eq, Option.bind_some]
  cases hc : fewG l 9 3 && !([acts].any fun a => decide ((a.length : Int) > 12))
  · rw [Bool.not_false, Bool.true_or, cond_true, F47_eq]; rfl
  · rw [Bool.not_true, Bool.false_or]
    cases decide ((e.Down.length : Int) > 20)
    · simp only [Bool.and_eq_true, Bool.not_eq_true', List.any_cons, List.any_nil, Bool.or_false, decide_eq_false_iff_not] at hc
      have hl := fewG_light hc.1
      have ha : acts.length ≤ 12 := by omega
      have hn : lightG [] := ⟨by simp, fun g hg => by cases hg⟩
      have hq : (fun x => !(decide (x.Kind = 0) || decide (x.Kind = 22))) = quiet := rfl
      unfold F49
      rw [cond_false, appd_ok (by simp; omega), Option.bind_some, List.nil_append, F52_eq acts F53 (fun x => decide (x.Kind = 0) || decide (x.Kind = 22)) (fun _ _ => rfl) (by omega), Option.bind_some, F48_eq l e acts h hl (by omega), Option.bind_some, hq, F48_eq [] _ _ h hn (Nat.le_trans (List.length_filter_le ..) (by omega)), Option.bind_some, doA_quiet (goG l e 8), F47_eq]
      simp [opt]
    · rw [cond_true, F47_eq]; rfl

/-! ### headers alike -/
def alikeH (h g h' g' : Header) : Prop := ∀ f, f < 24 → ve h f = ve g f → ve h' f = ve g' f
def alikeO (h g : Header) (a b : Out) : Prop := a.Port = b.Port ∧ a.Max = b.Max ∧ alikeH h g a.Header b.Header
def alikeL (h g : Header) : List Out → List Out → Prop
  | [], [] => True
  | a :: l, b :: m => alikeO h g a b ∧ alikeL h g l m
  | _, _ => False
theorem alikeL_append (h g : Header) : ∀ (l m l' m' : List Out), alikeL h g l m → alikeL h g l' m' → alikeL h g (l ++ l') (m ++ m')
  | [], [], _, _, _, k => k
  | a :: l, b :: m, l', m', ⟨h1, h2⟩, k => ⟨h1, alikeL_append h g l m l' m' h2 k⟩
  | [], _ :: _, _, _, k, _ => k.elim
  | _ :: _, [], _, _, k, _ => k.elim
theorem alikeH_apply (h g h' g' : Header) (r : Cube) (k : alikeH h g h' g') : alikeH h g (capply r h') (capply r g') := fun f hf e => by
  rw [ve_capply _ _ _ hf, ve_capply _ _ _ hf, k f hf e]
theorem doA_alike (h g : Header) (G : Int → Header → List Out) (hG : ∀ id h' g', alikeH h g h' g' → alikeL h g (G id h') (G id g')) : ∀ (acts : List Action) (o p : List Out) (h' g' : Header), alikeL h g o p → alikeH h g h' g' →
    alikeL h g (doA G acts o h').1 (doA G acts p g').1 ∧ alikeH h g (doA G acts o h').2 (doA G acts p g').2
  | [], o, p, h', g', k1, k2 => ⟨k1, k2⟩
  | a :: acts, o, p, h', g', k1, k2 => by
    rw [doA, doA]
    cases decide (a.Kind = 0)
    · rw [cond_false, cond_false]
      cases decide (a.Kind = 22)
      · rw [cond_false, cond_false]
        exact doA_alike h g G hG acts o p _ _ k1 (alikeH_apply h g h' g' _ k2)
      · rw [cond_true, cond_true]
        exact doA_alike h g G hG acts _ _ _ _ (alikeL_append h g _ _ _ _ k1 (hG a.Group h' g' k2)) k2
    · rw [cond_true, cond_true]
      exact doA_alike h g G hG acts _ _ _ _ (alikeL_append h g _ _ _ _ k1 ⟨⟨rfl, rfl, k2⟩, trivial⟩) k2
theorem flat_alike {α : Type} (h g : Header) (f k : α → List Out) : ∀ l : List α, (∀ x ∈ l, alikeL h g (f x) (k x)) → alikeL h g (l.flatMap f) (l.flatMap k)
  | [], _ => trivial
  | x :: l, hx => by
    rw [List.flatMap_cons, List.flatMap_cons]
    exact alikeL_append h g _ _ _ _ (hx x (by simp)) (flat_alike h g f k l fun y hy => hx y (by simp [hy]))
theorem goG_alike (h g : Header) (l : List Group) (e : Env) : ∀ (d : Nat) (id : Int) (h' g' : Header), alikeH h g h' g' → alikeL h g (goG l e d id h') (goG l e d id g')
  | 0, id, h', g', _ => trivial
  | d + 1, id, h', g', k => by
    rw [goG, goG]
    cases findG l id with
    | none => exact trivial
    | some q => exact flat_alike h g _ _ _ fun i _ => (doA_alike h g (goG l e d) (goG_alike h g l e d) _ [] [] h' g' trivial k).1
theorem alikeL_len (h g : Header) : ∀ (l m : List Out), alikeL h g l m → l.length = m.length
  | [], [], _ => rfl
  | a :: l, b :: m, ⟨_, h2⟩ => by simp [alikeL_len h g l m h2]
  | [], _ :: _, k => k.elim
  | _ :: _, [], k => k.elim
theorem alikeL_get (h g : Header) : ∀ (l m : List Out) (i : Nat) (h1 : i < l.length) (h2 : i < m.length), alikeL h g l m → alikeO h g l[i] m[i]
  | a :: l, b :: m, 0, _, _, ⟨k, _⟩ => k
  | a :: l, b :: m, i + 1, h1, h2, ⟨_, k⟩ => alikeL_get h g l m i (by simpa using h1) (by simpa using h2) k
  | [], _ :: _, _, _, _, k => k.elim
  | _ :: _, [], _, _, _, k => k.elim
theorem F9_l2_eq (h g : Header) (x y : List Out × Header) (i : Nat) (h1 : i < x.1.length) (h2 : i < y.1.length) (k : alikeO h g x.1[i] y.1[i]) (go : Nat → Option Bool) : ∀ (m f : Nat), f + m = 24 → F9_l2 go i h g x y m f = go (i + 1)
  | 0, f, hf => by rw [F9_l2]
  | m + 1, f, hf => by
    have hlt : f < 24 := by omega
    rw [F9_l2, chk_nat hlt, Option.bind_some, Option.bind_some, vget_eq, vget_eq]
    by_cases he : ve h f = ve g f
    · rw [decide_eq_true he]
      simp only [opt_true]
      rw [lget_lt h1, Option.bind_some, Option.bind_some, lget_lt h2, Option.bind_some, Option.bind_some, vget_eq, vget_eq, k.2.2 f hlt he, decide_eq_false (by simp), Bool.and_false, cond_false]
      exact F9_l2_eq h g x y i h1 h2 k go m (f + 1) (by omega)
    · rw [decide_eq_false he]
      simp only [opt_false, Option.bind_some, Bool.false_and, cond_false]
      exact F9_l2_eq h g x y i h1 h2 k go m (f + 1) (by omega)
theorem F9_l1_eq (h g : Header) (x y : List Out × Header) (k : alikeL h g x.1 y.1) : ∀ (m i : Nat), i + m = x.1.length → F9_l1 x y h g m i = some true
  | 0, i, _ => by rw [F9_l1, F47_eq]; rfl
  | m + 1, i, hi => by
    have hl := alikeL_len h g _ _ k
    have h1 : i < x.1.length := by omega
    have h2 : i < y.1.length := by omega
    have ho := alikeL_get h g _ _ i h1 h2 k
    rw [F9_l1, lget_lt h1, Option.bind_some, lget_lt h2, Option.bind_some, decide_eq_false (by simp [ho.1])]
    simp only [Bool.not_false, opt_true]
    rw [Option.bind_some, Option.bind_some, decide_eq_false (by simp [ho.2.1]), Bool.or_self, cond_false, show ((24 : Int)).toNat = 24 from rfl, F9_l2_eq h g x y i h1 h2 ho _ 24 0 rfl]
    exact F9_l1_eq h g x y k m (i + 1) (by omega)
theorem exec_rewrites (l : List Group) (e : Env) (acts : List Action) (h g : Header) : F9 l e acts h g = some true := by
  unfold F9
  rw [F46_eq, Option.bind_some]
  cases hc : fewG l 9 3 && !([acts].any fun a => decide ((a.length : Int) > 12))
  · rw [Bool.not_false, Bool.true_or, cond_true, F47_eq]; rfl
  · rw [Bool.not_true, Bool.false_or]
    cases decide ((e.Down.length : Int) > 20)
    · simp only [Bool.and_eq_true, Bool.not_eq_true', List.any_cons, List.any_nil, Bool.or_false, decide_eq_false_iff_not] at hc
      have hl := fewG_light hc.1
      have ha : acts.length ≤ 12 := by omega
      have k := doA_alike h g (goG l e 8) (goG_alike h g l e 8) acts [] [] h g trivial (fun f hf e => e)
      have hlen := alikeL_len h g _ _ k.1
      rw [cond_false, F48_eq l e acts h hl (by omega), Option.bind_some, F48_eq l e acts g hl (by omega), Option.bind_some, decide_eq_false (by omega), cond_false, show ∀ n : Nat, ((n : Int)).toNat = n from fun n => Int.toNat_natCast n]
      exact F9_l1_eq h g _ _ k.1 _ 0 (by omega)
    · rw [cond_true, F47_eq]; rfl
end Go.Proofs.Ytokmmcflinnfiaa.W
