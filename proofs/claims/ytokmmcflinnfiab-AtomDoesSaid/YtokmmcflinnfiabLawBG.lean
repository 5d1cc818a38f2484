/- LawBG: a part of the proof. -/
import Derived.Test.YtokmmcflinnfiabLawBE
set_option linter.unusedVariables false
set_option linter.unusedSimpArgs false
namespace Go.Proofs.Ytokmmcflinnfiab.W
open Go Go.Wb

/-! ### atoms -/
theorem F40_eq (a b : Cube) : F40 a b = some (cthen a b) := by
  unfold F40
  rw [F37_eq (fun x => F55 x a b) (fun i => tover (ve a i) (ve b i)) (fun i hi => by unfold F55; rw [chk_nat hi, Option.bind_some, Option.bind_some, vget_eq, vget_eq, F56_eq]; rfl)]
  rfl
def atomOf (r : Cube) (a : Action) : Atom := bif decide (a.Kind = 0) then ⟨r, false, a.Port, mostOf a⟩ else ⟨r, true, a.Group, 0⟩
def loud (a : Action) : Bool := decide (a.Kind = 0) || decide (a.Kind = 22)
def doT : List Action → Cube → List Atom × Cube
  | [], r => ([], r)
  | a :: l, r => bif loud a then (atomOf r a :: (doT l r).1, (doT l r).2) else doT l (cthen r (rwOf a))
theorem F20_eq (r : Cube) (o : List Atom) (a : Action) (h : o.length + 1 ≤ lim) : F20 ⟨r, o⟩ a = some (bif loud a then ⟨r, o ++ [atomOf r a]⟩ else ⟨cthen r (rwOf a), o⟩) := by
  have hj : ∀ x : Atom, F20_j1 ⟨r, o⟩ x = some ⟨r, o ++ [x]⟩ := fun x => by
    unfold F20_j1
    rw [appd_ok (by simpa using h), Option.bind_some]
  unfold F20 loud atomOf mostOf
  cases decide (a.Kind = 0)
  · rw [cond_false]
    cases decide (a.Kind = 22)
    · rw [cond_false, F41_eq, Option.bind_some, F40_eq]; rfl
    · rw [cond_true, hj]; rfl
  · rw [cond_true]
    cases decide (a.Port = 4294967293)
    · rw [cond_false, hj]; rfl
    · rw [cond_true, hj]; rfl
theorem F19_l1_eq : ∀ (l : List Action) (i : Nat) (r : Cube) (o : List Atom), o.length + l.length ≤ lim → F19_l1 atom_trace (fun s x => F20 s x) l i ⟨r, o⟩ = some ⟨(doT l r).2, o ++ (doT l r).1⟩
  | [], i, r, o, _ => by rw [F19_l1]; simp [doT]
  | a :: l, i, r, o, h => by
    simp only [List.length_cons] at h
    rw [F19_l1, F20_eq r o a (by omega), Option.bind_some, doT]
    cases loud a
    · rw [cond_false, cond_false, F19_l1_eq l (i + 1) _ o (by omega)]
    · rw [cond_true, cond_true, F19_l1_eq l (i + 1) _ _ (by simp; omega)]
      simp
theorem F6_eq (acts : List Action) (r : Cube) (h : acts.length ≤ lim) : F6 acts r = some (doT acts (cclean r)) := by
  unfold F6 F19
  rw [F18_eq, Option.bind_some, F19_l1_eq acts 0 _ [] (by simpa using h), Option.bind_some]
  rfl
theorem doT_clean (l : List Action) : ∀ r : Cube, cclean r = r → cclean (doT l r).2 = (doT l r).2 := by
  induction l with
  | nil => intro r h; rw [doT]; exact h
  | cons a l ih =>
    intro r h
    rw [doT]
    cases loud a
    · rw [cond_false]; exact ih _ (cthen_clean r _)
    · rw [cond_true]; exact ih r h
theorem doT_append : ∀ (p q : List Action) (r : Cube), doT (p ++ q) r = ((doT p r).1 ++ (doT q (doT p r).2).1, (doT q (doT p r).2).2)
  | [], q, r => rfl
  | a :: p, q, r => by
    rw [List.cons_append, doT, doT]
    cases loud a
    · rw [cond_false, cond_false]; exact doT_append p q _
    · rw [cond_true, cond_true, doT_append p q r]; rfl
theorem doT_len : ∀ (l : List Action) (r : Cube), (doT l r).1.length = outs l
  | [], r => rfl
  | a :: l, r => by
    have ih := doT_len l
    unfold outs at ih ⊢
    rw [doT, List.countP_cons]
    show _ = _ + if loud a = true then 1 else 0
    cases loud a
    · simp [ih]
    · simp [ih]
theorem F25_self (a : Atom) : F25 a a = some true := by
  unfold F25
  rw [F18_eq, Option.bind_some, Option.bind_some, decide_eq_true rfl]
theorem F24_self (t : List Atom) : ∀ (s : List Atom) (i : Nat), s = t.drop i → F24_l1 t F25 s i = some true
  | [], i, _ => by rw [F24_l1]
  | x :: s, i, h => by
    have hi : i < t.length := by
      have := congrArg List.length h
      simp at this; omega
    rw [List.drop_eq_getElem_cons hi] at h
    obtain ⟨rfl, h2⟩ := List.cons.inj h
    rw [F24_l1, lget_lt hi, Option.bind_some, F25_self, Option.bind_some, Bool.not_true, cond_false]
    exact F24_self t s (i + 1) h2
theorem F9_self (t : List Atom) : F9 t t = some true := by
  unfold F9 F24
  rw [decide_eq_false (by simp), cond_false, F24_self t t 0 rfl]; rfl
theorem F5_eq : F5 = some true := by decide +kernel
end Go.Proofs.Ytokmmcflinnfiab.W
