/- LawG: a part of the proof. -/
import Derived.Test.YtokmmcflinnfiaaLawE
set_option linter.unusedVariables false
set_option linter.unusedSimpArgs false
namespace Go.Proofs.Ytokmmcflinnfiaa.W
open Go Go.Wb

/-! ### atoms -/
theorem F148_eq (a b : Cube) : F148 a b = some (cthen a b) := by
  unfold F148
  rw [F146_eq (fun x => F158 x a b) (fun i => tover (ve a i) (ve b i)) (fun i hi => by unfold F158; rw [chk_nat hi, Option.bind_some, Option.bind_some, vget_eq, vget_eq, F159_eq]; rfl)]
  rfl
def atomOf (r : Cube) (a : Action) : Atom := bif decide (a.Kind = 0) then ⟨r, false, a.Port, mostOf a⟩ else ⟨r, true, a.Group, 0⟩
def loud (a : Action) : Bool := decide (a.Kind = 0) || decide (a.Kind = 22)
def doT : List Action → Cube → List Atom × Cube
  | [], r => ([], r)
  | a :: l, r => bif loud a then (atomOf r a :: (doT l r).1, (doT l r).2) else doT l (cthen r (rwOf a))
theorem F108_eq (r : Cube) (o : List Atom) (a : Action) (h : o.length + 1 ≤ lim) : F108 ⟨r, o⟩ a = some (bif loud a then ⟨r, o ++ [atomOf r a]⟩ else ⟨cthen r (rwOf a), o⟩) := by
  have hj : ∀ x : Atom, F108_j1 ⟨r, o⟩ x = some ⟨r, o ++ [x]⟩ := fun x => by
    unfold F108_j1
    rw [appd_ok (by simpa using h), Option.bind_some]
  unfold F108 loud atomOf mostOf
  cases decide (a.Kind = 0)
  · rw [cond_false]
    cases decide (a.Kind = 22)
    · rw [cond_false, F142_eq, Option.bind_some, F148_eq]; rfl
    · rw [cond_true, hj]; rfl
  · rw [cond_true]
    cases decide (a.Port = 4294967293)
    · rw [cond_false, hj]; rfl
    · rw [cond_true, hj]; rfl
theorem F107_l1_eq : ∀ (l : List Action) (i : Nat) (r : Cube) (o : List Atom), o.length + l.length ≤ lim → F107_l1 atom_trace (fun s x => F108 s x) l i ⟨r, o⟩ = some ⟨(doT l r).2, o ++ (doT l r).1⟩
  | [], i, r, o, _ => by rw [F107_l1]; simp [doT]
  | a :: l, i, r, o, h => by
    simp only [List.length_cons] at h
    rw [F107_l1, F108_eq r o a (by omega), Option.bind_some, doT]
    cases loud a
    · rw [cond_false, cond_false, F107_l1_eq l (i + 1) _ o (by omega)]
    · rw [cond_true, cond_true, F107_l1_eq l (i + 1) _ _ (by simp; omega)]
      simp
theorem F60_eq (acts : List Action) (r : Cube) (h : acts.length ≤ lim) : F60 acts r = some (doT acts (cclean r)) := by
  unfold F60 F107
  rw [F106_eq, Option.bind_some, F107_l1_eq acts 0 _ [] (by simpa using h), Option.bind_some]
  rfl
theorem doT_clean (l : List Action) : ∀ r : Cube, cclean r = r → cclean (doT l r).2 = (doT l r).2 := by
  induction l with
  | nil => intro r h; rw [doT]; exact h
  | cons a l ih =>
    intro r h
    rw [doT]
    cases loud a
    · rw [cond_false]; exact ih _ (cthen_clean r _)
    · rw [cond_true]; exact ih r h
theorem doT_append : ∀ (p q : List Action) (r : Cube), doT (p ++ q) r = ((doT p r).1 ++ (doT q (doT p r).2).1, (doT q (doT p r).2).2)
  | [], q, r => rfl
  | a :: p, q, r => by
    rw [List.cons_append, doT, doT]
    cases loud a
    · rw [cond_false, cond_false]; exact doT_append p q _
    · rw [cond_true, cond_true, doT_append p q r]; rfl
theorem doT_len : ∀ (l : List Action) (r : Cube), (doT l r).1.length = outs l
  | [], r => rfl
  | a :: l, r => by
    have ih := doT_len l
    unfold outs at ih ⊢
    rw [doT, List.countP_cons]
    show _ = _ + if loud a = true then 1 else 0
    cases loud a
    · simp [ih]
    · simp [ih]
theorem F104_self (a : Atom) : F104 a a = some true := by
  unfold F104
  rw [F106_eq, Option.bind_some, Option.bind_some, decide_eq_true rfl]
theorem F88_self (t : List Atom) : ∀ (s : List Atom) (i : Nat), s = t.drop i → F88_l1 t F104 s i = some true
  | [], i, _ => by rw [F88_l1]
  | x :: s, i, h => by
    have hi : i < t.length := by
      have := congrArg List.length h
      simp at this; omega
    rw [List.drop_eq_getElem_cons hi] at h
    obtain ⟨rfl, h2⟩ := List.cons.inj h
    rw [F88_l1, lget_lt hi, Option.bind_some, F104_self, Option.bind_some, Bool.not_true, cond_false]
    exact F88_self t s (i + 1) h2
theorem F58_self (t : List Atom) : F58 t t = some true := by
  unfold F58 F88
  rw [decide_eq_false (by simp), cond_false, F88_self t t 0 rfl]; rfl
theorem F59_eq : F59 = some true := by decide +kernel
theorem atom_joins (p q : List Action) (r : Cube) : F11 p q r = some true := by
  have hlim : lim = 4294967296 := rfl
  unfold F11
  by_cases hp : (p.length : Int) > 60
  · rw [decide_eq_true hp, Bool.true_or, cond_true, F59_eq]; rfl
  · by_cases hq : (q.length : Int) > 60
    · rw [decide_eq_true hq, Bool.or_true, cond_true, F59_eq]; rfl
    · have h1 : (doT p (cclean r)).1.length ≤ 60 := by
        rw [doT_len]; exact Nat.le_trans List.countP_le_length (by omega)
      have h2 : (doT q (doT p (cclean r)).2).1.length ≤ 60 := by
        rw [doT_len]; exact Nat.le_trans List.countP_le_length (by omega)
      rw [decide_eq_false hp, decide_eq_false hq, Bool.or_self, cond_false, F60_eq p r (by omega), Option.bind_some, F60_eq q _ (by omega), Option.bind_some, doT_clean p _ (cclean_clean r)]
      unfold F49 F57
      rw [appd_ok (by simp; omega), Option.bind_some, List.nil_append, appd_ok (by omega), Option.bind_some, F60_eq (p ++ q) r (by simp; omega), Option.bind_some, appd_ok (by simp only [List.length_nil]; omega), Option.bind_some, List.nil_append, appd_ok (by omega), Option.bind_some, doT_append, F58_self, Option.bind_some, F59_eq]
      simp [opt]
end Go.Proofs.Ytokmmcflinnfiaa.W
