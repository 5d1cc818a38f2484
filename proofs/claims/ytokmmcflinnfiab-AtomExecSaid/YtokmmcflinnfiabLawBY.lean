/- LawBY: a part of the proof. -/
import Derived.Test.YtokmmcflinnfiabLawBX
set_option linter.unusedVariables false
set_option linter.unusedSimpArgs false
namespace Go.Proofs.Ytokmmcflinnfiab.W
open Go Go.Wb

/-! ### the reference's atoms -/
theorem F7_l1_eq (acts : List Action) (ha : acts.length ≤ 1000) : ∀ (m i : Nat) (r : Cube) (o : List Atom), i ≤ acts.length → acts.length < i + m → o.length ≤ i → F7_l1 acts m r o (i : Int) = some (o ++ (doT (acts.drop i) r).1, (doT (acts.drop i) r).2)
  | 0, i, r, o, h1, h2, _ => by omega
  | m + 1, i, r, o, h1, h2, hb => by
    have hlim : lim = 4294967296 := rfl
    rw [F7_l1]
    by_cases hi : i < acts.length
    · rw [decide_eq_true (by omega), cond_true, lget_lt hi, Option.bind_some, List.drop_eq_getElem_cons hi, doT]
      unfold loud atomOf mostOf
      by_cases h0 : acts[i].Kind = 0
      · have hj : ∀ x : Atom, F7_j2 o (F7_l1 acts m) r (i : Int) x = some (o ++ x :: (doT (acts.drop (i + 1)) r).1, (doT (acts.drop (i + 1)) r).2) := fun x => by
          unfold F7_j2
          rw [appd_ok (by simp only [List.length_cons, List.length_nil]; omega), Option.bind_some, inc i (by omega), F7_l1_eq acts ha m (i + 1) r _ (by omega) (by omega) (by simp only [List.length_append, List.length_cons, List.length_nil]; omega)]
          simp
        rw [decide_eq_true h0]
        simp only [cond_true, Option.bind_some, Bool.true_or]
        cases hp : decide (acts[i].Port = 4294967293)
        · simp only [hp, cond_false]
          rw [hj]
        · simp only [hp, cond_true]
          rw [hj]
      · rw [decide_eq_false h0]
        simp only [cond_false, Option.bind_some, Bool.false_or]
        by_cases h4 : acts[i].Kind = 22
        · rw [decide_eq_true h4]
          simp only [cond_true, Option.bind_some]
          rw [appd_ok (by simp only [List.length_cons, List.length_nil]; omega), Option.bind_some, inc i (by omega), F7_l1_eq acts ha m (i + 1) r _ (by omega) (by omega) (by simp only [List.length_append, List.length_cons, List.length_nil]; omega)]
          simp
        · rw [decide_eq_false h4]
          simp only [cond_false, Option.bind_some]
          rw [F23_eqR, Option.bind_some, F22_eq, Option.bind_some, inc i (by omega), F7_l1_eq acts ha m (i + 1) _ o (by omega) (by omega) (by omega)]
    · rw [decide_eq_false (by omega), cond_false, List.drop_of_length_le (by omega)]; simp [doT]
theorem F7_eqR (acts : List Action) (r : Cube) (ha : acts.length ≤ 1000) : F7 acts r = some (doT acts (cclean r)) := by
  unfold F7
  rw [F21_eq, Option.bind_some]
  have := F7_l1_eq acts ha ((((acts.length : Int) : Int) - 0).toNat + 1) 0 (cclean r) [] (by omega) (by omega) (by simp)
  rw [show ((0 : Nat) : Int) = 0 from rfl] at this
  rw [this]; simp
theorem F8_l1_self (s : List Atom) : ∀ (m i : Nat), i + m = s.length → F8_l1 s s m i = some true
  | 0, i, _ => rfl
  | m + 1, i, h => by
    rw [F8_l1, lget_lt (by omega), Option.bind_some, Option.bind_some]
    simp [F8_l1_self s m (i + 1) (by omega)]
theorem F8_self (s : List Atom) : F8 s s = some true := by
  unfold F8
  rw [decide_eq_false (by simp), cond_false, F8_l1_self s _ 0 (by omega)]
theorem F10_l1_self (a : List Atom) (ha : a.length ≤ 1000000) : ∀ (m i : Nat), i ≤ a.length → a.length < i + m → F10_l1 a a m (i : Int) = some true
  | 0, i, h1, h2 => by omega
  | m + 1, i, h1, h2 => by
    rw [F10_l1]
    by_cases hi : i < a.length
    · rw [decide_eq_true (by omega), cond_true, lget_lt hi]
      simp only [Option.bind_some]
      rw [inc i (by omega), F10_l1_self a ha m (i + 1) (by omega) (by omega)]
      simp [opt, F21_eq]
    · rw [decide_eq_false (by omega), cond_false]
theorem F10_self (a : List Atom) (ha : a.length ≤ 1000000) : F10 a a = some true := by
  unfold F10
  have := F10_l1_self a ha ((((a.length : Int) : Int) - 0).toNat + 1) 0 (by omega) (by omega)
  rw [decide_eq_false (by simp), cond_false]
  exact this
end Go.Proofs.Ytokmmcflinnfiab.W
