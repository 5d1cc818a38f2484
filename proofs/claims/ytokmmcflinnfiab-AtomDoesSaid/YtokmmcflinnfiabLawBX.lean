/- LawBX: a part of the proof. -/
import Derived.Test.YtokmmcflinnfiabLawBR
set_option linter.unusedVariables false
set_option linter.unusedSimpArgs false
namespace Go.Proofs.Ytokmmcflinnfiab.W
open Go Go.Wb

/-! ### what goes out by atoms -/
def outN (G : Int → Header → List Out) (h : Header) (x : Atom) : List Out := bif x.Group then G x.Port (capply x.Rewrite h) else [⟨x.Port, x.Max, capply x.Rewrite h⟩]
theorem outN_len (G : Int → Header → List Out) (B : Nat) (hB : 1 ≤ B) (hG : ∀ id h, (G id h).length ≤ B) (h : Header) (x : Atom) : (outN G h x).length ≤ B := by
  unfold outN
  cases x.Group
  · exact hB
  · exact hG _ _
theorem F34_l1_eq (l : List Group) (e : Env) (hl : lightG l) (h : Header) : ∀ (a : List Atom) (i : Nat) (o : List Out), o.length + a.length * 6561 ≤ lim → F34_l1 (List Out) (fun s x => F35 x h s l e) a i o = some (o ++ a.flatMap (outN (goG l e 8) h))
  | [], i, o, _ => by rw [F34_l1]; simp
  | x :: a, i, o, hb => by
    have e8 : (3 : Nat) ^ 8 = 6561 := by decide
    have hlen := goG_len l e hl 8
    rw [List.length_cons, Nat.add_mul, Nat.one_mul] at hb
    rw [F34_l1, F35, F14_eq, Option.bind_some, List.flatMap_cons]
    have ho := outN_len (goG l e 8) (3 ^ 8) (by decide) hlen h x
    rw [e8] at ho
    unfold outN at ho ⊢
    cases hx : x.Group
    · simp only [hx, cond_false, List.length_cons, List.length_nil] at ho ⊢
      rw [appd_ok (by simp only [List.length_cons, List.length_nil]; omega), Option.bind_some, Option.bind_some, F34_l1_eq l e hl h a (i + 1) _ (by simp only [List.length_append, List.length_cons, List.length_nil]; omega), List.append_assoc]
      rfl
    · simp only [hx, cond_true] at ho ⊢
      rw [F36_eq l e _ _ hl, Option.bind_some, appd_ok (by omega), Option.bind_some, Option.bind_some, F34_l1_eq l e hl h a (i + 1) _ (by rw [List.length_append]; omega), List.append_assoc]
      rfl
theorem F16_eq (l : List Group) (e : Env) (hl : lightG l) (h : Header) (a : List Atom) (ha : a.length ≤ 1000) : F16 l e a h = some (a.flatMap (outN (goG l e 8) h)) := by
  have hlim : lim = 4294967296 := rfl
  unfold F16 F34
  rw [F34_l1_eq l e hl h a 0 [] (by simp only [List.length_nil]; omega)]; rfl
end Go.Proofs.Ytokmmcflinnfiab.W
