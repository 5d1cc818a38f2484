/- LawBN: a part of the proof. -/
import Derived.Test.YtokmmcflinnfiabLawBF
import Derived.Test.YtokmmcflinnfiabLawBG
set_option linter.unusedVariables false
set_option linter.unusedSimpArgs false
namespace Go.Proofs.Ytokmmcflinnfiab.W
open Go Go.Wb

/-! ### atoms without groups -/
def listN (G : Int → Cube → List Atom) : List Atom → List Atom
  | [] => []
  | x :: l => (bif x.Group then G x.Port x.Rewrite else [{ x with Rewrite := cclean x.Rewrite }]) ++ listN G l
def goN (l : List Group) (e : Env) : Nat → Int → Cube → List Atom
  | 0, _, _ => []
  | d + 1, id, r => match findG l id with
    | none => []
    | some g => (takesOf e g).flatMap fun i => listN (goN l e d) (doT (setActs (bucketActs g.Buckets i)) (cclean r)).1
theorem listN_append (G : Int → Cube → List Atom) : ∀ a b : List Atom, listN G (a ++ b) = listN G a ++ listN G b
  | [], b => rfl
  | x :: a, b => by rw [List.cons_append, listN, listN, listN_append G a b, List.append_assoc]
theorem listN_len (G : Int → Cube → List Atom) (B : Nat) (hB : 1 ≤ B) (hG : ∀ id r, (G id r).length ≤ B) : ∀ a : List Atom, (listN G a).length ≤ a.length * B
  | [] => by simp [listN]
  | x :: a => by
    have ih := listN_len G B hB hG a
    rw [listN, List.length_append, List.length_cons, Nat.add_mul, Nat.one_mul]
    have : (bif x.Group then G x.Port x.Rewrite else [{ x with Rewrite := cclean x.Rewrite }]).length ≤ B := by
      cases x.Group
      · simpa using hB
      · exact hG _ _
    omega
theorem goN_len (l : List Group) (e : Env) (hl : lightG l) : ∀ (d : Nat) (id : Int) (r : Cube), (goN l e d id r).length ≤ 3 ^ d
  | 0, id, r => by simp [goN]
  | d + 1, id, r => by
    rw [goN]
    cases hf : findG l id with
    | none => simp
    | some g =>
      have hb := hl.2 g (findG_mem hf)
      have ht := (takesOf_ok e g hb).1
      have h1 : 1 ≤ 3 ^ d := Nat.pow_pos (by decide)
      have := flatMap_bd (fun i => listN (goN l e d) (doT (setActs (bucketActs g.Buckets i)) (cclean r)).1) (3 ^ d) (takesOf e g) fun i _ => by
        have h2 := listN_len (goN l e d) (3 ^ d) h1 (goN_len l e hl d) (doT (setActs (bucketActs g.Buckets i)) (cclean r)).1
        rw [doT_len] at h2
        have h3 := outs_set (bucketActs g.Buckets i)
        have h4 : outs (setActs (bucketActs g.Buckets i)) * 3 ^ d ≤ 1 * 3 ^ d := Nat.mul_le_mul_right _ h3
        omega
      have h5 : (takesOf e g).length * 3 ^ d ≤ 3 * 3 ^ d := Nat.mul_le_mul_right _ ht
      have e1 : 3 ^ (d + 1) = 3 * 3 ^ d := by rw [Nat.pow_succ, Nat.mul_comm]
      show ((takesOf e g).flatMap _).length ≤ _
      omega
/-- atoms that are no groups, and are clean -/
def plainA (a : Atom) : Prop := a.Group = false ∧ cclean a.Rewrite = a.Rewrite
theorem listN_plain (G : Int → Cube → List Atom) (hG : ∀ id r, ∀ x ∈ G id r, plainA x) : ∀ a : List Atom, ∀ x ∈ listN G a, plainA x
  | [], x, h => by simp [listN] at h
  | y :: a, x, h => by
    rw [listN, List.mem_append] at h
    rcases h with h | h
    · cases hy : y.Group
      · rw [hy] at h
        simp only [cond_false, List.mem_singleton] at h
        subst h
        exact ⟨rfl, cclean_clean _⟩
      · rw [hy] at h
        exact hG _ _ x h
    · exact listN_plain G hG a x h
theorem goN_plain (l : List Group) (e : Env) : ∀ (d : Nat) (id : Int) (r : Cube), ∀ x ∈ goN l e d id r, plainA x
  | 0, id, r, x, h => by simp [goN] at h
  | d + 1, id, r, x, h => by
    rw [goN] at h
    cases hf : findG l id with
    | none => rw [hf] at h; simp at h
    | some g =>
      rw [hf] at h
      have h' : x ∈ (takesOf e g).flatMap fun i => listN (goN l e d) (doT (setActs (bucketActs g.Buckets i)) (cclean r)).1 := h
      obtain ⟨i, _, hx⟩ := List.mem_flatMap.1 h'
      exact listN_plain _ (goN_plain l e d) _ x hx
theorem listN_id (G : Int → Cube → List Atom) : ∀ a : List Atom, (∀ x ∈ a, plainA x) → listN G a = a
  | [], _ => rfl
  | x :: a, h => by
    obtain ⟨h1, h2⟩ := h x (by simp)
    rw [listN, h1, cond_false, listN_id G a fun y hy => h y (by simp [hy]), h2]
    show (⟨x.Rewrite, false, x.Port, x.Max⟩ : Atom) :: a = x :: a
    rw [← h1]
end Go.Proofs.Ytokmmcflinnfiab.W
