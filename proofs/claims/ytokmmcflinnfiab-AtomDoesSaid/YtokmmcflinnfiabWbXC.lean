/- WbXC: a part of the proof. -/
import Derived.Test.YtokmmcflinnfiabWbXB
import Derived.Test.YtokmmcflinnfiabWbZB
set_option linter.unusedVariables false
set_option linter.unusedSimpArgs false
namespace Go.Wb
open Go

/-! ### Vectors by numbers -/
section ve
variable {α β : Type} [Inhabited α] {n : Nat}
def ve (v : Vector α n) (i : Nat) : α := if h : i < n then v[i] else default
theorem vget_eq (v : Vector α n) (i : Nat) (h : i < n) : Vector.get v ⟨i, h⟩ = ve v i := by
  unfold ve; rw [dif_pos h]; rfl
theorem ve_lt (v : Vector α n) (i : Nat) (h : i < n) : ve v i = v[i] := by unfold ve; rw [dif_pos h]
theorem ve_ext {v w : Vector α n} (h : ∀ i, i < n → ve v i = ve w i) : v = w := by
  apply Vector.ext
  intro i hi
  have := h i hi
  rwa [ve_lt _ _ hi, ve_lt _ _ hi] at this
theorem ve_set (v : Vector α n) (i : Nat) (hi : i < n) (x : α) (j : Nat) (hj : j < n) : ve (Vector.set v i x hi) j = if i = j then x else ve v j := by
  rw [ve_lt _ _ hj, ve_lt _ _ hj, Vector.getElem_set]
theorem ve_replicate (x : α) (j : Nat) (hj : j < n) : ve (Vector.replicate n x) j = x := by
  rw [ve_lt _ _ hj, Vector.getElem_replicate]
theorem ve_ofFn (g : Nat → α) (j : Nat) (hj : j < n) : ve (Vector.ofFn (n := n) fun i => g i.1) j = g j := by
  rw [ve_lt _ _ hj, Vector.getElem_ofFn]
/-- the first i places have been set -/
def upto (g : Nat → α) (b : Vector α n) (i : Nat) : Vector α n := Vector.ofFn fun k => if k.1 < i then g k.1 else ve b k.1
theorem ve_upto (g : Nat → α) (b : Vector α n) (i j : Nat) (hj : j < n) : ve (upto g b i) j = if j < i then g j else ve b j := by
  unfold upto
  rw [ve_lt _ _ hj, Vector.getElem_ofFn]
theorem upto_zero (g : Nat → α) (b : Vector α n) : upto g b 0 = b := ve_ext fun j hj => by rw [ve_upto _ _ _ _ hj, if_neg (by omega)]
theorem upto_set (g : Nat → α) (b : Vector α n) (i : Nat) (hi : i < n) : Vector.set (upto g b i) i (g i) hi = upto g b (i + 1) := ve_ext fun j hj => by
  rw [ve_set _ _ _ _ _ hj, ve_upto _ _ _ _ hj, ve_upto _ _ _ _ hj]
  by_cases h1 : i = j
  · subst h1; simp
  · rw [if_neg h1]
    by_cases h2 : j < i
    · rw [if_pos h2, if_pos (by omega)]
    · rw [if_neg h2, if_neg (by omega)]
theorem upto_all (g : Nat → α) (b : Vector α n) : upto g b n = Vector.ofFn (n := n) fun i => g i.1 := ve_ext fun j hj => by rw [ve_upto _ _ _ _ hj, if_pos hj, ve_ofFn _ _ hj]
end ve

/-! ### Iterators over lists -/
section yf
variable {α β σ : Type}
/-- a yield is told all of a list -/
def yf (y : σ → α → Option (Lp σ)) : List α → σ → Option (Lp σ)
  | [], s => some (.go s)
  | x :: l, s => (y s x).bind fun r => match r with
    | .go s' => yf y l s'
    | .out c s' => some (.out c s')
/-- what is done behind what was told -/
def yb (r : Lp σ) (k : σ → Option (Lp σ)) : Option (Lp σ) := match r with
  | .go s => k s
  | .out c s => some (.out c s)
theorem yf_append (y : σ → α → Option (Lp σ)) : ∀ (l m : List α) (s : σ), yf y (l ++ m) s = (yf y l s).bind fun r => yb r (yf y m)
  | [], m, s => by simp [yf, yb]
  | x :: l, m, s => by
    rw [List.cons_append, yf, yf]
    cases h : y s x with
    | none => rfl
    | some r =>
      rw [Option.bind_some, Option.bind_some]
      cases r with
      | go s' => exact yf_append y l m s'
      | out c s' => rfl
theorem yf_collect : ∀ (l acc : List α), acc.length + l.length ≤ lim → yf collectF l acc = some (.go (acc ++ l))
  | [], acc, _ => by simp [yf]
  | x :: l, acc, h => by
    simp only [List.length_cons] at h
    rw [yf]
    show ((appd acc [x]).bind fun m => some (Lp.go m : Lp (List α))).bind _ = _
    rw [show appd acc [x] = some (acc ++ [x]) by unfold appd; rw [Nat.ble_eq_true_of_le (by simp; omega)]; rfl]
    rw [Option.bind_some, Option.bind_some]
    show yf collectF l (acc ++ [x]) = _
    rw [yf_collect l (acc ++ [x]) (by simp; omega)]
    simp
theorem collect_yf (l : List α) (q : Itr α) (hq : ∀ (y : List α → α → Option (Lp (List α))) (s : List α), q.run (List α) y (.go s) = yf y l s) (h : l.length ≤ lim) : collect q = some l := by
  unfold collect
  rw [hq, yf_collect l [] (by simpa using h)]
  rfl
/-- a body that either passes a thing on or lets it go -/
def passM (y : σ → β → Option (Lp σ)) (s : σ) : Option β → Option (Lp (Lp σ))
  | none => some (Lp.go (Lp.go s))
  | some z => (y s z).bind fun r => some (bif r.isGo then (Lp.go r : Lp (Lp σ)) else Lp.out .ret r)
theorem passM_go (y : σ → β → Option (Lp σ)) (s : σ) (o : Option β) (r : Lp σ) (h : passM y s o = some (.go r)) : ∃ s', r = .go s' := by
  cases o with
  | none => cases h; exact ⟨s, rfl⟩
  | some z =>
    obtain ⟨q, h1, h2⟩ := bsome (show ((y s z).bind fun r => some (bif r.isGo then (Lp.go r : Lp (Lp σ)) else Lp.out .ret r)) = some (.go r) from h)
    cases q with
    | go s' => cases h2; exact ⟨s', rfl⟩
    | out c s' => cases h2
theorem yf_congr {y z : σ → α → Option (Lp σ)} : ∀ (l : List α) (s : σ), (∀ s, ∀ x ∈ l, y s x = z s x) → yf y l s = yf z l s
  | [], s, _ => rfl
  | x :: l, s, h => by
    rw [yf, yf, h s x (by simp)]
    cases z s x with
    | none => rfl
    | some r =>
      cases r with
      | go s' => exact yf_congr l s' fun s y hy => h s y (by simp [hy])
      | out c s' => rfl
theorem yf_pass (y : σ → β → Option (Lp σ)) (g : α → Option β) (body : Lp σ → α → Option (Lp (Lp σ))) :
    ∀ (l : List α) (s : σ), (∀ s, ∀ x ∈ l, body (.go s) x = passM y s (g x)) → (yf body l (.go s)).bind (fun z => lpCase z (fun r => some r) (fun c r => bif cRet c then some r else none)) = yf y (l.filterMap g) s
  | [], s, _ => rfl
  | x :: l, s, hb => by
    rw [yf, hb s x (by simp), List.filterMap_cons]
    have ih := fun s => yf_pass y g body l s fun s y hy => hb s y (by simp [hy])
    cases hg : g x with
    | none => exact ih s
    | some z =>
      show ((((y s z).bind fun r => some (bif r.isGo then (Lp.go r : Lp (Lp σ)) else Lp.out .ret r)).bind _).bind _) = yf y (z :: l.filterMap g) s
      rw [yf]
      cases hy : y s z with
      | none => rfl
      | some r =>
        cases r with
        | go s' => exact ih s'
        | out c s' => rfl
end yf
end Go.Wb
