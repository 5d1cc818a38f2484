/- WbX: a part of the proof. -/
import Derived.Test.YtokmmcflinnfiabWbN
set_option linter.unusedVariables false
set_option linter.unusedSimpArgs false
namespace Go.Wb
open Go

/-! ### What loops of Go's library make of lists -/
theorem lget_nat {α : Type} (l : List α) (i : Nat) : lget l (i : Int) = l[i]? := by
  unfold lget; rw [decide_eq_true (by omega)]; rfl
theorem lget_lt {α : Type} {l : List α} {i : Nat} (h : i < l.length) : lget l (i : Int) = some l[i] := by
  rw [lget_nat]; exact List.getElem?_eq_getElem h
theorem opt_true {α : Type _} [Inhabited α] (x : Option α) : opt true x = x := rfl
theorem opt_false {α : Type _} [Inhabited α] (x : Option α) : opt false x = some default := rfl

/-- The index of the first that fits, or -1. -/
def fidx {α : Type} (p : α → Bool) : List α → Int
  | [] => -1
  | x :: l => bif p x then 0 else (bif decide (fidx p l < 0) then -1 else fidx p l + 1)
theorem fidx_ge {α : Type} (p : α → Bool) : ∀ l : List α, -1 ≤ fidx p l
  | [] => by simp [fidx]
  | x :: l => by
    have := fidx_ge p l
    unfold fidx
    cases p x
    · by_cases h : fidx p l < 0
      · simp [h]
      · simp [h]; omega
    · simp
theorem fidx_any {α : Type} (p : α → Bool) : ∀ l : List α, decide (fidx p l ≥ 0) = l.any p
  | [] => by simp [fidx]
  | x :: l => by
    have h1 := fidx_any p l
    unfold fidx
    cases hp : p x
    · by_cases h : fidx p l < 0
      · simp [h, hp, ← h1] <;> omega
      · have : fidx p l ≥ 0 := by omega
        simp [h, hp, ← h1, this]; omega
    · simp [hp]
theorem fidx_lt {α : Type} (p : α → Bool) : ∀ l : List α, fidx p l < l.length
  | [] => by simp [fidx]
  | x :: l => by
    have h1 := fidx_lt p l
    unfold fidx
    cases hp : p x
    · by_cases h : fidx p l < 0
      · simp [h]; omega
      · simp [h]; omega
    · simp <;> omega
theorem fidx_take {α : Type} (p : α → Bool) : ∀ l : List α, 0 ≤ fidx p l → ∀ x ∈ l.take (fidx p l).toNat, p x = false
  | [], h => by simp [fidx] at h
  | y :: l, h => by
    intro x hx
    unfold fidx at hx h
    cases hp : p y
    · rw [hp] at hx h
      by_cases h' : fidx p l < 0
      · simp [h'] at h
      · simp only [cond_false, decide_eq_false h'] at hx
        have e : (fidx p l + 1).toNat = (fidx p l).toNat + 1 := by omega
        rw [e, List.take_succ_cons] at hx
        rcases List.mem_cons.1 hx with rfl | hx
        · exact hp
        · exact fidx_take p l (by omega) x hx
    · rw [hp] at hx; simp at hx
theorem fidx_none {α : Type} (p : α → Bool) : ∀ l : List α, fidx p l < 0 → ∀ x ∈ l, p x = false
  | [], _, x, hx => by cases hx
  | y :: l, h, x, hx => by
    unfold fidx at h
    cases hp : p y
    · rw [hp] at h
      by_cases h' : fidx p l < 0
      · rcases List.mem_cons.1 hx with rfl | hx
        · exact hp
        · exact fidx_none p l h' x hx
      · simp [h'] at h; omega
    · rw [hp] at h; simp at h
/-- slices.IndexFunc -/
theorem idx_spec {α : Type} {G : Nat → Nat → Option Int} {s : List α} {f : α → Option Bool} (p : α → Bool) (h0 : ∀ i, G 0 i = some (-1))
    (h1 : ∀ m i, G (m + 1) i = (lget s (i : Int)).bind fun e => (f e).bind fun x => (bif x then some (i : Int) else (G m) (i + 1))) (hf : ∀ x ∈ s, f x = some (p x)) : G s.length 0 = some (fidx p s) := by
  have key : ∀ m i, i + m = s.length → G m i = some (bif decide (fidx p (s.drop i) < 0) then -1 else fidx p (s.drop i) + i) := by
    intro m
    induction m with
    | zero =>
      intro i hi
      rw [h0, List.drop_of_length_le (by omega)]
      simp [fidx]
    | succ m ih =>
      intro i hi
      have hlt : i < s.length := by omega
      rw [h1, lget_lt hlt, Option.bind_some, hf _ (List.getElem_mem hlt), Option.bind_some]
      have hd : s.drop i = s[i] :: s.drop (i + 1) := List.drop_eq_getElem_cons hlt
      rw [hd]
      unfold fidx
      cases hp : p s[i]
      · simp only [cond_false]
        rw [ih (i + 1) (by omega)]
        have := fidx_ge p (s.drop (i + 1))
        by_cases h' : fidx p (s.drop (i + 1)) < 0
        · simp [h']
        · have h2 : ¬ fidx p (s.drop (i + 1)) + 1 < 0 := by omega
          simp [h', h2]; omega
      · simp
  have := key s.length 0 (by omega)
  rw [this]
  have hge := fidx_ge p s
  by_cases h' : fidx p s < 0
  · simp [h']; omega
  · simp [h']

theorem wrap_i64 {n : Int} (h1 : -9223372036854775808 ≤ n) (h2 : n ≤ 9223372036854775807) : IntKind.i64.wrap n = n := wrap_has ⟨by simpa [IntKind.min, IntKind.signed, IntKind.bits] using h1, by simpa [IntKind.max, IntKind.signed, IntKind.bits] using h2⟩

/-- slices.DeleteFunc -/
theorem del_spec {α : Type} {z : α} {G : Nat → List α → Int → Int → Option (List α)} {s : List α} {f : α → Option Bool} (p : α → Bool)
    (h1 : ∀ m l i j, G (m + 1) l i j = (bif (decide (j < (l.length : Int))) then (lget l j).bind fun e => (f e).bind fun x => (bif (!x) then (lget l i).bind fun e' => (G m) (List.set l i.toNat e) (IntKind.i64.wrap (i + 1)) (IntKind.i64.wrap (j + 1)) else (G m) l i (IntKind.i64.wrap (j + 1)))
      else (odrop l i).bind fun s18 => (otake (List.take i.toNat l ++ List.replicate (l.length - i.toNat) z) i).bind fun s19 => some s19))
    (hf : ∀ x ∈ s, f x = some (p x)) (hl : s.length ≤ lim) :
    ∀ m (l : List α) (i j : Nat), i < j → j ≤ s.length → j + m = s.length + 1 → l.length = s.length → l.drop j = s.drop j → l.take i = (s.take j).filter (fun x => !p x) → G m l i j = some (s.filter (fun x => !p x)) := by
  intro m
  induction m with
  | zero => intro l i j _ h2 h3; omega
  | succ m ih =>
    intro l i j hij hj hm hll hd ht
    have hlim : lim = 4294967296 := rfl
    rw [h1]
    by_cases hc : j < s.length
    · have hcl : j < l.length := by omega
      rw [decide_eq_true (by omega : (j : Int) < (l.length : Int)), cond_true, lget_lt hcl, Option.bind_some]
      have hg : l[j] = s[j] := by
        have h2 : (l.drop j)[0]? = (s.drop j)[0]? := by rw [hd]
        simp only [List.getElem?_drop, Nat.add_zero] at h2
        rw [List.getElem?_eq_getElem hcl, List.getElem?_eq_getElem hc] at h2
        exact Option.some.inj h2
      rw [hg, hf _ (List.getElem_mem hc), Option.bind_some]
      have htk : s.take (j + 1) = s.take j ++ [s[j]] := by rw [List.take_add_one, List.getElem?_eq_getElem hc]; rfl
      have hdn : l.drop (j + 1) = s.drop (j + 1) := by
        have := congrArg (fun x : List α => x.drop 1) hd
        simpa [List.drop_drop, Nat.add_comm] using this
      have ej : IntKind.i64.wrap ((j : Int) + 1) = ((j + 1 : Nat) : Int) := by rw [wrap_i64 (by omega) (by omega)]; omega
      have ei : IntKind.i64.wrap ((i : Int) + 1) = ((i + 1 : Nat) : Int) := by rw [wrap_i64 (by omega) (by omega)]; omega
      rw [ej, ei]
      cases hp : p s[j]
      · simp only [Bool.not_false, cond_true]
        rw [lget_lt (by omega : i < l.length), Option.bind_some]
        have en : ((i : Int)).toNat = i := by omega
        rw [en]
        refine ih (l.set i s[j]) (i + 1) (j + 1) (by omega) (by omega) (by omega) (by simp; exact hll) ?_ ?_
        · rw [List.drop_set_of_lt (by omega)]; exact hdn
        · rw [htk, List.filter_append, ← ht, List.take_add_one, List.take_set_of_le (by omega), List.getElem?_set_self (by omega)]
          simp [hp]
      · simp only [Bool.not_true, cond_false]
        refine ih l i (j + 1) (by omega) (by omega) (by omega) hll hdn ?_
        rw [htk, List.filter_append, ← ht]
        simp [hp]
    · rw [decide_eq_false (by omega : ¬ (j : Int) < (l.length : Int)), cond_false]
      have hjs : j = s.length := by omega
      have en : ((i : Int)).toNat = i := by omega
      have h3 : odrop l (i : Int) = some (l.drop i) := by
        unfold odrop
        rw [decide_eq_true (by omega), en, Nat.ble_eq_true_of_le (by omega)]; rfl
      have h4 : otake (List.take i l ++ List.replicate (l.length - i) z) (i : Int) = some (l.take i) := by
        unfold otake
        rw [decide_eq_true (by omega), en, Nat.ble_eq_true_of_le (by simp; omega)]
        have : (List.take i l).length = i := by simp; omega
        rw [List.take_append_of_le_length (by omega), List.take_take, Nat.min_self]; rfl
      rw [en, h3, Option.bind_some, h4, Option.bind_some, ht, hjs, List.take_length]

theorem appd_ok {α : Type} {l m : List α} (h : l.length + m.length ≤ lim) : appd l m = some (l ++ m) := by
  unfold appd; rw [Nat.ble_eq_true_of_le h]; rfl
theorem ibits_one (x : Nat) (h : x < 9223372036854775808) : ibits .and .i64 (x : Int) 1 = ((x % 2 : Nat) : Int) := by
  have e : (BitVec.ofInt 64 (x : Int) &&& BitVec.ofInt 64 1).toNat = x % 2 := by
    rw [BitVec.toNat_and, BitVec.toNat_ofInt, BitVec.toNat_ofInt]
    have e1 : (((x : Int) % ((2 ^ 64 : Nat) : Int))).toNat = x := by omega
    have e2 : (((1 : Int) % ((2 ^ 64 : Nat) : Int))).toNat = 1 := by decide
    rw [e1, e2, Nat.and_one_is_mod]
  show IntKind.i64.wrap (((BitVec.ofInt 64 (x : Int) &&& BitVec.ofInt 64 1).toNat : Nat) : Int) = _
  rw [e, wrap_i64 (by omega) (by omega)]
theorem oshr_nat (n i : Nat) (h : i ≤ 64) : oshr .i64 (n : Int) (i : Int) = some ((n / 2 ^ i : Nat) : Int) := by
  unfold oshr
  rw [decide_eq_false (by omega)]
  have e : min ((i : Int)).toNat IntKind.i64.bits = i := by simp [IntKind.bits]; omega
  rw [e]
  show some _ = _
  congr 1
  have e2 : ((2 : Int) ^ i) = ((2 ^ i : Nat) : Int) := by rw [Int.natCast_pow]; rfl
  rw [e2, Int.fdiv_eq_ediv_of_nonneg _ (Int.natCast_nonneg _), ← Int.natCast_ediv]
theorem oshl_one (i : Nat) (h : i < 62) : oshl .i64 1 (i : Int) = some ((2 ^ i : Nat) : Int) := by
  unfold oshl
  rw [decide_eq_false (by omega)]
  have e : min ((i : Int)).toNat IntKind.i64.bits = i := by simp [IntKind.bits]; omega
  rw [e]
  show some _ = _
  congr 1
  have e2 : ((2 : Int) ^ i) = ((2 ^ i : Nat) : Int) := by rw [Int.natCast_pow]; rfl
  have h2 : 2 ^ i < 2 ^ 62 := Nat.pow_lt_pow_right (by decide) h
  rw [Int.one_mul, e2]
  generalize 2 ^ i = k at h2
  exact wrap_i64 (by omega) (by omega)
theorem omod_nat (m n : Nat) (h : 0 < n) : omod (m : Int) (n : Int) = some ((m % n : Nat) : Int) := by
  unfold omod
  rw [decide_eq_false (by omega)]
  show some _ = _
  congr 1
theorem chk_nat {n i : Nat} (h : i < n) : chk n (i : Int) = some ⟨i, h⟩ := by
  unfold chk
  rw [dif_pos ⟨by omega, by omega⟩]
  congr 1
end Go.Wb
